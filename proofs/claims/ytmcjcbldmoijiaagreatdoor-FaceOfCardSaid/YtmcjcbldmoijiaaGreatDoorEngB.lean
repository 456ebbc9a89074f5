/- Part of a proof of a law: rules of an evaluator, contracts, plain laws. No condition of its own. -/
import Derived.Test.YtmcjcbldmoijiaaGreatDoorEngA
import Derived.Laws.AppendOwn
import Derived.Laws.CopyRow
import Derived.Tactics
import Derived.LoopN
import Derived.Orders
import Derived.Scope
import Derived.Below
import Derived.Recover
import Derived.KernelRfl
import Derived.Lib.Bytealg
set_option linter.unusedVariables false
set_option linter.unusedSimpArgs false
namespace Go.Eng
noncomputable section
section
variable {P:Program} {ι:bb} {h:ag} {w:World} {bw:jU} {ev:dM} {bK:Operand→Value} {o:Oper} {aO:Obj} {v:V}
def KD:h7→Bool
 | .alloc .. | .box .. | .fA .. | .v8 .. | .xQ| .o1 .. =>true
 |_=>false
theorem eO {o:Obj} {v:V}:bM.new o v≠.bad:=by simp
theorem Yj {b o n:Nat} {c:Option Nat} (h:uV b o n c= .new aO v):False:=by simp [uV] at h
theorem Gv {b o i j m r:Nat} (h:ou b o i j m r= .new aO v):False:=by rw [Pk] at h;cases h
theorem Yk {r b o n:Nat} {cap:Option Nat} {i j:Nat} {mx:Option (Option Nat)} (he:ov r b o n cap i j mx h= .new aO v):False:=by
 unfold ov at he
 split at he
 · exact Gv (p9 eO he).2
 · exact Gv (p9 eO he).2
 · exact Gv (p9 eO he).2
 · split at he
   · exact Yj (p9 eO he).2
   · cases he
 · cases he
theorem Pz {e:h7} (he:light e ev h= .new aO v):KD e=true:=by
 cases e<;>first|rfl|exfalso
 case dm=>cases he
 case pick=>obtain ⟨t,_,he⟩:=Gf eO he;cases t<;>cases he
 case build=>obtain ⟨_,_,he⟩:=kN eO he;rw [nE] at he;cases he
 case load=>obtain ⟨_,_,_,he⟩:=wC eO he;obtain ⟨_,_,he⟩:=p7 eO he;cases he
 case dd=>obtain ⟨_,_,_,he⟩:=wC eO he;obtain ⟨_,_,he⟩:=kN eO he;rw [nE] at he;cases he
 case pY=>obtain ⟨_,_,he⟩:=p7 eO he;cases he
 case bin=>obtain ⟨_,_,_,he⟩:=rf eO he;obtain ⟨_,_,_,he⟩:=rf eO he;obtain ⟨_,he⟩:=p8 eO he;obtain ⟨_,_,he⟩:=p7 eO he;cases he
 case fu=>obtain ⟨_,_,_,he⟩:=tA eO he;obtain ⟨_,_,_,he⟩:=tA eO he;obtain ⟨_,_,he⟩:=p7 eO he;cases he
 case mb=>obtain ⟨_,_,_,he⟩:=rf eO he;obtain ⟨_,_,_,he⟩:=rf eO he;obtain ⟨_,_,he⟩:=p7 eO he;cases he
 case eq=>obtain ⟨_,_,he⟩:=kN eO he;cases he
 case neg=>obtain ⟨_,_,_,he⟩:=rf eO he;rw [tu] at he;cases he
 case not=>obtain ⟨_,_,he⟩:=Gf eO he;cases he
 case conv=>obtain ⟨_,_,_,he⟩:=rf eO he;cases he
 case sa a=>
  have he:(match ev a with
        | .U=> .val (.str 0 0)
        | .av b o n _=>Option.rec .bad (fun l=>Option.rec .bad (fun x=> .val (sc x.1 x.2)) (bytesOf l)) (h.load b o n)
        |_=> .bad)=bM.new aO v:=he
  split at he
  · cases he
  · obtain ⟨_,_,he⟩:=kN eO he;obtain ⟨_,_,he⟩:=kN eO he;cases he
  · cases he
 case e8=>cases he
 case fn=>cases he
 case o2=>obtain ⟨_,_,_,he⟩:=tA eO he;obtain ⟨_,_,he⟩:=kN eO he;obtain ⟨_,_,he⟩:=kN eO he;obtain ⟨_,he⟩:=p8 eO he;cases he
 case kF r a bH aq mx=>
  have he:(match ev a with
    | .U=>match ek aq ev 0,ek bH ev 0,ek mx ev 0 with
      |some 0,some 0,some 0=> .val .U
      |_,_,_=> .bad
    | .av b o n cap=>match ek aq ev n,ek bH ev 0 with
      |some j,some i=>ov r b o n cap i j (Option.rec none (fun x=>some (ev x).asNat) mx) h
      |_,_=> .bad
    |_=> .bad)=bM.new aO v:=he
  split at he
  · split at he<;>cases he
  · split at he
    · exact Yk he
    · cases he
  · cases he
 case wc n r a bH aq mx=>
  have he:(match (ev a).mM with
  |some (b,o)=>match ek aq ev n,ek bH ev 0,ek mx ev n with
   |some j,some i,some m=>bif i.ble j&&(j.ble m&&m.ble n) then ou b o i j m r else .bad
   |_,_,_=> .bad
  |none=> .bad)=bM.new aO v:=he
  split at he
  · split at he
    · exact Gv (p9 eO he).2
    · cases he
  · cases he
 case b3=>obtain ⟨_,_,_,he⟩:=wC eO he;rw [force_eq] at he;cases he
 case field off n tk a=>
  obtain ⟨_,_,he⟩:=WY eO he
  cases tk with
  |false=>obtain ⟨_,_,he⟩:=p7 eO he;cases he
  |true=>obtain ⟨_,he⟩:=p8 eO he;rw [nE] at he;cases he
 case bQ=>obtain ⟨_,_,_,_,_,he⟩:=OZ eO he;obtain ⟨_,_,_,he⟩:=Ao eO he;obtain ⟨_,he⟩:=p8 eO he;rw [force_eq] at he;cases he
 case tl=>obtain ⟨_,_,_,he⟩:=wC eO he;obtain ⟨_,_,_,he⟩:=Ao eO he;obtain ⟨_,he⟩:=p8 eO he;rw [force_eq] at he;cases he
 case lM=>obtain ⟨_,_,_,he⟩:=tA eO he;obtain ⟨_,_,_,he⟩:=Ao eO he;obtain ⟨_,he⟩:=p8 eO he;cases he
 case lookup q zero ok m k=>
  have he:(match ev m with
    | .k9=> .val (zZ ok zero false)
    | .map b=>Obj.map? .bad (fun es _=>Oz q zero ok (ev k) es) (h.obj b)
    |_=> .bad)=bM.new aO v:=he
  split at he
  · cases he
  · obtain ⟨_,_,_,he⟩:=Ph eO he
    obtain ⟨r,_,he⟩:=kN eO he
    cases r<;>cases he
  · cases he
 case Cm t zero ok a=>
  have he:(match ev a with
    | .e8 u v=>bif u.beq t then .val (zZ ok v true) else bif ok then .val (.dD [zero, .bool false]) else .bad
    | .kj=>bif ok then .val (.dD [zero, .bool false]) else .bad
    |_=> .bad)=bM.new aO v:=he
  split at he
  · rename_i u y _
    cases hb:Nat.beq u t<;>simp [hb] at he
    cases ok<;>simp at he
  · cases ok<;>simp at he
  · cases he
 case ext=>obtain ⟨_,_,he⟩:=O0 eO he;obtain ⟨_,_,he⟩:=p7 eO he;cases he
 case len str a=>
  cases str with
  |true=>obtain ⟨_,_,_,he⟩:=tA eO he;cases he
  |false=>rcases O1 eO he with ⟨_,he⟩|⟨_,_,_,_,_,he⟩<;>cases he
 case xR a=>
  have he:(match ev a with
        | .k9=> .val (.int .i64 (.ofNat 0))
        | .map b=>Obj.map? .bad (fun es _=> .val (iX .i64 es.length)) (h.obj b)
        |_=> .bad)=bM.new aO v:=he
  split at he
  · cases he
  · obtain ⟨_,_,_,he⟩:=Ph eO he;cases he
  · cases he
 case cap a=>
  have he:(match ev a with
   | .U=> .val (.int .i64 (.ofNat 0))
   | .av _ _ _ (some c)=> .val (iX .i64 c)
   |_=> .bad)=bM.new aO v:=he
  split at he<;>cases he
 case Cn mx a b=>
  have he:(match (ev a).asInt,(ev b).asInt with
   |some (kd,a),some (z1,b)=>bif ot kd z1 then .val (.int kd (bif mx then (bif mO a b then b else a) else (bif mO b a then b else a))) else .bad
   |_,_=> .bad)=bM.new aO v:=he
  split at he
  · have:=(p9 eO he).2;cases this
  · cases he
theorem PA (g:Good ι h w) (bA:∀x a,bw x a=true→bL ι (ev a) (bK x)) {e:h7} (hok:dI P bw o.op e=true) (he:light e ev h= .val v):hZ P ι w bK o v:=by
 cases e with
 |dm=>exact W7 bA hok he
 |pick=>exact W8 bA hok he
 |alloc cs=>exfalso;have he:force h.next (fun b=>bM.new (.box cs) (.ptr b 0))= .val v:=he;rw [force_eq] at he;cases he
 |box n a=>
  exfalso
  have he:force h.next (fun b=>(Option.rec .bad (fun l=>Bool.rec .bad (hU l fun l=> .new (.box l) (.ptr b 0)) ((cZ l).beq n)) (ev a).dY:bM))= .val v:=he
  rw [force_eq] at he
  obtain ⟨l,ax,he⟩:=kN (by simp) he
  obtain ⟨_,he⟩:=p8 (by simp) he
  rw [nE] at he
  cases he
 |build=>exact XY bA hok he
 |fA r n zero aQ=>
  exfalso
  have he:force h.next (fun b=>(Option.rec .bad (fun l=>gQ r n 0 l T.e fun t=> .new (.cells r b 0 (Nat.mul n r) t) (.av b 0 n (some n))) (fill aQ ev (rep n zero)):bM))= .val v:=he
  rw [force_eq] at he
  obtain ⟨l,rj,he⟩:=kN (by simp) he
  rw [iI] at he
  cases he
 |load=>exact W9 g bA hok he
 |dd=>exact Xa g bA hok he
 |pY=>exact Xb bA hok he
 |bin=>exact Xl bA hok he
 |fu=>exact Xw bA hok he
 |mb=>exact Xm bA hok he
 |eq=>exact XI bA hok he
 |neg=>exact Xg bA hok he
 |not=>exact Xf bA hok he
 |conv=>exact Xh bA hok he
 |v8 a=>
  exfalso
  have he:force h.next (fun b=>(Option.rec .bad (fun x=>gQ 1 x.1 0 (nD (gZ x.1 x.2)) T.e fun t=> .new (.cells 1 b 0 x.1 t) (.av b 0 x.1 none)) (ev a).r9:bM))= .val v:=he
  rw [force_eq] at he
  obtain ⟨p,hp,he⟩:=kN (by simp) he
  rw [iI] at he
  cases he
 |sa=>exact XT g bA hok he
 |e8=>exact Xd bA hok he
 |fn=>exact Xe bA hok he
 |xQ=>exfalso;have he:force h.next (fun b=>bM.new (.map [] 0) (.map b))= .val v:=he;rw [force_eq] at he;cases he
 |o1 r zero bytes l c=>
  exfalso
  have he:(match (ev l).asNat,(ev c).asNat with
  |some n,some m=>force h.next fun b=>bif n.ble m&&(Nat.mul m bytes).ble 1099511627776 then gQ r m 0 (rep m zero) T.e fun t=> .new (.cells r b 0 (Nat.mul m r) t) (.av b 0 n (some m)) else .bad
  |_,_=> .bad)=bM.val v:=he
  split at he
  · rw [force_eq] at he
    have:=(p9 (by simp) he).2
    rw [iI] at this
    cases this
  · cases he
 |o2=>exact XO bA hok he
 |kF=>exact XQ g bA hok he
 |wc=>exact XP bA hok he
 |b3=>exact Xn bA hok he
 |field=>exact Xq bA hok he
 |bQ=>exact Xo bA hok he
 |tl=>exact Xp bA hok he
 |lM=>exact Xr bA hok he
 |lookup=>exact XJ g bA hok he
 |Cm=>exact XK bA hok he
 |ext=>exact Xi bA hok he
 |len=>exact Xu bA hok he
 |xR=>exact XL g bA hok he
 |cap=>simp [dI] at hok
 |Cn=>exact XM bA hok he
theorem PB (bA:∀x a,bw x a=true→bL ι (ev a) (bK x)) {e:h7} (hok:dI P bw o.op e=true) (he:light e ev h= .new aO v) (ec:fv aO=true):x7 P ι h.next w bK o aO v:=by
 have hn:=Pz he
 cases e<;>first|(simp [KD] at hn;done)|skip
 · exact X3 hok he
 · exact X4 bA hok he
 · exact Yd bA hok he ec
 · exact Yf bA hok he ec
 · exact X5 hok he
 · exact X6 bA hok he ec
end
end
end Go.Eng
namespace Go.Eng
noncomputable section
def jV (ι:bb) (h aB:ag):Prop:=∀b,h.next≤b→b<aB.next→ι b=none
def Sep (ι:bb) (h:ag) (w:World) (bk:bb):Prop:=
 ∀b bc,ι b=none→bk b=some bc→w.heap.size≤bc.c∨∃qd u9,8≤qd∧qd<h.next∧ι qd=some u9∧u9.c=bc.c
structure dL (ι:bb) (h:ag) (w:World) (bk:bb) (aB:ag) (w':World):Prop where
 gm:Good bk aB w'
 frame:si ι h w w'
 ext:Ext h aB ι bk
 sep:Sep ι h w bk
theorem Sep.refl (ι:bb) (h:ag) (w:World):Sep ι h w ι:=fun b B a c=>by rw [a] at c;cases c
theorem dL.same {ι:bb} {h aB:ag} {w w':World} (g:Good ι aB w') (f:si ι h w w') (hn:aB.next=h.next):dL ι h w ι aB w':=
 ⟨g,f,⟨bb.le.refl _,by omega,fun _ a b=>absurd a b⟩,Sep.refl _ _ _⟩
theorem dL.refl {ι:bb} {h:ag} {w:World} (g:Good ι h w):dL ι h w ι h w:=dL.same g (si.refl _ _ _) rfl
theorem jV.left {ι:bb} {h h1 h2:ag} (f:jV ι h h2) (hn:h1.next≤h2.next):jV ι h h1:=fun b a c=>f b a (Nat.lt_of_lt_of_le c hn)
theorem jV.right {ι mS:bb} {h h1 h2:ag} (f:jV ι h h2) (e:Ext h h1 ι mS):jV mS h1 h2:=fun b a c=>by
 have h0:=f b (Nat.le_trans e.2.1 a) c
 cases Yl:mS b with
 |none=>rfl
 |some B=>have:=e.2.2 b h0 (by simp [Yl]);omega
theorem dL.trans {ι mS ox:bb} {h h1 h2:ag} {w w1 iq:World} (a:dL ι h w mS h1 w1) (b:dL mS h1 w1 ox h2 iq) (hf:jV ι h h1):dL ι h w ox h2 iq:=by
 refine ⟨b.gm,⟨fun c ax hn=> ?_,Nat.le_trans a.frame.size b.frame.size,b.frame.tape.trans a.frame.tape,b.frame.os.trans a.frame.os,b.frame.out.trans a.frame.out⟩,a.ext.trans b.ext,fun x bc hx lj=> ?_⟩
 · rw [b.frame.wq c (Nat.lt_of_lt_of_le ax a.frame.size) fun x B bW gw ya e=> ?_,a.frame.wq c ax hn]
   cases hx:ι x with
   |some u9=>
    have:=a.ext.1 x u9 hx
    rw [bW] at this;cases this
    by_cases hlt:x<h.next
    · exact hn x B hx gw hlt e
    · have:=hf x (by omega) ya;rw [hx] at this;cases this
   |none=>
    rcases a.sep x B hx bW with h1|⟨qd,u9,wK,cH,c6,gI⟩
    · omega
    · exact hn qd u9 c6 wK cH (gI.trans e)
 · cases nK:mS x with
   |some kM=>
    have:=b.ext.1 x kM nK
    rw [lj] at this;cases this
    exact a.sep x bc hx nK
   |none=>
    rcases b.sep x bc nK lj with h1|⟨qd,u9,wK,cH,c6,gI⟩
    · left;exact Nat.le_trans a.frame.size h1
    · cases j7:ι qd with
      |some Ym=>
       have:=a.ext.1 qd Ym j7
       rw [c6] at this;cases this
       right
       refine ⟨qd,u9,wK, ?_,j7,gI⟩
       by_cases hlt:qd<h.next
       · exact hlt
       · have:=hf qd (by omega) cH;rw [j7] at this;cases this
      |none=>
       rcases a.sep qd u9 j7 c6 with h1|⟨dj,Aw,m8,m1,m2,m3⟩
       · left;omega
       · right;exact ⟨dj,Aw,m8,m1,m2,m3.trans gI⟩
theorem su.mm {ι:bb} {h:ag} {w w':World} {B:fR} {aO:Obj} (n:su ι h.next w w' B aO) (g:Good ι h w) (hf:ι h.next=none) (au:0≤h.next):dL ι h w (ι.put h.next B) (h.add aO) w':=by
 refine ⟨n.gm g hf au,n.frame h,Ext.put hf rfl,fun b bc hb eH=> ?_⟩
 by_cases e:b=h.next
 · subst e;rw [bb.hh] at eH;cases eH;left;rw [n.c];exact Nat.le_refl _
 · rw [bb.re e,hb] at eH;cases eH
def rk (P:Program) (bw:jU) (o:Go.Op) (e:oo):Bool:=
 match e with
 | .store n a x=>(match o with| .store t bp gR=>mX P t n&&(bw bp a&&bw gR x)|_=>false)
 | .zW .. =>false
 | .call f as_=>(match o with
   | .call {callee:= .value (.func dG),args, ..}=>decide (dG=f)&&((match P.funcs[f]? with|some fn=>fn.name != "runtime.NumGoroutine" &&fn.body.isSome|none=>false)&&tz bw args.toList as_)
   |_=>false)
 | .sb x as_=>(match o with
   | .call {callee:= .value y,args, ..}=>bw y x&&tz bw args.toList as_
   |_=>false)
 | .append r bytes s x=>(match o with
   | .call {callee:= .builtin .append,args,argTypes, ..}=>(match args.toList,argTypes[0]?,argTypes[1]? with
     |[en,gR],some t,some u=>(match P.underlying t with
      |some (.slice el)=>(match P.underlying u with|some .string=>true|some (.slice _)=>true|_=>false)&&(mX P el r&&(Gb P el bytes&&(decide (0<r)&&(decide (0<bytes)&&((match P.info? el with|some i=>(match i.zero with|some z=>z.cells.size==r|none=>false)|none=>false)&&(bw en s&&bw gR x))))))
      |_=>false)
     |_,_,_=>false)
   |_=>false)
 | .copy .. =>false
 | .clear zero x=>(match o with
   | .call {callee:= .builtin .clear,args,argTypes, ..}=>(match args.toList,argTypes[0]? with
     |[gR],some t=>(match P.underlying t with|some (.slice el)=>x3 P el zero&&bw gR x|_=>false)
     |_,_=>false)
   |_=>false)
 | .recover=>false
 | .defer .. =>false
 | .panic x=>(match o with| .panic gR=>bw gR x|_=>false)
section
variable {P:Program} {ι:bb} {h aB:ag} {w:World} {bw:jU} {ev:dM} {bK:Operand→Value} {o:Oper} {v:V} {call:eU}
def yb (P:Program) (ι:bb) (h:ag) (w:World) (bK:Operand→Value) (o:Oper) (v:V) (aB:ag):Prop:=
 ∃n v' bk w',(execOp bK o).run P w= .ok n w'∧(n= .value v'∨(n= .skip∧v'=undef))∧dL ι h w bk aB w'∧bL bk v v'
theorem C0 {α:Type} {x:Option α} {f:α→bg} {r:bg} (hr:r≠.bad) (h:(Option.rec .bad f x:bg)=r):∃y,x=some y∧f y=r:=by
 cases x with
 |none=>exact absurd h.symm hr
 |some y=>exact ⟨y,rfl,h⟩
theorem PC {x:Bool} {y r:bg} (hr:r≠.bad) (h:(Bool.rec .bad y x:bg)=r):x=true∧y=r:=by
 cases x with
 |false=>exact absurd h.symm hr
 |true=>exact ⟨rfl,h⟩
theorem C1 {x:Bool} {y r:bg} (hr:r≠.bad) (h:(bif x then y else .bad)=r):x=true∧y=r:=by
 cases x with
 |false=>exact absurd h.symm hr
 |true=>exact ⟨rfl,h⟩
theorem qe {v:V} {h:ag}:bg.ok v h≠.bad:=by simp
theorem yc:bL ι un undef:=⟨#[],rfl,rfl⟩
theorem Good.oD {ι:bb} {h:ag} {w:World} (g:Good ι h w) {b:Nat} {B:fR} (bW:ι b=some B):0≤b:=g.small b (by simp [bW])
theorem Yn (g:Good ι h w) (bA:∀x a,bw x a=true→bL ι (ev a) (bK x)) {n:Nat} {a x:A} (hok:rk P bw o.op (.store n a x)=true) (he:hK (.store n a x) call ev h= .ok v aB):yb P ι h w bK o v aB:=by
 have he:(Option.rec .bad (fun p=>Option.rec .bad (fun l=>Bool.rec .bad (h.ef p.1 p.2 n l .bad fun h=> .ok un h) ((cZ l).beq n)) (ev x).dY) (ev a).mM:bg)= .ok v aB:=he
 obtain ⟨⟨b,q⟩,hp,he⟩:=C0 qe he
 obtain ⟨l,au,he⟩:=C0 qe he
 obtain ⟨hlen,he⟩:=PC qe he
 rw [jr,decide_eq_true_eq,me] at hlen
 have ax:ev a= .ptr b q:=by
  generalize ev a=cO at hp
  cases cO<;>first|(cases hp;done)|skip
  cases hp;rfl
 simp only [rk] at hok
 split at hok
 · rename_i t bp gR hx
   simp only [Bool.and_eq_true] at hok
   obtain ⟨aC,h1,h2⟩:=hok
   obtain ⟨B,bW,h1⟩:=Gi bA h1 ax
   obtain ⟨hr,wD⟩:=Kh au (bA _ _ h2)
   have he:h.ef b q n l .bad (fun h=> .ok un h)=bg.ok v aB:=he
   rw [Aj _ _ _ _ _ _ _ g.sm (g.oD bW)] at he
   cases e5:oz h b q n l with
   |none=>rw [e5] at he;cases he
   |some jR=>
    rw [e5] at he
    cases he
    obtain ⟨w',cH,c6,gI,nc,_⟩:=CI (P:=P) g bW e5 hlen hr wD
    have ec:(bK gR).cells.size=n:=by have:=hr.length;simp at this;omega
    refine ⟨.skip,undef,ι,w', ?_, .inr ⟨rfl,rfl⟩,dL.same c6 gI nc,yc⟩
    have e5:(storeVar t ⟨B.c,B.off+q,none⟩ (bK gR)).run P w= .ok () w':=by
     simp only [storeVar,Sem.run_bind,Aq w aC,Result.andThen,ec,ne_eq,not_true,if_false,Sem.run_pure]
     simpa using cH
    simp [execOp,hx,Instr.storeAt,Instr.sureAddr,h1,e5,Result.andThen]
 · cases hok
end
end
end Go.Eng
namespace Go.Eng
noncomputable section
section
variable {P:Program} {ι:bb} {h aB:ag} {w:World} {bw:jU} {ev:dM} {bK:Operand→Value} {o:Oper} {v:V} {call:eU}
theorem Yo (g:Good ι h w) (bA:∀x a,bw x a=true→bL ι (ev a) (bK x)) {q:c4} {m k u:A} (hok:rk P bw o.op (.zW q m k u)=true) (he:hK (.zW q m k u) call ev h= .ok v aB):yb P ι h w bK o v aB:=(Bool.false_ne_true hok).elim
end
end
end Go.Eng
namespace Go.Eng
noncomputable section
section
variable {P:Program} {ι:bb} {h aB:ag} {w:World} {bw:jU} {ev:dM} {bK:Operand→Value} {o:Oper} {v:V} {call:eU}
structure wL (P:Program) (w:World) (r m:Nat) (x:Value) (news:List Value):Prop where
 len:∀w1,(Builtin.lenOf x).run P w1= .ok m w1
 cells:∀w1,w1.heap=w.heap→(Builtin.firstCells r m x).run P w1= .ok news.toArray w1
theorem PD {w w1:World} (h:w1.heap=w.heap) (a:Addr):w1.cell? a=w.cell? a:=by simp [World.cell?,h]
section
variable {t u ty el:TypeId} {i:TypeInfo} {z:Value} {kl:TypeDesc} {args argTypes:Array TypeId}
theorem KE {argTypes:Array TypeId} (ht:P.underlying t=some (.slice el)) (hu:P.underlying u=some kl) (ll:kl= .string∨∃e,kl= .slice e) (aq:P.info? el=some i) (h0:argTypes[0]? =some t) (h1:argTypes[1]? =some u)
  {y:Addr} {n c m:Nat} {x:Value} {news:List Value} (hx:wL P w i.size m x news) (ax:n+m≤c) {w':World} (e5:(storeCells (y.add (n * i.size)) news).run P w= .ok () w'):
  (Builtin.append_ argTypes ty #[.slice (some y) n c,x]).run P w= .ok (.slice (some y) (n+m) c) w':=by
 have hf:=hx.cells w rfl
 have au:=hx.len w
 rcases ll with rfl|⟨e,rfl⟩<;>simp [Builtin.append_,h0,h1,run_underlying ht,run_underlying hu,sizeOf,typeInfo,aq,au,ax,hf,e5,Result.andThen]
theorem Yp {argTypes:Array TypeId} (ht:P.underlying t=some (.slice el)) (hu:P.underlying u=some kl) (ll:kl= .string∨∃e,kl= .slice e) (aq:P.info? el=some i) (h0:argTypes[0]? =some t) (h1:argTypes[1]? =some u)
  {x:Value} (hx:wL P w i.size 0 x []):
  (Builtin.append_ argTypes ty #[.slice none 0 0,x]).run P w= .ok (.slice none 0 0) w:=by
 have hf:=hx.cells w rfl
 have au:=hx.len w
 rcases ll with rfl|⟨e,rfl⟩<;>simp [Builtin.append_,h0,h1,run_underlying ht,run_underlying hu,sizeOf,typeInfo,aq,au,hf,Result.andThen]
theorem PE {argTypes:Array TypeId} (ht:P.underlying t=some (.slice el)) (hu:P.underlying u=some kl) (ll:kl= .string∨∃e,kl= .slice e) (aq:P.info? el=some i) (hz:i.zero=some z) (h0:argTypes[0]? =some t) (h1:argTypes[1]? =some u)
  {base:Option Addr} {n c m:Nat} {x:Value} {olds news:List Value} (bq:∀w1,w1.heap=w.heap→(Builtin.firstCells i.size n (.slice base n c)).run P w1= .ok olds.toArray w1) (hx:wL P w i.size m x news)
  (ax:c<n+m) (hb:0<i.bytes) (fx:(n+m) * i.bytes≤1099511627776):
  (Builtin.append_ argTypes ty #[.slice base n c,x]).run P w=
    .ok (.slice (some ⟨w.heap.size,0,none⟩) (n+m) (grownCap w (n+m) c el)) (w.drew.alloc (.cells (olds++(news++(Builtin.zeroCells z.cells (grownCap w (n+m) c el - (n+m))).toList)).toArray el)):=by
 have hn:¬(n+m≤c):=by omega
 have aiy:=growslice_fits (need:=n+m) (old:=c) (bytes:=i.bytes) ax (by omega)
 have Yq:¬(281474976710656<Builtin.nextslicecap (n+m) c * i.bytes):=by omega
 have hle:n+m≤1099511627776:=Nat.le_trans (Nat.le_mul_of_pos_right _ hb) fx
 have Yr:¬(9223372036854775807<((n:Int)+(m:Int))):=by omega
 have hf:=hx.cells w.drew rfl
 have pd:=bq w.drew rfl
 have au:=hx.len w
 rcases ll with rfl|⟨e,rfl⟩
 all_goals
   (simp [Builtin.append_,h0,h1,run_underlying ht,run_underlying hu,sizeOf,typeInfo,zeroValue,aq,hz,au,hn,Yr,Yq,Question.forced,hf,pd,newRow,grownCap,Result.andThen]
    try (congr 2;apply Array.ext';simp))
end
theorem PF (g:Good ι h w) {b q n r:Nat} {B:fR} {cap:Option Nat} {y:Addr} {c:Nat} (bW:ι b=some B) (hj:Ae B q n cap y c) {l:List V} (au:h.load b q (n * r)=some l) {m:Nat} (hm:m=n):
  ∃xs:List Value,cE ι l xs∧(∀x∈xs,x.oneCell'=true)∧xs.length=n * r∧∀w1:World,w1.heap=w.heap→(Builtin.firstCells r m (.slice (some y) n c)).run P w1= .ok xs.toArray w1:=by
 subst hm
 obtain ⟨xs,hlen,CW,wD,hcell⟩:=Ag g bW au
 refine ⟨xs,CW,wD,hlen,fun w1 nd=> ?_⟩
 refine run_firstCells_some w1 r m y m c xs hlen fun j v aE=> ?_
 rw [PD nd]
 have CL:0<m:=by
  rcases Nat.eq_zero_or_pos m with h0|h0
  · subst h0
    rw [Nat.zero_mul] at hlen
    have:xs=[]:=List.eq_nil_of_length_eq_zero hlen
    rw [this] at aE;simp at aE
  · exact h0
 rw [wE hj CL,tD]
 exact hcell j v aE
theorem Ys (s:ByteArray) (m r:Nat) (hm:m=s.size):wL P w r m (.string s) (s.data.toList.map fun b=>Value.int .u8 b.toNat):=by
 subst hm
 refine ⟨fun w1=>rfl,fun w1 _=> ?_⟩
 have hx:(s.extract 0 s.size).data=s.data:=by
  apply Array.ext'
  rw [Go.Lib.extract_data,Go.Lib.size_eq,List.drop_zero,Nat.sub_zero,List.take_length]
 simp only [Builtin.firstCells,Sem.run_pure,hx]
 congr 1
 apply Array.ext';simp
end
end
end Go.Eng
namespace Go.Eng
noncomputable section
section
variable {P:Program} {ι:bb} {h aB:ag} {w:World} {bw:jU} {ev:dM} {bK:Operand→Value} {o:Oper} {v:V} {call:eU}
theorem Gw {o:Obj} {x v:V} (he:mk h o x= .ok v aB):0≤h.next∧fv o=true∧v=x∧aB=h.add o:=by
 have he:(Bool.rec .bad (h.la o fun h=> .ok x h) (fv o):bg)= .ok v aB:=he
 obtain ⟨h1,h2⟩:=PC qe he
 rw [oA] at h2
 cases h2
 exact ⟨Nat.zero_le _,h1,rfl,rfl⟩
theorem PG (w:World) (o:Go.Obj):∀c,c<w.heap.size→(w.drew.alloc o).heap[c]? =w.heap[c]? :=Gn w.drew o
theorem PH (g:Good ι h w) (hf:ι h.next=none) (au:0≤h.next) {r k cap:Nat} {vs:List V} {cs more:List Value} {el:TypeId} (ec:fv (.cells r h.next 0 (k * r) (e4 r k 0 vs T.e))=true)
  (aE:vs.length=k * r) (hr:cE ι vs cs) (h1:∀x∈cs,x.oneCell'=true) (oC:k≤cap) (yd:cs.length+more.length=cap * r):
  ∃bk,dL ι h w bk (h.add (.cells r h.next 0 (k * r) (e4 r k 0 vs T.e))) (w.drew.alloc (.cells (cs++more).toArray el))∧
   bL bk (.av h.next 0 k none) (.slice (some ⟨w.heap.size,0,none⟩) k cap):=by
 obtain ⟨gn,hk⟩:=Au ec
 have dh:=Gp h.next (w:=w) (w':=w.drew.alloc (.cells (cs++more).toArray el)) gn hk oC (el:=el) (fr:=(0,0)) aE hr h1 yd (Av w.drew _) (.inl (Nat.le_refl _))
 have F4:su ι h.next w (w.drew.alloc (.cells (cs++more).toArray el)) ⟨w.heap.size,0,k * r,r,cap,h.next,0⟩ (.cells r h.next 0 (k * r) (e4 r k 0 vs T.e)):=
  ⟨rfl,rfl,PG w _,by show (w.heap.push _).size=_;simp,rfl,rfl,rfl,dh⟩
 exact ⟨_,F4.mm g hf au,⟨_,_,_,bb.hh ..,rfl,by simp,by simp,gn,oC, .inl rfl⟩⟩
structure Child (r f ap q n m bo:Nat) (rows t:T (List V)) (new:List V):Prop where
 wf:q7 r ((n+m) * r) t
 at_:∀j v,cellOf (.cells r f (ap+q) ((n+m) * r) t) j=some v→(j<n * r∧cellOf (.cells r f ap bo rows) (q+j)=some v)∨(n * r≤j∧new[j - n * r]? =some v)
theorem Yt (g:Good ι h w) (hf:ι h.next=none) (au:0≤h.next) {b:Nat} (gw:8≤b) {B:fR} (bW:ι b=some B) {r f ap bo:Nat} {rows t:T (List V)} (dP:T.get b h.t=some (.cells r f ap bo rows))
  {q n m:Nat} {new:List V} {xs:List Value} (hm:0<m) (bC:q % r=0) (hn:q+n * r≤bo) (rl:Child r f ap q n m bo rows t new) (hr:cE ι new xs) (h1:∀x∈xs,x.oneCell'=true) (hlen:xs.length=m * r)
  (ye:n+m≤B.cap - q / r):
  ∃w',(storeCells ⟨B.c,B.off+q+n * r,none⟩ xs).run P w= .ok () w'∧
   dL ι h w (ι.put h.next ⟨B.c,B.off+q,(n+m) * r,r,B.cap - q / r,f,ap+q⟩) ((js h b f ap bo (ap+q+n * r) (ap+q+(n+m) * r)).add (.cells r f (ap+q) ((n+m) * r) t)) w':=by
 have hb:=g.oD bW
 have dA:=g.lQ b hb (by simp [dP])
 have KF:=(g.obj b B _ bW dP dA).cells rfl
 obtain ⟨cs,el,fr,aT,bu,dH,gC,gY,kL⟩:=KF
 replace bu:q8 cs.size fr:=bu.ok rfl
 obtain ⟨s1,s2,gb,jo,kD⟩:=gY
 have dH:B.n=bo:=dH
 have gC:B.off+bo≤cs.size:=gC
 have gn:0<r:=kD.1
 obtain ⟨d,aX⟩:∃d,q=d * r:=⟨q / r,by have:=Nat.div_add_mod q r;rw [bC,Nat.mul_comm] at this;omega⟩
 have va:q / r=d:=by rw [aX,Nat.mul_div_cancel _ gn]
 rw [va] at ye ⊢
 have J4:B.off+q+(n+m) * r≤cs.size:=by
  rw [jo]
  have:(d+(n+m)) * r≤B.cap * r:=Nat.mul_le_mul_right r (by omega)
  rw [Nat.add_mul] at this;omega
 have C2:(n+m) * r=n * r+m * r:=Nat.add_mul ..
 have KG:0<m * r:=Nat.mul_pos hm gn
 have hk:=J9 g bW dA dP au (e:=ap+q+n * r) (top:=ap+q+(n+m) * r) (by omega)
 obtain ⟨mU,c1,c2,cI⟩:=CH xs (B.off+q+n * r) w cs aT (by omega)
 have CJ:=CF (g:=B.c) xs (B.off+q+n * r) w
 have lS:=CG B.c xs (B.off+q+n * r) w
 have PI:∀bT bc,ι bT=some bc→bT<h.next→bc.c=B.c→bc.c7=f∧bc.off+B.kE=B.off+bc.kE:=by
  intro bT bc ei fO ax
  by_cases e:bT=b
  · subst e;rw [bW] at ei;cases ei;exact ⟨s2,rfl⟩
  · have:=g.same bT bc b B ei bW fO dA gw ax e
    exact ⟨this.1.trans s2,by have:=this.2;omega⟩
 refine ⟨w.setCells B.c (B.off+q+n * r) xs, ?_,⟨?_,⟨fun c ax tC=>CJ c fun e=>tC b B bW gw dA e.symm,by rw [lS.2.2.2];exact Nat.le_refl _,lS.2.1,lS.1,lS.2.2.1⟩, ?_, ?_⟩⟩
 · have:=run_storeCells_cells (P:=P) B.c (B.off+q+n * r) xs 0 w (fun j aV=> ?_) (fun j aV=> ?_) h1
   · simpa using this
   · simp only [World.cell?,aT,Option.isSome_none,Bool.false_eq_true,if_false]
     rw [Array.getElem?_eq_getElem (by omega)];rfl
   · simp only [World.frozen?,aT]
     rcases bu with bu|bu
     · simp;omega
     · simp;omega
 · refine OX g hk hf au (by have:=g.o9 b B bW dA;omega) rfl rfl rfl (by omega) ?_ ?_ ?_ (by rw [lS.2.2.2];exact g.lb b B bW) (by rw [lS.2.2.2];exact Nat.le_refl _)
   · intro bT bc fk ei c0 fO
     have eH:=g.oD ei
     rcases hk.at_ bT eH with ff|⟨ff,_⟩
     · have u6:T.get bT h.t=some fk:=by rw [←ff];exact c0
       have p4:=g.obj bT bc fk ei u6 fO
       by_cases ax:bc.c=B.c
       · obtain ⟨x1,b2⟩:=PI bT bc ei fO ax
         have gH:=hk.OW bT bc fk ei fO x1 u6
         cases fk with
         |box row=>simp [Obj.iz] at gH
         |map es cl=>simp [Obj.iz] at gH
         |dead=>trivial
         |cells eT dG bp gf hY=>
          have aiz:=hk.upto bT bc _ ei fO x1 c0 rfl
          obtain ⟨WR,WS,WT,d1,d2,d3,d4,d5,d6⟩:=p4.cells rfl
          rw [ax,aT] at d1
          cases d1
          have d3:bc.n=gf:=d3
          refine ⟨mU,el,fr,by rw [ax];exact c1,by rw [c2];exact d2,d3,by rw [c2];exact d4,by rw [c2];exact d5,fun j v aV=> ?_⟩
          obtain ⟨x,cH,c6,gI⟩:=d6 j v aV
          have mT:j<gf:=by
           rw [wy] at aV
           by_cases mT:j<gf
           · exact mT
           · rw [if_neg mT] at aV;cases aV
          refine ⟨x, ?_,c6,gI⟩
          rw [cI,if_neg (by omega)];exact cH
       · exact p4.world (CJ bc.c ax)
     · rw [ff] at c0;cases c0;trivial
   · refine ⟨mU,el,fr,c1,q8.cells (by rw [c2];exact bu),rfl, ?_,⟨rfl,rfl,rfl, ?_,rl.wf⟩,fun j v aV=> ?_⟩
     · show B.off+q+(n+m) * r≤mU.size;rw [c2];exact J4
     · show mU.size=B.off+q+(B.cap - d) * r
       rw [c2,jo,Nat.sub_mul,←aX]
       have:d * r≤B.cap * r:=Nat.mul_le_mul_right r (by omega)
       omega
     · show ∃x,mU[B.off+q+j]? =some x∧_
       rcases rl.at_ j v aV with ⟨a1,a2⟩|⟨a1,a2⟩
       · obtain ⟨x,cH,c6,gI⟩:=kL (q+j) v a2
         refine ⟨x, ?_,c6,gI⟩
         rw [cI,if_neg (by omega),Nat.add_assoc];exact cH
       · obtain ⟨x,cH,c6⟩:=hr.get a2
         have nH:j - n * r<xs.length:=(List.getElem?_eq_some_iff.1 cH).1
         refine ⟨x, ?_,h1 x (List.mem_of_getElem? cH),c6⟩
         rw [cI,if_pos (by omega),show B.off+q+j - (B.off+q+n * r)=j - n * r by omega];exact cH
   · intro bT bc ei fO ax
     obtain ⟨x1,b2⟩:=PI bT bc ei fO ax
     refine ⟨x1, ?_⟩
     show bc.off+(ap+q)=B.off+q+bc.kE
     omega
 · refine Ext.put hf ?_
   show (js h b f ap bo (ap+q+n * r) (ap+q+(n+m) * r)).next+1=_
   rw [hk.next]
 · intro x bc hx iJ
   by_cases e:x=h.next
   · subst e;rw [bb.hh] at iJ;cases iJ;right;exact ⟨b,B,gw,dA,bW,rfl⟩
   · rw [bb.re e,hx] at iJ;cases iJ
theorem Yu (g:Good ι h w) (hf:ι h.next=none) (au:0≤h.next) {b:Nat} {B:fR} (bW:ι b=some B) {r f ap bo:Nat} {rows t:T (List V)} (dP:T.get b h.t=some (.cells r f ap bo rows))
  {q n m cap:Nat} {new:List V} {olds xs more:List Value} {el:TypeId} (hm:0<m) (hn:q+n * r≤bo) (rl:Child r f ap q n m bo rows t new) (hr:cE ι new xs) (h1:∀x∈xs,x.oneCell'=true) (hlen:xs.length=m * r)
  (bq:∀j,j<n * r→olds[j]? =w.cell? ⟨B.c,B.off+q+j,none⟩) (vb:olds.length=n * r) (oC:n+m≤cap) (yd:(olds++(xs++more)).length=cap * r):
  dL ι h w (ι.put h.next ⟨w.heap.size,0,(n+m) * r,r,cap,f,ap+q⟩) ((js h b f ap bo (ap+q+n * r) (ap+q+(n+m) * r)).add (.cells r f (ap+q) ((n+m) * r) t)) (w.drew.alloc (.cells (olds++(xs++more)).toArray el)):=by
 have hb:=g.oD bW
 have dA:=g.lQ b hb (by simp [dP])
 have KF:=(g.obj b B _ bW dP dA).cells rfl
 obtain ⟨cs,CN,fr,aT,bu,dH,gC,gY,kL⟩:=KF
 obtain ⟨s1,s2,gb,jo,kD⟩:=gY
 have gn:0<r:=kD.1
 have C2:(n+m) * r=n * r+m * r:=Nat.add_mul ..
 have KG:0<m * r:=Nat.mul_pos hm gn
 have hk:=J9 g bW dA dP au (e:=ap+q+n * r) (top:=ap+q+(n+m) * r) (by omega)
 have hold:=PG w (.cells (olds++(xs++more)).toArray el)
 have KC:(w.drew.alloc (.cells (olds++(xs++more)).toArray el)).heap.size=w.heap.size+1:=by show (w.heap.push _).size=_;simp
 refine ⟨?_,⟨fun c ax _=>hold c ax,by omega,rfl,rfl,rfl⟩, ?_, ?_⟩
 · refine OX g hk hf au (by have:=g.o9 b B bW dA;omega) rfl rfl rfl (by omega) ?_ ?_ ?_ (by rw [KC];show w.heap.size<_;omega) (by omega)
   · intro bT bc fk ei c0 fO
     have eH:=g.oD ei
     rcases hk.at_ bT eH with ff|⟨ff,_⟩
     · have u6:T.get bT h.t=some fk:=by rw [←ff];exact c0
       exact (g.obj bT bc fk ei u6 fO).world (hold _ (g.lb bT bc ei))
     · rw [ff] at c0;cases c0;trivial
   · have aiA:(n+m) * r≤cap * r:=Nat.mul_le_mul_right r oC
     refine ⟨(olds++(xs++more)).toArray,el,(0,0),Av w.drew _,q8.cells (.inl (Nat.le_refl _)),rfl, ?_,⟨rfl,rfl,rfl, ?_,rl.wf⟩,fun j v aV=> ?_⟩
     · show 0+(n+m) * r≤(olds++(xs++more)).toArray.size
       rw [List.size_toArray,yd];omega
     · show (olds++(xs++more)).toArray.size=0+cap * r
       rw [List.size_toArray,yd];omega
     · show ∃x,(olds++(xs++more)).toArray[0+j]? =some x∧_
       rw [Nat.zero_add,List.getElem?_toArray]
       rcases rl.at_ j v aV with ⟨a1,a2⟩|⟨a1,a2⟩
       · obtain ⟨x,cH,c6,gI⟩:=kL (q+j) v a2
         refine ⟨x, ?_,c6,gI⟩
         rw [List.getElem?_append_left (by omega),bq j a1]
         simp only [World.cell?,aT,Option.isSome_none,Bool.false_eq_true,if_false]
         rw [Nat.add_assoc];exact cH
       · obtain ⟨x,cH,c6⟩:=hr.get a2
         have nH:j - n * r<xs.length:=(List.getElem?_eq_some_iff.1 cH).1
         refine ⟨x, ?_,h1 x (List.mem_of_getElem? cH),c6⟩
         rw [List.getElem?_append_right (by omega),vb,List.getElem?_append_left nH];exact cH
   · intro bT bc ei fO ax
     have:=g.lb bT bc ei
     have ax:bc.c=w.heap.size:=ax
     omega
 · refine Ext.put hf ?_
   show (js h b f ap bo (ap+q+n * r) (ap+q+(n+m) * r)).next+1=_
   rw [hk.next]
 · intro x bc hx iJ
   by_cases e:x=h.next
   · subst e;rw [bb.hh] at iJ;cases iJ;left;exact Nat.le_refl _
   · rw [bb.re e,hx] at iJ;cases iJ
end
end
end Go.Eng
namespace Go.Eng
noncomputable section
section
variable {P:Program} {ι:bb} {h aB:ag} {w:World} {bw:jU} {ev:dM} {bK:Operand→Value} {o:Oper} {v:V} {call:eU}
structure C3 (P:Program) (argTypes:Array TypeId) (r bytes:Nat):Prop where
 ex:∃t u el kl i z,argTypes[0]? =some t∧argTypes[1]? =some u∧P.underlying t=some (.slice el)∧P.underlying u=some kl∧(kl= .string∨∃e,kl= .slice e)∧
  P.info? el=some i∧i.zero=some z∧i.size=r∧i.bytes=bytes∧z.cells.size=r
 r0:0<r
 qd:0<bytes
def Gx (P:Program) (ι:bb) (h:ag) (w:World) (argTypes:Array TypeId) (ty:TypeId) (s x:Value) (v:V) (aB:ag):Prop:=
 ∃v' bk w',(Builtin.append_ argTypes ty #[s,x]).run P w= .ok v' w'∧dL ι h w bk aB w'∧bL bk v v'
theorem PJ (z:Array Value) (n r:Nat) (hz:z.size=r):(Builtin.zeroCells z n).toList.length=n * r:=by
 rw [Array.length_toList,size_zeroCells,hz]
theorem PK {argTypes:Array TypeId} {ty:TypeId} {r bytes:Nat} (ht:C3 P argTypes r bytes) (g:Good ι h w) (hf:ι h.next=none) (au:0≤h.next) {base:Option Addr} {n c m:Nat} {x:Value} {old new:List V} {olds xs:List Value}
  (hx:wL P w r m x xs) (bq:∀w1:World,w1.heap=w.heap→(Builtin.firstCells r n (.slice base n c)).run P w1= .ok olds.toArray w1) (CK:cE ι old olds) (Yv:∀x∈olds,x.oneCell'=true) (vb:olds.length=n * r)
  (hr:cE ι new xs) (h1:∀x∈xs,x.oneCell'=true) (hlen:xs.length=m * r) (ax:c<n+m) (fx:(n+m) * bytes≤1099511627776)
  (ec:fv (.cells r h.next 0 ((n+m) * r) (e4 r (n+m) 0 (old++new) T.e))=true):
  Gx P ι h w argTypes ty (.slice base n c) x (.av h.next 0 (n+m) none) (h.add (.cells r h.next 0 ((n+m) * r) (e4 r (n+m) 0 (old++new) T.e))):=by
 obtain ⟨⟨t,u,el,kl,i,z,a0,a1,jb,gS,ll,aq,hz,rfl,rfl,yf⟩,gn,j7⟩:=ht
 have jt:=PE (ty:=ty) jb gS ll aq hz a0 a1 bq hx ax j7 fx
 have oE:=grownCap_ge w (n+m) c el
 obtain ⟨bk,cH,c6⟩:=PH g hf au (vs:=old++new) (cs:=olds++xs) (more:=(Builtin.zeroCells z.cells (grownCap w (n+m) c el - (n+m))).toList) (el:=el) ec
  (by rw [List.length_append,←CK.length,←hr.length,vb,hlen,Nat.add_mul]) (CK.append hr) (fun y hy=>by
    rcases List.mem_append.1 hy with h|h
    · exact Yv y h
    · exact h1 y h) oE
  (by rw [PJ _ _ _ yf,List.length_append,vb,hlen,←Nat.add_mul,←Nat.add_mul];congr 1;omega)
 rw [List.append_assoc] at cH
 exact ⟨_,bk,_,jt,cH,c6⟩
theorem PL {argTypes:Array TypeId} {ty:TypeId} {r bytes:Nat} (ht:C3 P argTypes r bytes) (g:Good ι h w) {b:Nat} {B:fR} (bW:ι b=some B) {q n c m:Nat} {x:Value} {new:List V} {xs:List Value}
  (hx:wL P w r m x xs) (hr:cE ι new xs) (h1:∀x∈xs,x.oneCell'=true) (hlen:xs.length=m * r) (ax:n+m≤c)
  (aC:h.ef b (q+n * r) (m * r) new .bad (fun h=>bg.ok v h)= .ok v aB):
  ∃w',(Builtin.append_ argTypes ty #[.slice (some ⟨B.c,B.off+q,none⟩) n c,x]).run P w= .ok (.slice (some ⟨B.c,B.off+q,none⟩) (n+m) c) w'∧dL ι h w ι aB w':=by
 obtain ⟨⟨t,u,el,kl,i,z,a0,a1,jb,gS,ll,aq,hz,rfl,rfl,yf⟩,gn,j7⟩:=ht
 rw [Aj _ _ _ _ _ _ _ g.sm (g.oD bW)] at aC
 cases e5:oz h b (q+n * i.size) (m * i.size) new with
 |none=>rw [e5] at aC;cases aC
 |some jR=>
  rw [e5] at aC
  cases aC
  obtain ⟨w',cH,c6,gI,nc,_⟩:=CI (P:=P) g bW e5 (by rw [←hr.length];exact hlen) hr h1
  refine ⟨w',KE jb gS ll aq a0 a1 hx ax ?_,dL.same c6 gI nc⟩
  rw [tD,Nat.add_assoc];exact cH
theorem PN {x y:V} {b q n:Nat} {l:List V} (g:Good ι h w) {B:fR} (bW:ι b=some B) (aC:h.ef b q n l .bad (fun h=>bg.ok x h)= .ok y aB):y=x:=by
 rw [Aj _ _ _ _ _ _ _ g.sm (g.oD bW)] at aC
 cases e5:oz h b q n l with
 |none=>rw [e5] at aC;cases aC
 |some jR=>rw [e5] at aC;cases aC;rfl
theorem Yw {f:Nat→Nat→Nat→Nat→T (List V)→bg} {b:Nat} {r:bg} (hr:r≠.bad) (he:Obj.cells? .bad f (h.obj b)=r):∃a1 a2 a3 a4 a5,T.get b h.t=some (.cells a1 a2 a3 a4 a5)∧f a1 a2 a3 a4 a5=r:=by
 unfold ag.obj at he
 cases hg:T.get b h.t with
 |none=>rw [hg] at he;exact absurd he.symm hr
 |some aO=>
  rw [hg] at he
  cases aO with
  |cells=>exact ⟨_,_,_,_,_,rfl,he⟩
  |_=>exact absurd he.symm hr
theorem Yx {r f ap n m bo:Nat} {rows:T (List V)} {new:List V} (hw:q7 r bo rows) (hn:n * r≤bo) (hg:bo<(n+m) * r) (vc:0≤n+m) (nb:new.length=m * r):
  Child r f ap 0 n m bo rows (e4 r m n new rows) new:=by
 obtain ⟨gn,ec,yg⟩:=hw
 have C2:(n+m) * r=n * r+m * r:=Nat.add_mul ..
 have hle:0≤(n+m) * r:=Nat.zero_le _
 refine ⟨⟨gn,hle,fun i row aq C4=> ?_⟩,fun j v aV=> ?_⟩
 · rw [q9 r m n new rows i vc aq] at C4
   by_cases ax:n≤i∧i<n+m
   · rw [if_pos ax] at C4
     cases C4
     have h2:(i+1) * r≤(n+m) * r:=Nat.mul_le_mul_right r (by omega)
     have bj:(i - n+1) * r≤m * r:=Nat.mul_le_mul_right r (by omega)
     refine ⟨?_,h2⟩
     simp only [List.length_take,List.length_drop,nb]
     rw [Nat.add_mul] at bj;omega
   · rw [if_neg ax] at C4
     obtain ⟨cH,c6⟩:=yg i row aq C4
     exact ⟨cH,by omega⟩
 · rw [wy] at aV
   by_cases mT:j<(n+m) * r
   · rw [if_pos mT,J0 gn new nb rows vc j (by omega)] at aV
     by_cases ax:n * r≤j∧j<(n+m) * r
     · rw [if_pos ax] at aV;exact .inr ⟨ax.1,aV⟩
     · rw [if_neg ax] at aV
       refine .inl ⟨by omega, ?_⟩
       rw [wy,if_pos (by omega),Nat.zero_add];exact aV
   · rw [if_neg mT] at aV;cases aV
theorem Yy {r f ap q n m bo:Nat} {rows:T (List V)} {old new:List V} (hw:q7 r bo rows) (bC:q % r=0) (hn:q+n * r≤bo) (vc:0≤n+m) (hold:lN rows n (q / r)=some old) (nb:new.length=m * r):
  Child r f ap q n m bo rows (e4 r (n+m) 0 (old++new) T.e) new:=by
 have gn:=hw.1
 obtain ⟨d,aX⟩:∃d,q=d * r:=⟨q / r,by have:=Nat.div_add_mod q r;rw [bC,Nat.mul_comm] at this;omega⟩
 have va:q / r=d:=by rw [aX,Nat.mul_div_cancel _ gn]
 rw [va] at hold
 have hle:0≤d+n:=Nat.zero_le _
 obtain ⟨g1,g2⟩:=JY hw n d old hle hold
 have C2:(n+m) * r=n * r+m * r:=Nat.add_mul ..
 have hlen:(old++new).length=(n+m) * r:=by rw [List.length_append,g1,nb,C2]
 refine ⟨Pq gn _ hlen vc,fun j v aV=> ?_⟩
 rw [Pr gn _ hlen vc] at aV
 by_cases mT:j<n * r
 · refine .inl ⟨mT, ?_⟩
   rw [List.getElem?_append_left (by omega)] at aV
   have F2:=Nat.div_add_mod j r
   have sj:=Nat.mod_lt j gn
   have Yz:j / r<n:=Nat.div_lt_of_lt_mul (by rw [Nat.mul_comm];exact mT)
   have:=g2 (j / r) (j % r) Yz sj
   rw [Nat.mul_comm (j / r) r,F2,aV] at this
   rw [wy,if_pos (by omega)]
   unfold tv
   obtain ⟨x1,b2⟩:=F0 (r:=r) (q:=d+j / r) (c:=j % r) (x:=q+j) sj (by rw [Nat.mul_add,aX,Nat.mul_comm d r];omega)
   rw [x1,b2];exact this.symm
 · refine .inr ⟨by omega, ?_⟩
   rw [List.getElem?_append_right (by omega),g1] at aV
   exact aV
end
end
end Go.Eng
namespace Go.Eng
noncomputable section
section
variable {P:Program} {ι:bb} {h aB:ag} {w:World} {bw:jU} {ev:dM} {bK:Operand→Value} {o:Oper} {v:V} {call:eU}
theorem YA {argTypes:Array TypeId} {ty:TypeId} {r bytes:Nat} (ht:C3 P argTypes r bytes) (g:Good ι h w) (gx:jV ι h aB) {b:Nat} {B:fR} (bW:ι b=some B) {q n c m:Nat} {cap:Option Nat} {y:Addr} (hj:Ae B q n cap y c) {x:Value} {new:List V} {xs:List Value}
  (hx:wL P w r m x xs) (hr:cE ι new xs) (h1:∀x∈xs,x.oneCell'=true) (hlen:xs.length=m * r) (hm:0<m) (he:q3 h r bytes b q n cap new m= .ok v aB):
  Gx P ι h w argTypes ty (.slice (some y) n c) x v aB:=by
 have gn:=ht.r0
 have KH:new.length=m * r:=by rw [←hr.length];exact hlen
 unfold q3 at he
 simp only [force_eq] at he
 obtain ⟨qc,he⟩:=C1 qe he
 rw [Bool.and_eq_true] at qc
 have gw:8≤b:=Nat.le_of_ble_eq_true qc.2
 replace qc:=qc.1
 rw [fa,decide_eq_true_eq] at qc
 have au:0≤h.next:=Nat.zero_le _
 have fx:(n+m) * bytes≤1099511627776:=qc
 cases cap with
 |some k=>
  obtain ⟨rfl,rfl,Gk⟩:=hj
  have he:(bif (Nat.add n m).ble c then h.ef b (Nat.add q (Nat.mul n r)) (Nat.mul m r) new .bad fun h=> .ok (.av b q (Nat.add n m) (some c)) h
    else Option.rec .bad (fun old=>gQ r (Nat.add n m) 0 (gd old new) T.e fun t=>mk h (.cells r h.next 0 (Nat.mul (Nat.add n m) r) t) (.av h.next 0 (Nat.add n m) none)) (h.load b q (Nat.mul n r)))=bg.ok v aB:=he
  rw [fa] at he
  by_cases ax:n+m≤c
  · have aX:decide (Nat.add n m≤c)=true:=by simpa using ax
    rw [aX,cond_true] at he
    have aE:=PN g bW he
    subst aE
    obtain ⟨w',cH,c6⟩:=PL (ty:=ty) ht g bW hx hr h1 hlen ax he
    exact ⟨_,ι,w',cH,c6,⟨B,_,_,bW,rfl,rfl,rfl,ax⟩⟩
  · have aX:decide (Nat.add n m≤c)=false:=by simpa using ax
    rw [aX,cond_false] at he
    obtain ⟨old,hold,he⟩:=C0 qe he
    rw [iI,pZ] at he
    obtain ⟨_,ec,rfl,rfl⟩:=Gw he
    obtain ⟨olds,CS,Kr,YB,YC⟩:=PF (P:=P) g bW (y:=⟨B.c,B.off+q,none⟩) (c:=c) (cap:=some c) ⟨rfl,rfl,Gk⟩ hold rfl
    exact PK ht g (gx _ (Nat.le_refl _) (Nat.lt_succ_self _)) au hx YC CS Kr YB hr h1 hlen (by omega) fx ec
 |none=>
  obtain ⟨eT,f,ap,bo,rows,dP,he⟩:=Yw qe he
  obtain ⟨PO,he⟩:=C1 qe he
  rw [Bool.and_eq_true,jr,jr,decide_eq_true_eq,decide_eq_true_eq] at PO
  obtain ⟨rfl,bC⟩:=PO
  have bC:q % eT=0:=bC
  have hb:=g.oD bW
  have dA:=g.lQ b hb (by simp [dP])
  obtain ⟨cs,CN,fr,aT,bu,dH,gC,gY,kL⟩:=(g.obj b B _ bW dP dA).cells rfl
  obtain ⟨s1,s2,gb,jo,kD⟩:=gY
  subst s1
  have gC:B.off+bo≤cs.size:=gC
  obtain ⟨d,aX⟩:∃d,q=d * B.r:=⟨q / B.r,by have:=Nat.div_add_mod q B.r;rw [bC,Nat.mul_comm] at this;omega⟩
  have va:q / B.r=d:=by rw [aX,Nat.mul_div_cancel _ gn]
  have C2:(n+m) * B.r=n * B.r+m * B.r:=Nat.add_mul ..
  have KG:0<m * B.r:=Nat.mul_pos hm gn
  obtain ⟨qb,_,_,CU,wG⟩:=hj
  rw [va] at qb
  have Kw:Ae B q n none y c:=⟨by rw [va];exact qb,bC,gn,CU,wG⟩
  rw [fa] at he
  by_cases hin:q+(n+m) * B.r≤bo
  · have vd:decide (Nat.add q (Nat.mul (Nat.add n m) B.r)≤bo)=true:=by simpa using hin
    rw [vd,cond_true] at he
    have aE:=PN g bW he
    subst aE
    have ye:n+m≤c:=by
     have:(d+(n+m)) * B.r≤B.cap * B.r:=by rw [Nat.add_mul,←aX];omega
     have:=Nat.le_of_mul_le_mul_right this gn
     omega
    have hy:y=⟨B.c,B.off+q,none⟩:=by
     rcases wG with h|h
     · exact h
     · omega
    subst hy
    obtain ⟨w',cH,c6⟩:=PL (ty:=ty) ht g bW hx hr h1 hlen ye he
    exact ⟨_,ι,w',cH,c6,⟨B,_,_,bW,rfl,by rw [va];exact qb,bC,gn,ye, .inl rfl⟩⟩
  · have vd:decide (Nat.add q (Nat.mul (Nat.add n m) B.r)≤bo)=false:=by simpa using hin
    rw [vd,cond_false] at he
    obtain ⟨hn,he⟩:=C1 qe he
    rw [fa,decide_eq_true_eq] at hn
    have hn:q+n * B.r≤bo:=hn
    rw [OU h b f ap bo _ _ _ (fun F m a c=>g.sm f F m a c) au] at he
    have yh:(js h b f ap bo (ap+q+n * B.r) (ap+q+(n+m) * B.r)).next=h.next:=(J9 g bW dA dP au (by omega)).next
    have Kc:∃t,Child B.r f ap q n m bo rows t new∧v= .av h.next 0 (n+m) none∧aB=(js h b f ap bo (ap+q+n * B.r) (ap+q+(n+m) * B.r)).add (.cells B.r f (ap+q) ((n+m) * B.r) t):=by
     have he:(bif q.beq 0 then gQ B.r m n new rows fun t=>mk (js h b f ap bo (ap+q+n * B.r) (ap+q+(n+m) * B.r)) (.cells B.r f ap (Nat.mul (Nat.add n m) B.r) t) (.av h.next 0 (Nat.add n m) none)
           else Option.rec .bad (fun old=>gQ B.r (Nat.add n m) 0 (gd old new) T.e fun t=>mk (js h b f ap bo (ap+q+n * B.r) (ap+q+(n+m) * B.r)) (.cells B.r f (ap+q) (Nat.mul (Nat.add n m) B.r) t) (.av h.next 0 (Nat.add n m) none)) (lN rows n (q.div B.r)))=bg.ok v aB:=he
     rw [jr] at he
     by_cases KI:q=0
     · simp only [KI,decide_true,cond_true,iI] at he
       obtain ⟨_,ec,rfl,rfl⟩:=Gw he
       obtain ⟨_,vc⟩:=Au (k:=n+m) ec
       subst KI
       exact ⟨_,Yx kD (by omega) (by omega) vc KH,rfl,rfl⟩
     · simp only [KI,decide_false,cond_false] at he
       obtain ⟨old,hold,he⟩:=C0 qe he
       rw [iI,pZ] at he
       obtain ⟨_,ec,rfl,rfl⟩:=Gw he
       obtain ⟨_,vc⟩:=Au (k:=n+m) ec
       exact ⟨_,Yy kD bC hn vc hold KH,rfl,rfl⟩
    obtain ⟨t,rl,rfl,rfl⟩:=Kc
    have hf:ι h.next=none:=gx _ (Nat.le_refl _) (by show h.next<(js h b f ap bo (ap+q+n * B.r) (ap+q+(n+m) * B.r)).next+1;omega)
    by_cases ye:n+m≤c
    · have hy:y=⟨B.c,B.off+q,none⟩:=by
       rcases wG with h|h
       · exact h
       · omega
      subst hy
      obtain ⟨w',cH,c6⟩:=Yt (P:=P) g hf au gw bW dP hm bC hn rl hr h1 hlen (by rw [va];omega)
      obtain ⟨⟨hY,u,el,kl,i,z,a0,a1,jb,gS,ll,aq,hz,C5,tw,yf⟩,_,_⟩:=ht
      refine ⟨_,_,w',KE jb gS ll aq a0 a1 (by rw [C5];exact hx) ye (by rw [tD,C5];exact cH),c6, ?_⟩
      exact ⟨_,_,_,bb.hh ..,rfl,by simp [va,qb],by simp,gn,ye, .inl rfl⟩
    · obtain ⟨⟨hY,u,el,kl,i,z,a0,a1,jb,gS,ll,aq,hz,C5,tw,yf⟩,_,j7⟩:=ht
      have oE:=grownCap_ge w (n+m) c el
      have PQ:∀j,j<n * B.r→(cs.extract (B.off+q) (B.off+q+n * B.r)).toList[j]? =w.cell? ⟨B.c,B.off+q+j,none⟩:=by
       intro j aV
       rw [Array.getElem?_toList,Array.getElem?_extract,if_pos (by omega)]
       simp only [World.cell?,aT,Option.isSome_none,Bool.false_eq_true,if_false]
      have vb:(cs.extract (B.off+q) (B.off+q+n * B.r)).toList.length=n * B.r:=by
       rw [Array.length_toList,Array.size_extract];omega
      have bq:∀w1:World,w1.heap=w.heap→(Builtin.firstCells i.size n (.slice (some y) n c)).run P w1= .ok (cs.extract (B.off+q) (B.off+q+n * B.r)).toList.toArray w1:=by
       intro w1 nd
       rw [C5]
       refine run_firstCells_some w1 B.r n y n c _ vb fun j v aE=> ?_
       have aV:j<n * B.r:=by rw [←vb];exact (List.getElem?_eq_some_iff.1 aE).1
       have CL:0<n:=by
        rcases Nat.eq_zero_or_pos n with h0|h0
        · subst h0;simp at aV
        · exact h0
       rw [PD nd,wE Kw CL,tD,←PQ j aV]
       exact aE
      have jt:=PE (ty:=ty) jb gS ll aq hz a0 a1 bq (by rw [C5];exact hx) (by omega) (by rw [tw];exact j7) (by rw [tw];exact fx)
      have Gy:=Yu g hf au bW dP hm hn rl hr h1 hlen PQ vb oE (el:=el) (more:=(Builtin.zeroCells z.cells (grownCap w (n+m) c el - (n+m))).toList)
       (by rw [List.length_append,List.length_append,PJ _ _ _ yf,vb,hlen,←Nat.add_mul,←Nat.add_mul];congr 1;omega)
      exact ⟨_,_,_,jt,Gy,⟨_,_,_,bb.hh ..,rfl,by simp,by simp,gn,oE, .inl rfl⟩⟩
theorem KJ {argTypes:Array TypeId} {ty:TypeId} {r bytes:Nat} (ht:C3 P argTypes r bytes) (g:Good ι h w) (gx:jV ι h aB) {s:V} {en:Value} (aC:bL ι s en) {m:Nat} {x:Value} {new:List V} {xs:List Value}
  (hx:wL P w r m x xs) (hr:cE ι new xs) (h1:∀x∈xs,x.oneCell'=true) (hlen:xs.length=m * r) (he:gk h r bytes s new m= .ok v aB):
  Gx P ι h w argTypes ty en x v aB:=by
 have gn:=ht.r0
 have KH:new.length=m * r:=by rw [←hr.length];exact hlen
 unfold gk at he
 split at he
 · have aC:en= .slice none 0 0:=aC
   subst aC
   rw [jr] at he
   by_cases hm:m=0
   · subst hm
     simp only [decide_true,cond_true,bg.ok.injEq] at he
     obtain ⟨rfl,rfl⟩:=he
     have:xs=[]:=List.eq_nil_of_length_eq_zero (by simpa using hlen)
     subst this
     obtain ⟨⟨hY,u,el,kl,i,z,a0,a1,jb,gS,ll,aq,hz,rfl,tw,yf⟩,_,_⟩:=ht
     exact ⟨_,ι,w,Yp jb gS ll aq a0 a1 hx,dL.refl g,rfl⟩
   · simp only [hm,decide_false,cond_false] at he
     obtain ⟨fx,he⟩:=C1 qe he
     rw [fa,decide_eq_true_eq] at fx
     rw [force_eq,iI] at he
     obtain ⟨au,ec,rfl,rfl⟩:=Gw he
     have:=PK (P:=P) (ty:=ty) ht g (gx _ (Nat.le_refl _) (Nat.lt_succ_self _)) au (base:=none) (n:=0) (c:=0) (old:=[]) (new:=new) (olds:=[]) hx (fun w1 _=>run_firstCells_none w1 r 0 0 0) rfl (by simp) (by simp) hr h1 hlen (by omega) (by simpa using fx) (by simpa using ec)
     simpa using this
 · rename_i b q n cap
   obtain ⟨B,y,c,bW,rfl,hj⟩:=aC
   rw [jr] at he
   by_cases hm:m=0
   · subst hm
     simp only [decide_true,cond_true,bg.ok.injEq] at he
     obtain ⟨rfl,rfl⟩:=he
     have:xs=[]:=List.eq_nil_of_length_eq_zero (by simpa using hlen)
     subst this
     obtain ⟨⟨hY,u,el,kl,i,z,a0,a1,jb,gS,ll,aq,hz,rfl,tw,yf⟩,_,_⟩:=ht
     have YD:n+0≤c:=by
      cases cap with
      |some k=>obtain ⟨rfl,_,bj⟩:=hj;exact bj
      |none=>exact hj.2.2.2.1
     exact ⟨_,ι,w,KE jb gS ll aq a0 a1 hx YD rfl,dL.refl g,⟨B,y,c,bW,rfl,hj⟩⟩
   · simp only [hm,decide_false,cond_false] at he
     exact YA ht g gx bW hj hx hr h1 hlen (by omega) he
 · cases he
end
end
end Go.Eng
namespace Go.Eng
noncomputable section
section
variable {P:Program} {ι:bb} {h aB:ag} {w:World} {bw:jU} {ev:dM} {bK:Operand→Value} {o:Oper} {v:V} {call:eU}
theorem YE (g:Good ι h w) (gx:jV ι h aB) (bA:∀x a,bw x a=true→bL ι (ev a) (bK x)) {r bytes:Nat} {s x:A} (hok:rk P bw o.op (.append r bytes s x)=true) (he:hK (.append r bytes s x) call ev h= .ok v aB):yb P ι h w bK o v aB:=by
 have he:(match ev x with
  | .U=>gk h r bytes (ev s) [] 0
  | .av b o m _=>Option.rec .bad (fun new=>gk h r bytes (ev s) new m) (h.load b o (Nat.mul m r))
  | .str m a=>bif r.beq 1 then gk h r bytes (ev s) (nD (gZ m a)) m else .bad
  |_=> .bad)=bg.ok v aB:=he
 simp only [rk] at hok
 split at hok
 · rename_i args argTypes hx
   split at hok
   · rename_i en gR t u hargs C6 C7
     have aT:args= #[en,gR]:=by cases args;simp at hargs;simp [hargs]
     subst aT
     split at hok
     · rename_i el jb
       simp only [Bool.and_eq_true,decide_eq_true_eq] at hok
       obtain ⟨ll,aC,KA,gn,j7,hz,c1,c2⟩:=hok
       have tI:C3 P argTypes r bytes:=by
        cases vd:P.underlying u with
        |none=>simp [vd] at ll
        |some kl=>
         cases aq:P.info? el with
         |none=>simp [aq] at hz
         |some i=>
          cases x9:i.zero with
          |none=>simp [aq,x9] at hz
          |some z=>
           refine ⟨⟨t,u,el,kl,i,z,C6,C7,jb,vd, ?_,aq,x9,by simpa [mX,aq] using aC,by simpa [Gb,aq] using KA,by simpa [aq,x9] using hz⟩,gn,j7⟩
           cases kl<;>simp [vd] at ll ⊢
       have fin:Gx P ι h w argTypes o.type (bK en) (bK gR) v aB→yb P ι h w bK o v aB:=by
        rintro ⟨v',bk,w',cH,c6,gI⟩
        exact ⟨.value v',v',bk,w',by simp [execOp,hx,resolve,invoke,builtin,cH,Result.andThen], .inl rfl,c6,gI⟩
       apply fin
       have KK:=bA _ _ c1
       have jG:=bA _ _ c2
       generalize ev x=KL at he jG
       cases KL<;>first|(cases he;done)|skip
       · rename_i m a
         obtain ⟨str,rm,rfl,rfl⟩:=jG
         obtain ⟨rn,he⟩:=C1 qe he
         rw [jr,decide_eq_true_eq] at rn
         subst rn
         rw [rm,rh] at *
         exact KJ tI g gx KK (Ys str _ 1 (Go.Lib.size_eq str).symm) (Px _) (fun y hy=>by obtain ⟨b,_,rfl⟩:=List.mem_map.1 hy;rfl) (by simp) he
       · have jG:bK gR= .slice none 0 0:=jG
         rw [jG]
         exact KJ tI g gx KK ⟨fun w1=>rfl,fun w1 _=>run_firstCells_none w1 r 0 0 0⟩ (new:=[]) (xs:=[]) rfl (by simp) (by simp) he
       · rename_i b q m cap
         obtain ⟨B,y,c,bW,rm,hj⟩:=jG
         obtain ⟨new,nb,he⟩:=C0 qe he
         obtain ⟨xs,x1,b2,b9,ej⟩:=PF (P:=P) g bW hj nb rfl
         rw [rm]
         exact KJ tI g gx KK ⟨fun w1=>rfl,ej⟩ x1 b2 b9 he
     · cases hok
   · cases hok
 · cases hok
theorem YF (g:Good ι h w) (bA:∀x a,bw x a=true→bL ι (ev a) (bK x)) {zero:List V} {x:A} (hok:rk P bw o.op (.clear zero x)=true) (he:hK (.clear zero x) call ev h= .ok v aB):yb P ι h w bK o v aB:=by
 have he:(match ev x with
  | .U=> .ok un h
  | .av b o n _=>h.ef b o (Nat.mul n (cZ zero)) (rep n zero) .bad fun h=> .ok un h
  |_=> .bad)=bg.ok v aB:=he
 simp only [rk] at hok
 split at hok
 · rename_i args argTypes hx
   split at hok
   · rename_i gR t hargs C6
     have aT:args= #[gR]:=by cases args;simp at hargs;simp [hargs]
     subst aT
     split at hok
     · rename_i el hu
       simp only [Bool.and_eq_true] at hok
       have jG:=bA _ _ hok.2
       obtain ⟨z,Gm,mj,tH,i,aq,Gr⟩:=CX (P:=P) (w:=w) (ι:=ι) hok.1
       generalize ev x=KL at he jG
       cases KL<;>first|(cases he;done)|skip
       · cases he
         have jG:bK gR= .slice none 0 0:=jG
         exact ⟨.value (.tuple #[]), .tuple #[],ι,w,by simp [execOp,hx,resolve,invoke,builtin,Builtin.clear_,C6,run_underlying hu,jG,Result.andThen], .inl rfl,dL.refl g,yc⟩
       · rename_i b q n cap
         obtain ⟨B,y,c,bW,rm,hj⟩:=jG
         have he:h.ef b q (n * cZ zero) (rep n zero) .bad (fun h=> .ok un h)=bg.ok v aB:=he
         rw [me,Aj _ _ _ _ _ _ _ g.sm (g.oD bW)] at he
         cases e5:oz h b q (n * zero.length) (rep n zero) with
         |none=>rw [e5] at he;cases he
         |some jR=>
          rw [e5] at he
          cases he
          have pf:z.cells.size=zero.length:=by have:=mj.length;simpa using this
          by_cases hn:n=0
          · subst hn
            rw [Nat.zero_mul] at e5
            cases F6 e5
            exact ⟨.value (.tuple #[]), .tuple #[],ι,w,by simp [execOp,hx,resolve,invoke,builtin,Builtin.clear_,C6,run_underlying hu,rm,Result.andThen], .inl rfl,dL.refl g,yc⟩
          · have hy:=wE hj (by omega)
            subst hy
            have YG:Builtin.zeroCells z.cells n=madeCells z.cells (n * zero.length):=by simp [Builtin.zeroCells,madeCells,pf]
            have p4:cE ι (rep n zero) (Builtin.zeroCells z.cells n).toList∧∀x∈(Builtin.zeroCells z.cells n).toList,x.oneCell'=true:=by
             rw [YG]
             by_cases h0:zero.length=0
             · rw [h0,Nat.mul_zero]
               have:rep n zero=[]:=List.eq_nil_of_length_eq_zero (by rw [CY,h0,Nat.mul_zero])
               rw [this];exact ⟨by simp [madeCells];rfl,by simp [madeCells]⟩
             · exact Pw (m:=n) (by omega) rfl mj tH
            obtain ⟨w',cH,c6,gI,nc,_⟩:=CI (P:=P) g bW e5 (by rw [CY]) p4.1 p4.2
            refine ⟨.value (.tuple #[]), .tuple #[],ι,w', ?_, .inl rfl,dL.same c6 gI nc,yc⟩
            cases n with
            |zero=>exact absurd rfl hn
            |succ n=>simp [execOp,hx,resolve,invoke,builtin,Builtin.clear_,C6,run_underlying hu,rm,Gm,cH,Result.andThen]
     · cases hok
   · cases hok
 · cases hok
end
end
end Go.Eng
namespace Go.Eng
noncomputable section
section
variable {P:Program} {ι:bb} {h aB:ag} {w:World} {bw:jU} {ev:dM} {bK:Operand→Value} {o:Oper} {v:V} {call:eU}
theorem YH (g:Good ι h w) (bA:∀x a,bw x a=true→bL ι (ev a) (bK x)) {r:Nat} {d s:A} (hok:rk P bw o.op (.copy r d s)=true) (he:hK (.copy r d s) call ev h= .ok v aB):yb P ι h w bK o v aB:=(Bool.false_ne_true hok).elim
end
end
end Go.Eng
namespace Go.Eng
noncomputable section
inductive Src where
 |val (p:Nat)
 |slot (i j:bx)
 |wM (c:Value)
structure cP where
 n:Nat
 f:List (Nat×Option Src)
 s:List ((bx×bx)×Nat)
def look {α β:Type} [DecidableEq α] (a:α):List (α×β)→Option β
 |[]=>none
 |(x,y)::l=>if a=x then some y else look a l
def cP.tmp (F:cP) (t:Nat):Option Src:=match look t F.f with|some s=>s|none=>none
def cP.at_ (F:cP) (i j:bx):Option Nat:=look (i,j) F.s
def pg (F:cP):jU:=fun x a=>
 match x with
 | .tmp t=>(match F.tmp t with
   |none=>false
   |some (.wM c)=>(match a with| .c v=>iZ v c|_=>false)
   |some (.val p)=>(match a with
    | .l d=>p+d+1==F.n
    | .t i j=>F.at_ i j==some p
    | .c _=>false)
   |some (.slot cS hc)=>(match a with| .t i j=>decide (i=cS)&&(decide (j=hc)&&F.at_ i j==none)|_=>false))
 | .const c=>(match a with| .c v=>iZ v c|_=>false)
 | .func f=>(match a with| .c (.fn g [] [])=>f==g|_=>false)
 | .global _=>(match a with| .c .bot=>true|_=>false)
def Holds (ι:bb) (vs:List V) (bl:Env) (x:Value):Src→Prop
 | .val p=>p<vs.length∧bL ι (mN vs (vs.length - 1 - p)) x
 | .slot i j=>bL ι (Env.get i j bl) x
 | .wM c=>x=c
structure h9 (ι:bb) (F:cP) (vs:List V) (env bl:Env) (tmps:Array Value):Prop where
 len:vs.length=F.n
 jW:∀i j,Env.get i j env=match F.at_ i j with|some p=>mN vs (vs.length - 1 - p)|none=>Env.get i j bl
 lt:∀i j p,F.at_ i j=some p→p<vs.length
 tmps:∀t s,F.tmp t=some s→Holds ι vs bl (tmps.getD t undef) s
theorem Gz (v:V) (l:List V) (d:Nat):mN (v::l) (d+1)=mN l d:=rfl
theorem KM (v:V) (l:List V):mN (v::l) 0=v:=rfl
theorem ve {ι:bb} {F:cP} {vs:List V} {env bl:Env} {a:Act} (h:h9 ι F vs env bl a.tmps):∀x b,pg F x b=true→bL ι (A.ev b vs env) (a.eval x):=by
 intro x b ax
 cases x with
 |tmp t=>
  show bL ι _ (a.tmps.getD t undef)
  simp only [pg] at ax
  cases ht:F.tmp t with
  |none=>simp [ht] at ax
  |some s=>
   have aC:=h.tmps t s ht
   cases s with
   |wM c=>
    simp only [ht] at ax
    cases b with
    |c v=>have aC:a.tmps.getD t undef=c:=aC;rw [aC];exact Gc v c ax
    |l d=>cases ax
    |t i j=>cases ax
   |val p=>
    simp only [ht] at ax
    obtain ⟨h1,h2⟩:=aC
    cases b with
    |c v=>cases ax
    |l d=>
     have ax:p+d+1=F.n:=by simpa using ax
     have:vs.length - 1 - p=d:=by have:=h.len;omega
     rw [this] at h2;exact h2
    |t i j=>
     have ax:F.at_ i j=some p:=by simpa using ax
     have:=h.jW i j
     rw [ax] at this
     show bL ι (Env.get i j env) _
     rw [this];exact h2
   |slot cS hc=>
    simp only [ht] at ax
    cases b with
    |c v=>cases ax
    |l d=>cases ax
    |t i j=>
     simp only [Bool.and_eq_true,decide_eq_true_eq,beq_iff_eq] at ax
     obtain ⟨rfl,rfl,hn⟩:=ax
     have:=h.jW i j
     rw [hn] at this
     show bL ι (Env.get i j env) _
     rw [this];exact aC
 |const c=>
  simp only [pg] at ax
  cases b with
  |c v=>exact Gc v c ax
  |l d=>cases ax
  |t i j=>cases ax
 |func f=>
  simp only [pg] at ax
  cases b with
  |c v=>
   cases v<;>first|(cases ax;done)|skip
   rename_i g l m
   cases l<;>cases m<;>first|(cases ax;done)|skip
   have ax:f=g:=by simpa using ax
   subst ax
   exact ⟨#[], #[],rfl,rfl,rfl⟩
  |l d=>cases ax
  |t i j=>cases ax
 |global g=>
  cases b with
  |c v=>cases v<;>first|(cases ax;done)|exact True.intro
  |l d=>cases ax
  |t i j=>cases ax
theorem Holds.mono {ι bk:bb} (h:ι.le bk) {vs:List V} {bl:Env} {x:Value} {s:Src} (b4:Holds ι vs bl x s):Holds bk vs bl x s:=by
 cases s with
 |val p=>exact ⟨b4.1,b4.2.mono h⟩
 |slot i j=>exact bL.mono h _ _ b4
 |wM c=>exact b4
theorem h9.mono {ι bk:bb} (h:ι.le bk) {F:cP} {vs:List V} {env bl:Env} {tmps:Array Value} (s:h9 ι F vs env bl tmps):h9 bk F vs env bl tmps:=
 ⟨s.len,s.jW,s.lt,fun t x ht=>(s.tmps t x ht).mono h⟩
theorem Holds.push {ι:bb} {vs:List V} {v:V} {bl:Env} {x:Value} {s:Src} (b4:Holds ι vs bl x s):Holds ι (v::vs) bl x s:=by
 cases s with
 |val p=>
  obtain ⟨h1,h2⟩:=b4
  refine ⟨by simp;omega, ?_⟩
  have:(v::vs).length - 1 - p=(vs.length - 1 - p)+1:=by simp;omega
  rw [this,Gz];exact h2
 |slot i j=>exact b4
 |wM c=>exact b4
end
end Go.Eng
namespace Go.Eng
noncomputable section
def cP.push (F:cP) (dst:Option Nat) (slot:Option (bx×bx)):cP:=
 ⟨F.n+1,match dst with|some d=>(d,some (.val F.n))::F.f|none=>F.f,match slot with|some KN=>(KN,F.n)::F.s|none=>F.s⟩
def cP.PR (F:cP) (x:Operand):Option Src:=match x with
 | .tmp t=>F.tmp t
 | .const c=>some (.wM c)
 |_=>none
def cP.move (F:cP) (d:Nat) (x:Operand):cP:=⟨F.n,(d,F.PR x)::F.f,F.s⟩
theorem vf {α β:Type} [DecidableEq α] (a x:α) (y:β) (l:List (α×β)):look a ((x,y)::l)=if a=x then some y else look a l:=rfl
theorem C8 {tmps:Array Value} {d t:Nat} {x:Value} (aX:d<tmps.size):(tmps.setIfInBounds d x).getD t undef=if t=d then x else tmps.getD t undef:=by
 by_cases h:t=d
 · subst h;simp [Array.getD,aX]
 · rw [if_neg h]
   simp only [Array.getD_eq_getD_getElem?]
   rw [Array.getElem?_setIfInBounds_ne (Ne.symm h)]
theorem h9.push {ι:bb} {F:cP} {vs:List V} {env bl:Env} {a:Act} (s:h9 ι F vs env bl a.tmps) {v:V} {x:Value} (aE:bL ι v x) {dst:Option Nat} (aX:∀d,dst=some d→d<a.tmps.size):
  h9 ι (F.push dst none) (v::vs) env bl (a.put dst x).tmps:=by
 have hlen:=s.len
 have nb:Holds ι (v::vs) bl x (.val F.n):=by
  refine ⟨by simp;omega, ?_⟩
  have:(v::vs).length - 1 - F.n=0:=by simp;omega
  rw [this,KM];exact aE
 refine ⟨by simp [cP.push,hlen],fun i j=> ?_,fun i j p hp=>by have:F.at_ i j=some p:=hp;have:=s.lt i j p this;simp;omega,fun t src ht=> ?_⟩
 · have h1:(F.push dst none).at_ i j=F.at_ i j:=rfl
   rw [h1,s.jW i j]
   cases hp:F.at_ i j with
   |none=>rfl
   |some p=>
    have:=s.lt i j p hp
    show mN vs _=mN (v::vs) _
    rw [show (v::vs).length - 1 - p=(vs.length - 1 - p)+1 by simp;omega,Gz]
 · cases dst with
   |none=>
    have ht:F.tmp t=some src:=ht
    exact (s.tmps t src ht).push
   |some d=>
    have vd:=aX d rfl
    show Holds ι (v::vs) bl ((a.tmps.setIfInBounds d x).getD t undef) src
    rw [C8 vd]
    have ht:(match look t ((d,some (.val F.n))::F.f) with|some s=>s|none=>none)=some src:=ht
    rw [vf] at ht
    by_cases e:t=d
    · rw [if_pos e] at ht ⊢;cases ht;exact nb
    · rw [if_neg e] at ht ⊢;exact (s.tmps t src ht).push
theorem h9.KO {ι:bb} {F:cP} {vs:List V} {env bl:Env} {a:Act} (s:h9 ι F vs env bl a.tmps) {v:V} {x:Value} (aE:bL ι v x) {dst:Option Nat} (aX:∀d,dst=some d→d<a.tmps.size) (i j:bx):
  h9 ι (F.push dst (some (i,j))) (v::vs) (Env.set i j v env) bl (a.put dst x).tmps:=by
 have en:=s.push aE aX
 have hlen:=s.len
 have ff:∀cS hc,(F.push dst (some (i,j))).at_ cS hc=if (cS,hc)=(i,j) then some F.n else F.at_ cS hc:=fun cS hc=>rfl
 refine ⟨en.len,fun cS hc=> ?_,fun cS hc p hp=> ?_,en.tmps⟩
 · rw [ff,Env.fJ]
   by_cases e:cS=i∧hc=j
   · rw [if_pos e,if_pos (by rw [e.1,e.2])]
     show v=mN (v::vs) ((v::vs).length - 1 - F.n)
     rw [show (v::vs).length - 1 - F.n=0 by simp;omega,KM]
   · rw [if_neg e,if_neg (by intro h;cases h;exact e ⟨rfl,rfl⟩)]
     exact en.jW cS hc
 · rw [ff] at hp
   by_cases e:(cS,hc)=(i,j)
   · rw [if_pos e] at hp;cases hp;simp;omega
   · rw [if_neg e] at hp;exact en.lt cS hc p hp
theorem h9.move {ι:bb} {F:cP} {vs:List V} {env bl:Env} {a:Act} (s:h9 ι F vs env bl a.tmps) {d:Nat} (aX:d<a.tmps.size) (x:Operand):h9 ι (F.move d x) vs env bl (a.put (some d) (a.eval x)).tmps:=by
 refine ⟨s.len,s.jW,s.lt,fun t src ht=> ?_⟩
 show Holds ι vs bl ((a.tmps.setIfInBounds d (a.eval x)).getD t undef) src
 rw [C8 aX]
 have ht:(match look t ((d,F.PR x)::F.f) with|some s=>s|none=>none)=some src:=ht
 rw [vf] at ht
 by_cases e:t=d
 · rw [if_pos e] at ht ⊢
   cases x with
   |tmp hY=>exact s.tmps hY src ht
   |const c=>cases ht;rfl
   |global g=>cases ht
   |func f=>cases ht
 · rw [if_neg e] at ht ⊢;exact s.tmps t src ht
end
end Go.Eng
namespace Go.Eng
noncomputable section
section
variable {R:Type}
theorem YI (bH aq m:Nat) (h:ag) (k:ag→R):∃h1,h1.next=h.next∧tm bH aq m h k=k h1:=by
 unfold tm
 cases h.obj m with
 |none=>exact ⟨h,rfl,rfl⟩
 |some aO=>
  cases aO with
  |cells r f ap n t=>
   show ∃h1,h1.next=h.next∧(Bool.rec (k h) (h.kG m .dead k) (ap.blt aq&&bH.blt (Nat.add ap n)):R)=k h1
   cases (ap.blt aq&&bH.blt (Nat.add ap n)) with
   |false=>exact ⟨h,rfl,rfl⟩
   |true=>simp only [sk];exact ⟨_,by rfl,rfl⟩
  |_=>exact ⟨h,rfl,rfl⟩
theorem GC (bH aq but:Nat):∀(l:List Nat) (h:ag) (k:ag→R),∃h1,h1.next=h.next∧tn bH aq but l h k=k h1
 |[],h,k=>⟨h,rfl,rfl⟩
 |m::l,h,k=>by
  rw [ON]
  cases hb:m.beq but with
  |true=>
   obtain ⟨h1,a,b⟩:=GC bH aq but l h k
   exact ⟨h1,a,by simpa [hb] using b⟩
  |false=>
   obtain ⟨h2,a2,fl⟩:=YI bH aq m h fun h=>tn bH aq but l h k
   obtain ⟨h1,a,b⟩:=GC bH aq but l h2 k
   exact ⟨h1,a.trans a2,by simpa [hb] using fl.trans b⟩
theorem YJ (h:ag) (f bH aq but:Nat) (k:ag→R):∃h1,h1.next=h.next∧h.uU f bH aq but k=k h1:=by
 unfold ag.uU
 cases T.get f h.bJ with
 |none=>exact ⟨h,rfl,rfl⟩
 |some F=>exact GC bH aq but F.mem h k
theorem PS (h:ag) (b o n:Nat) (vs:List V) (d:R) (k:ag→R):h.ef b o n vs d k=d∨∃h1,h1.next=h.next∧h.ef b o n vs d k=k h1:=by
 unfold ag.ef
 cases n.beq 0 with
 |true=>exact .inr ⟨h,rfl,rfl⟩
 |false=>
  cases b.blt 8 with
  |true=>exact .inl rfl
  |false=>
  simp only [cond_false]
  cases h.obj b with
  |none=>exact .inl rfl
  |some aO=>
   cases aO with
   |dead=>exact .inl rfl
   |map es c=>exact .inl rfl
   |box row=>
    show (bif _ then _ else d)=d∨∃h1,h1.next=h.next∧(bif _ then _ else d)=k h1
    cases (Nat.add o n).ble (cZ row) with
    |false=>exact .inl rfl
    |true=>simp only [cond_true,nE,sk];exact .inr ⟨_,by rfl,rfl⟩
   |cells r f ap bo rows=>
    show (bif _ then _ else d)=d∨∃h1,h1.next=h.next∧(bif _ then _ else d)=k h1
    cases (Nat.add o n).ble bo with
    |false=>exact .inl rfl
    |true=>
     simp only [cond_true,OJ]
     cases wx r o n vs rows with
     |none=>exact .inl rfl
     |some t=>
      simp only [sk]
      obtain ⟨h1,a,bT⟩:=YJ h f (Nat.add ap o) (Nat.add (Nat.add ap o) n) b (fun h1=>k ⟨T.set b (.cells r f ap bo t) h1.t,h1.next,h1.bJ,h1.ds,h1.bI⟩)
      exact .inr ⟨⟨T.set b (.cells r f ap bo t) h1.t,h1.next,h1.bJ,h1.ds,h1.bI⟩,a,bT⟩
theorem PT (h:ag) (b f ap bo e top:Nat) (k:ag→R):∃h1,h1.next=h.next∧grown h b f ap bo e top k=k h1:=by
 unfold grown
 cases T.get f h.bJ with
 |none=>
  show ∃h1,h1.next=h.next∧(Bool.rec (mc h f top [h.next,b] k) (h.kG b .dead fun h=>mc h f top [h.next,b] k) (e.blt (Nat.add ap bo)):R)=k h1
  cases e.blt (Nat.add ap bo) with
  |false=>simp only [x0];exact ⟨_,by rfl,rfl⟩
  |true=>simp only [x0,sk];exact ⟨_,by rfl,rfl⟩
 |some F=>
  show ∃h1,h1.next=h.next∧(Bool.rec (tn e (Nat.add (iw.last F) top) h.next (iw.mem F) h fun h=>mc h f top (h.next::iw.mem F) k) (mc h f top (h.next::iw.mem F) k) ((iw.last F).ble e):R)=k h1
  cases (iw.last F).ble e with
  |true=>simp only [x0];exact ⟨_,by rfl,rfl⟩
  |false=>
   simp only [x0]
   obtain ⟨h1,a,bT⟩:=GC e (Nat.add (iw.last F) top) h.next (iw.mem F) h (fun h1=>k ⟨h1.t,h1.next,T.set f ⟨top,h1.next::iw.mem F⟩ h1.bJ,h1.ds,h1.bI⟩)
   refine ⟨⟨h1.t,h1.next,T.set f ⟨top,h1.next::iw.mem F⟩ h1.bJ,h1.ds,h1.bI⟩,a, ?_⟩
   exact bT
end
end
end Go.Eng
namespace Go.Eng
noncomputable section
section
variable {ev:dM} {h aB:ag} {v:V} {call:eU}
def bg.next (h:ag):bg→Prop
 | .ok _ aB=>h.next≤aB.next
 | .du _ aB=>h.next≤aB.next
 | .bad=>True
def mn (call:eU):Prop:=∀f as_ bI h,bg.next h (call f as_ bI h).1
theorem yi {b o n:Nat} {vs:List V} {x:V} {h0:ag} (hn:h0.next≤h.next):bg.next h0 (h.ef b o n vs .bad fun h=> .ok x h):=by
 rcases PS h b o n vs bg.bad (fun h=> .ok x h) with e|⟨h1,a,e⟩
 · rw [e];trivial
 · rw [e];show h0.next≤h1.next;omega
theorem GD {o:Obj} {x:V} {h0:ag} (hn:h0.next≤h.next):bg.next h0 (mk h o x):=by
 show bg.next h0 (Bool.rec .bad (h.la o fun h=> .ok x h) (fv o))
 cases (fv o) with
 |false=>trivial
 |true=>rw [oA];show h0.next≤h.next+1;omega
theorem YK {r bytes b q n m:Nat} {cap:Option Nat} {new:List V}:bg.next h (q3 h r bytes b q n cap new m):=by
 unfold q3
 simp only [force_eq]
 cases ((Nat.mul (Nat.add n m) bytes).ble 1099511627776&&Nat.ble 8 b) with
 |false=>trivial
 |true=>
  rw [cond_true]
  cases cap with
  |some c=>
   show bg.next h (bif (Nat.add n m).ble c then _ else _)
   cases (Nat.add n m).ble c with
   |true=>exact yi (Nat.le_refl _)
   |false=>
    show bg.next h (Option.rec .bad _ (h.load b q (Nat.mul n r)))
    cases h.load b q (Nat.mul n r) with
    |none=>trivial
    |some old=>simp only [iI];exact GD (Nat.le_refl _)
  |none=>
   show bg.next h (Obj.cells? .bad _ (h.obj b))
   cases h.obj b with
   |none=>trivial
   |some aO=>
    cases aO with
    |cells eT f ap bo rows=>
     show bg.next h (bif eT.beq r&&(q.mod r).beq 0 then _ else .bad)
     cases (eT.beq r&&(q.mod r).beq 0) with
     |false=>trivial
     |true=>
      rw [cond_true]
      cases (Nat.add q (Nat.mul (Nat.add n m) r)).ble bo with
      |true=>exact yi (Nat.le_refl _)
      |false=>
       rw [cond_false]
       cases (Nat.add q (Nat.mul n r)).ble bo with
       |false=>trivial
       |true=>
        rw [cond_true]
        obtain ⟨h1,a,e⟩:=PT h b f ap bo (Nat.add (Nat.add ap q) (Nat.mul n r)) (Nat.add (Nat.add ap q) (Nat.mul (Nat.add n m) r)) (fun h1=>
         bif q.beq 0 then gQ r m n new rows fun t=>mk h1 (.cells r f ap (Nat.mul (Nat.add n m) r) t) (.av h.next 0 (Nat.add n m) none)
         else Option.rec .bad (fun old=>gQ r (Nat.add n m) 0 (gd old new) T.e fun t=>mk h1 (.cells r f (Nat.add ap q) (Nat.mul (Nat.add n m) r) t) (.av h.next 0 (Nat.add n m) none)) (lN rows n (q.div r)))
        show bg.next h (grown h b f ap bo _ _ _)
        rw [e]
        have hle:h.next≤h1.next:=by omega
        cases q.beq 0 with
        |true=>simp only [cond_true,iI];exact GD hle
        |false=>
         rw [cond_false]
         cases lN rows n (q.div r) with
         |none=>trivial
         |some old=>simp only [iI];exact GD hle
    |_=>trivial
theorem KP {r bytes m:Nat} {s:V} {new:List V}:bg.next h (gk h r bytes s new m):=by
 unfold gk
 split
 · cases m.beq 0 with
   |true=>exact Nat.le_refl _
   |false=>
    rw [cond_false]
    cases (Nat.mul m bytes).ble 1099511627776 with
    |false=>trivial
    |true=>simp only [cond_true,force_eq,iI];exact GD (Nat.le_refl _)
 · cases m.beq 0 with
   |true=>exact Nat.le_refl _
   |false=>exact YK
 · trivial
theorem PU {b o m r:Nat} {l:Option (List V)}:bg.next h (wi h b o m r l):=by
 cases l with
 |none=>trivial
 |some l=>exact yi (Nat.le_refl _)
theorem PV {r:bg} (hr:bg.next h r):bg.next h (se h r):=by
 cases r with
 |ok v aB=>exact hr
 |du v aB=>exact hr
 |bad=>trivial
theorem KQ (ax:mn call) (e:oo):bg.next h (hK e call ev h):=by
 have yj:∀f as_,bg.next h (call f as_ .none h).1:=fun f as_=>ax f as_ .none h
 cases e with
 |store n a x=>
  show bg.next h (Option.rec .bad (fun p=>Option.rec .bad (fun l=>Bool.rec .bad (h.ef p.1 p.2 n l .bad fun h=> .ok un h) ((cZ l).beq n)) (ev x).dY) (ev a).mM:bg)
  cases (ev a).mM with
  |none=>trivial
  |some p=>
   show bg.next h (Option.rec .bad (fun l=>Bool.rec .bad (h.ef p.1 p.2 n l .bad fun h=> .ok un h) ((cZ l).beq n)) (ev x).dY:bg)
   cases (ev x).dY with
   |none=>trivial
   |some l=>
    show bg.next h (Bool.rec .bad (h.ef p.1 p.2 n l .bad fun h=> .ok un h) ((cZ l).beq n):bg)
    cases (cZ l).beq n with
    |false=>trivial
    |true=>exact yi (Nat.le_refl _)
 |zW q m k v=>
  show bg.next h (match ev m with
   | .map b=>bif b.blt 8 then .bad else Obj.map? .bad (fun es c=>Option.rec .bad (fun y=>hU y.1 fun l=>force y.2 fun c=>h.kG b (.map l c) fun h=> .ok un h) ((ev k).force fun x=>(ev v).force fun v=>xS (wh q) x v c es)) (h.obj b)
   |_=> .bad)
  split
  · rename_i b _
    cases b.blt 8 with
    |true=>trivial
    |false=>
    simp only [cond_false]
    cases h.obj b with
    |none=>trivial
    |some aO=>
     cases aO with
     |map es c=>
      show bg.next h (Option.rec .bad (fun y=>hU y.1 fun l=>force y.2 fun c=>h.kG b (.map l c) fun h=> .ok un h) ((ev k).force fun x=>(ev v).force fun v=>xS (wh q) x v c es):bg)
      cases ((ev k).force fun x=>(ev v).force fun v=>xS (wh q) x v c es) with
      |none=>trivial
      |some y=>simp only [nE,force_eq,sk];exact Nat.le_refl _
     |_=>trivial
  · trivial
 |call f as_=>exact PV (yj f _)
 |sb x as_=>
  show bg.next h (Option.rec .bad (fun x=>se h (call x.1 (gd x.2.1 (gd (h8 as_ ev) x.2.2)) .none h).1) (ev x).zU:bg)
  cases (ev x).zU with
  |none=>trivial
  |some y=>exact PV (yj _ _)
 |append r bytes s x=>
  show bg.next h (match ev x with
   | .U=>gk h r bytes (ev s) [] 0
   | .av b o m _=>Option.rec .bad (fun new=>gk h r bytes (ev s) new m) (h.load b o (Nat.mul m r))
   | .str m a=>bif r.beq 1 then gk h r bytes (ev s) (nD (gZ m a)) m else .bad
   |_=> .bad)
  split
  · exact KP
  · rename_i b o m _ _
    cases h.load b o (Nat.mul m r) with
    |none=>trivial
    |some l=>exact KP
  · cases r.beq 1 with
    |false=>trivial
    |true=>exact KP
  · trivial
 |copy r d s=>
  show bg.next h (match ev d with
   | .U=>(match ev s with
     | .U| .av .. | .str .. =>bg.ok (.int .i64 (.ofNat 0)) h
     |_=> .bad)
   | .av b o n _=>(match ev s with
     | .U=> .ok (.int .i64 (.ofNat 0)) h
     | .av c q m _=>wi h b o (o5 m n) r (h.load c q (Nat.mul (o5 m n) r))
     | .str m a=>wi h b o (o5 m n) 1 (some (nC (o5 m n) (nD (gZ m a))))
     |_=> .bad)
   |_=> .bad)
  split
  · split<;>first|exact Nat.le_refl _|trivial
  · split
    · exact Nat.le_refl _
    · exact PU
    · exact PU
    · trivial
  · trivial
 |clear zero x=>
  show bg.next h (match ev x with
   | .U=> .ok un h
   | .av b o n _=>h.ef b o (Nat.mul n (cZ zero)) (rep n zero) .bad fun h=> .ok un h
   |_=> .bad)
  split
  · exact Nat.le_refl _
  · exact yi (Nat.le_refl _)
  · trivial
 |recover=>
  show bg.next h (match h.bI with
   | .some v=> .ok v ⟨h.t,h.next,h.bJ,h.ds, .recovered⟩
   |_=> .ok .kj h)
  split<;>exact Nat.le_refl _
 |defer x as_=>
  show bg.next h (match ev x with
   | .fn f first cap=> .ok un ⟨h.t,h.next,h.bJ,(.fn f first cap,h8 as_ ev)::h.ds,h.bI⟩
   |_=> .bad)
  split
  · exact Nat.le_refl _
  · trivial
 |panic x=>
  show bg.next h (match ev x with
   | .e8 t v=> .du (.e8 t v) h
   |_=> .bad)
  split
  · exact Nat.le_refl _
  · trivial
end
end
end Go.Eng
namespace Go.Eng
noncomputable section
section
variable {ev:dM} {h aB:ag} {v:V} {call:eU} {env env':Env} {k:uW} {x:X}
inductive YL (op:Op) (call:eU) (ev:dM) (env:Env) (h:ag) (k:uW) (r:bn):Prop where
 |val (e:h7) (v:V) (bA:op= .L e) (he:light e ev h= .val v) (hk:k v h=r)
 |new (e:h7) (aO:Obj) (v:V) (bA:op= .L e) (he:light e ev h= .new aO v) (au:0≤h.next) (aC:fv aO=true) (hk:k v (h.add aO)=r)
 |aE (e:oo) (v:V) (h1:ag) (bA:op= .H e) (he:hK e call ev h= .ok v h1) (hk:k v h1=r)
 |du (e:oo) (v:V) (h1:ag) (bA:op= .H e) (he:hK e call ev h= .du v h1) (hr:r= .ok (.du v) env h1)
theorem PW {op:Op} {r:bn} (hr:r≠.bad) (he:tr op call ev env h k=r):YL op call ev env h k r:=by
 cases op with
 |L e=>
  have he:(light e ev h).k h k=r:=he
  generalize au:light e ev h=KR at he
  cases KR with
  |val v=>
   have he:v.force (fun v=>k v h)=r:=he
   rw [V.force_eq] at he
   exact .val e v rfl au he
  |new o v=>
   have he:(Bool.rec .bad (h.la o fun h=>k v h) (fv o):bn)=r:=he
   cases ax:(fv o) with
   |false=>rw [ax] at he;exact absurd he.symm hr
   |true=>
    rw [ax,oA] at he
    exact .new e o v rfl au (Nat.zero_le _) ax he
  |bad=>exact absurd (show bn.bad=r from he).symm hr
 |H e=>
  have he:(hK e call ev h).k env k=r:=he
  generalize b4:hK e call ev h=KR at he
  cases KR with
  |ok v h1=>
   have he:v.force (fun v=>k v h1)=r:=he
   rw [V.force_eq] at he
   exact .aE e v h1 rfl b4 he
  |du v h1=>exact .du e v h1 rfl b4 (show bn.ok (.du v) env h1=r from he).symm
  |bad=>exact absurd (show bn.bad=r from he).symm hr
def bn.next (h:ag):bn→Prop
 | .ok _ _ aB=>h.next≤aB.next
 | .bad=>True
theorem KS (ax:mn call) {op:Op} (hk:∀v h1,h.next≤h1.next→bn.next h (k v h1)):bn.next h (tr op call ev env h k):=by
 generalize hr:tr op call ev env h k=r
 cases r with
 |bad=>trivial
 |ok x env' aB=>
  rcases PW (by simp) hr with ⟨e,v,bA,he,bu⟩|⟨e,aO,v,bA,he,au,aC,bu⟩|⟨e,v,h1,bA,he,bu⟩|⟨e,v,h1,bA,he,bu⟩
  · rw [←bu];exact hk v h (Nat.le_refl _)
  · rw [←bu];exact hk v _ (Nat.le_succ _)
  · rw [←bu];refine hk v h1 ?_
    have:=KQ (ev:=ev) (h:=h) ax e;rw [he] at this;exact this
  · cases bu
    have:=KQ (ev:=ev) (h:=h) ax e;rw [he] at this;exact this
theorem bn.yk {h h1:ag} {r:bn} (YM:h.next≤h1.next) (hr:bn.next h1 r):bn.next h r:=by
 cases r with
 |bad=>trivial
 |ok x env aB=>exact Nat.le_trans YM hr
theorem KT (ax:mn call):∀(l:List dp) (vs:List V) (env:Env) (h:ag),bn.next h (e9 l call vs env h)
 |[],vs,env,h=>Nat.le_refl _
 |o::l,vs,env,h=>by
  have bt:=KT ax l
  have plain:∀op,bn.next h (uX op (e9 l) call vs env h):=fun op=>KS ax fun v h1 hn=>bn.yk hn (bt _ _ _)
  have slot:∀i j op,bn.next h (xU i j op (e9 l) call vs env h):=fun i j op=>KS ax fun v h1 hn=>by rw [Env.iY];exact bn.yk hn (bt _ _ _)
  cases o with
  |p op=>exact plain op
  |s i j op=>exact slot i j op
  |g g b op=>
   show bn.next h (Option.rec .bad (fun c=>Bool.rec (e9 l call (un::vs) env h) (uX op (e9 l) call vs env h) c) ((g.ev vs env).dy b):bn)
   cases (g.ev vs env).dy b with
   |none=>trivial
   |some c=>
    show bn.next h (Bool.rec (e9 l call (un::vs) env h) (uX op (e9 l) call vs env h) c:bn)
    cases c with
    |false=>exact bt _ _ _
    |true=>exact plain op
  |gs g b i j op=>
   show bn.next h (Option.rec .bad (fun c=>Bool.rec (Env.dF i j un (fun env=>e9 l call (un::vs) env h) env) (xU i j op (e9 l) call vs env h) c) ((g.ev vs env).dy b):bn)
   cases (g.ev vs env).dy b with
   |none=>trivial
   |some c=>
    show bn.next h (Bool.rec (Env.dF i j un (fun env=>e9 l call (un::vs) env h) env) (xU i j op (e9 l) call vs env h) c:bn)
    cases c with
    |false=>rw [Env.iY];exact bt _ _ _
    |true=>exact slot i j op
end
end
end Go.Eng
namespace Go.Eng
noncomputable section
def YN:oo→Bool
 | .recover=>false
 | .defer .. =>false
 |_=>true
def nL (P:Program) (F:cP) (o:Go.Op):Op→Bool
 | .L e=>dI P (pg F) o e
 | .H e=>YN e&&rk P (pg F) o e
def sv (ι:bb) (h:ag) (w:World) (r:bg) (e:Ending) (w':World):Prop:=
 match r,e with
 | .ok v aB, .returned v'=>∃bk,dL ι h w bk aB w'∧bL bk v v'
 | .du v aB, .panicked GF=>∃v' bk,GF=[{v:=v',recovered:=false}]∧dL ι h w bk aB w'∧bL bk v v'
 |_,_=>False
def bg.free (ι:bb) (h:ag):bg→Prop
 | .ok _ aB=>jV ι h aB
 | .du _ aB=>jV ι h aB
 | .bad=>False
def ph (P:Program) (f:Nat):Prop:=∃fn,P.funcs[f]? =some fn∧(fn.name== "runtime.NumGoroutine")=false∧fn.body.isSome=true
def rp (P:Program) (call:eU):Prop:=
 ∀f as_ h,(call f as_ .none h).1≠.bad→ph P f∧∀ι w (args:Array Value),Good ι h w→bg.free ι h (call f as_ .none h).1→cE ι as_ args.toList→Calls P f args w (sv ι h w (call f as_ .none h).1)
section
variable {P:Program} {ι:bb} {h aB:ag} {w:World} {F:cP} {vs:List V} {env bl:Env} {a:Act} {o:Oper} {v:V} {call:eU}
theorem YO {f:Nat} (hb:ph P f) (args:Array Value):(callFunc f args).run P w= .ok (.enter f args) w:=by
 obtain ⟨fn,h1,h2,bj⟩:=hb
 cases kO:fn.body with
 |none=>rw [kO] at bj;cases bj
 |some c=>
  have Ah:¬fn.name= "runtime.NumGoroutine" :=by simpa using h2
  simp [callFunc,h1,Ah,kO,Result.andThen]
theorem Good.back {ι:bb} {h h1:ag} {w:World} (g:Good ι h1 w):Good ι (back h h1) w:=⟨g.obj,g.lb,g.same,g.c7,g.last,g.iz,g.mem,g.lim,g.lQ,g.small,g.u0,g.o9⟩
theorem dL.back {ι bk:bb} {h h0 h1:ag} {w w':World} (c:dL ι h w bk h1 w'):dL ι h w bk (back h0 h1) w':=⟨c.gm.back,c.frame,c.ext,c.sep⟩
theorem YP {f:Nat} {args:Array Value} {as_:List V} {next:Act→World→Prop} {Q:Exit→Act→World→Prop} (er:rp P call) (g:Good ι h w) (jt:(execOp a.eval o).run P w= .ok (.enter f args) w)
  (bO:(call f as_ .none h).1≠.bad) (gx:bg.free ι h (call f as_ .none h).1) (hr:cE ι as_ args.toList)
  (hok:∀h1 v v' bk w',(call f as_ .none h).1= .ok v h1→dL ι h w bk h1 w'→bL bk v v'→next (a.put o.dst v') w')
  (tJ:∀h1 v v' bk w',(call f as_ .none h).1= .du v h1→dL ι h w bk h1 w'→bL bk v v'→Q (.panic [{v:=v',recovered:=false}]) a w'):o.wp P a w next Q:=by
 unfold Oper.wp
 rw [jt,Oper.upon_enter]
 refine Calls.mono (((er f as_ h bO).2 ι w args g gx hr)) fun e w' he=> ?_
 generalize hres:(call f as_ .none h).1=r at he hok tJ
 cases r with
 |bad=>exact absurd hres bO
 |ok v1 h1=>
  cases e with
  |returned v'=>obtain ⟨bk,c,aE⟩:=he;exact hok h1 v1 v' bk w' rfl c aE
  |panicked GF=>exact he.elim
  |outgrown=>exact he.elim
 |du v1 h1=>
  cases e with
  |returned v'=>exact he.elim
  |panicked GF=>obtain ⟨v',bk,rfl,c,aE⟩:=he;exact tJ h1 v1 v' bk w' rfl c aE
  |outgrown=>exact he.elim
end
end
end Go.Eng
namespace Go.Eng
noncomputable section
section
variable {ev:dM} {h aB:ag} {v:V} {call:eU}
def jX (r:bg):Prop:=∀v h,r≠.du v h
theorem iK:jX .bad:=fun _ _ e=>by cases e
theorem tK {v:V} {h:ag}:jX (.ok v h):=fun _ _ e=>by cases e
theorem C9 {b o n:Nat} {vs:List V} {x:V}:jX (h.ef b o n vs .bad fun h=> .ok x h):=by
 rcases PS h b o n vs bg.bad (fun h=> .ok x h) with e|⟨h1,a,e⟩
 · rw [e];exact iK
 · rw [e];exact tK
theorem GG {o:Obj} {x:V}:jX (mk h o x):=by
 show jX (Bool.rec .bad (h.la o fun h=> .ok x h) (fv o))
 cases (fv o) with
 |false=>exact iK
 |true=>rw [oA];exact tK
theorem YQ {r bytes b q n m:Nat} {cap:Option Nat} {new:List V}:jX (q3 h r bytes b q n cap new m):=by
 unfold q3
 simp only [force_eq]
 cases ((Nat.mul (Nat.add n m) bytes).ble 1099511627776&&Nat.ble 8 b) with
 |false=>exact iK
 |true=>
  rw [cond_true]
  cases cap with
  |some c=>
   show jX (bif (Nat.add n m).ble c then _ else _)
   cases (Nat.add n m).ble c with
   |true=>exact C9
   |false=>
    show jX (Option.rec .bad _ (h.load b q (Nat.mul n r)))
    cases h.load b q (Nat.mul n r) with
    |none=>exact iK
    |some old=>simp only [iI];exact GG
  |none=>
   show jX (Obj.cells? .bad _ (h.obj b))
   cases h.obj b with
   |none=>exact iK
   |some aO=>
    cases aO with
    |cells eT f ap bo rows=>
     show jX (bif eT.beq r&&(q.mod r).beq 0 then _ else .bad)
     cases (eT.beq r&&(q.mod r).beq 0) with
     |false=>exact iK
     |true=>
      rw [cond_true]
      cases (Nat.add q (Nat.mul (Nat.add n m) r)).ble bo with
      |true=>exact C9
      |false=>
       rw [cond_false]
       cases (Nat.add q (Nat.mul n r)).ble bo with
       |false=>exact iK
       |true=>
        rw [cond_true]
        obtain ⟨h1,a,e⟩:=PT h b f ap bo (Nat.add (Nat.add ap q) (Nat.mul n r)) (Nat.add (Nat.add ap q) (Nat.mul (Nat.add n m) r)) (fun h1=>
         bif q.beq 0 then gQ r m n new rows fun t=>mk h1 (.cells r f ap (Nat.mul (Nat.add n m) r) t) (.av h.next 0 (Nat.add n m) none)
         else Option.rec .bad (fun old=>gQ r (Nat.add n m) 0 (gd old new) T.e fun t=>mk h1 (.cells r f (Nat.add ap q) (Nat.mul (Nat.add n m) r) t) (.av h.next 0 (Nat.add n m) none)) (lN rows n (q.div r)))
        show jX (grown h b f ap bo _ _ _)
        rw [e]
        cases q.beq 0 with
        |true=>simp only [cond_true,iI];exact GG
        |false=>
         rw [cond_false]
         cases lN rows n (q.div r) with
         |none=>exact iK
         |some old=>simp only [iI];exact GG
    |_=>exact iK
theorem KU {r bytes m:Nat} {s:V} {new:List V}:jX (gk h r bytes s new m):=by
 unfold gk
 split
 · cases m.beq 0 with
   |true=>exact tK
   |false=>
    rw [cond_false]
    cases (Nat.mul m bytes).ble 1099511627776 with
    |false=>exact iK
    |true=>simp only [cond_true,force_eq,iI];exact GG
 · cases m.beq 0 with
   |true=>exact tK
   |false=>exact YQ
 · exact iK
theorem PX {b o m r:Nat} {l:Option (List V)}:jX (wi h b o m r l):=by
 cases l with
 |none=>exact iK
 |some l=>exact C9
def YR:oo→Bool
 | .call .. | .sb .. | .panic .. =>true
 |_=>false
theorem YS (e:oo) (hp:YR e=false):jX (hK e call ev h):=by
 cases e with
 |store n a x=>
  show jX (Option.rec .bad (fun p=>Option.rec .bad (fun l=>Bool.rec .bad (h.ef p.1 p.2 n l .bad fun h=> .ok un h) ((cZ l).beq n)) (ev x).dY) (ev a).mM:bg)
  cases (ev a).mM with
  |none=>exact iK
  |some p=>
   show jX (Option.rec .bad (fun l=>Bool.rec .bad (h.ef p.1 p.2 n l .bad fun h=> .ok un h) ((cZ l).beq n)) (ev x).dY:bg)
   cases (ev x).dY with
   |none=>exact iK
   |some l=>
    show jX (Bool.rec .bad (h.ef p.1 p.2 n l .bad fun h=> .ok un h) ((cZ l).beq n):bg)
    cases (cZ l).beq n with
    |false=>exact iK
    |true=>exact C9
 |zW q m k v=>
  show jX (match ev m with
   | .map b=>bif b.blt 8 then .bad else Obj.map? .bad (fun es c=>Option.rec .bad (fun y=>hU y.1 fun l=>force y.2 fun c=>h.kG b (.map l c) fun h=> .ok un h) ((ev k).force fun x=>(ev v).force fun v=>xS (wh q) x v c es)) (h.obj b)
   |_=> .bad)
  split
  · rename_i b _
    cases b.blt 8 with
    |true=>exact iK
    |false=>
    simp only [cond_false]
    cases h.obj b with
    |none=>exact iK
    |some aO=>
     cases aO with
     |map es c=>
      show jX (Option.rec .bad (fun y=>hU y.1 fun l=>force y.2 fun c=>h.kG b (.map l c) fun h=> .ok un h) ((ev k).force fun x=>(ev v).force fun v=>xS (wh q) x v c es):bg)
      cases ((ev k).force fun x=>(ev v).force fun v=>xS (wh q) x v c es) with
      |none=>exact iK
      |some y=>simp only [nE,force_eq,sk];exact tK
     |_=>exact iK
  · exact iK
 |call f as_=>cases hp
 |sb x as_=>cases hp
 |append r bytes s x=>
  show jX (match ev x with
   | .U=>gk h r bytes (ev s) [] 0
   | .av b o m _=>Option.rec .bad (fun new=>gk h r bytes (ev s) new m) (h.load b o (Nat.mul m r))
   | .str m a=>bif r.beq 1 then gk h r bytes (ev s) (nD (gZ m a)) m else .bad
   |_=> .bad)
  split
  · exact KU
  · rename_i b o m _ _
    cases h.load b o (Nat.mul m r) with
    |none=>exact iK
    |some l=>exact KU
  · cases r.beq 1 with
    |false=>exact iK
    |true=>exact KU
  · exact iK
 |copy r d s=>
  show jX (match ev d with
   | .U=>(match ev s with
     | .U| .av .. | .str .. =>bg.ok (.int .i64 (.ofNat 0)) h
     |_=> .bad)
   | .av b o n _=>(match ev s with
     | .U=> .ok (.int .i64 (.ofNat 0)) h
     | .av c q m _=>wi h b o (o5 m n) r (h.load c q (Nat.mul (o5 m n) r))
     | .str m a=>wi h b o (o5 m n) 1 (some (nC (o5 m n) (nD (gZ m a))))
     |_=> .bad)
   |_=> .bad)
  split
  · split<;>first|exact tK|exact iK
  · split
    · exact tK
    · exact PX
    · exact PX
    · exact iK
  · exact iK
 |clear zero x=>
  show jX (match ev x with
   | .U=> .ok un h
   | .av b o n _=>h.ef b o (Nat.mul n (cZ zero)) (rep n zero) .bad fun h=> .ok un h
   |_=> .bad)
  split
  · exact tK
  · exact C9
  · exact iK
 |recover=>
  show jX (match h.bI with
   | .some v=> .ok v ⟨h.t,h.next,h.bJ,h.ds, .recovered⟩
   |_=> .ok .kj h)
  split<;>exact tK
 |defer x as_=>
  show jX (match ev x with
   | .fn f first cap=> .ok un ⟨h.t,h.next,h.bJ,(.fn f first cap,h8 as_ ev)::h.ds,h.bI⟩
   |_=> .bad)
  split
  · exact tK
  · exact iK
 |panic x=>cases hp
end
end
end Go.Eng
namespace Go.Eng
noncomputable section
section
variable {P:Program} {ι:bb} {h aB:ag} {w:World} {F:cP} {vs:List V} {env bl:Env} {a:Act} {o:Oper} {v:V} {call:eU}
theorem YT {y:Operand} {o:Oper} {c:Call} (hx:o.op= .call c) (ax:c.callee= .value y) {f:Nat} {xs ys:Array Value} (hy:a.eval y= .func (.func f) xs ys) (hb:ph P f):
  (execOp a.eval o).run P w= .ok (.enter f (xs++(c.args.map a.eval++ys))) w:=by
 have:=YO (P:=P) (w:=w) hb (xs++(c.args.map a.eval++ys))
 simp [execOp,hx,resolve,ax,hy,Deferred.ofValue,invoke,this,Result.andThen]
theorem YU {x:V} {p:Nat×List V×List V} (h:x.zU=some p):x= .fn p.1 p.2.1 p.2.2:=by
 cases x<;>first|(cases h;done)|skip
 cases h;rfl
theorem YV (as_:List A) (ev:dM):h8 as_ ev=as_.map ev:=by
 induction as_ with
 |nil=>rfl
 |cons b as_ bt=>show ev b::h8 as_ ev=_;rw [bt];rfl
theorem PY (er:rp P call) (g:Good ι h w) {f:Nat} {l m:List V} {as_:List A} {xs ys:Array Value} {c:Call} {y:Operand} (bA:∀x b,pg F x b=true→bL ι (A.ev b vs env) (a.eval x)) (hx:o.op= .call c) (ax:c.callee= .value y) (hy:a.eval y= .func (.func f) xs ys)
  (au:cE ι l xs.toList) (hm:cE ι m ys.toList) (has:tz (pg F) c.args.toList as_=true)
  {next:Act→World→Prop} {Q:Exit→Act→World→Prop} {r:bg} (hr:se h (call f (gd l (gd (h8 as_ fun x=>x.ev vs env) m)) .none h).1=r) (bO:r≠.bad) (gx:bg.free ι h r)
  (tL:∀h1 v v' bk w',r= .ok v h1→dL ι h w bk h1 w'→bL bk v v'→next (a.put o.dst v') w')
  (tJ:∀h1 v v' bk w',r= .du v h1→dL ι h w bk h1 w'→bL bk v v'→Q (.panic [{v:=v',recovered:=false}]) a w'):o.wp P a w next Q:=by
 generalize hres:(call f (gd l (gd (h8 as_ fun x=>x.ev vs env) m)) .none h).1=q at hr
 have bC:q≠.bad:=by intro e;subst e;exact bO hr.symm
 have hb:=(er f (gd l (gd (h8 as_ fun x=>x.ev vs env) m)) h (by rw [hres];exact bC)).1
 have jt:=YT (P:=P) (w:=w) hx ax hy hb
 refine YP er g jt (by rw [hres];exact bC) ?_ ?_ ?_ ?_
 · rw [hres]
   cases q with
   |ok v1 h1=>subst hr;exact gx
   |du v1 h1=>subst hr;exact gx
   |bad=>exact absurd rfl bC
 · rw [pZ,pZ,YV]
   rw [Array.toList_append,Array.toList_append,Array.toList_map]
   exact au.append ((Gh bA _ _ has).append hm)
 · intro h1 v v' bk w' b4 rl aE
   rw [hres] at b4;subst b4;subst hr
   exact tL _ v v' bk w' rfl rl.back aE
 · intro h1 v v' bk w' b4 rl aE
   rw [hres] at b4;subst b4;subst hr
   exact tJ _ v v' bk w' rfl rl.back aE
theorem PZ (er:rp P call) (dE:mn call) (g:Good ι h w) (s:h9 ι F vs env bl a.tmps) {e:oo} (hok:nL P F o.op (.H e)=true)
  {next:Act→World→Prop} {Q:Exit→Act→World→Prop}
  (hres:hK e call (fun x=>x.ev vs env) h≠.bad) (gx:bg.free ι h (hK e call (fun x=>x.ev vs env) h))
  (tL:∀h1 v v' bk w',hK e call (fun x=>x.ev vs env) h= .ok v h1→dL ι h w bk h1 w'→bL bk v v'→next (a.put o.dst v') w')
  (tJ:∀h1 v v' bk w',hK e call (fun x=>x.ev vs env) h= .du v h1→dL ι h w bk h1 w'→bL bk v v'→Q (.panic [{v:=v',recovered:=false}]) a w'):o.wp P a w next Q:=by
 have bA:=ve s
 simp only [nL,Bool.and_eq_true] at hok
 obtain ⟨pj,hok⟩:=hok
 have fin:∀v h1,hK e call (fun x=>x.ev vs env) h= .ok v h1→yb P ι h w a.eval o v h1→o.wp P a w next Q:=by
  rintro v h1 b4 ⟨n,v',bk,w',cH,c6,gI,nc⟩
  unfold Oper.wp
  rw [cH]
  rcases c6 with rfl|⟨rfl,rfl⟩
  · exact tL h1 v v' bk w' b4 gI nc
  · exact tL h1 v undef bk w' b4 gI nc
 have calls:(∃f as_,e= .call f as_)∨(∃x as_,e= .sb x as_)→o.wp P a w next Q:=by
  rintro (⟨f,as_,rfl⟩|⟨x,as_,rfl⟩)
  · simp only [rk] at hok
    split at hok
    · rename_i dG args argTypes hx
      simp only [Bool.and_eq_true,decide_eq_true_eq] at hok
      obtain ⟨rfl,_,has⟩:=hok
      exact PY er g (l:=[]) (m:=[]) (as_:=as_) (xs:= #[]) (ys:= #[]) bA hx rfl rfl rfl rfl has (by
       show se h (call dG (gd [] (gd (h8 as_ fun x=>x.ev vs env) [])) .none h).1=hK (.call dG as_) call (fun x=>x.ev vs env) h
       rw [pZ,pZ,List.append_nil,List.nil_append];rfl) hres gx tL tJ
    · cases hok
  · simp only [rk] at hok
    split at hok
    · rename_i y args argTypes hx
      simp only [Bool.and_eq_true] at hok
      obtain ⟨hy,has⟩:=hok
      have P0:=bA _ _ hy
      have b4:hK (.sb x as_) call (fun x=>x.ev vs env) h=(Option.rec .bad (fun x=>se h (call x.1 (gd x.2.1 (gd (h8 as_ fun x=>x.ev vs env) x.2.2)) .none h).1) (A.ev x vs env).zU:bg):=rfl
      cases hf:(A.ev x vs env).zU with
      |none=>rw [hf] at b4;exact absurd b4 hres
      |some p=>
       rw [YU hf] at P0
       obtain ⟨xs,ys,aT,bu,dH⟩:=P0
       rw [hf] at b4
       exact PY er g bA hx rfl aT bu dH has b4.symm hres gx tL tJ
    · cases hok
 cases b4:hK e call (fun x=>x.ev vs env) h with
 |bad=>exact absurd b4 hres
 |ok v h1=>
  have YW:jV ι h h1:=by rw [b4] at gx;exact gx
  cases e with
  |store n x y=>exact fin v h1 b4 (Yn g bA hok b4)
  |zW q m k u=>exact fin v h1 b4 (Yo g bA hok b4)
  |append r b x y=>exact fin v h1 b4 (YE g YW bA hok b4)
  |copy r x y=>exact fin v h1 b4 (YH g bA hok b4)
  |clear z x=>exact fin v h1 b4 (YF g bA hok b4)
  |recover=>cases pj
  |defer x as_=>cases pj
  |panic x=>
   have b4:(match A.ev x vs env with
    | .e8 t v=>bg.du (.e8 t v) h
    |_=> .bad)=bg.ok v h1:=b4
   split at b4<;>cases b4
  |call f as_=>exact calls (.inl ⟨_,_,rfl⟩)
  |sb x as_=>exact calls (.inr ⟨_,_,rfl⟩)
 |du v h1=>
  cases e with
  |call f as_=>exact calls (.inl ⟨_,_,rfl⟩)
  |sb x as_=>exact calls (.inr ⟨_,_,rfl⟩)
  |panic x=>
   have KV:(match A.ev x vs env with
    | .e8 t v=>bg.du (.e8 t v) h
    |_=> .bad)=bg.du v h1:=b4
   split at KV
   · rename_i t u hx
     cases KV
     simp only [rk] at hok
     split at hok
     · rename_i gR Ax
       have hr:=bA _ _ hok
       rw [hx] at hr
       obtain ⟨y,hy,aE⟩:=hr
       unfold Oper.wp
       have:(execOp a.eval o).run P w= .halt (.panic (.iface t y)) w:=by simp [execOp,Ax,hy,Instr.panic,Result.andThen]
       rw [this]
       exact tJ h _ (.iface t y) ι w b4 (dL.refl g) ⟨y,rfl,aE⟩
     · cases hok
   · cases KV
  |_=>exact absurd b4 (YS _ rfl _ _)
end
end
end Go.Eng
namespace Go.Eng
noncomputable section
section
variable {P:Program} {ι:bb} {h aB:ag} {w:World} {F:cP} {vs:List V} {env bl env':Env} {a:Act} {o:Oper} {v:V} {call:eU} {x:X}
theorem P1 (er:rp P call) (dE:mn call) (g:Good ι h w) (s:h9 ι F vs env bl a.tmps) {op:Op} (hok:nL P F o.op op=true) {k:uW} {next:Act→World→Prop} {Q:Exit→Act→World→Prop}
  (he:tr op call (fun x=>x.ev vs env) env h k= .ok x env' aB) (gx:jV ι h aB) (hk:∀v h1,bn.next h1 (k v h1))
  (tL:∀h1 v v' bk w',k v h1= .ok x env' aB→dL ι h w bk h1 w'→jV bk h1 aB→h1.next≤aB.next→bL bk v v'→next (a.put o.dst v') w')
  (tJ:∀v v' bk w',x= .du v→env'=env→dL ι h w bk aB w'→bL bk v v'→Q (.panic [{v:=v',recovered:=false}]) a w'):o.wp P a w next Q:=by
 have hle:∀v h1,k v h1= .ok x env' aB→h1.next≤aB.next:=fun v h1 e=>by have:=hk v h1;rw [e] at this;exact this
 rcases PW (by simp) he with ⟨e,v,rfl,au,bu⟩|⟨e,aO,v,rfl,au,hlt,aC,bu⟩|⟨e,v,h1,rfl,b4,bu⟩|⟨e,v,h1,rfl,b4,bu⟩
 · obtain ⟨v',r1,gl⟩:=PA (P:=P) (w:=w) g (ve s) hok au
   unfold Oper.wp;rw [r1]
   exact tL h v v' ι w bu (dL.refl g) gx (hle _ _ bu) gl
 · have hlen:=hle _ _ bu
   have hf:ι h.next=none:=gx _ (Nat.le_refl _) (Nat.lt_of_lt_of_le (Nat.lt_succ_self _) hlen)
   obtain ⟨v',w',B,r1,gl,lk⟩:=PB (P:=P) (w:=w) (ve s) hok au aC
   unfold Oper.wp;rw [r1]
   have c:=gl.mm g hf hlt
   exact tL _ v v' _ w' bu c (gx.right c.ext) hlen lk
 · have hn:=KQ (ev:=fun x=>A.ev x vs env) (h:=h) dE e
   rw [b4] at hn
   have hlen:=hle _ _ bu
   refine PZ er dE g s hok (by rw [b4];simp) (by rw [b4];exact gx.left hlen) (fun h2 u qf bk w' sw c aE=> ?_) (fun h2 u qf bk w' sw _ _=>by rw [b4] at sw;cases sw)
   rw [b4] at sw;cases sw
   exact tL _ _ qf bk w' bu c (gx.right c.ext) hlen aE
 · cases bu
   refine PZ er dE g s hok (by rw [b4];simp) (by rw [b4];exact gx) (fun h2 u qf bk w' sw _ _=>by rw [b4] at sw;cases sw) (fun h2 u qf bk w' sw c aE=> ?_)
   rw [b4] at sw;cases sw
   exact tJ _ qf bk w' rfl rfl c aE
end
end
end Go.Eng
namespace Go.Eng
noncomputable section
def pk (N:Nat):Option Nat→Bool
 |some d=>decide (d<N)
 |none=>true
def nM (F:cP) (N:Nat) (ops:Array Oper) (o:Oper):Option (A×Bool)→Bool
 |none=>o.guard==none
 |some (a,b)=>(match o.guard with
  |some (i,bT)=>bT==b&&(match (ops[i]?).bind (·.dst) with|some t=>decide (t<N)&&pg F (.tmp t) a|none=>false)
  |none=>false)
def qg (P:Program) (N iH:Nat) (ops:Array Oper):List Oper→Nat→List dp→cP→Option cP
 |[],_,[],F=>some F
 |[],_,_::_,_=>none
 |o::os,i,l,F=>
  if iH.testBit i then
   match l with
   |[]=>none
   | .p op::l=>if pk N o.dst&&(nM F N ops o none&&nL P F o.op op) then qg P N iH ops os (i+1) l (F.push o.dst none) else none
   | .s x y op::l=>if pk N o.dst&&(nM F N ops o none&&nL P F o.op op) then qg P N iH ops os (i+1) l (F.push o.dst (some (x,y))) else none
   | .g g b op::l=>if pk N o.dst&&(nM F N ops o (some (g,b))&&nL P F o.op op) then qg P N iH ops os (i+1) l (F.push o.dst none) else none
   | .gs g b x y op::l=>if pk N o.dst&&(nM F N ops o (some (g,b))&&nL P F o.op op) then qg P N iH ops os (i+1) l (F.push o.dst (some (x,y))) else none
  else match o.guard,o.dst,o.op with
   |none,some d, .move x=>if d<N then qg P N iH ops os (i+1) l (F.move d x) else none
   |none,some d, .assign x=>if d<N then qg P N iH ops os (i+1) l (F.move d x) else none
   |_,_,_=>none
end
end Go.Eng
namespace Go.Eng
noncomputable section
section
variable {P:Program} {ι:bb} {h aB:ag} {w:World} {F F':cP} {vs:List V} {env bl env':Env} {a:Act} {o:Oper} {v:V} {call:eU} {x:X} {N iH:Nat} {ops:Array Oper}
theorem Da {dst:Option Nat} {y:Value}:(a.put dst y).tmps.size=a.tmps.size:=by cases dst<;>simp [Act.put]
theorem put_defers {dst:Option Nat} {y:Value}:(a.put dst y).defers=a.defers:=by cases dst<;>rfl
theorem yl {dst:Option Nat} (h:pk N dst=true) (aC:a.tmps.size=N):∀d,dst=some d→d<a.tmps.size:=by
 intro d e;subst e;rw [aC];simpa [pk] using h
theorem KW (h:nM F N ops o none=true) (y:Nat→Option Bool):Region.wanted o y=true:=by
 have h:(o.guard==none)=true:=h
 have h:o.guard=none:=by simpa using h
 simp [Region.wanted,h]
theorem V.YX {u:V} {b c:Bool} (h:u.dy b=some c):(∃d,u= .bool d∧c=(b==d))∨(∃l,u= .dD l∧c=false):=by
 cases u<;>first|(cases h;done)|skip
 · cases h;exact .inl ⟨_,rfl,rfl⟩
 · cases h;exact .inr ⟨_,rfl,rfl⟩
theorem KX (s:h9 ι F vs env bl a.tmps) (aC:a.tmps.size=N) {g:A} {b c:Bool} (h:nM F N ops o (some (g,b))=true) (hg:(A.ev g vs env).dy b=some c):Region.wanted o (yielded ops a.tmps)=c:=by
 simp only [nM] at h
 cases qh:o.guard with
 |none=>simp [qh] at h
 |some p=>
  obtain ⟨i,bT⟩:=p
  simp only [qh,Bool.and_eq_true,beq_iff_eq] at h
  obtain ⟨rfl,h⟩:=h
  cases ht:(ops[i]?).bind (·.dst) with
  |none=>simp [ht] at h
  |some t=>
   simp only [ht,Bool.and_eq_true,decide_eq_true_eq] at h
   obtain ⟨hlt,ax⟩:=h
   have hr:=ve s _ _ ax
   have au:t<a.tmps.size:=Nat.lt_of_lt_of_eq hlt aC.symm
   rcases V.YX hg with ⟨d,he,rfl⟩|⟨l,he,rfl⟩
   · rw [he] at hr
     have hr:a.tmps.getD t undef= .bool d:=hr
     have hy:yielded ops a.tmps i=some d:=by
      have:a.tmps[t]? =some (.bool d):=by
       rw [Array.getElem?_eq_getElem au]
       simpa [Array.getD,au] using hr
      unfold yielded
      rw [ht]
      simp [this]
     simp only [Region.wanted,qh,hy]
     cases bT<;>cases d<;>rfl
   · rw [he] at hr
     obtain ⟨cs,hr,_⟩:=hr
     have hr:a.tmps.getD t undef= .tuple cs:=hr
     have hy:yielded ops a.tmps i=none:=by
      have:a.tmps[t]? =some (.tuple cs):=by
       rw [Array.getElem?_eq_getElem au]
       simpa [Array.getD,au] using hr
      unfold yielded
      rw [ht]
      simp [this]
     simp only [Region.wanted,qh,hy]
     cases bT<;>rfl
end
end
end Go.Eng
namespace Go.Eng
noncomputable section
section
variable {P:Program} {aB:ag} {bl env':Env} {call:eU} {x:X} {N iH:Nat} {ops:Array Oper} {Q:Exit→Act→World→Prop} {F':cP} {D:List Deferred}
theorem KY {rest:List Oper} {o:Oper} {a:Act} {w:World} (hw:Region.wanted o (yielded ops a.tmps)=true) (h:o.wp P a w (wpList P ops Q rest) Q):wpList P ops Q (o::rest) a w:=by
 unfold wpList;rw [if_pos hw];exact .inl h
theorem YY {rest:List Oper} {o:Oper} {a:Act} {w:World} (hw:Region.wanted o (yielded ops a.tmps)=false) (h:wpList P ops Q rest (a.put o.dst undef) w):wpList P ops Q (o::rest) a w:=by
 unfold wpList;rw [if_neg (by rw [hw];simp)];exact h
theorem Ay {F:cP} {dst:Option Nat} {av:Option (bx×bx)} (t:Nat) (h:dst≠some t):(F.push dst av).tmp t=F.tmp t:=by
 unfold cP.push cP.tmp
 cases dst with
 |none=>rfl
 |some d=>simp only [vf];rw [if_neg (by intro e;subst e;exact h rfl)]
theorem P2 {F:cP} {d t:Nat} {x:Operand} (h:d≠t):(F.move d x).tmp t=F.tmp t:=by
 unfold cP.move cP.tmp
 simp only [vf];rw [if_neg (Ne.symm h)]
theorem P3 (er:rp P call) (dE:mn call):∀(os:List Oper) (i:Nat) (l:List dp) (F:cP) (vs:List V) (env:Env) (a:Act) (w:World) (ι:bb) (h:ag),
  qg P N iH ops os i l F=some F'→e9 l call vs env h= .ok x env' aB→h9 ι F vs env bl a.tmps→a.tmps.size=N→a.defers=D→Good ι h w→jV ι h aB→
  (x= .nrm→∀bk nN bp w',dL ι h w bk aB w'→h9 bk F' nN env' bl bp.tmps→bp.tmps.size=N→bp.defers=D→Q .normal bp w')→
  (∀v,x= .du v→∀v' bk bp w',dL ι h w bk aB w'→bL bk v v'→bp.defers=D→bp.tmps.size=N→(∀t i j,(∀o∈os,o.dst≠some t)→F.tmp t=some (.slot i j)→bL bk (Env.get i j bl) (bp.tmps.getD t undef))→Q (.panic [{v:=v',recovered:=false}]) bp w')→wpList P ops Q os a w
 |[],i,[],F,vs,env,a,w,ι,h,ax,he,s,aC,aX,g,hf,fy,qi=>by
  cases ax
  have he:bn.ok .nrm env h= .ok x env' aB:=he
  cases he
  exact fy rfl ι vs a w (dL.refl g) s aC aX
 |[],i,_::_,F,vs,env,a,w,ι,h,ax,he,s,aC,aX,g,hf,fy,qi=>by cases ax
 |o::os,i,l,F,vs,env,a,w,ι,h,ax,he,s,aC,aX,g,hf,fy,qi=>by
  have bt:=P3 er dE os (i+1)
  have one:∀(op:Op) (aP:List dp) (sx:cP) (sy:V→Env),nL P F o.op op=true→qg P N iH ops os (i+1) aP sx=some F'→(∀t,o.dst≠some t→sx.tmp t=F.tmp t)→Region.wanted o (yielded ops a.tmps)=true→
    (∀v v' bk,ι.le bk→bL bk v v'→h9 bk sx (v::vs) (sy v) bl (a.put o.dst v').tmps)→
    tr op call (fun x=>x.ev vs env) env h (fun v h=>e9 aP call (v::vs) (sy v) h)= .ok x env' aB→wpList P ops Q (o::os) a w:=by
   intro op aP sx sy hok lU KZ hw e5 sz
   refine KY hw (P1 er dE g s hok sz hf (fun v h1=>KT dE _ _ _ _) (fun h1 v v' bk w' bu c nI hle aE=> ?_) (fun v v' bk w' ex _ c aE=>qi v ex v' bk a w' c aE aX aC (fun t i j _ ht=>(s.tmps t _ ht).mono c.ext.1)))
   refine bt aP sx (v::vs) (sy v) (a.put o.dst v') w' bk h1 lU bu (e5 v v' bk c.ext.1 aE) (Da.trans aC) (put_defers.trans aX) c.gm nI
    (fun hx ox fC a2 iq c2 s2 cH c6=>fy hx ox fC a2 iq (c.trans c2 (hf.left hle)) s2 cH c6)
    (fun u hx qf ox a2 iq c2 hu k ks ym=>qi u hx qf ox a2 iq (c.trans c2 (hf.left hle)) hu k ks (fun t i j hn ht=>ym t i j (fun o bq=>hn o (List.mem_cons_of_mem _ bq)) (by rw [KZ t (hn o (List.mem_cons_self ..))];exact ht)))
  have P4:∀(aP:List dp) (sx:cP) (sy:Env),qg P N iH ops os (i+1) aP sx=some F'→(∀t,o.dst≠some t→sx.tmp t=F.tmp t)→Region.wanted o (yielded ops a.tmps)=false→h9 ι sx (un::vs) sy bl (a.put o.dst undef).tmps→
    e9 aP call (un::vs) sy h= .ok x env' aB→wpList P ops Q (o::os) a w:=by
   intro aP sx sy lU KZ hw e5 sz
   exact YY hw (bt aP sx (un::vs) sy _ w ι h lU sz e5 (Da.trans aC) (put_defers.trans aX) g hf fy (fun u hx qf ox a2 iq c2 hu k ks ym=>qi u hx qf ox a2 iq c2 hu k ks (fun t i j hn ht=>ym t i j (fun o bq=>hn o (List.mem_cons_of_mem _ bq)) (by rw [KZ t (hn o (List.mem_cons_self ..))];exact ht))))
  unfold qg at ax
  by_cases hb:iH.testBit i=true
  · rw [if_pos hb] at ax
    cases l with
    |nil=>cases ax
    |cons r aP=>
     cases r with
     |p op=>
      simp only at ax
      split at ax
      · rename_i hk
        simp only [Bool.and_eq_true] at hk
        exact one op aP _ (fun _=>env) hk.2.2 ax Ay (KW hk.2.1 _) (fun v v' bk hle aE=>(s.mono hle).push aE (yl hk.1 aC)) he
      · cases ax
     |s p q op=>
      simp only at ax
      split at ax
      · rename_i hk
        simp only [Bool.and_eq_true] at hk
        refine one op aP _ (fun v=>Env.set p q v env) hk.2.2 ax Ay (KW hk.2.1 _) (fun v v' bk hle aE=>(s.mono hle).KO aE (yl hk.1 aC) p q) ?_
        have he:tr op call (fun x=>x.ev vs env) env h (fun v h=>Env.dF p q v (fun env=>e9 aP call (v::vs) env h) env)= .ok x env' aB:=he
        simpa only [Env.iY] using he
      · cases ax
     |g dy b op=>
      simp only at ax
      split at ax
      · rename_i hk
        simp only [Bool.and_eq_true] at hk
        have he:(Option.rec .bad (fun c=>Bool.rec (e9 aP call (un::vs) env h) (uX op (e9 aP) call vs env h) c) ((dy.ev vs env).dy b):bn)= .ok x env' aB:=he
        cases hg:(A.ev dy vs env).dy b with
        |none=>rw [hg] at he;cases he
        |some c=>
         rw [hg] at he
         have hw:=KX s aC hk.2.1 hg
         have he:(Bool.rec (e9 aP call (un::vs) env h) (uX op (e9 aP) call vs env h) c:bn)= .ok x env' aB:=he
         cases sA:c with
         |false=>rw [sA] at he hw;exact P4 aP _ env ax Ay hw (s.push yc (yl hk.1 aC)) he
         |true=>rw [sA] at he hw;exact one op aP _ (fun _=>env) hk.2.2 ax Ay hw (fun v v' bk hle aE=>(s.mono hle).push aE (yl hk.1 aC)) he
      · cases ax
     |gs dy b p q op=>
      simp only at ax
      split at ax
      · rename_i hk
        simp only [Bool.and_eq_true] at hk
        have he:(Option.rec .bad (fun c=>Bool.rec (Env.dF p q un (fun env=>e9 aP call (un::vs) env h) env) (xU p q op (e9 aP) call vs env h) c) ((dy.ev vs env).dy b):bn)= .ok x env' aB:=he
        cases hg:(A.ev dy vs env).dy b with
        |none=>rw [hg] at he;cases he
        |some c=>
         rw [hg] at he
         have hw:=KX s aC hk.2.1 hg
         have he:(Bool.rec (Env.dF p q un (fun env=>e9 aP call (un::vs) env h) env) (xU p q op (e9 aP) call vs env h) c:bn)= .ok x env' aB:=he
         cases sA:c with
         |false=>
          rw [sA] at he hw
          have he:Env.dF p q un (fun env=>e9 aP call (un::vs) env h) env= .ok x env' aB:=he
          rw [Env.iY] at he
          exact P4 aP _ _ ax Ay hw (s.KO yc (yl hk.1 aC) p q) he
         |true=>
          rw [sA] at he hw
          refine one op aP _ (fun v=>Env.set p q v env) hk.2.2 ax Ay hw (fun v v' bk hle aE=>(s.mono hle).KO aE (yl hk.1 aC) p q) ?_
          have he:tr op call (fun x=>x.ev vs env) env h (fun v h=>Env.dF p q v (fun env=>e9 aP call (v::vs) env h) env)= .ok x env' aB:=he
          simpa only [Env.iY] using he
      · cases ax
  · rw [if_neg hb] at ax
    split at ax
    · rename_i d y qh wN bA
      by_cases hlt:d<N
      · rw [if_pos hlt] at ax
        refine KY (by simp [Region.wanted,qh]) ?_
        unfold Oper.wp
        have:(execOp a.eval o).run P w= .ok (.value (a.eval y)) w:=by simp [execOp,bA]
        rw [this,Oper.upon_value,wN]
        exact bt l _ vs env _ w ι h ax he (s.move (Nat.lt_of_lt_of_eq hlt aC.symm) y) (Da.trans aC) (put_defers.trans aX) g hf fy (fun u hx qf ox a2 iq c2 hu k ks ym=>qi u hx qf ox a2 iq c2 hu k ks (fun t i j hn ht=>ym t i j (fun o bq=>hn o (List.mem_cons_of_mem _ bq)) (by rw [P2 (fun e=>hn o (List.mem_cons_self ..) (by rw [wN,e]))];exact ht)))
      · rw [if_neg hlt] at ax;cases ax
    · rename_i d y qh wN bA
      by_cases hlt:d<N
      · rw [if_pos hlt] at ax
        refine KY (by simp [Region.wanted,qh]) ?_
        unfold Oper.wp
        have:(execOp a.eval o).run P w= .ok (.value (a.eval y)) w:=by simp [execOp,bA]
        rw [this,Oper.upon_value,wN]
        exact bt l _ vs env _ w ι h ax he (s.move (Nat.lt_of_lt_of_eq hlt aC.symm) y) (Da.trans aC) (put_defers.trans aX) g hf fy (fun u hx qf ox a2 iq c2 hu k ks ym=>qi u hx qf ox a2 iq c2 hu k ks (fun t i j hn ht=>ym t i j (fun o bq=>hn o (List.mem_cons_of_mem _ bq)) (by rw [P2 (fun e=>hn o (List.mem_cons_self ..) (by rw [wN,e]))];exact ht)))
      · rw [if_neg hlt] at ax;cases ax
    · cases ax
end
end
end Go.Eng
namespace Go.Eng
variable {D:List Deferred}
noncomputable section
structure qj (D:List Deferred) (ι:bb) (c8:List Nat) (N:Nat) (env:Env) (a:Act):Prop where
 size:a.tmps.size=N
 defers:a.defers=D
 tmps:∀k t,c8[k]? =some t→bL ι (Env.get (gg k).1 (gg k).2 env) (a.tmps.getD t undef)
def jW:List Nat→Nat→List (Nat×Option Src)
 |[],_=>[]
 |t::l,k=>(t,some (.slot (gg k).1 (gg k).2))::jW l (k+1)
def cP.start (c8:List Nat):cP:=⟨0,jW c8 0,[]⟩
def K0:Src→Src→Bool
 | .val p, .val q=>p==q
 | .slot i j, .slot cS hc=>decide (i=cS)&&decide (j=hc)
 |_,_=>false
def yn (F:cP):List Nat→Nat→Bool
 |[],_=>true
 |t::l,k=>(match F.tmp t with
  |none=>false
  |some s=>K0 s (match F.at_ (gg k).1 (gg k).2 with|some p=> .val p|none=> .slot (gg k).1 (gg k).2))&&yn F l (k+1)
theorem K1 {t:Nat} {s:Option Src}:∀(l:List Nat) (k:Nat),look t (jW l k)=some s→∃j,l[j]? =some t∧s=some (.slot (gg (k+j)).1 (gg (k+j)).2)
 |[],k,h=>by cases h
 |x::l,k,h=>by
  unfold jW at h
  rw [vf] at h
  by_cases e:t=x
  · rw [if_pos e] at h;cases h;subst e;exact ⟨0,rfl,rfl⟩
  · rw [if_neg e] at h
    obtain ⟨j,h1,h2⟩:=K1 l (k+1) h
    exact ⟨j+1,by simpa using h1,by rw [h2,show k+1+j=k+(j+1) by omega]⟩
theorem qj.start {ι:bb} {c8:List Nat} {N:Nat} {env:Env} {a:Act} (r:qj D ι c8 N env a):h9 ι (cP.start c8) [] env env a.tmps:=by
 refine ⟨rfl,fun i j=>rfl,fun i j p hp=>(by cases hp),fun t s ht=> ?_⟩
 have ht:(match look t (jW c8 0) with|some s=>s|none=>none)=some s:=ht
 cases au:look t (jW c8 0) with
 |none=>rw [au] at ht;cases ht
 |some en=>
  rw [au] at ht
  have ht:en=some s:=ht
  subst ht
  obtain ⟨j,h1,h2⟩:=K1 c8 0 au
  rw [Nat.zero_add] at h2
  cases h2
  exact r.tmps j t h1
theorem YZ {s u:Src} (h:K0 s u=true):s=u:=by
 cases s<;>cases u<;>simp [K0] at h
 · rw [h]
 · rw [h.1,h.2]
theorem P5 {F:cP}:∀(l:List Nat) (k:Nat),yn F l k=true→∀j t,l[j]? =some t→F.tmp t=some (match F.at_ (gg (k+j)).1 (gg (k+j)).2 with|some p=> .val p|none=> .slot (gg (k+j)).1 (gg (k+j)).2)
 |[],k,_,j,t,aV=>by simp at aV
 |x::l,k,h,j,t,aV=>by
  simp only [yn,Bool.and_eq_true] at h
  cases j with
  |zero=>
   simp at aV;subst aV
   cases aC:F.tmp x with
   |none=>simp [aC] at h
   |some s=>simp only [aC] at h;rw [YZ h.1];rfl
  |succ j=>
   have:=P5 l (k+1) h.2 j t (by simpa using aV)
   rw [show k+(j+1)=k+1+j by omega];exact this
theorem h9.end {ι:bb} {F:cP} {vs:List V} {env bl:Env} {a:Act} {c8:List Nat} {N:Nat} (s:h9 ι F vs env bl a.tmps) (he:yn F c8 0=true) (aC:a.tmps.size=N) (aX:a.defers=D):qj D ι c8 N env a:=by
 refine ⟨aC,aX,fun k t hk=> ?_⟩
 have h1:=P5 c8 0 he k t hk
 rw [Nat.zero_add] at h1
 have h2:=s.tmps t _ h1
 rw [s.jW]
 cases hp:F.at_ (gg k).1 (gg k).2 with
 |none=>rw [hp] at h2;exact h2
 |some p=>rw [hp] at h2;exact h2.2
end
end Go.Eng
namespace Go.Eng
noncomputable section
theorem Bool.dZ {a b:Bool} (h:(a&&b)=true):a=true∧b=true:=by simpa using h
mutual
theorem V.rq:∀(a b:V),V.same a b=true→a=b
 | .bot, .bot,_=>rfl
 | .bool a, .bool b,h=>by simp [V.same] at h;rw [h]
 | .int j a, .int k b,h=>by simp [V.same] at h;rw [h.1,h.2]
 | .str n x, .str m y,h=>by
   simp only [V.same,mQ] at h
   cases e:n.beq m with
   |false=>rw [e] at h;cases h
   |true=>rw [e] at h;rw [Nat.eq_of_beq_eq_true e,Nat.eq_of_beq_eq_true h]
 | .oj, .oj,_=>rfl
 | .ptr a o, .ptr b q,h=>by
   have h:=Bool.dZ h;rw [Nat.eq_of_beq_eq_true h.1,Nat.eq_of_beq_eq_true h.2]
 | .U, .U,_=>rfl
 | .av a o n c, .av b q m d,h=>by
   have h1:=Bool.dZ h;have h2:=Bool.dZ h1.2;have bj:=Bool.dZ h2.2
   rw [Nat.eq_of_beq_eq_true h1.1,Nat.eq_of_beq_eq_true h2.1,Nat.eq_of_beq_eq_true bj.1,show c=d by simpa using bj.2]
 | .k9, .k9,_=>rfl
 | .map a, .map b,h=>by rw [Nat.eq_of_beq_eq_true h]
 | .fn f a b, .fn g c d,h=>by
   have h1:=Bool.dZ h;have h2:=Bool.dZ h1.2
   rw [Nat.eq_of_beq_eq_true h1.1,V.yo a c h2.1,V.yo b d h2.2]
 | .om, .om,_=>rfl
 | .e8 t v, .e8 u w,h=>by
   have h1:=Bool.dZ h;rw [Nat.eq_of_beq_eq_true h1.1,V.rq v w h1.2]
 | .kj, .kj,_=>rfl
 | .agg a, .agg b,h=>by rw [V.yo a b h]
 | .dD a, .dD b,h=>by rw [V.yo a b h]
theorem V.yo:∀(a b:List V),V.q4 a b=true→a=b
 |[],[],_=>rfl
 |a::l,b::m,h=>by have h1:=Bool.dZ h;rw [V.rq a b h1.1,V.yo l m h1.2]
end
theorem Y0 (a b:Option (List V)) (h:JP a b=true):a=b:=by
 cases a<;>cases b<;>simp [JP] at h
 · rfl
 · rw [V.yo _ _ h]
theorem aI.rq {α:Type} {p:α→α→Bool} (hp:∀a b,p a b=true→a=b) (s t:aI α) (h:aI.same p s t=true):s=t:=by
 have h1:=Bool.dZ h;have h2:=Bool.dZ h1.2;have bj:=Bool.dZ h2.2;have cy:=Bool.dZ bj.2
 have gh:=Bool.dZ cy.2;have lf:=Bool.dZ gh.2;have Db:=Bool.dZ lf.2
 cases s;cases t
 simp only [aI.mk.injEq]
 exact ⟨hp _ _ h1.1,hp _ _ h2.1,hp _ _ bj.1,hp _ _ cy.1,hp _ _ gh.1,hp _ _ lf.1,hp _ _ Db.1,hp _ _ Db.2⟩
theorem B.empty_eq {α:Type} {s:B α} (h:s.empty=true):s= .mt:=by cases s<;>first|rfl|cases h
theorem T.rq (s t:T (List V)) (h:T.same s t=true):s=t:=by
 have h1:=Bool.dZ h;have h2:=Bool.dZ h1.2;have bj:=Bool.dZ h2.2;have cy:=Bool.dZ bj.2
 have aT:=aI.rq (aI.rq (aI.rq Y0)) _ _ h1.1
 have dH:=B.empty_eq cy.1;have gC:=B.empty_eq cy.2
 have gY:s.y=none:=by simpa using h2.1
 have kL:t.y=none:=by simpa using bj.1
 cases s;cases t
 simp only [T.mk.injEq]
 exact ⟨aT,gY.trans kL.symm,dH.trans gC.symm⟩
theorem Obj.rq (a b:Obj) (h:Obj.same a b=true):a=b:=by
 cases a<;>cases b<;>try (simp [Obj.same] at h;done)
 · rw [V.yo _ _ h]
 · have h1:=Bool.dZ h;have h2:=Bool.dZ h1.2;have bj:=Bool.dZ h2.2;have cy:=Bool.dZ bj.2
   rw [Nat.eq_of_beq_eq_true h1.1,Nat.eq_of_beq_eq_true h2.1,Nat.eq_of_beq_eq_true bj.1,Nat.eq_of_beq_eq_true cy.1,T.rq _ _ cy.2]
 · rename_i es c sg dT
   cases es<;>cases sg<;>simp [Obj.same] at h
   rw [h]
def yp (h aB:ag):Prop:=∀b o,T.get b h.t=some o→T.get b aB.t=some o
theorem yp.load {h aB:ag} (k:yp h aB) {b o n:Nat} {l:List V} (au:h.load b o n=some l):aB.load b o n=some l:=by
 unfold ag.load at au ⊢
 by_cases hn:n.beq 0=true
 · rw [hn] at au ⊢;exact au
 · rw [Bool.not_eq_true] at hn;rw [hn] at au ⊢
   cases hb:T.get b h.t with
   |none=>rw [show h.obj b=none from hb] at au;cases au
   |some aO=>rw [show h.obj b=some aO from hb] at au;rw [show aB.obj b=some aO from k b aO hb];exact au
theorem Y1 {h aB:ag} (k:yp h aB) {e:h7} {ev:dM} {v:V} (he:light e ev h= .val v):light e ev aB= .val v:=by
 cases e with
 |load x=>
  have he:(ev x).qZ (fun b o=> .of (h.eZ b o))= .val v:=he
  show (ev x).qZ (fun b o=> .of (aB.eZ b o))= .val v
  generalize ev x=u at he ⊢
  cases u<;>first|exact he|skip
  rename_i b o
  have he:bM.of (we o (T.get b h.t))= .val v:=he
  show bM.of (we o (T.get b aB.t))= .val v
  cases hb:T.get b h.t with
  |none=>rw [hb] at he;cases he
  |some aO=>rw [hb] at he;rw [k b aO hb];exact he
 |dd n x=>
  have he:(ev x).qZ (fun b o=>Option.rec .bad (fun l=>hU l fun l=> .val (.agg l)) (h.load b o n))= .val v:=he
  show (ev x).qZ (fun b o=>Option.rec .bad (fun l=>hU l fun l=> .val (.agg l)) (aB.load b o n))= .val v
  generalize ev x=u at he ⊢
  cases u<;>first|exact he|skip
  rename_i b o
  have he:(Option.rec .bad (fun l=>hU l fun l=> .val (.agg l)) (h.load b o n):bM)= .val v:=he
  show (Option.rec .bad (fun l=>hU l fun l=> .val (.agg l)) (aB.load b o n):bM)= .val v
  cases au:h.load b o n with
  |none=>rw [au] at he;cases he
  |some l=>rw [k.load au];rw [au] at he;exact he
 |sa x=>
  have he:FN x ev h= .val v:=he
  show FN x ev aB= .val v
  unfold FN at he ⊢
  generalize ev x=u at he ⊢
  cases u<;>first|exact he|skip
  rename_i b o n c
  cases au:h.load b o n with
  |none=>simp only [au] at he;cases he
  |some l=>simp only [k.load au];simp only [au] at he;exact he
 |lookup q zero ok m x=>
  have he:FP q zero ok m x ev h= .val v:=he
  show FP q zero ok m x ev aB= .val v
  unfold FP at he ⊢
  generalize ev m=u at he ⊢
  cases u<;>first|exact he|skip
  rename_i b
  cases hb:T.get b h.t with
  |none=>simp only [show h.obj b=none from hb] at he;cases he
  |some aO=>simp only [show aB.obj b=some aO from k b aO hb];simp only [show h.obj b=some aO from hb] at he;exact he
 |xR x=>
  have he:FQ x ev h= .val v:=he
  show FQ x ev aB= .val v
  unfold FQ at he ⊢
  generalize ev x=u at he ⊢
  cases u<;>first|exact he|skip
  rename_i b
  cases hb:T.get b h.t with
  |none=>simp only [show h.obj b=none from hb] at he;cases he
  |some aO=>simp only [show aB.obj b=some aO from k b aO hb];simp only [show h.obj b=some aO from hb] at he;exact he
 |kF r x bH aq mx=>
  have key:∀b o n cap i j m,ov r b o n cap i j m h= .val v→ov r b o n cap i j m aB= .val v:=by
   intro b o n cap i j m aC
   cases cap with
   |some c=>cases m with
    |none=>exact aC
    |some m=>cases m<;>exact aC
   |none=>
    cases m with
    |some m=>cases m<;>exact aC
    |none=>
     unfold ov at aC ⊢
     cases hb:T.get b h.t with
     |none=>simp only [show h.obj b=none from hb] at aC;cases aC
     |some aO=>simp only [show aB.obj b=some aO from k b aO hb];simp only [show h.obj b=some aO from hb] at aC;exact aC
  have he:FO r x bH aq mx ev h= .val v:=he
  show FO r x bH aq mx ev aB= .val v
  unfold FO at he ⊢
  generalize ev x=u at he ⊢
  cases u<;>first|exact he|skip
  rename_i b o n cap
  cases aT:ek aq ev n<;>cases bu:ek bH ev 0<;>simp only [aT,bu] at he ⊢<;>first|(cases he;done)|exact key _ _ _ _ _ _ _ he
 |alloc cs=>have he:force h.next (fun b=>bM.new (.box cs) (.ptr b 0))= .val v:=he;rw [force_eq] at he;cases he
 |xQ=>have he:force h.next (fun b=>bM.new (.map [] 0) (.map b))= .val v:=he;rw [force_eq] at he;cases he
 |box n x=>
  have he:force h.next (fun b=>(Option.rec .bad (fun l=>Bool.rec .bad (hU l fun l=> .new (.box l) (.ptr b 0)) ((cZ l).beq n)) (ev x).dY:bM))= .val v:=he
  rw [force_eq] at he
  cases ax:(ev x).dY with
  |none=>rw [ax] at he;cases he
  |some l=>
   rw [ax] at he
   have he:(Bool.rec .bad (hU l fun l=> .new (.box l) (.ptr h.next 0)) ((cZ l).beq n):bM)= .val v:=he
   cases hb:(cZ l).beq n with
   |false=>rw [hb] at he;cases he
   |true=>rw [hb,nE] at he;cases he
 |fA r n zero aQ=>
  have he:force h.next (fun b=>(Option.rec .bad (fun l=>gQ r n 0 l T.e fun t=> .new (.cells r b 0 (Nat.mul n r) t) (.av b 0 n (some n))) (fill aQ ev (rep n zero)):bM))= .val v:=he
  rw [force_eq] at he
  cases ax:fill aQ ev (rep n zero) with
  |none=>rw [ax] at he;cases he
  |some l=>simp only [ax,iI] at he;cases he
 |v8 x=>
  have he:force h.next (fun b=>(Option.rec .bad (fun x=>gQ 1 x.1 0 (nD (gZ x.1 x.2)) T.e fun t=> .new (.cells 1 b 0 x.1 t) (.av b 0 x.1 none)) (ev x).r9:bM))= .val v:=he
  rw [force_eq] at he
  cases ax:(ev x).r9 with
  |none=>rw [ax] at he;cases he
  |some l=>simp only [ax,iI] at he;cases he
 |o1 r zero bytes l c=>
  have he:JL r zero bytes l c ev h= .val v:=he
  unfold JL at he
  cases aT:(ev l).asNat<;>cases bu:(ev c).asNat<;>simp only [aT,bu] at he<;>first|(cases he;done)|skip
  rw [force_eq] at he
  revert he
  cases (_&&_:Bool)<;>intro he
  · cases he
  · simp only [cond_true,iI] at he;cases he
 |_=>exact he
end
end Go.Eng
namespace Go.Eng
noncomputable section
theorem yp.add {h:ag} (aX:∀b,0≤b→T.get b h.t≠none→b<h.next) (aO:Obj):yp h (h.add aO):=by
 intro b o hb
 show T.get b (T.set h.next aO h.t)=some o
 rw [T.fJ (Nat.zero_le _) (Nat.zero_le _),if_neg,hb]
 intro e;subst e
 have:=aX h.next (Nat.zero_le _) (by simp [hb]);omega
theorem Y2 {ι:bb} {h:ag} {w:World} (g:Good ι h w) (hf:ι h.next=none) (aO:Obj):Good ι (h.add aO) w:=by
 have na:∀b,b≠h.next→T.get b (h.add aO).t=T.get b h.t:=fun b hb=>by
  show T.get b (T.set h.next aO h.t)=_
  rw [T.fJ (Nat.zero_le _) (Nat.zero_le _),if_neg hb]
 have bO:∀b B,ι b=some B→b≠h.next:=fun b B hb e=>by subst e;rw [hf] at hb;cases hb
 have hlt:∀b B,ι b=some B→b<(h.add aO).next→b<h.next:=fun b B hb hn=>by
  have:=bO b B hb;have:b<h.next+1:=hn;omega
 refine ⟨fun b B o hb bq hn=> ?_,g.lb,fun b B bT bc hb eH hn tC gw=>g.same b B bT bc hb eH (hlt b B hb hn) (hlt bT bc eH tC) gw,fun b B hb hn=>g.c7 b B hb (hlt b B hb hn),fun b B F o hb hn cj bq=> ?_,fun b B o hb bq hn=> ?_,fun f F b cj hb=> ?_,Nat.le_succ_of_le g.lim,fun b hb wz=> ?_,g.small,fun f hf wz=> ?_,fun b B hb hn=> ?_⟩
 · rw [na b (bO b B hb)] at bq;exact g.obj b B o hb bq (hlt b B hb hn)
 · rw [na b (bO b B hb)] at bq;exact g.last b B F o hb (hlt b B hb hn) cj bq
 · rw [na b (bO b B hb)] at bq;exact g.iz b B o hb bq (hlt b B hb hn)
 · have:=g.mem f F b cj hb;show b<h.next+1;omega
 · show b<h.next+1
   by_cases e:b=h.next
   · omega
   · rw [na b e] at wz;have:=g.lQ b hb wz;omega
 · have:=g.u0 f hf wz;show f<h.next+1;omega
 · have:=g.o9 b B hb (hlt b B hb hn);show B.c7<h.next+1;omega
theorem Y3 {ι:bb} {h:ag} {w w':World} (g:Good ι h w) {id:Nat} {o:Obj} {B:fR} (n:su ι id w w' B o) (hf:ι id=none) (au:id<h.next)
  (dP:T.get id h.t=some o) (sB:T.get id h.bJ=none):Good (ι.put id B) h w':=by
 have hle:=bb.Al (B:=B) hf
 have ax:=n.c
 have aC:=n.size
 have old:∀b bc,ι.put id B b=some bc→b≠id→ι b=some bc:=fun b bc hb bO=>by rwa [bb.re bO] at hb
 refine ⟨?_, ?_, ?_, ?_, ?_, ?_,g.mem,g.lim,g.lQ, ?_,g.u0, ?_⟩
 · intro b bc fk hb c0 dA
   by_cases e:b=id
   · subst e
     rw [dP] at c0;cases c0
     rw [bb.hh] at hb;cases hb
     exact n.rel.mono hle
   · have dW:=old b bc hb e
     exact ((g.obj b bc fk dW c0 dA).world (n.old _ (g.lb b bc dW))).mono hle
 · intro b bc hb
   by_cases e:b=id
   · subst e;rw [bb.hh] at hb;cases hb;omega
   · have:=g.lb b bc (old b bc hb e);omega
 · intro b kM bT mf hb eH dA fO gw rb bO
   by_cases e:b=id
   · subst e
     rw [bb.hh] at hb;cases hb
     have:=g.lb bT mf (old bT mf eH (Ne.symm bO));omega
   · by_cases bN:bT=id
     · subst bN
       rw [bb.hh] at eH;cases eH
       have:=g.lb b kM (old b kM hb e);omega
     · exact g.same b kM bT mf (old b kM hb e) (old bT mf eH bN) dA fO gw rb bO
 · intro b bc hb dA
   by_cases e:b=id
   · subst e;rw [bb.hh] at hb;cases hb
     rw [n.c7,sB]
   · exact g.c7 b bc (old b bc hb e) dA
 · intro b bc F fk hb dA cj c0 jS
   by_cases e:b=id
   · subst e;rw [bb.hh] at hb;cases hb
     rw [n.c7,sB] at cj;cases cj
   · exact g.last b bc F fk (old b bc hb e) dA cj c0 jS
 · intro b bc fk hb c0 dA jT
   by_cases e:b=id
   · subst e;rw [bb.hh] at hb;cases hb
     rw [n.c7,sB]
   · exact g.iz b bc fk (old b bc hb e) c0 dA jT
 · intro b bO
   exact Nat.zero_le _
 · intro b bc hb dA
   by_cases e:b=id
   · subst e;rw [bb.hh] at hb;cases hb;rw [n.c7];exact au
   · exact g.o9 b bc (old b bc hb e) dA
theorem dL.add {hN ι:bb} {h0 h:ag} {w0 w:World} (c:dL hN h0 w0 ι h w) (hf:ι h.next=none) (aO:Obj):dL hN h0 w0 ι (h.add aO) w:=
 ⟨Y2 c.gm hf aO,c.frame,⟨c.ext.1,Nat.le_succ_of_le c.ext.2.1,fun b a d=>by have:=c.ext.2.2 b a d;exact ⟨this.1,Nat.lt_succ_of_lt this.2⟩⟩,c.sep⟩
theorem dL.late {hN ι:bb} {h0 h:ag} {w0 w w':World} (c:dL hN h0 w0 ι h w) {id:Nat} {o:Obj} {B:fR} (n:su ι id w w' B o) (hf:ι id=none) (Y4:h0.next≤id) (au:id<h.next)
  (dP:T.get id h.t=some o) (sB:T.get id h.bJ=none):dL hN h0 w0 (ι.put id B) h w':=by
 refine ⟨Y3 c.gm n hf au dP sB,⟨fun k hk hn=> ?_, ?_,n.tape.trans c.frame.tape,n.os.trans c.frame.os,n.out.trans c.frame.out⟩,⟨c.ext.1.trans (bb.Al hf),c.ext.2.1,fun b a d=> ?_⟩,fun b bc a d=> ?_⟩
 · rw [n.old k (Nat.lt_of_lt_of_le hk c.frame.size)];exact c.frame.wq k hk hn
 · have:=n.size;have:=c.frame.size;omega
 · by_cases e:b=id
   · subst e;exact ⟨Y4,au⟩
   · rw [bb.re e] at d;exact c.ext.2.2 b a d
 · by_cases e:b=id
   · subst e;rw [bb.hh] at d;cases d;left;rw [n.c];exact c.frame.size
   · rw [bb.re e] at d;exact c.sep b bc a d
def cP.only (F:cP) (l:List Nat):cP:=⟨F.n,F.f.filter (fun p=>l.contains p.1),F.s⟩
theorem K2 {β:Type} {t:Nat} {l:List Nat}:∀(f:List (Nat×β)),look t (f.filter (fun p=>l.contains p.1))=if l.contains t then look t f else none
 |[]=>by simp [look]
 |(x,y)::f=>by
  rw [List.filter_cons]
  by_cases hx:l.contains x=true
  · rw [if_pos hx,vf,vf,K2 f]
    by_cases e:t=x
    · subst e;rw [if_pos rfl,if_pos rfl,if_pos hx]
    · rw [if_neg e,if_neg e]
  · rw [if_neg hx,K2 f,vf]
    by_cases e:t=x
    · subst e;rw [if_neg hx,if_neg hx]
    · rw [if_neg e]
theorem cP.Y5 {F:cP} {l:List Nat} {t:Nat} {s:Src} (h:(F.only l).tmp t=some s):l.contains t=true∧F.tmp t=some s:=by
 have h:(match look t (F.f.filter (fun p=>l.contains p.1)) with|some s=>s|none=>none)=some s:=h
 rw [K2] at h
 by_cases e:l.contains t=true
 · rw [if_pos e] at h;exact ⟨e,h⟩
 · rw [if_neg e] at h;cases h
def Down (ops:Array Oper) (L:Nat→Prop):Prop:=∀k o,L k→ops[k]? =some o→∀e∈o.after,Region.binds .any e=true→L e.on
def yq (ops:Array Oper) (j i:Nat):Prop:=∀L:Nat→Prop,Down ops L→L j→L i
def rr (m:List Nat) (k:Nat):Nat:=(m[m.length - 1 - k]?).getD 0
def Az (m:List Nat):List Edge→Nat
 |[]=>0
 |e::l=>if Region.binds .any e&&decide (e.on<m.length) then (2 ^ e.on ||| rr m e.on) ||| Az m l else Az m l
def oF:List Oper→List Nat→List Nat
 |[],m=>m
 |o::l,m=>oF l (Az m o.after.toList::m)
def wO (ops:Array Oper) (m:List Nat):Prop:=∀j i,j<m.length→(rr m j).testBit i=true→yq ops j i
theorem Y6 {m:List Nat} {x k:Nat} (h:k<m.length):rr (x::m) k=rr m k:=by
 unfold rr
 have:(x::m).length - 1 - k=(m.length - 1 - k)+1:=by simp;omega
 rw [this];simp
theorem Y7 {m:List Nat} {x:Nat}:rr (x::m) m.length=x:=by
 unfold rr
 have:(x::m).length - 1 - m.length=0:=by simp
 rw [this];simp
theorem K3 {ops:Array Oper} {m:List Nat} (hm:wO ops m) {o:Oper} (bq:ops[m.length]? =some o):∀(l:List Edge),(∀e∈l,e∈o.after)→∀i,(Az m l).testBit i=true→yq ops m.length i
 |[],_,i,h=>by simp [Az] at h
 |e::l,au,i,h=>by
  unfold Az at h
  by_cases ax:(Region.binds .any e&&decide (e.on<m.length))=true
  · rw [if_pos ax] at h
    have hb:=Bool.dZ ax
    have hlt:e.on<m.length:=by simpa using hb.2
    rw [Nat.testBit_or,Nat.testBit_or,Bool.or_eq_true,Bool.or_eq_true] at h
    rcases h with (h|h)|h
    · rw [Nat.testBit_two_pow] at h
      have:e.on=i:=by simpa using h
      subst this
      exact fun L hL aV=>hL _ o aV bq e (au e (List.mem_cons_self ..)) hb.1
    · exact fun L hL aV=>hm e.on i hlt h L hL (hL _ o aV bq e (au e (List.mem_cons_self ..)) hb.1)
    · exact K3 hm bq l (fun e he=>au e (List.mem_cons_of_mem _ he)) i h
  · rw [if_neg ax] at h
    exact K3 hm bq l (fun e he=>au e (List.mem_cons_of_mem _ he)) i h
theorem P6 {ops:Array Oper}:∀(l:List Oper) (m:List Nat),(∀k,l[k]? =ops[m.length+k]?)→wO ops m→wO ops (oF l m)
 |[],m,_,h=>h
 |o::l,m,au,h=>by
  unfold oF
  have bq:ops[m.length]? =some o:=by have:=au 0;simpa using this.symm
  refine P6 l _ (fun k=> ?_) (fun j i aV hb=> ?_)
  · have:=au (k+1);simp only [List.getElem?_cons_succ] at this;rw [this,List.length_cons];congr 1;omega
  · by_cases e:j=m.length
    · subst e;rw [Y7] at hb;exact K3 h bq _ (fun e he=>Array.mem_toList_iff.1 he) i hb
    · have hlt:j<m.length:=by have:j<m.length+1:=aV;omega
      rw [Y6 hlt] at hb;exact h j i hlt hb
theorem K4:∀(l:List Oper) (m:List Nat),(oF l m).length=m.length+l.length
 |[],m=>rfl
 |o::l,m=>by unfold oF;rw [K4 l];simp;omega
end
end Go.Eng
namespace Go.Eng
noncomputable section
def dp.op:dp→Op
 | .p o=>o| .s _ _ o=>o| .g _ _ o=>o| .gs _ _ _ _ o=>o
def dp.slot:dp→Option (bx×bx)
 | .p _=>none| .s i j _=>some (i,j)| .g _ _ _=>none| .gs _ _ i j _=>some (i,j)
def dp.dy:dp→Option (A×Bool)
 | .p _=>none| .s _ _ _=>none| .g a b _=>some (a,b)| .gs a b _ _ _=>some (a,b)
def vg:Op→Bool
 | .H _=>true
 | .L _=>false
def vh:Op→Bool
 | .H _=>false
 | .L e=>match e with
   | .load _=>true| .dd _ _=>true| .sa _=>true| .lookup .. =>true| .xR _=>true| .kF .. =>true
   | .alloc _=>true| .box .. =>true| .fA .. =>true| .v8 _=>true| .xQ=>true| .o1 .. =>true
   |_=>false
def AA (b:Nat) (cK:List Nat):List (Nat×Bool)→Nat→Bool
 |[],_=>true
 |(k,s)::D,d=>(!s||(b.testBit k||cK.contains d))&&AA b cK D (d+1)
def vi (ops:Array Oper) (i j:Nat):Bool:=match ops[i]?,ops[j]? with
 |some a,some b=>a.apart ops b
 |_,_=>true
def AB (P:Program) (N:Nat) (ops:Array Oper) (m:List Nat):List (Nat×eA)→List (Nat×Bool)→cP→Option cP
 |[],_,F=>some F
 |(i,q)::l,D,F=>match ops[i]? with
  |none=>none
  |some o=>
   if pk N o.dst&&(nM (F.only (o.looksAt ops)) N ops o q.o.dy&&(nL P (F.only (o.looksAt ops)) o.op q.o.op&&(!vg q.o.op||AA (rr m i) q.cK D 0)))
   then AB P N ops m l ((i,vh q.o.op)::D) (F.push o.dst q.o.slot) else none
def K5 (ops:Array Oper) (m:List Nat):List (Nat×eA)→Bool
 |[]=>true
 |(i,q)::l=>l.all (fun x=>(rr m x.1).testBit i|| !(vg q.o.op|| !vi ops i x.1))&&K5 ops m l
def K6:List Oper→Nat→Bool
 |[],_=>true
 |o::l,i=>o.after.toList.all (fun e=> !Region.binds .any e||decide (e.on<i))&&K6 l (i+1)
def K7:List Nat→Bool
 |[]=>true
 |a::l=> !l.contains a&&K7 l
def K8 (ops:Array Oper) (m:List Nat) (pm:List (Nat×eA)):Bool:=
 K7 (pm.map (·.1))&&((List.range ops.size).all (fun i=>(pm.map (·.1)).contains i)&&(pm.all (fun x=>decide (x.1<ops.size))&&(K6 ops.toList 0&&K5 ops m pm)))
structure Stat (ops:Array Oper) (pm:List (Nat×eA)):Prop where
 dC:(pm.map (·.1)).Nodup
 all:∀i o,ops[i]? =some o→i∈pm.map (·.1)
 Y8:∀i o,ops[i]? =some o→∀e∈o.after,Region.binds .any e=true→e.on<i
 K9:pm.Pairwise (fun a b=>vg a.2.o.op=true∨vi ops a.1 b.1=false→yq ops b.1 a.1)
theorem P7:∀(l:List Nat),K7 l=true→l.Nodup
 |[],_=>List.nodup_nil
 |a::l,h=>by
  have h:=Bool.dZ h
  refine List.nodup_cons.2 ⟨fun hm=> ?_,P7 l h.2⟩
  have:l.contains a=true:=by simpa using hm
  rw [this] at h;exact absurd h.1 (by simp)
theorem P8:∀(l:List Oper) (i:Nat),K6 l i=true→∀k o,l[k]? =some o→∀e∈o.after,Region.binds .any e=true→e.on<i+k
 |[],i,_,k,o,hk,_,_,_=>by simp at hk
 |a::l,i,h,k,o,hk,e,he,hb=>by
  have h:=Bool.dZ h
  cases k with
  |zero=>
   simp at hk;subst hk
   have:=List.all_eq_true.1 h.1 e (Array.mem_toList_iff.2 he)
   rw [hb] at this;simpa using this
  |succ k=>
   have:=P8 l (i+1) h.2 k o (by simpa using hk) e he hb
   omega
theorem P9 {ops:Array Oper} {m:List Nat} (hm:wO ops m):∀(pm:List (Nat×eA)),(∀x∈pm,x.1<m.length)→K5 ops m pm=true→
  pm.Pairwise (fun a b=>vg a.2.o.op=true∨vi ops a.1 b.1=false→yq ops b.1 a.1)
 |[],_,_=>List.Pairwise.nil
 |(i,q)::l,au,h=>by
  have h:=Bool.dZ h
  refine List.Pairwise.cons (fun x hx ax=> ?_) (P9 hm l (fun x hx=>au x (List.mem_cons_of_mem _ hx)) h.2)
  have:=List.all_eq_true.1 h.1 x hx
  rw [Bool.or_eq_true] at this
  rcases this with h1|h1
  · exact hm x.1 i (au x (List.mem_cons_of_mem _ hx)) h1
  · exfalso
    have ax:vg q.o.op=true∨vi ops i x.1=false:=ax
    rcases ax with ax|ax<;>rw [ax] at h1<;>simp at h1
theorem Y9 {ops:Array Oper} {pm:List (Nat×eA)} (h:K8 ops (oF ops.toList []) pm=true):Stat ops pm∧wO ops (oF ops.toList [])∧∀x∈pm,x.1<ops.size:=by
 have h1:=Bool.dZ h;have h2:=Bool.dZ h1.2;have bj:=Bool.dZ h2.2;have cy:=Bool.dZ bj.2
 have hb:wO ops (oF ops.toList []):=P6 ops.toList [] (fun k=>by simp) (fun j i aV=>by simp at aV)
 have au:(oF ops.toList []).length=ops.size:=by rw [K4];simp
 have hlt:∀x∈pm,x.1<ops.size:=fun x hx=>by have:=List.all_eq_true.1 bj.1 x hx;simpa using this
 refine ⟨⟨P7 _ h1.1,fun i o bq=> ?_,fun i o bq e he kO=> ?_,P9 hb pm (fun x hx=>by rw [au];exact hlt x hx) cy.2⟩,hb,hlt⟩
 · have aq:i<ops.size:=(Array.getElem?_eq_some_iff.1 bq).1
   have:=List.all_eq_true.1 h2.1 i (List.mem_range.2 aq)
   simpa using this
 · have:=P8 ops.toList 0 cy.1 i o (by simpa using bq) e he kO
   omega
structure cn where
 i:Nat
 o:Oper
 q:eA
 v:V
 log:Log
def ir (cW:cP):List cn→cP
 |[]=>cW
 |e::E=>(ir cW E).push e.o.dst e.q.o.slot
abbrev ia (E:List cn):List V:=E.map (·.v)
def gi (bl:Env):List cn→Env
 |[]=>bl
 |e::E=>match e.q.o.slot with
  |some (i,j)=>Env.set i j e.v (gi bl E)
  |none=>gi bl E
abbrev jc (bl:Env) (E:List cn):dM:=fun x=>A.ev x (ia E) (gi bl E)
def vj (bl:Env) (B:List cn) (r:dp):Option Bool:=match r.dy with
 |none=>some true
 |some (g,b)=>(jc bl B g).dy b
def cn.key (e:cn):Nat×eA:=(e.i,e.q)
def cn.id (e:cn):Option Nat:=match e.log with
 | .lP id _=>some id
 |_=>none
def wP (bl:Env) (B:List cn) (e:cn) (h:ag) (ι:bb):Prop:=
 (vj bl B e.q.o=some false∧e.v=un)∨
 (vj bl B e.q.o=some true∧∃l,e.q.o.op= .L l∧
   ((e.log= .rd (light l (jc bl B)) e.v∧light l (jc bl B) h= .val e.v)∨
    (∃id aO hk,e.log= .lP id aO∧hk.next=id∧light l (jc bl B) hk= .new aO e.v∧fv aO=true∧ι id=none∧T.get id h.t=some aO∧T.get id h.bJ=none)))
theorem Qa (cW:cP):∀(E:List cn),(ir cW E).n=cW.n+E.length
 |[]=>rfl
 |e::E=>by show (ir cW E).n+1=_;rw [Qa cW E,List.length_cons];omega
theorem La {cW:cP} (h0:cW.n=0) {t:Nat} {s:Src}:∀(E:List cn),(ir cW E).tmp t=some s→
  (∃A e B,E=A++e::B∧e.o.dst=some t∧(∀x∈A,x.o.dst≠some t)∧s= .val B.length)∨((∀x∈E,x.o.dst≠some t)∧cW.tmp t=some s)
 |[],h=> .inr ⟨fun _ hx=>by simp at hx,h⟩
 |e::E,h=>by
  have hn:=Qa cW E
  have skip:e.o.dst≠some t→(ir cW E).tmp t=some s→(∃A bN B,e::E=A++bN::B∧bN.o.dst=some t∧(∀x∈A,x.o.dst≠some t)∧s= .val B.length)∨((∀x∈e::E,x.o.dst≠some t)∧cW.tmp t=some s):=by
   intro bO h
   rcases La h0 E h with ⟨A,bN,B,rfl,h1,h2,bj⟩|⟨h1,h2⟩
   · refine .inl ⟨e::A,bN,B,rfl,h1,fun x hx=> ?_,bj⟩
     rcases List.mem_cons.1 hx with rfl|hx
     · exact bO
     · exact h2 x hx
   · refine .inr ⟨fun x hx=> ?_,h2⟩
     rcases List.mem_cons.1 hx with rfl|hx
     · exact bO
     · exact h1 x hx
  unfold ir cP.push cP.tmp at h
  cases aX:e.o.dst with
  |none=>rw [aX] at h;exact skip (by rw [aX];simp) h
  |some d=>
   rw [aX] at h
   simp only [vf] at h
   by_cases c:t=d
   · rw [if_pos c] at h
     subst c
     refine .inl ⟨[],e,E,rfl,aX,by simp, ?_⟩
     have h:(some (.val (ir cW E).n):Option Src)=some s:=h
     cases h;rw [hn,h0,Nat.zero_add]
   · rw [if_neg c] at h
     exact skip (by rw [aX];intro h;cases h;exact c rfl) h
theorem Qb (A:List cn) (e:cn) (B:List cn):mN (ia (A++e::B)) ((ia (A++e::B)).length - 1 - B.length)=e.v:=by
 have:(ia (A++e::B)).length - 1 - B.length=A.length:=by simp
 rw [this,Wx]
 simp [ia]
structure nf (F:cP) (vs:List V) (env bl:Env):Prop where
 len:vs.length=F.n
 jW:∀i j,Env.get i j env=match F.at_ i j with|some p=>mN vs (vs.length - 1 - p)|none=>Env.get i j bl
 lt:∀i j p,F.at_ i j=some p→p<vs.length
theorem nf.str {F:cP} {vs:List V} {env bl:Env} (r:nf F vs env bl) {ι:bb} {tmps:Array Value} (h:∀t s,F.tmp t=some s→Holds ι vs bl (tmps.getD t undef) s):h9 ι F vs env bl tmps:=
 ⟨r.len,r.jW,r.lt,h⟩
theorem nf.only {F:cP} {vs:List V} {env bl:Env} (r:nf F vs env bl) (l:List Nat):nf (F.only l) vs env bl:=⟨r.len,r.jW,r.lt⟩
theorem nf.push {F:cP} {vs:List V} {env bl:Env} (r:nf F vs env bl) (v:V) (dst:Option Nat) (av:Option (bx×bx)):
  nf (F.push dst av) (v::vs) (match av with|some (i,j)=>Env.set i j v env|none=>env) bl:=by
 have s:h9 (fun _=>none) ⟨F.n,[],F.s⟩ vs env bl #[]:=⟨r.len,r.jW,r.lt,fun t s h=>by cases h⟩
 have key:∀av,h9 (fun _=>none) (cP.push ⟨F.n,[],F.s⟩ none av) (v::vs) (match av with|some (i,j)=>Env.set i j v env|none=>env) bl #[]→nf (F.push dst av) (v::vs) (match av with|some (i,j)=>Env.set i j v env|none=>env) bl:=
  fun av s=>⟨s.len,s.jW,s.lt⟩
 have hlen:=r.len
 cases av with
 |none=>
  refine ⟨by simp [cP.push,hlen],fun i j=> ?_,fun i j p hp=>by have:F.at_ i j=some p:=hp;have:=r.lt i j p this;simp;omega⟩
  have h1:(F.push dst none).at_ i j=F.at_ i j:=rfl
  show Env.get i j env=_
  rw [h1,r.jW i j]
  cases hp:F.at_ i j with
  |none=>rfl
  |some p=>
   have:=r.lt i j p hp
   show mN vs _=mN (v::vs) _
   rw [show (v::vs).length - 1 - p=(vs.length - 1 - p)+1 by simp;omega,Gz]
 |some KN=>
  obtain ⟨i,j⟩:=KN
  have ff:∀cS hc,(F.push dst (some (i,j))).at_ cS hc=if (cS,hc)=(i,j) then some F.n else F.at_ cS hc:=fun cS hc=>rfl
  refine ⟨by simp [cP.push,hlen],fun cS hc=> ?_,fun cS hc p hp=> ?_⟩
  · show Env.get cS hc (Env.set i j v env)=_
    rw [ff,Env.fJ]
    by_cases e:cS=i∧hc=j
    · rw [if_pos e,if_pos (by rw [e.1,e.2])]
      show v=mN (v::vs) ((v::vs).length - 1 - F.n)
      rw [show (v::vs).length - 1 - F.n=0 by simp;omega,KM]
    · rw [if_neg e,if_neg (by intro h;cases h;exact e ⟨rfl,rfl⟩),r.jW cS hc]
      cases hp:F.at_ cS hc with
      |none=>rfl
      |some p=>
       have:=r.lt cS hc p hp
       show mN vs _=mN (v::vs) _
       rw [show (v::vs).length - 1 - p=(vs.length - 1 - p)+1 by simp;omega,Gz]
  · rw [ff] at hp
    by_cases e:(cS,hc)=(i,j)
    · rw [if_pos e] at hp;cases hp;simp;omega
    · rw [if_neg e] at hp;have:=r.lt cS hc p hp;simp;omega
theorem nf.GH {cW:cP} {bl:Env} (r:nf cW [] bl bl):∀(E:List cn),nf (ir cW E) (ia E) (gi bl E) bl
 |[]=>r
 |e::E=>(nf.GH r E).push e.v e.o.dst e.q.o.slot
end
end Go.Eng
namespace Go.Eng
variable {D:List Deferred}
noncomputable section
theorem Za {e:h7} {ev:dM} {h aB:ag} (aC:vh (.L e)=false):light e ev aB=light e ev h:=by
 cases e<;>first|rfl|(cases aC;done)
structure DI0 (D:List Deferred) (P:Program) (ops:Array Oper) (pm:List (Nat×eA)) (N:Nat) (cW:cP) (bl:Env)
  (E:List cn) (rem:List (Nat×eA)) (listed:Array Bool) (a:Act) (ι:bb):Prop where
 split:(E.map cn.key).reverse++rem=pm
 size:a.tmps.size=N
 defers:a.defers=D
 tM:listed.size=ops.size
 down:Down ops (fun i=>listed.getD i false=true)
 only:∀i,listed.getD i false=true→∃e∈E,e.i=i
 ok:∀A e B,E=A++e::B→ops[e.i]? =some e.o∧pk N e.o.dst=true∧nM ((ir cW B).only (e.o.looksAt ops)) N ops e.o e.q.o.dy=true∧nL P ((ir cW B).only (e.o.looksAt ops)) e.o.op e.q.o.op=true
 ids:(E.filterMap cn.id).Nodup
 GI:∀t e,E.find? (fun e=>listed.getD e.i false&&decide (e.o.dst=some t))=some e→bL ι e.v (a.tmps.getD t undef)
 GJ:∀t,E.find? (fun e=>listed.getD e.i false&&decide (e.o.dst=some t))=none→∀s,cW.tmp t=some s→Holds ι [] bl (a.tmps.getD t undef) s
structure ln (D:List Deferred) (P:Program) (ops:Array Oper) (pm:List (Nat×eA)) (N:Nat) (cW:cP) (bl:Env) (hN:bb) (h0:ag) (w0:World)
  (E:List cn) (rem:List (Nat×eA)) (listed:Array Bool) (a:Act) (w:World) (ι:bb) (h:ag):Prop extends DI0 D P ops pm N cW bl E rem listed a ι where
 wQ:∀A e B,E=A++e::B→listed.getD e.i false=false→wP bl B e h ι
 ru:∀e∈E,∀id,e.id=some id→h0.next≤id∧id<h.next
 mm:dL hN h0 w0 ι h w
section
variable {P:Program} {ops:Array Oper} {pm:List (Nat×eA)} {N:Nat} {cW:cP} {bl:Env} {hN:bb} {h0:ag} {w0:World}
 {E:List cn} {rem:List (Nat×eA)} {listed:Array Bool} {a:Act} {w:World} {ι:bb} {h:ag}
theorem Lb {α:Type} {p:α→Bool} {A:List α} {e:α} {B:List α} (hA:∀x∈A,p x=false) (he:p e=true):(A++e::B).find? p=some e:=by
 rw [List.find?_append,List.find?_eq_none.2 (fun x hx=>by rw [hA x hx];simp),List.find?_cons_of_pos (by simpa using he)];rfl
theorem DI0.two (st:Stat ops pm) (d:DI0 D P ops pm N cW bl E rem listed a ι) {x e:cn} (aC:List.Sublist [x,e] E):
  (vg e.q.o.op=true∨vi ops e.i x.i=false→yq ops x.i e.i)∧x.i≠e.i:=by
 have h1:List.Sublist [cn.key e,cn.key x] pm:=by
  rw [←d.split]
  have:=(aC.map cn.key).reverse
  exact this.trans (List.sublist_append_left _ _)
 refine ⟨List.pairwise_iff_forall_sublist.1 st.K9 h1,fun hx=> ?_⟩
 have:=h1.map (·.1)
 have h2:=List.pairwise_iff_forall_sublist.1 st.dC this
 exact h2 hx.symm
theorem Lc {A B:List cn} {x e:cn} (hx:x∈A):List.Sublist [x,e] (A++e::B):=(List.singleton_sublist.2 hx).append (List.Sublist.cons_cons _ (List.nil_sublist _))
theorem Qc {A B:List cn} {x e:cn} (hx:x∈B):List.Sublist [e,x] (A++e::B):=(List.Sublist.cons_cons _ (List.singleton_sublist.2 hx)).trans (List.sublist_append_right _ _)
theorem DI0.Zb (st:Stat ops pm) {i:Nat} {q:eA} (d:DI0 D P ops pm N cW bl E ((i,q)::rem) listed a ι) {x:Nat×eA} (hx:x∈rem) (b4:vg q.o.op=true):yq ops x.1 i:=by
 have h1:List.Sublist [(i,q),x] pm:=by
  rw [←d.split]
  exact (List.Sublist.cons_cons _ (List.singleton_sublist.2 hx)).trans (List.sublist_append_right _ _)
 exact List.pairwise_iff_forall_sublist.1 st.K9 h1 (.inl b4)
theorem Ld {i j:Nat} {x y:Oper} (hx:ops[i]? =some x) (hy:ops[j]? =some y) {t:Nat} (ht:x.dst=some t) (au:t∈y.looksAt ops∨y.dst=some t):vi ops i j=false:=by
 unfold vi
 rw [hx,hy]
 cases ax:x.apart ops y with
 |false=>exact ax
 |true=>
  obtain ⟨h1,h2,bj⟩:=Oper.apart_spec ax
  rcases au with au|au
  · exact absurd au (h1 t ht)
  · exact absurd au (h2 t ht)
theorem Zc {i j:Nat} {x y:Oper} (hx:ops[i]? =some x) (hy:ops[j]? =some y) {t:Nat} (ht:y.dst=some t) (au:t∈x.looksAt ops∨x.dst=some t):vi ops i j=false:=by
 unfold vi
 rw [hx,hy]
 cases ax:x.apart ops y with
 |false=>exact ax
 |true=>
  obtain ⟨h1,h2,bj⟩:=Oper.apart_spec ax
  rcases au with au|au
  · exact absurd au (bj t ht)
  · exact absurd ht (h2 t au)
theorem GK {i j:Nat} {GL:Oper} (aX:Down ops (fun i=>listed.getD i false=true)) (yr:ops[j]? =some GL) (hr:∀e∈GL.after,Region.binds .any e=true→listed.getD e.on false=true) (hb:yq ops j i) (bO:i≠j):listed.getD i false=true:=by
 have:=hb (fun k=>listed.getD k false=true∨k=j) (fun k o hk bq e he kO=> ?_) (.inr rfl)
 · exact this.resolve_right bO
 · rcases hk with hk|rfl
   · exact .inl (aX k o hk bq e he kO)
   · rw [yr] at bq;cases bq;exact .inl (hr e he kO)
theorem DI0.holds (st:Stat ops pm) (rv:cW.n=0) (km:∀t s,cW.tmp t=some s→∀p,s≠.val p) (d:DI0 D P ops pm N cW bl E rem listed a ι) {A B:List cn} {GM:Oper}
  (cJ:E=A++B) (hA:∀x∈A,∀t,x.o.dst=some t→t∈GM.looksAt ops→listed.getD x.i false=false)
  (bW:∀x∈B,∀t,x.o.dst=some t→t∈GM.looksAt ops→listed.getD x.i false=true):
  ∀t s,((ir cW B).only (GM.looksAt ops)).tmp t=some s→Holds ι (ia B) bl (a.tmps.getD t undef) s:=by
 intro t s aC
 obtain ⟨ax,ht⟩:=cP.Y5 aC
 have ax:t∈GM.looksAt ops:=by simpa using ax
 rcases La rv B ht with ⟨iA,bN,bc,rfl,h1,h2,rfl⟩|⟨h1,h2⟩
 · have hf:=Lb (p:=fun e:cn=>listed.getD e.i false&&decide (e.o.dst=some t)) (A:=A++iA) (e:=bN) (B:=bc) (fun x hx=>by
    rcases List.mem_append.1 hx with hx|hx
    · by_cases aX:x.o.dst=some t
      · rw [hA x hx t aX ax];rfl
      · simp [aX]
    · simp [h2 x hx]) (by rw [bW bN (by simp) t h1 ax];simpa using h1)
   have aE:=d.GI t bN (by rw [cJ];simpa using hf)
   refine ⟨by simp;omega, ?_⟩
   rw [Qb];exact aE
 · have hn:E.find? (fun e:cn=>listed.getD e.i false&&decide (e.o.dst=some t))=none:=by
    rw [List.find?_eq_none]
    intro x hx
    rw [cJ] at hx
    rcases List.mem_append.1 hx with hx|hx
    · by_cases aX:x.o.dst=some t
      · rw [hA x hx t aX ax];simp
      · simp [aX]
    · simp [h1 x hx]
   have:=d.GJ t hn s h2
   cases s with
   |val p=>exact absurd rfl (km t _ h2 p)
   |slot i j=>exact this
   |wM c=>exact this
end
end
end Go.Eng
namespace Go.Eng
variable {D:List Deferred}
noncomputable section
section
variable {P:Program} {ops:Array Oper} {pm:List (Nat×eA)} {N:Nat} {cW:cP} {bl:Env} {hN:bb} {h0:ag} {w0:World}
 {E:List cn} {rem:List (Nat×eA)} {listed:Array Bool} {a:Act} {w:World} {ι:bb} {h:ag} {Q:Exit→Act→World→Prop} {call:eU}
theorem tN {listed:Array Bool} {i j:Nat} (aq:i<listed.size):(listed.setIfInBounds i true).getD j false=if j=i then true else listed.getD j false:=by
 by_cases e:j=i
 · subst e;rw [if_pos rfl];simp [Array.getD,aq]
 · rw [if_neg e,getD_set_ne false (Ne.symm e)]
theorem Zd {E:List cn} {listed:Array Bool} {i t:Nat} (aq:i<listed.size) {A B:List cn} {e:cn} (cJ:E=A++e::B) (Ze:e.i=i)
  (hA:∀x∈A,x.i≠i) (bW:∀x∈B,x.i≠i) (nb:∀x∈A,x.o.dst=e.o.dst→e.o.dst≠none→listed.getD x.i false=false):
  E.find? (fun e=>(listed.setIfInBounds i true).getD e.i false&&decide (e.o.dst=some t))=
    if e.o.dst=some t then some e else E.find? (fun e=>listed.getD e.i false&&decide (e.o.dst=some t)):=by
 subst cJ
 by_cases ht:e.o.dst=some t
 · rw [if_pos ht]
   refine Lb (fun x hx=> ?_) ?_
   · show ((listed.setIfInBounds i true).getD x.i false&&decide (x.o.dst=some t))=false
     rw [tN aq,if_neg (hA x hx)]
     by_cases aX:x.o.dst=some t
     · rw [nb x hx (aX.trans ht.symm) (by rw [ht];simp)];rfl
     · simp [aX]
   · show ((listed.setIfInBounds i true).getD e.i false&&decide (e.o.dst=some t))=true
     rw [tN aq,if_pos Ze];simpa using ht
 · rw [if_neg ht,List.find?_append,List.find?_append]
   have ax:∀l:List cn,(∀x∈l,x.i≠i)→l.find? (fun e=>(listed.setIfInBounds i true).getD e.i false&&decide (e.o.dst=some t))=l.find? (fun e=>listed.getD e.i false&&decide (e.o.dst=some t)):=by
    intro l au
    induction l with
    |nil=>rfl
    |cons x l bt=>
     rw [List.find?_cons,List.find?_cons,tN aq,if_neg (au x (by simp)),bt (fun y hy=>au y (by simp [hy]))]
   rw [ax A hA,List.find?_cons,List.find?_cons,ax B bW]
   simp [ht]
theorem DI0.done (st:Stat ops pm) (d:DI0 D P ops pm N cW bl E rem listed a ι) {A B:List cn} {e:cn} (cJ:E=A++e::B) (hr:∀x∈e.o.after,Region.binds .any x=true→listed.getD x.on false=true)
  (gT:listed.getD e.i false=false) {v':Value} {bk:bb} (hle:ι.le bk) (aE:bL bk e.v v'):
  DI0 D P ops pm N cW bl E rem (listed.setIfInBounds e.i true) (a.put e.o.dst v') bk∧(∀j,(listed.setIfInBounds e.i true).getD j false=false→j≠e.i∧listed.getD j false=false):=by
 obtain ⟨bq,wN,_,_⟩:=d.ok A e B cJ
 have aq:e.i<listed.size:=by rw [d.tM];exact (Array.getElem?_eq_some_iff.1 bq).1
 have hA:∀x∈A,x.i≠e.i:=fun x hx=>(d.two st (by rw [cJ];exact Lc hx)).2
 have bW:∀x∈B,x.i≠e.i:=fun x hx=>fun h=>(d.two st (by rw [cJ];exact Qc hx)).2 h.symm
 have Qd:=fun t=>Zd (t:=t) aq cJ rfl hA bW (fun x hx Zf bO=>by
  cases au:listed.getD x.i false with
  |false=>rfl
  |true=>
   exfalso
   obtain ⟨t,ht⟩:=Option.ne_none_iff_exists'.1 bO
   obtain ⟨Le,Lf,rfl⟩:=List.append_of_mem hx
   obtain ⟨Dc,_⟩:=d.ok Le x (Lf++e::B) (by rw [cJ];simp)
   have hb:=(d.two st (x:=x) (e:=e) (by rw [cJ];exact Lc (by simp))).1 (.inr (Ld bq Dc ht (.inr (Zf.trans ht))))
   have:=hb _ d.down au
   rw [gT] at this;cases this)
 have Lg:=yl (a:=a) wN d.size
 refine ⟨⟨d.split,Da.trans d.size,put_defers.trans d.defers,by simpa using d.tM,fun k o hk hok x hx kO=> ?_,fun i au=> ?_,d.ok,d.ids,fun t x hf=> ?_,fun t hf s aC=> ?_⟩,fun j au=> ?_⟩
 · have hk:(listed.setIfInBounds e.i true).getD k false=true:=hk
   rw [tN aq] at hk
   show (listed.setIfInBounds e.i true).getD x.on false=true
   refine getD_set_true ?_
   by_cases aT:k=e.i
   · subst aT;rw [bq] at hok;cases hok;exact hr x hx kO
   · rw [if_neg aT] at hk;exact d.down k o hk hok x hx kO
 · rw [tN aq] at au
   by_cases aT:i=e.i
   · subst aT;exact ⟨e,by rw [cJ];simp,rfl⟩
   · rw [if_neg aT] at au;exact d.only i au
 · rw [Qd] at hf
   by_cases ht:e.o.dst=some t
   · rw [if_pos ht] at hf;cases hf
     rw [ht]
     show bL bk e.v ((a.tmps.setIfInBounds t v').getD t undef)
     rw [C8 (Lg t ht),if_pos rfl];exact aE
   · rw [if_neg ht] at hf
     have:=(d.GI t x hf).mono hle
     cases aX:e.o.dst with
     |none=>exact this
     |some u=>
      show bL bk x.v ((a.tmps.setIfInBounds u v').getD t undef)
      rw [C8 (Lg u aX),if_neg (by intro h;subst h;exact ht aX)];exact this
 · rw [Qd] at hf
   by_cases ht:e.o.dst=some t
   · rw [if_pos ht] at hf;cases hf
   · rw [if_neg ht] at hf
     have:=(d.GJ t hf s aC).mono hle
     cases aX:e.o.dst with
     |none=>exact this
     |some u=>
      show Holds bk [] bl ((a.tmps.setIfInBounds u v').getD t undef) s
      rw [C8 (Lg u aX),if_neg (by intro h;subst h;exact ht aX)];exact this
 · rw [tN aq] at au
   by_cases aT:j=e.i
   · rw [if_pos aT] at au;cases au
   · rw [if_neg aT] at au;exact ⟨aT,au⟩
theorem ln.done (st:Stat ops pm) (d:ln D P ops pm N cW bl hN h0 w0 E rem listed a w ι h) {A B:List cn} {e:cn} (cJ:E=A++e::B) (hr:∀x∈e.o.after,Region.binds .any x=true→listed.getD x.on false=true)
  (gT:listed.getD e.i false=false) {v':Value} {w':World} {bk:bb} (hle:ι.le bk) (aE:bL bk e.v v') (ax:dL hN h0 w0 bk h w')
  (hp:∀iA bN bc,E=iA++bN::bc→bN.i≠e.i→listed.getD bN.i false=false→wP bl bc bN h bk):
  ln D P ops pm N cW bl hN h0 w0 E rem (listed.setIfInBounds e.i true) (a.put e.o.dst v') w' bk h:=
 let ⟨cH,c6⟩:=d.toDI0.done st cJ hr gT hle aE
 ⟨cH,fun iA bN bc kP au=>hp iA bN bc kP (c6 _ au).1 (c6 _ au).2,d.ru,ax⟩
theorem GN {B:List cn} {r:dp} {o:Oper} {F:cP} (s:h9 ι F (ia B) (gi bl B) bl a.tmps) (aC:a.tmps.size=N) (hg:nM F N ops o r.dy=true) {b:Bool} (aE:vj bl B r=some b):
  Region.wanted o (yielded ops a.tmps)=b:=by
 unfold vj at aE
 cases hr:r.dy with
 |none=>rw [hr] at aE hg;cases aE;exact KW hg _
 |some p=>
  obtain ⟨g,c⟩:=p
  rw [hr] at aE hg
  exact KX s aC hg aE
theorem ln.exec (st:Stat ops pm) (rv:cW.n=0) (km:∀t s,cW.tmp t=some s→∀p,s≠.val p) (r0:nf cW [] bl bl) (d:ln D P ops pm N cW bl hN h0 w0 E rem listed a w ι h) {A B:List cn} {e:cn} (cJ:E=A++e::B)
  (hr:∀x∈e.o.after,Region.binds .any x=true→listed.getD x.on false=true) (gT:listed.getD e.i false=false) {K:Act→World→Prop}
  (hk:∀bp w' bk,ln D P ops pm N cW bl hN h0 w0 E rem (listed.setIfInBounds e.i true) bp w' bk h→K bp w'):wpOp P ops Q e.i K a w:=by
 obtain ⟨bq,wN,hg,hok⟩:=d.ok A e B cJ
 have hA:∀x∈A++[e],∀t,x.o.dst=some t→t∈e.o.looksAt ops→listed.getD x.i false=false:=by
  intro x hx t Lh AE
  rcases List.mem_append.1 hx with hx|hx
  · cases au:listed.getD x.i false with
    |false=>rfl
    |true=>
     exfalso
     obtain ⟨Le,Lf,rfl⟩:=List.append_of_mem hx
     obtain ⟨Dc,_⟩:=d.ok Le x (Lf++e::B) (by rw [cJ];simp)
     have hb:=(d.two st (x:=x) (e:=e) (by rw [cJ];exact Lc (by simp))).1 (.inr (Zc bq Dc Lh (.inl AE)))
     have:=hb _ d.down au
     rw [gT] at this;cases this
  · simp at hx;subst hx;exact gT
 have bW:∀x∈B,∀t,x.o.dst=some t→t∈e.o.looksAt ops→listed.getD x.i false=true:=by
  intro x hx t Lh AE
  obtain ⟨kM,mf,rfl⟩:=List.append_of_mem hx
  obtain ⟨Dc,_⟩:=d.ok (A++e::kM) x mf (by rw [cJ];simp)
  have h2:=d.two st (x:=e) (e:=x) (by rw [cJ];exact Qc (by simp))
  exact GK d.down bq hr (h2.1 (.inr (Ld Dc bq Lh (.inl AE)))) (Ne.symm h2.2)
 have s:h9 ι ((ir cW B).only (e.o.looksAt ops)) (ia B) (gi bl B) bl a.tmps:=
  ((r0.GH B).only _).str (d.holds st rv km (A:=A++[e]) (by rw [cJ];simp) hA bW)
 unfold wpOp
 rw [bq]
 rcases d.wQ A e B cJ gT with ⟨qh,aE⟩|⟨qh,l,au,hval|⟨id,aO,Qe,Qf,hid,hlt,ec,ry,dP,sB⟩⟩
 · have hw:=GN s d.size hg qh
   simp only [hw]
   refine hk _ w ι (d.done st cJ hr gT (bb.le.refl _) (by rw [aE];exact yc) d.mm (fun iA bN bc kP _ tE=>d.wQ iA bN bc kP tE))
 · have hw:=GN s d.size hg qh
   simp only [hw]
   refine .inl ?_
   obtain ⟨Qf,hval⟩:=hval
   rw [au] at hok
   obtain ⟨v',r1,gl⟩:=PA (P:=P) (w:=w) d.mm.gm (ve s) hok hval
   unfold Oper.wp;rw [r1]
   exact hk _ w ι (d.done st cJ hr gT (bb.le.refl _) gl d.mm (fun iA bN bc kP _ tE=>d.wQ iA bN bc kP tE))
 · have hw:=GN s d.size hg qh
   simp only [hw]
   refine .inl ?_
   rw [au] at hok
   obtain ⟨v',w',oG,r1,gl,lk⟩:=PB (P:=P) (w:=w) (ve s) hok hlt ec
   unfold Oper.wp;rw [r1]
   rw [hid] at gl lk
   have Qg:e.id=some id:=by unfold cn.id;rw [Qf]
   have AF:=d.ru e (by rw [cJ];simp) id Qg
   refine hk _ w' _ (d.done st cJ hr gT (bb.Al ry) lk (d.mm.late gl ry AF.1 AF.2 dP sB) (fun iA bN bc kP bO tE=> ?_))
   rcases d.wQ iA bN bc kP tE with aC|⟨cH,aP,c6,gI|⟨GO,lh,wv,m1,m2,m3,m4,m5,m6,m7⟩⟩
   · exact .inl aC
   · exact .inr ⟨cH,aP,c6, .inl gI⟩
   · refine .inr ⟨cH,aP,c6, .inr ⟨GO,lh,wv,m1,m2,m3,m4, ?_,m6,m7⟩⟩
     rw [bb.re]
     · exact m5
     · intro Zg
       subst Zg
       have tB:bN.id=some GO:=by unfold cn.id;rw [m1]
       have hin:=d.ids
       have m:bN∈A∨bN∈B:=by
        have:bN∈E:=by rw [kP];simp
        rw [cJ] at this
        rcases List.mem_append.1 this with hm|hm
        · exact .inl hm
        · rcases List.mem_cons.1 hm with rfl|hm
          · exact absurd rfl bO
          · exact .inr hm
       rw [cJ,List.filterMap_append,List.filterMap_cons,Qg] at hin
       simp only [List.nodup_append,List.nodup_cons] at hin
       rcases m with m|m
       · exact hin.2.2 GO (List.mem_filterMap.2 ⟨bN,m,tB⟩) GO (by simp) rfl
       · exact hin.2.1.1 (List.mem_filterMap.2 ⟨bN,m,tB⟩)
end
end
end Go.Eng
namespace Go.Eng
variable {D:List Deferred}
noncomputable section
section
variable {P:Program} {ops:Array Oper} {pm:List (Nat×eA)} {N:Nat} {cW:cP} {bl:Env} {hN:bb} {h0:ag} {w0:World}
 {E:List cn} {rem:List (Nat×eA)} {listed:Array Bool} {a:Act} {w:World} {ι:bb} {h aB:ag} {Q:Exit→Act→World→Prop} {call:eU} {x:X} {env':Env}
theorem Zh {k:uW} {o:Obj} {v:V} (hk:∀h1,h.next≤h1.next→bn.next h (k v h1)):bn.next h (xT k h o v):=by
 show bn.next h (Bool.rec .bad (h.la o fun h=>k v h) (fv o):bn)
 cases fv o with
 |false=>trivial
 |true=>rw [oA];exact hk _ (Nat.le_succ _)
theorem Qh (dE:mn call) {op:Op} {cK:List Nat} {ev:dM} {fI:List Log} {env:Env} {next:Log→V→ag→bn} (hk:∀l v h1,h.next≤h1.next→bn.next h (next l v h1)):bn.next h (kK op cK call ev fI env h next):=by
 cases op with
 |L e=>
  show bn.next h ((light e ev h).kd (light e ev) h next)
  cases light e ev h with
  |val v=>show bn.next h (v.force fun v=>next (.rd (light e ev) v) v h);rw [V.force_eq];exact hk _ _ _ (Nat.le_refl _)
  |new o v=>show bn.next h (force h.next fun id=>xT (fun v h=>next (.lP id o) v h) h o v);rw [force_eq];exact Zh fun h1 hn=>hk _ _ _ hn
  |bad=>trivial
 |H e=>
  refine KS (op:= .H e) dE fun v h1 hn=> ?_
  cases kJ cK h1 fI with
  |false=>trivial
  |true=>exact hk _ _ _ hn
theorem GQ (dE:mn call):∀(l:List eA) (vs:List V) (fI:List Log) (env:Env) (h:ag),bn.next h (e3 l call vs fI env h)
 |[],vs,fI,env,h=>Nat.le_refl _
 |q::l,vs,fI,env,h=>by
  have bt:=GQ dE l
  have plain:∀op,bn.next h (kK op q.cK call (fun a=>a.ev vs env) fI env h fun aP v h=>e3 l call (v::vs) (aP::fI) env h):=fun op=>Qh dE fun _ _ _ hn=>bn.yk hn (bt _ _ _ _)
  have slot:∀i j op,bn.next h (kK op q.cK call (fun a=>a.ev vs env) fI env h fun aP v h=>Env.dF i j v (fun env=>e3 l call (v::vs) (aP::fI) env h) env):=fun i j op=>Qh dE fun _ _ _ hn=>by rw [Env.iY];exact bn.yk hn (bt _ _ _ _)
  obtain ⟨o,cK⟩:=q
  cases o with
  |p op=>exact plain op
  |s i j op=>exact slot i j op
  |g g b op=>
   show bn.next h (Option.rec .bad (fun c=>Bool.rec (e3 l call (un::vs) (.no::fI) env h) (kK op cK call (fun a=>a.ev vs env) fI env h fun aP v h=>e3 l call (v::vs) (aP::fI) env h) c) ((g.ev vs env).dy b):bn)
   cases (g.ev vs env).dy b with
   |none=>trivial
   |some c=>
    show bn.next h (Bool.rec (e3 l call (un::vs) (.no::fI) env h) (kK op cK call (fun a=>a.ev vs env) fI env h fun aP v h=>e3 l call (v::vs) (aP::fI) env h) c:bn)
    cases c with
    |false=>exact bt _ _ _ _
    |true=>exact plain op
  |gs g b i j op=>
   show bn.next h (Option.rec .bad (fun c=>Bool.rec (Env.dF i j un (fun env=>e3 l call (un::vs) (.no::fI) env h) env) (kK op cK call (fun a=>a.ev vs env) fI env h fun aP v h=>Env.dF i j v (fun env=>e3 l call (v::vs) (aP::fI) env h) env) c) ((g.ev vs env).dy b):bn)
   cases (g.ev vs env).dy b with
   |none=>trivial
   |some c=>
    show bn.next h (Bool.rec (Env.dF i j un (fun env=>e3 l call (un::vs) (.no::fI) env h) env) (kK op cK call (fun a=>a.ev vs env) fI env h fun aP v h=>Env.dF i j v (fun env=>e3 l call (v::vs) (aP::fI) env h) env) c:bn)
    cases c with
    |false=>rw [Env.iY];exact bt _ _ _ _
    |true=>exact slot i j op
def vk (r:dp) (l:List eA) (call:eU) (E:List cn) (bl:Env) (cp:Log) (v:V) (h:ag):bn:=
 e3 l call (v::ia E) (cp::E.map cn.log) (match r.slot with|some (i,j)=>Env.set i j v (gi bl E)|none=>gi bl E) h
theorem Zi {q:eA} {l:List eA} (he:e3 (q::l) call (ia E) (E.map cn.log) (gi bl E) h= .ok x env' aB):
  (vj bl E q.o=some false∧vk q.o l call E bl .no un h= .ok x env' aB)∨
  (vj bl E q.o=some true∧kK q.o.op q.cK call (jc bl E) (E.map cn.log) (gi bl E) h (vk q.o l call E bl)= .ok x env' aB):=by
 obtain ⟨o,cK⟩:=q
 have aC:∀i j cp,(fun (v:V) (h:ag)=>Env.dF i j v (fun env=>e3 l call (v::ia E) (cp::E.map cn.log) env h) (gi bl E))=fun v h=>e3 l call (v::ia E) (cp::E.map cn.log) (Env.set i j v (gi bl E)) h:=fun i j cp=>by
  funext v h;rw [Env.iY]
 cases o with
 |p op=>exact .inr ⟨rfl,he⟩
 |s i j op=>
  refine .inr ⟨rfl, ?_⟩
  have he:kK op cK call (jc bl E) (E.map cn.log) (gi bl E) h (fun cp v h=>Env.dF i j v (fun env=>e3 l call (v::ia E) (cp::E.map cn.log) env h) (gi bl E))= .ok x env' aB:=he
  simp only [Env.iY] at he;exact he
 |g g b op=>
  have he:(Option.rec .bad (fun c=>Bool.rec (e3 l call (un::ia E) (.no::E.map cn.log) (gi bl E) h) (kK op cK call (jc bl E) (E.map cn.log) (gi bl E) h fun aP v h=>e3 l call (v::ia E) (aP::E.map cn.log) (gi bl E) h) c) ((jc bl E g).dy b):bn)= .ok x env' aB:=he
  show ((jc bl E g).dy b=some false∧_)∨((jc bl E g).dy b=some true∧_)
  cases hb:(jc bl E g).dy b with
  |none=>rw [hb] at he;cases he
  |some c=>
   rw [hb] at he
   have he:(Bool.rec (e3 l call (un::ia E) (.no::E.map cn.log) (gi bl E) h) (kK op cK call (jc bl E) (E.map cn.log) (gi bl E) h fun aP v h=>e3 l call (v::ia E) (aP::E.map cn.log) (gi bl E) h) c:bn)= .ok x env' aB:=he
   cases sA:c with
   |false=>rw [sA] at he;exact .inl ⟨rfl,he⟩
   |true=>rw [sA] at he;exact .inr ⟨rfl,he⟩
 |gs g b i j op=>
  have he:(Option.rec .bad (fun c=>Bool.rec (Env.dF i j un (fun env=>e3 l call (un::ia E) (.no::E.map cn.log) env h) (gi bl E)) (kK op cK call (jc bl E) (E.map cn.log) (gi bl E) h fun aP v h=>Env.dF i j v (fun env=>e3 l call (v::ia E) (aP::E.map cn.log) env h) (gi bl E)) c) ((jc bl E g).dy b):bn)= .ok x env' aB:=he
  show ((jc bl E g).dy b=some false∧_)∨((jc bl E g).dy b=some true∧_)
  cases hb:(jc bl E g).dy b with
  |none=>rw [hb] at he;cases he
  |some c=>
   rw [hb] at he
   have he:(Bool.rec (Env.dF i j un (fun env=>e3 l call (un::ia E) (.no::E.map cn.log) env h) (gi bl E)) (kK op cK call (jc bl E) (E.map cn.log) (gi bl E) h fun aP v h=>Env.dF i j v (fun env=>e3 l call (v::ia E) (aP::E.map cn.log) env h) (gi bl E)) c:bn)= .ok x env' aB:=he
   cases sA:c with
   |false=>
    rw [sA] at he
    have he:Env.dF i j un (fun env=>e3 l call (un::ia E) (.no::E.map cn.log) env h) (gi bl E)= .ok x env' aB:=he
    rw [Env.iY] at he
    exact .inl ⟨rfl,he⟩
   |true=>rw [sA] at he;simp only [Env.iY] at he;exact .inr ⟨rfl,he⟩
end
end
end Go.Eng
namespace Go.Eng
variable {D:List Deferred}
noncomputable section
section
variable {P:Program} {ops:Array Oper} {pm:List (Nat×eA)} {N:Nat} {cW:cP} {bl:Env} {hN:bb} {h0:ag} {w0:World}
 {E:List cn} {rem:List (Nat×eA)} {listed:Array Bool} {a:Act} {w:World} {ι:bb} {h aB:ag} {Q:Exit→Act→World→Prop} {call:eU} {x:X} {env':Env}
theorem Dd {e bN:cn} {A B:List cn} (h:e::E=A++bN::B):(A=[]∧bN=e∧B=E)∨∃iA,A=e::iA∧E=iA++bN::B:=by
 cases A with
 |nil=>simp at h;exact .inl ⟨rfl,h.1.symm,h.2.symm⟩
 |cons y iA=>simp at h;exact .inr ⟨iA,by rw [h.1],h.2⟩
theorem DI0.cons (st:Stat ops pm) {i:Nat} {q:eA} (d:DI0 D P ops pm N cW bl E ((i,q)::rem) listed a ι) {e:cn} (hk:e.key=(i,q))
  (hok:ops[e.i]? =some e.o∧pk N e.o.dst=true∧nM ((ir cW E).only (e.o.looksAt ops)) N ops e.o e.q.o.dy=true∧nL P ((ir cW E).only (e.o.looksAt ops)) e.o.op e.q.o.op=true)
  (Li:((e::E).filterMap cn.id).Nodup):DI0 D P ops pm N cW bl (e::E) rem listed a ι∧listed.getD e.i false=false:=by
 have gT:listed.getD e.i false=false:=by
  cases au:listed.getD e.i false with
  |false=>rfl
  |true=>
   exfalso
   obtain ⟨bN,tB,aq⟩:=d.only _ au
   have hn:=st.dC
   rw [←d.split] at hn
   simp only [List.map_append,List.nodup_append] at hn
   have h1:bN.i∈((E.map cn.key).reverse).map (·.1):=by simp;exact ⟨bN,tB,rfl⟩
   have h2:i∈(((i,q)::rem).map (·.1)):=by simp
   have bj:e.i=i:=congrArg (·.1) hk
   exact hn.2.2 _ h1 _ h2 (aq.trans bj)
 have hf:∀t,(e::E).find? (fun e=>listed.getD e.i false&&decide (e.o.dst=some t))=E.find? (fun e=>listed.getD e.i false&&decide (e.o.dst=some t)):=fun t=>by
  rw [List.find?_cons,gT];rfl
 refine ⟨⟨?_,d.size,d.defers,d.tM,d.down,fun j aV=> ?_,fun A bN B cJ=> ?_,Li,fun t bN h1=> ?_,fun t h1=> ?_⟩,gT⟩
 · rw [←d.split];simp [hk]
 · obtain ⟨bN,h1,h2⟩:=d.only j aV;exact ⟨bN,by simp [h1],h2⟩
 · rcases Dd cJ with ⟨rfl,rfl,rfl⟩|⟨iA,rfl,kP⟩
   · exact hok
   · exact d.ok iA bN B kP
 · rw [hf] at h1;exact d.GI t bN h1
 · rw [hf] at h1;exact d.GJ t h1
theorem De {e:cn} {n:Nat} (hn:(E.filterMap cn.id).Nodup) (hlt:∀e∈E,∀id,e.id=some id→id<n) (he:e.id=none∨e.id=some n):((e::E).filterMap cn.id).Nodup:=by
 rw [List.filterMap_cons]
 rcases he with he|he
 · rw [he];exact hn
 · rw [he]
   refine List.nodup_cons.2 ⟨fun hm=> ?_,hn⟩
   obtain ⟨bN,h1,h2⟩:=List.mem_filterMap.1 hm
   have:=hlt bN h1 n h2;omega
theorem wP.wq {B:List cn} {e:cn} {h1:ag} (k:yp h h1) (hf:h1.bJ=h.bJ) (p:wP bl B e h ι):wP bl B e h1 ι:=by
 rcases p with p|⟨cH,l,c6,⟨m1,m2⟩|⟨id,aO,hk,m1,m2,m3,m4,m5,m6,m7⟩⟩
 · exact .inl p
 · exact .inr ⟨cH,l,c6, .inl ⟨m1,Y1 k m2⟩⟩
 · exact .inr ⟨cH,l,c6, .inr ⟨id,aO,hk,m1,m2,m3,m4,m5,k _ _ m6,by rw [hf];exact m7⟩⟩
theorem ln.Zj (st:Stat ops pm) {i:Nat} {q:eA} (d:ln D P ops pm N cW bl hN h0 w0 E ((i,q)::rem) listed a w ι h) {o:Oper} (bq:ops[i]? =some o)
  (hok:pk N o.dst=true∧nM ((ir cW E).only (o.looksAt ops)) N ops o q.o.dy=true∧nL P ((ir cW E).only (o.looksAt ops)) o.op q.o.op=true)
  (gx:jV ι h aB) {l:h7} (au:q.o.op= .L l) (hg:vj bl E q.o=some true) {os:List eA} (he:kK q.o.op q.cK call (jc bl E) (E.map cn.log) (gi bl E) h (vk q.o os call E bl)= .ok x env' aB) (dE:mn call):
  ∃e h1,e.key=(i,q)∧e.o=o∧ln D P ops pm N cW bl hN h0 w0 (e::E) rem listed a w ι h1∧e3 os call (ia (e::E)) ((e::E).map cn.log) (gi bl (e::E)) h1= .ok x env' aB:=by
 rw [au] at he
 have he:(light l (jc bl E) h).kd (light l (jc bl E)) h (vk q.o os call E bl)= .ok x env' aB:=he
 cases Df:light l (jc bl E) h with
 |val v=>
  rw [Df] at he
  have he:v.force (fun v=>vk q.o os call E bl (.rd (light l (jc bl E)) v) v h)= .ok x env' aB:=he
  rw [V.force_eq] at he
  refine ⟨⟨i,o,q,v, .rd (light l (jc bl E)) v⟩,h,rfl,rfl, ?_,he⟩
  obtain ⟨cH,c6⟩:=d.toDI0.cons st (e:=⟨i,o,q,v, .rd (light l (jc bl E)) v⟩) rfl ⟨bq,hok⟩ (De d.ids (fun e he id hid=>(d.ru e he id hid).2) (.inl rfl))
  refine ⟨cH,fun A e B cJ Dg=> ?_,fun e hm id hid=> ?_,d.mm⟩
  · rcases Dd cJ with ⟨rfl,rfl,rfl⟩|⟨iA,rfl,kP⟩
    · exact .inr ⟨hg,l,au, .inl ⟨rfl,Df⟩⟩
    · exact d.wQ iA e B kP Dg
  · rcases List.mem_cons.1 hm with rfl|hm
    · cases hid
    · exact d.ru e hm id hid
 |new aO v=>
  rw [Df] at he
  have he:force h.next (fun id=>xT (fun v h=>vk q.o os call E bl (.lP id aO) v h) h aO v)= .ok x env' aB:=he
  rw [force_eq] at he
  have he:(Bool.rec .bad (h.la aO fun h1=>vk q.o os call E bl (.lP h.next aO) v h1) (fv aO):bn)= .ok x env' aB:=he
  cases aC:fv aO with
  |false=>rw [aC] at he;cases he
  |true=>
   rw [aC,oA] at he
   have hlen:(h.add aO).next≤aB.next:=by
    have:=GQ dE os (v::ia E) (.lP h.next aO::E.map cn.log) (match q.o.slot with|some (i,j)=>Env.set i j v (gi bl E)|none=>gi bl E) (h.add aO)
    have sz:e3 os call (v::ia E) (.lP h.next aO::E.map cn.log) (match q.o.slot with|some (i,j)=>Env.set i j v (gi bl E)|none=>gi bl E) (h.add aO)= .ok x env' aB:=he
    rw [sz] at this;exact this
   have ry:ι h.next=none:=gx _ (Nat.le_refl _) (Nat.lt_of_lt_of_le (Nat.lt_succ_self _) hlen)
   refine ⟨⟨i,o,q,v, .lP h.next aO⟩,h.add aO,rfl,rfl, ?_,he⟩
   obtain ⟨cH,c6⟩:=d.toDI0.cons st (e:=⟨i,o,q,v, .lP h.next aO⟩) rfl ⟨bq,hok⟩ (De d.ids (fun e he id hid=>(d.ru e he id hid).2) (.inr rfl))
   have g:=d.mm.gm
   refine ⟨cH,fun A e B cJ Dg=> ?_,fun e hm id hid=> ?_,d.mm.add ry aO⟩
   · rcases Dd cJ with ⟨rfl,rfl,rfl⟩|⟨iA,rfl,kP⟩
     · refine .inr ⟨hg,l,au, .inr ⟨h.next,aO,h,rfl,rfl,Df,aC,ry,T.Ab .., ?_⟩⟩
       cases hf:T.get h.next (h.add aO).bJ with
       |none=>rfl
       |some F=>have:=g.u0 h.next (Nat.zero_le _) (by rw [show T.get h.next h.bJ=some F from hf];simp);omega
     · exact (d.wQ iA e B kP Dg).wq (yp.add g.lQ aO) rfl
   · show h0.next≤id∧id<h.next+1
     rcases List.mem_cons.1 hm with rfl|hm
     · cases hid;exact ⟨d.mm.ext.2.1,Nat.lt_succ_self _⟩
     · have:=d.ru e hm id hid;omega
 |bad=>rw [Df] at he;cases he
theorem ln.Zk (st:Stat ops pm) {i:Nat} {q:eA} (d:ln D P ops pm N cW bl hN h0 w0 E ((i,q)::rem) listed a w ι h) {o:Oper} (bq:ops[i]? =some o)
  (hok:pk N o.dst=true∧nM ((ir cW E).only (o.looksAt ops)) N ops o q.o.dy=true∧nL P ((ir cW E).only (o.looksAt ops)) o.op q.o.op=true) (hg:vj bl E q.o=some false):
  ln D P ops pm N cW bl hN h0 w0 (⟨i,o,q,un, .no⟩::E) rem listed a w ι h:=by
 obtain ⟨cH,c6⟩:=d.toDI0.cons st (e:=⟨i,o,q,un, .no⟩) rfl ⟨bq,hok⟩ (De d.ids (fun e he id hid=>(d.ru e he id hid).2) (.inl rfl))
 refine ⟨cH,fun A e B cJ Dg=> ?_,fun e hm id hid=> ?_,d.mm⟩
 · rcases Dd cJ with ⟨rfl,rfl,rfl⟩|⟨iA,rfl,kP⟩
   · exact .inl ⟨hg,rfl⟩
   · exact d.wQ iA e B kP Dg
 · rcases List.mem_cons.1 hm with rfl|hm
   · cases hid
   · exact d.ru e hm id hid
theorem Qi:∀{cK:List Nat} {h:ag} {fI:List Log},kJ cK h fI=true→∀k∈cK,still h (logAt fI k)=true
 |[],_,_,_,k,hk=>by simp at hk
 |u::cK,h,fI,aC,k,hk=>by
  have aC:(Bool.rec false (kJ cK h fI) (still h (logAt fI u)):Bool)=true:=aC
  cases hu:still h (logAt fI u) with
  |false=>rw [hu] at aC;cases aC
  |true=>
   rw [hu] at aC
   rcases List.mem_cons.1 hk with rfl|hk
   · exact hu
   · exact Qi aC k hk
theorem Zl (A:List cn) (e:cn) (B:List cn):logAt ((A++e::B).map cn.log) A.length=e.log:=by
 induction A with
 |nil=>rfl
 |cons x A bt=>exact bt
theorem Zm {f:ag→bM} {v:V} {h:ag} (hf:Cv f v h=true):f h= .val v:=by
 unfold Cv at hf
 cases aE:f h with
 |val w=>rw [aE] at hf;rw [V.rq v w hf]
 |new o w=>rw [aE] at hf;cases hf
 |bad=>rw [aE] at hf;cases hf
theorem wP.hK {B:List cn} {e:cn} {h1:ag} {mS:bb} (p:wP bl B e h ι) (ry:∀id,e.id=some id→ι id=none→mS id=none) (aC:vh e.q.o.op=false∨still h1 e.log=true):wP bl B e h1 mS:=by
 rcases p with p|⟨cH,l,c6,⟨m1,m2⟩|⟨id,aO,hk,m1,m2,m3,m4,m5,m6,m7⟩⟩
 · exact .inl p
 · refine .inr ⟨cH,l,c6, .inl ⟨m1, ?_⟩⟩
   rcases aC with aC|aC
   · rw [c6] at aC;rw [Za aC];exact m2
   · rw [m1] at aC;exact Zm aC
 · refine .inr ⟨cH,l,c6, .inr ⟨id,aO,hk,m1,m2,m3,m4,ry id (by unfold cn.id;rw [m1]) m5, ?_⟩⟩
   rcases aC with aC|aC
   · rw [c6] at aC
     exfalso
     have hn:=Pz m3
     cases l<;>first|(cases aC;done)|(simp [KD] at hn;done)
   · rw [m1] at aC
     have aC:(match T.get id h1.t,T.get id h1.bJ with|some o,none=>Obj.same aO o|_,_=>false)=true:=aC
     cases Lj:T.get id h1.t with
     |none=>rw [Lj] at aC;cases aC
     |some o=>
      cases Qj:T.get id h1.bJ with
      |some F=>rw [Lj,Qj] at aC;cases aC
      |none=>rw [Lj,Qj] at aC;rw [Obj.rq aO o aC];exact ⟨rfl,rfl⟩
theorem Qk {b:Nat} {cK:List Nat}:∀(A:List cn) (e:cn) (B:List cn) (k:Nat),AA b cK ((A++e::B).map (fun e=>(e.i,vh e.q.o.op))) k=true→vh e.q.o.op=false∨b.testBit e.i=true∨k+A.length∈cK
 |[],e,B,k,h=>by
  have h:=(Bool.dZ h).1
  rw [Bool.or_eq_true,Bool.or_eq_true] at h
  rcases h with h|h|h
  · exact .inl (by simpa using h)
  · exact .inr (.inl h)
  · exact .inr (.inr (by simpa using h))
 |y::A,e,B,k,h=>by
  have h:=(Bool.dZ h).2
  rcases Qk A e B (k+1) h with h|h|h
  · exact .inl h
  · exact .inr (.inl h)
  · exact .inr (.inr (by rw [List.length_cons,show k+(A.length+1)=k+1+A.length by omega];exact h))
end
end
end Go.Eng
namespace Go.Eng
variable {D:List Deferred}
noncomputable section
section
variable {P:Program} {ops:Array Oper} {pm:List (Nat×eA)} {N:Nat} {cW:cP} {bl:Env} {hN:bb} {h0:ag} {w0:World}
 {E:List cn} {rem:List (Nat×eA)} {listed:Array Bool} {a:Act} {w:World} {ι:bb} {h aB:ag} {Q:Exit→Act→World→Prop} {call:eU} {x:X} {env':Env} {m:List Nat} {F':cP}
def tO (listed:Array Bool) (E:List cn):Nat:=E.countP (fun e=> !listed.getD e.i false)
theorem Lk {A B:List cn} {e:cn} (aq:e.i<listed.size) (gT:listed.getD e.i false=false):tO (listed.setIfInBounds e.i true) (A++e::B)<tO listed (A++e::B):=by
 have hm:∀l:List cn,l.countP (fun x=> !(listed.setIfInBounds e.i true).getD x.i false)≤l.countP (fun x=> !listed.getD x.i false):=fun l=>
  List.countP_mono_left fun x _ hx=>by
   rw [tN aq] at hx
   by_cases c:x.i=e.i
   · rw [if_pos c] at hx;cases hx
   · rw [if_neg c] at hx;exact hx
 unfold tO
 rw [List.countP_append,List.countP_append,List.countP_cons,List.countP_cons,tN aq,if_pos rfl,gT]
 exact Nat.add_lt_add_of_le_of_lt (hm A) (Nat.lt_succ_of_le (hm B))
theorem least {p:Nat→Prop}:∀(n:Nat),p n→∃k,p k∧∀j,j<k→¬p j:=by
 intro n
 induction n using Nat.strongRecOn with
 |_ n bt=>
  intro hn
  by_cases h:∃j,j<n∧p j
  · obtain ⟨j,aV,hp⟩:=h;exact bt j aV hp
  · exact ⟨n,hn,fun j aV hp=>h ⟨j,aV,hp⟩⟩
theorem Ql (st:Stat ops pm) (aC:listed.size=ops.size) {j:Nat} (aV:j<ops.size) (gT:listed.getD j false=false):Region.ready .any ops listed≠[]:=by
 obtain ⟨k,⟨hk,Qm⟩,Zn⟩:=least (p:=fun j=>j<ops.size∧listed.getD j false=false) j ⟨aV,gT⟩
 have:k∈Region.ready .any ops listed:=by
  rw [mem_ready]
  refine ⟨?_,ops[k],Array.getElem?_eq_getElem hk,fun e he hb=> ?_⟩
  · simp [Array.getD,aC,hk] at Qm ⊢;exact Qm
  · have hlt:=st.Y8 k _ (Array.getElem?_eq_getElem hk) e he hb
    cases au:listed.getD e.on false with
    |true=>rfl
    |false=>exact absurd ⟨by omega,au⟩ (Zn e.on hlt)
 intro h;rw [h] at this;cases this
theorem DI0.ready (st:Stat ops pm) (d:DI0 D P ops pm N cW bl E rem listed a ι) {j:Nat} (aV:j∈Region.ready .any ops listed):
  listed.getD j false=false∧∃o,ops[j]? =some o∧(∀e∈o.after,Region.binds .any e=true→listed.getD e.on false=true)∧((∃A e B,E=A++e::B∧e.i=j)∨∃x∈rem,x.1=j):=by
 obtain ⟨h1,o,bq,h2⟩:=mem_ready.1 aV
 have hlt:j<ops.size:=(Array.getElem?_eq_some_iff.1 bq).1
 refine ⟨by simp [Array.getD,d.tM,hlt] at h1 ⊢;exact h1,o,bq,h2, ?_⟩
 have:=st.all j o bq
 rw [←d.split] at this
 simp only [List.map_append,List.mem_append,List.map_reverse,List.mem_reverse,List.map_map,List.mem_map,Function.comp] at this
 rcases this with ⟨e,he,aq⟩|⟨x,hx,aq⟩
 · obtain ⟨A,B,cJ⟩:=List.append_of_mem he
   exact .inl ⟨A,e,B,cJ,aq⟩
 · exact .inr ⟨x,hx,aq⟩
theorem DI0.str (rv:cW.n=0) (km:∀t s,cW.tmp t=some s→∀p,s≠.val p) (r0:nf cW [] bl bl) (d:DI0 D P ops pm N cW bl E rem listed a ι) (oB:∀e∈E,listed.getD e.i false=true):
  h9 ι (ir cW E) (ia E) (gi bl E) bl a.tmps:=by
 refine (r0.GH E).str fun t s ht=> ?_
 rcases La rv E ht with ⟨iA,bN,bc,rfl,h1,h2,rfl⟩|⟨h1,h2⟩
 · have hf:=Lb (p:=fun e:cn=>listed.getD e.i false&&decide (e.o.dst=some t)) (A:=iA) (e:=bN) (B:=bc) (fun x hx=>by simp [h2 x hx]) (by rw [oB bN (by simp)];simpa using h1)
   have aE:=d.GI t bN hf
   refine ⟨by simp;omega, ?_⟩
   rw [Qb];exact aE
 · have hn:E.find? (fun e:cn=>listed.getD e.i false&&decide (e.o.dst=some t))=none:=by
    rw [List.find?_eq_none]
    intro x hx;simp [h1 x hx]
   have:=d.GJ t hn s h2
   cases s with
   |val p=>exact absurd rfl (km t _ h2 p)
   |slot i j=>exact this
   |wM c=>exact this
theorem ln.act (st:Stat ops pm) (hm:wO ops m) (sj:m.length=ops.size) (er:rp P call) (dE:mn call) (rv:cW.n=0) (km:∀t s,cW.tmp t=some s→∀p,s≠.val p) (r0:nf cW [] bl bl)
  {i:Nat} {q:eA} (d:ln D P ops pm N cW bl hN h0 w0 E ((i,q)::rem) listed a w ι h) {o:Oper} (bq:ops[i]? =some o)
  (hok:pk N o.dst=true∧nM ((ir cW E).only (o.looksAt ops)) N ops o q.o.dy=true∧nL P ((ir cW E).only (o.looksAt ops)) o.op q.o.op=true)
  (Ll:AA (rr m i) q.cK (E.map (fun e=>(e.i,vh e.q.o.op))) 0=true) (Lm:jV hN h0 aB) {l:oo} (au:q.o.op= .H l) (hg:vj bl E q.o=some true) {os:List eA}
  (he:kK q.o.op q.cK call (jc bl E) (E.map cn.log) (gi bl E) h (vk q.o os call E bl)= .ok x env' aB)
  (hr:∀e∈o.after,Region.binds .any e=true→listed.getD e.on false=true) (gT:listed.getD i false=false) {K:Act→World→Prop}
  (sC:∀e bp w' bk h1,e.key=(i,q)→e.o=o→ln D P ops pm N cW bl hN h0 w0 (e::E) rem (listed.setIfInBounds i true) bp w' bk h1→
    e3 os call (ia (e::E)) ((e::E).map cn.log) (gi bl (e::E)) h1= .ok x env' aB→K bp w')
  (qi:∀v,x= .du v→∀v' bk bp w',dL hN h0 w0 bk aB w'→bL bk v v'→bp.defers=D→Q (.panic [{v:=v',recovered:=false}]) bp w'):wpOp P ops Q i K a w:=by
 have hA:∀y∈([]:List cn),∀t,y.o.dst=some t→t∈o.looksAt ops→listed.getD y.i false=false:=fun y hy=>by simp at hy
 have bW:∀y∈E,∀t,y.o.dst=some t→t∈o.looksAt ops→listed.getD y.i false=true:=by
  intro y hy t Zo AE
  obtain ⟨kM,mf,cJ⟩:=List.append_of_mem hy
  obtain ⟨Zp,_⟩:=d.ok kM y mf cJ
  have h1:List.Sublist [cn.key y,(i,q)] pm:=by
   rw [←d.split]
   exact (List.singleton_sublist.2 (by simp;exact ⟨y,hy,rfl⟩)).append (List.Sublist.cons_cons _ (List.nil_sublist _))
  have hp:=List.pairwise_iff_forall_sublist.1 st.K9 h1 (.inr (Ld Zp bq Zo (.inl AE)))
  have h2:List.Sublist [y.i,i] (pm.map (·.1)):=h1.map (fun x:Nat×eA=>x.1)
  have bO:y.i≠i:=List.pairwise_iff_forall_sublist.1 st.dC h2
  exact GK d.down bq hr hp bO
 have s:h9 ι ((ir cW E).only (o.looksAt ops)) (ia E) (gi bl E) bl a.tmps:=((r0.GH E).only _).str (d.toDI0.holds st rv km (A:=[]) rfl hA bW)
 have hw:=GN s d.size hok.2.1 hg
 unfold wpOp
 rw [bq]
 simp only [hw]
 refine .inl ?_
 have gx:jV ι h aB:=Lm.right d.mm.ext
 have he:tr q.o.op call (jc bl E) (gi bl E) h (fun v h1=>Bool.rec .bad (vk q.o os call E bl .no v h1) (kJ q.cK h1 (E.map cn.log)))= .ok x env' aB:=by rw [au] at he ⊢;exact he
 refine P1 er dE d.mm.gm s hok.2.2 he gx (fun v h1=> ?_) (fun h1 v v' bk w' bu c nI hle aE=> ?_) (fun v v' bk w' ex _ c aE=>qi v ex v' bk a w' (d.mm.trans c ?_) aE d.defers)
 · cases kJ q.cK h1 (E.map cn.log) with
   |false=>trivial
   |true=>exact GQ dE os _ _ _ _
 · cases e5:kJ q.cK h1 (E.map cn.log) with
   |false=>rw [e5] at bu;cases bu
   |true=>
    rw [e5] at bu
    have Li:=De (e:=⟨i,o,q,v, .no⟩) d.ids (fun e he id hid=>(d.ru e he id hid).2) (.inl rfl)
    obtain ⟨cH,c6⟩:=d.toDI0.cons st (e:=⟨i,o,q,v, .no⟩) rfl ⟨bq,hok⟩ Li
    obtain ⟨gI,nc⟩:=cH.done st (A:=[]) (B:=E) rfl hr c6 c.ext.1 aE
    refine sC ⟨i,o,q,v, .no⟩ _ w' bk h1 rfl rfl ⟨gI,fun A e B cJ tE=> ?_,fun e p3 id hid=> ?_,d.mm.trans c ?_⟩ bu
    · obtain ⟨bO,gp⟩:=nc _ tE
      rcases Dd cJ with ⟨rfl,rfl,rfl⟩|⟨iA,rfl,kP⟩
      · exact absurd rfl bO
      · refine (d.wQ iA e B kP gp).hK (fun id hid ry=> ?_) ?_
        · have aiB:=d.ru e (by rw [kP];simp) id hid
          cases hx:bk id with
          |none=>rfl
          |some kM=>have:=c.ext.2.2 id ry (by rw [hx];simp);omega
        · have Qn:=Ll
          rw [kP] at Qn
          rcases Qk iA e B 0 Qn with aC|hb|hu
          · exact .inl aC
          · exfalso
            have aq:i<m.length:=by rw [sj];exact (Array.getElem?_eq_some_iff.1 bq).1
            have:=GK d.down bq hr (hm i e.i aq hb) bO
            rw [gp] at this;cases this
          · have:=Qi e5 _ hu
            rw [kP,Nat.zero_add,Zl] at this
            exact .inr this
    · have aiC:=c.ext.2.1
      rcases List.mem_cons.1 p3 with rfl|p3
      · cases hid
      · have:=d.ru e p3 id hid;omega
    · exact fun b hM dW=>Lm b hM (Nat.lt_of_lt_of_le dW (Nat.le_trans c.ext.2.1 hle))
 · exact fun b hM dW=>Lm b hM (Nat.lt_of_lt_of_le dW c.ext.2.1)
end
end
end Go.Eng
namespace Go.Eng
variable {D:List Deferred}
noncomputable section
section
variable {P:Program} {ops:Array Oper} {pm:List (Nat×eA)} {N:Nat} {cW:cP} {bl:Env} {hN:bb} {h0:ag} {w0:World}
 {aB:ag} {Q:Exit→Act→World→Prop} {call:eU} {x:X} {env':Env} {m:List Nat} {F':cP}
theorem Zq (st:Stat ops pm) (hm:wO ops m) (sj:m.length=ops.size) (er:rp P call) (dE:mn call) (rv:cW.n=0) (km:∀t s,cW.tmp t=some s→∀p,s≠.val p) (r0:nf cW [] bl bl) (gx:jV hN h0 aB)
  (fy:x= .nrm→∀bk nN bp w',dL hN h0 w0 bk aB w'→h9 bk F' nN env' bl bp.tmps→bp.tmps.size=N→bp.defers=D→Q .normal bp w')
  (qi:∀v,x= .du v→∀v' bk bp w',dL hN h0 w0 bk aB w'→bL bk v v'→bp.defers=D→Q (.panic [{v:=v',recovered:=false}]) bp w'):
  ∀(rem:List (Nat×eA)) (E:List cn) (h:ag),AB P N ops m rem (E.map (fun e=>(e.i,vh e.q.o.op))) (ir cW E)=some F'→e3 (rem.map (·.2)) call (ia E) (E.map cn.log) (gi bl E) h= .ok x env' aB→
   ∀(fuel:Nat) (listed:Array Bool) (a:Act) (w:World) (ι:bb),ln D P ops pm N cW bl hN h0 w0 E rem listed a w ι h→tO listed E+rem.length≤fuel→wpAny P .any ops Q fuel listed a w:=by
 intro rem
 induction rem with
 |nil=>
  intro E h ax he
  have ax:some (ir cW E)=some F':=ax
  cases ax
  have he:bn.ok .nrm (gi bl E) h= .ok x env' aB:=he
  cases he
  have fin:∀(listed:Array Bool) (a:Act) (w:World) (ι:bb),ln D P ops pm N cW bl hN h0 w0 E [] listed a w ι aB→(∀e∈E,listed.getD e.i false=true)→Q .normal a w:=fun listed a w ι d oB=>
   fy rfl ι (ia E) a w d.mm (d.toDI0.str rv km r0 oB) d.size d.defers
  have Zr:∀(listed:Array Bool) (a:Act) (w:World) (ι:bb),ln D P ops pm N cW bl hN h0 w0 E [] listed a w ι aB→Region.ready .any ops listed=[]→∀e∈E,listed.getD e.i false=true:=by
   intro listed a w ι d hr e he
   cases au:listed.getD e.i false with
   |true=>rfl
   |false=>
    obtain ⟨A,B,cJ⟩:=List.append_of_mem he
    have bq:=(d.ok A e B cJ).1
    exact absurd hr (Ql st d.tM (Array.getElem?_eq_some_iff.1 bq).1 au)
  intro fuel
  induction fuel with
  |zero=>
   intro listed a w ι d hle
   have oB:∀e∈E,listed.getD e.i false=true:=by
    intro e he
    cases au:listed.getD e.i false with
    |true=>rfl
    |false=>
     obtain ⟨A,B,rfl⟩:=List.append_of_mem he
     have bq:=(d.ok A e B rfl).1
     have:=Lk (A:=A) (B:=B) (e:=e) (listed:=listed) (by rw [d.tM];exact (Array.getElem?_eq_some_iff.1 bq).1) au
     simp at hle;omega
   refine ⟨?_,fin listed a w ι d oB⟩
   cases hr:Region.ready .any ops listed with
   |nil=>rfl
   |cons j mo=>
    exfalso
    obtain ⟨cH,o,bq,c6,gI⟩:=d.toDI0.ready st (j:=j) (by rw [hr];simp)
    rcases gI with ⟨A,e,B,cJ,rfl⟩|⟨y,hy,_⟩
    · rw [oB e (by rw [cJ];simp)] at cH;cases cH
    · simp at hy
  |succ fuel bt=>
   intro listed a w ι d hle
   refine ⟨fun hr=>fin listed a w ι d (Zr listed a w ι d hr),fun j aV=> ?_⟩
   obtain ⟨cH,o,bq,c6,gI⟩:=d.toDI0.ready st aV
   rcases gI with ⟨A,e,B,cJ,rfl⟩|⟨y,hy,_⟩
   · have Dh:=(d.ok A e B cJ).1
     have:o=e.o:=by rw [bq] at Dh;exact Option.some.inj Dh
     subst this
     refine d.exec st rv km r0 cJ c6 cH (fun bp w' bk d'=>bt _ bp w' bk d' ?_)
     have:=Lk (A:=A) (B:=B) (e:=e) (listed:=listed) (by rw [d.tM];exact (Array.getElem?_eq_some_iff.1 bq).1) cH
     rw [←cJ] at this
     omega
   · simp at hy
 |cons ng rem Ln=>
  intro E h ax he
  obtain ⟨i,q⟩:=ng
  unfold AB at ax
  cases bq:ops[i]? with
  |none=>rw [bq] at ax;cases ax
  |some o=>
   rw [bq] at ax
   simp only at ax
   by_cases qc:(pk N o.dst&&(nM ((ir cW E).only (o.looksAt ops)) N ops o q.o.dy&&(nL P ((ir cW E).only (o.looksAt ops)) o.op q.o.op&&(!vg q.o.op||AA (rr m i) q.cK (E.map (fun e=>(e.i,vh e.q.o.op))) 0))))=true
   · rw [if_pos qc] at ax
     have fw:=Bool.dZ qc;have fl:=Bool.dZ fw.2;have u7:=Bool.dZ fl.2
     have hok:pk N o.dst=true∧nM ((ir cW E).only (o.looksAt ops)) N ops o q.o.dy=true∧nL P ((ir cW E).only (o.looksAt ops)) o.op q.o.op=true:=⟨fw.1,fl.1,u7.1⟩
     have wait:∀(e:cn) (h1:ag) (listed:Array Bool),e.key=(i,q)→e.o=o→listed.getD i false=false→tO listed (e::E)=tO listed E+1:=by
      intro e h1 listed hk _ au
      have:e.i=i:=congrArg (·.1) hk
      unfold tO
      rw [List.countP_cons,this,au];rfl
     have Lo:∀(listed:Array Bool) (a:Act) (w:World) (ι:bb),ln D P ops pm N cW bl hN h0 w0 E ((i,q)::rem) listed a w ι h→listed.getD i false=false:=by
      intro listed a w ι d
      exact (d.toDI0.cons st (e:=⟨i,o,q,un, .no⟩) rfl ⟨bq,hok⟩ (De d.ids (fun e he id hid=>(d.ru e he id hid).2) (.inl rfl))).2
     rcases Zi he with ⟨hg,bu⟩|⟨hg,bu⟩
     · intro fuel listed a w ι d hle
       have d2:=d.Zk st bq hok hg
       refine Ln (⟨i,o,q,un, .no⟩::E) h ax bu fuel listed a w ι d2 ?_
       rw [wait ⟨i,o,q,un, .no⟩ h listed rfl rfl (Lo listed a w ι d)]
       simp at hle;omega
     · cases bA:q.o.op with
       |L l=>
        intro fuel listed a w ι d hle
        obtain ⟨e,h1,hk,GR,d2,dH⟩:=d.Zj st bq hok (gx.right d.mm.ext) bA hg bu dE
        have Di:e.q=q:=congrArg (·.2) hk
        have wR:e.i=i:=congrArg (·.1) hk
        refine Ln (e::E) h1 ?_ dH fuel listed a w ι d2 ?_
        · rw [List.map_cons,wR,Di];unfold ir;rw [GR,Di];exact ax
        · rw [wait e h1 listed hk GR (Lo listed a w ι d)]
          simp at hle;omega
       |H l=>
        have Ll:AA (rr m i) q.cK (E.map (fun e=>(e.i,vh e.q.o.op))) 0=true:=by
         have:=u7.2
         rw [bA] at this
         simpa [vg] using this
        intro fuel
        induction fuel with
        |zero=>intro listed a w ι d hle;simp at hle
        |succ fuel bt=>
         intro listed a w ι d hle
         have gT:=Lo listed a w ι d
         have aq:i<ops.size:=(Array.getElem?_eq_some_iff.1 bq).1
         refine ⟨fun hr=>absurd hr (Ql st d.tM aq gT),fun j aV=> ?_⟩
         obtain ⟨cH,GL,yr,c6,gI⟩:=d.toDI0.ready st aV
         rcases gI with ⟨A,e,B,cJ,rfl⟩|⟨y,hy,Qo⟩
         · have Dh:=(d.ok A e B cJ).1
           have:GL=e.o:=by rw [yr] at Dh;exact Option.some.inj Dh
           subst this
           refine d.exec st rv km r0 cJ c6 cH (fun bp w' bk d'=>bt _ bp w' bk d' ?_)
           have:=Lk (A:=A) (B:=B) (e:=e) (listed:=listed) (by rw [d.tM];exact (Array.getElem?_eq_some_iff.1 yr).1) cH
           rw [←cJ] at this
           omega
         · by_cases CT:j=i
           · subst CT
             rw [bq] at yr;cases yr
             refine d.act st hm sj er dE rv km r0 bq hok Ll gx bA hg bu c6 gT (fun e bp w' bk h1 hk GR d2 dH=> ?_) qi
             have Di:e.q=q:=congrArg (·.2) hk
             have wR:e.i=j:=congrArg (·.1) hk
             refine Ln (e::E) h1 ?_ dH fuel _ bp w' bk d2 ?_
             · rw [List.map_cons,wR,Di];unfold ir;rw [GR,Di];exact ax
             · have Qp:j<listed.size:=by rw [d.tM];exact aq
               have h1:tO (listed.setIfInBounds j true) (e::E)≤tO listed E:=by
                unfold tO
                rw [List.countP_cons,wR,tN Qp,if_pos rfl]
                refine List.countP_mono_left fun x _ hx=> ?_
                rw [tN Qp] at hx
                by_cases c:x.i=j
                · rw [if_pos c] at hx;cases hx
                · rw [if_neg c] at hx;exact hx
               simp at hle;omega
           · exfalso
             rcases List.mem_cons.1 hy with rfl|hy
             · exact CT Qo.symm
             · have hb:=d.toDI0.Zb st hy (by rw [bA];rfl)
               rw [Qo] at hb
               have:=GK d.down yr c6 hb (Ne.symm CT)
               rw [gT] at this;cases this
   · rw [if_neg qc] at ax;cases ax
end
end
end Go.Eng
namespace Go.Eng
variable {D:List Deferred}
noncomputable section
def GU (c8:List Nat):Option cP→Bool
 |some F=>yn F c8 0
 |none=>false
def sD (P:Program) (c8:List Nat) (N:Nat):Code→C→Bool
 | .scope c,e=>sD P c8 N c e
 |_, .stuck=>true
 | .skip, .skip=>true
 | .label _, .skip=>true
 | .ret, .ret=>true
 | .exit i, .exit j=>i==j
 | .seq a b, .seq bp bT=>sD P c8 N a bp&&sD P c8 N b bT
 | .cond x a b, .cond gR bp bT=>pg (cP.start c8) x gR&&(sD P c8 N a bp&&sD P c8 N b bT)
 | .block i c, .block j dT=>i==j&&sD P c8 N c dT
 | .loop c, .loop dT=>sD P c8 N c dT
 | .region _ ops false, .aG iH l=>GU c8 (qg P N iH ops ops.toList 0 l (cP.start c8))
 | .region _ ops true, .draw pm l=>(pm.length==l.length&&decide (pm.length≤ops.size))&&(K8 ops (oF ops.toList []) (pm.zip l)&&GU c8 (AB P N ops (oF ops.toList []) (pm.zip l) [] (cP.start c8)))
 |_,_=>false
def AG (D:List Deferred) (ι:bb) (h:ag) (w:World) (c8:List Nat) (N:Nat) (x:X) (env':Env) (aB:ag) (Q:Exit→Act→World→Prop):Prop:=
 ∀bk bp w',dL ι h w bk aB w'→match x with
  | .nrm=>qj D bk c8 N env' bp→Q .normal bp w'
  | .ret=>qj D bk c8 N env' bp→Q .ret bp w'
  | .exit i=>qj D bk c8 N env' bp→Q (.exit i) bp w'
  | .du v=>∀v',bL bk v v'→bp.defers=D→Q (.panic [{v:=v',recovered:=false}]) bp w'
section
variable {P:Program} {call:eU} {c8:List Nat} {N:Nat}
theorem tP (dE:mn call):∀(e:C) (n:Nat) (env:Env) (h:ag),bn.next h (code e call n env h)
 | .skip,_,_,h=>Nat.le_refl _
 | .ret,_,_,h=>Nat.le_refl _
 | .exit _,_,_,h=>Nat.le_refl _
 | .seq a b,n,env,h=>by
   show bn.next h (bn.rec (fun x env h=>X.rec (code b call n env h) (.ok .ret env h) (fun i=> .ok (.exit i) env h) (fun v=> .ok (.du v) env h) x) .bad (code a call n env h):bn)
   have h1:=tP dE a n env h
   cases hr:code a call n env h with
   |bad=>trivial
   |ok x kQ jR=>
    rw [hr] at h1
    cases x with
    |nrm=>exact bn.yk h1 (tP dE b n kQ jR)
    |ret=>exact h1
    |exit i=>exact h1
    |du v=>exact h1
 | .cond x a b,n,env,h=>by
   show bn.next h (Option.rec .bad (fun t=>Bool.rec (code b call n env h) (code a call n env h) t) (x.ev [] env).asBool:bn)
   cases (x.ev [] env).asBool with
   |none=>trivial
   |some t=>cases t with
    |false=>exact tP dE b n env h
    |true=>exact tP dE a n env h
 | .block id a,n,env,h=>by
   show bn.next h (bn.rec (fun x env h=>X.rec (.ok .nrm env h) (.ok .ret env h) (fun i=> .ok (Bool.rec (.exit i) .nrm (i.beq id)) env h) (fun v=> .ok (.du v) env h) x) .bad (code a call n env h):bn)
   have h1:=tP dE a n env h
   cases hr:code a call n env h with
   |bad=>trivial
   |ok x kQ jR=>rw [hr] at h1;cases x<;>exact h1
 | .loop a,n,env,h=>by
   show bn.next h (rounds (fun env h=>code a call n env h) n env h)
   have key:∀k env h,bn.next h (rounds (fun env h=>code a call n env h) k env h):=by
    intro k
    induction k with
    |zero=>intro env h;trivial
    |succ k bt=>
     intro env h
     show bn.next h (bn.rec (fun x env h=>X.rec (rounds (fun env h=>code a call n env h) k env h) (.ok .ret env h) (fun i=> .ok (.exit i) env h) (fun v=> .ok (.du v) env h) x) .bad (code a call n env h):bn)
     have h1:=tP dE a n env h
     cases hr:code a call n env h with
     |bad=>trivial
     |ok x kQ jR=>
      rw [hr] at h1
      cases x with
      |nrm=>exact bn.yk h1 (bt kQ jR)
      |ret=>exact h1
      |exit i=>exact h1
      |du v=>exact h1
   exact key n env h
 | .aG _ l,_,env,h=>KT dE l [] env h
 | .draw _ l,_,env,h=>GQ dE l [] [] env h
 | .stuck,_,_,_=>trivial
theorem AG.from_ {ι mS:bb} {h h1 aB:ag} {w w1:World} {x:X} {env':Env} {Q:Exit→Act→World→Prop} (p:AG D ι h w c8 N x env' aB Q) (c:dL ι h w mS h1 w1) (hf:jV ι h h1):AG D mS h1 w1 c8 N x env' aB Q:=
 fun bk bp w' dT=>p bk bp w' (c.trans dT hf)
theorem Zs {c8:List Nat}:∀t s,(cP.start c8).tmp t=some s→∀p,s≠.val p:=by
 intro t s ht p e
 subst e
 have ht:(match look t (jW c8 0) with|some s=>s|none=>none)=some (.val p):=ht
 cases au:look t (jW c8 0) with
 |none=>rw [au] at ht;cases ht
 |some en=>
  rw [au] at ht
  obtain ⟨j,h1,h2⟩:=K1 c8 0 au
  subst h2;cases ht
theorem Zt (gD:P.follows .mixedOrders=true) (er:rp P call) (dE:mn call) {id:Nat} {ops:Array Oper} {pm:List Nat} {l:List eA} (hlen:pm.length=l.length) (hle:pm.length≤ops.size)
  (hp:K8 ops (oF ops.toList []) (pm.zip l)=true) (ax:GU c8 (AB P N ops (oF ops.toList []) (pm.zip l) [] (cP.start c8))=true)
  {ι:bb} {h aB:ag} {w:World} {env env':Env} {a:Act} {x:X} {Q:Exit→Act→World→Prop} (he:e3 l call [] [] env h= .ok x env' aB) (r:qj D ι c8 N env a) (g:Good ι h w) (hf:jV ι h aB)
  (p:AG D ι h w c8 N x env' aB Q):(Code.region id ops true).wp P Q a w:=by
 obtain ⟨st,hb,hlt⟩:=Y9 hp
 refine wp_region_any gD ?_
 cases cj:AB P N ops (oF ops.toList []) (pm.zip l) [] (cP.start c8) with
 |none=>rw [cj] at ax;cases ax
 |some F'=>
  rw [cj] at ax
  have ax:yn F' c8 0=true:=ax
  have g1:Good ι h {w with drawn:=w.drawn+1}:=g.world (fun _ _=>rfl) (Nat.le_refl _)
  have c1:dL ι h w ι h {w with drawn:=w.drawn+1}:=⟨g1,⟨fun _ _ _=>rfl,Nat.le_refl _,rfl,rfl,rfl⟩,Ext.refl _ _,Sep.refl _ _ _⟩
  have kC:=r.start
  have Zu:(oF ops.toList []).length=ops.size:=by rw [K4];simp
  have d:ln D P ops (pm.zip l) N (cP.start c8) env ι h w [] (pm.zip l) (Array.replicate ops.size false) a {w with drawn:=w.drawn+1} ι h:=by
   have fB:∀i,(Array.replicate ops.size false).getD i false=false:=fun i=>by
    simp only [Array.getD_eq_getD_getElem?,Array.getElem?_replicate]
    split<;>rfl
   refine ⟨⟨by simp,r.size,r.defers,by simp,fun k o hk=> ?_,fun i aq=> ?_,fun A e B cJ=>by simp at cJ,List.nodup_nil,fun t e he=>by simp at he,fun t _ s aC=> ?_⟩,fun A e B cJ=>by simp at cJ,fun e he=>by simp at he,c1⟩
   · have hk:(Array.replicate ops.size false).getD k false=true:=hk
     rw [fB] at hk;cases hk
   · rw [fB] at aq;cases aq
   · exact kC.tmps t s aC
  refine Zq st hb Zu er dE rfl Zs ⟨rfl,kC.jW,kC.lt⟩ hf (F':=F') (x:=x) (env':=env') (fun hx bk nN bp w' c s aC aX=> ?_) (fun v hx v' bk bp w' c aE aX=> ?_) (pm.zip l) [] h cj ?_ _ _ a _ ι d ?_
  · subst hx;exact p bk bp w' c (s.end ax aC aX)
  · subst hx;exact p bk bp w' c v' aE aX
  · rw [show (pm.zip l).map (·.2)=l from List.map_snd_zip (by omega)];exact he
  · have:(pm.zip l).length≤ops.size:=by rw [List.length_zip];omega
    show 0+_≤_
    omega
end
end
end Go.Eng
namespace Go.Eng
variable {D:List Deferred}
noncomputable section
section
variable {P:Program} {call:eU} {c8:List Nat} {N:Nat}
theorem lo (gD:P.follows .mixedOrders=true) (er:rp P call) (dE:mn call):∀(c:Code) (e:C),sD P c8 N c e=true→
  ∀(n:Nat) {ι:bb} {h aB:ag} {w:World} {env env':Env} {a:Act} {x:X} {Q:Exit→Act→World→Prop},code e call n env h= .ok x env' aB→qj D ι c8 N env a→Good ι h w→jV ι h aB→
   AG D ι h w c8 N x env' aB Q→c.wp P Q a w
 | .scope c,e,ax=>fun n ι h aB w env env' a x Q he r g hf p=>by
   refine wp_scope_straight (lo gD er dE c e (by cases e<;>exact ax) n he r g hf fun bk bp w' c=> ?_)
   have:=p bk bp w' c
   cases x<;>exact this
 |c, .stuck,_=>fun n ι h aB w env env' a x Q he r g hf p=>by cases he
 | .skip, .skip,_=>fun n ι h aB w env env' a x Q he r g hf p=>by cases he;exact wp_skip (p ι a w (dL.refl g) r)
 | .label _, .skip,_=>fun n ι h aB w env env' a x Q he r g hf p=>by cases he;exact wp_label (p ι a w (dL.refl g) r)
 | .ret, .ret,_=>fun n ι h aB w env env' a x Q he r g hf p=>by cases he;exact wp_ret (p ι a w (dL.refl g) r)
 | .exit i, .exit j,ax=>fun n ι h aB w env env' a x Q he r g hf p=>by
   have:i=j:=by simpa [sD] using ax
   subst this;cases he;exact wp_exit (p ι a w (dL.refl g) r)
 | .seq a1 fw, .seq a2 fl,ax=>fun n ι h aB w env env' a x Q he r g hf p=>by
   have ax:=Bool.dZ ax
   have he:(bn.rec (fun x env h=>X.rec (code fl call n env h) (.ok .ret env h) (fun i=> .ok (.exit i) env h) (fun v=> .ok (.du v) env h) x) .bad (code a2 call n env h):bn)= .ok x env' aB:=he
   cases hr:code a2 call n env h with
   |bad=>rw [hr] at he;cases he
   |ok x1 kQ h1=>
    rw [hr] at he
    have ml:=tP dE a2 n env h
    rw [hr] at ml
    have ml:h.next≤h1.next:=ml
    refine wp_seq ?_
    cases x1 with
    |nrm=>
     have he:code fl call n kQ h1= .ok x env' aB:=he
     have qk:=tP dE fl n kQ h1
     rw [he] at qk
     have Dj:=hf.left (h1:=h1) qk
     refine lo gD er dE a1 a2 ax.1 n hr r g Dj fun bk bp w' dT eT=> ?_
     exact lo gD er dE fw fl ax.2 n he eT dT.gm (hf.right dT.ext) (p.from_ dT Dj)
    |ret=>cases he;exact lo gD er dE a1 a2 ax.1 n hr r g hf fun bk bp w' dT=>p bk bp w' dT
    |exit i=>cases he;exact lo gD er dE a1 a2 ax.1 n hr r g hf fun bk bp w' dT=>p bk bp w' dT
    |du v=>cases he;exact lo gD er dE a1 a2 ax.1 n hr r g hf fun bk bp w' dT=>p bk bp w' dT
 | .cond y a1 fw, .cond qa a2 fl,ax=>fun n ι h aB w env env' a x Q he r g hf p=>by
   have ax:=Bool.dZ ax
   have lU:=Bool.dZ ax.2
   have he:(Option.rec .bad (fun t=>Bool.rec (code fl call n env h) (code a2 call n env h) t) (qa.ev [] env).asBool:bn)= .ok x env' aB:=he
   have aE:=ve r.start _ _ ax.1
   cases hb:(A.ev qa [] env).asBool with
   |none=>rw [hb] at he;cases he
   |some t=>
    rw [hb] at he
    have heq:a.eval y= .bool t:=by
     generalize A.ev qa [] env=u at hb aE
     cases u<;>first|(cases hb;done)|skip
     cases hb;exact aE
    refine wp_cond heq ?_
    cases t with
    |false=>exact lo gD er dE fw fl lU.2 n he r g hf p
    |true=>exact lo gD er dE a1 a2 lU.1 n he r g hf p
 | .block i c, .block j e,ax=>fun n ι h aB w env env' a x Q he r g hf p=>by
   have ax:=Bool.dZ ax
   have:i=j:=by simpa using ax.1
   subst this
   have he:(bn.rec (fun x env h=>X.rec (.ok .nrm env h) (.ok .ret env h) (fun k=> .ok (Bool.rec (.exit k) .nrm (k.beq i)) env h) (fun v=> .ok (.du v) env h) x) .bad (code e call n env h):bn)= .ok x env' aB:=he
   cases hr:code e call n env h with
   |bad=>rw [hr] at he;cases he
   |ok x1 kQ h1=>
    rw [hr] at he
    refine wp_block ?_
    cases x1 with
    |nrm=>cases he;exact lo gD er dE c e ax.2 n hr r g hf fun bk bp w' dT=>p bk bp w' dT
    |ret=>cases he;exact lo gD er dE c e ax.2 n hr r g hf fun bk bp w' dT=>p bk bp w' dT
    |du v=>cases he;exact lo gD er dE c e ax.2 n hr r g hf fun bk bp w' dT=>p bk bp w' dT
    |exit k=>
     have he:bn.ok (Bool.rec (.exit k) .nrm (k.beq i)) kQ h1= .ok x env' aB:=he
     cases hk:k.beq i with
     |true=>
      rw [hk] at he;cases he
      have:k=i:=Nat.eq_of_beq_eq_true hk
      subst this
      refine lo gD er dE c e ax.2 n hr r g hf fun bk bp w' dT eT=> ?_
      show if k=k then Q .normal bp w' else Q (.exit k) bp w'
      rw [if_pos rfl];exact p bk bp w' dT eT
     |false=>
      rw [hk] at he;cases he
      have:k≠i:=fun h=>by subst h;simp [jr] at hk
      refine lo gD er dE c e ax.2 n hr r g hf fun bk bp w' dT eT=> ?_
      show if k=i then Q .normal bp w' else Q (.exit k) bp w'
      rw [if_neg this];exact p bk bp w' dT eT
 | .loop c, .loop e,ax=>fun n ι h aB w env env' a x Q he r g hf p=>by
   have ax:sD P c8 N c e=true:=ax
   have he:rounds (fun env h=>code e call n env h) n env h= .ok x env' aB:=he
   have p5:∀k env h,bn.next h (rounds (fun env h=>code e call n env h) k env h):=fun k env h=>by
    have key:∀k env h,bn.next h (rounds (fun env h=>code e call n env h) k env h):=by
     intro k
     induction k with
     |zero=>intro env h;trivial
     |succ k bt=>
      intro env h
      show bn.next h (bn.rec (fun x env h=>X.rec (rounds (fun env h=>code e call n env h) k env h) (.ok .ret env h) (fun i=> .ok (.exit i) env h) (fun v=> .ok (.du v) env h) x) .bad (code e call n env h):bn)
      have h1:=tP dE e n env h
      cases hr:code e call n env h with
      |bad=>trivial
      |ok x kQ jR=>
       rw [hr] at h1
       cases x with
       |nrm=>exact bn.yk h1 (bt kQ jR)
       |ret=>exact h1
       |exit i=>exact h1
       |du v=>exact h1
    exact key k env h
   refine wp_loop_rounds n ?_
   have key:∀k {ι:bb} {h:ag} {w:World} {env:Env} {a:Act},rounds (fun env h=>code e call n env h) k env h= .ok x env' aB→qj D ι c8 N env a→Good ι h w→jV ι h aB→AG D ι h w c8 N x env' aB Q→Code.rounds P c Q k a w:=by
    intro k
    induction k with
    |zero=>intro ι h w env a he;cases he
    |succ k bt=>
     intro ι h w env a he r g hf p
     have he:(bn.rec (fun x env h=>X.rec (rounds (fun env h=>code e call n env h) k env h) (.ok .ret env h) (fun i=> .ok (.exit i) env h) (fun v=> .ok (.du v) env h) x) .bad (code e call n env h):bn)= .ok x env' aB:=he
     rw [rounds_succ]
     cases hr:code e call n env h with
     |bad=>rw [hr] at he;cases he
     |ok x1 kQ h1=>
      rw [hr] at he
      cases x1 with
      |nrm=>
       have he:rounds (fun env h=>code e call n env h) k kQ h1= .ok x env' aB:=he
       have qk:=p5 k kQ h1
       rw [he] at qk
       have Dj:=hf.left (h1:=h1) qk
       exact lo gD er dE c e ax n hr r g Dj fun bk bp w' dT eT=>bt he eT dT.gm (hf.right dT.ext) (p.from_ dT Dj)
      |ret=>cases he;exact lo gD er dE c e ax n hr r g hf fun bk bp w' dT=>p bk bp w' dT
      |exit i=>cases he;exact lo gD er dE c e ax n hr r g hf fun bk bp w' dT=>p bk bp w' dT
      |du v=>cases he;exact lo gD er dE c e ax n hr r g hf fun bk bp w' dT=>p bk bp w' dT
   exact key n he r g hf p
 | .region id ops false, .aG iH l,ax=>fun n ι h aB w env env' a x Q he r g hf p=>by
   have ax:GU c8 (qg P N iH ops ops.toList 0 l (cP.start c8))=true:=ax
   have he:e9 l call [] env h= .ok x env' aB:=he
   refine wp_region ?_
   cases cj:qg P N iH ops ops.toList 0 l (cP.start c8) with
   |none=>rw [cj] at ax;cases ax
   |some F'=>
    rw [cj] at ax
    have ax:yn F' c8 0=true:=ax
    have hw:wpList P ops Q ops.toList a w:=by
     refine P3 er dE ops.toList 0 l (cP.start c8) [] env a w ι h cj he r.start r.size r.defers g hf (fun hx bk nN bp w' c s aC aX=> ?_) (fun v hx v' bk bp w' c aE aX _ _=> ?_)
     · subst hx;exact p bk bp w' c (s.end ax aC aX)
     · subst hx;exact p bk bp w' c v' aE aX
    have au:=wpOps_eq_wpList (P:=P) (ops:=ops) (Q:=Q) ops.toList 0 (fun j=>by simp)
    rw [List.range_eq_range',show ops.size=ops.toList.length by simp,au];exact hw
 | .region id ops true, .draw pm l,ax=>fun n ι h aB w env env' a x Q he r g hf p=>by
   have ax:=Bool.dZ ax
   have qb:=Bool.dZ ax.1
   have lU:=Bool.dZ ax.2
   exact Zt gD er dE (by simpa using qb.1) (by simpa using qb.2) lU.1 lU.2 he r g hf p
end
end
end Go.Eng
namespace Go.Eng
noncomputable section
def Lp:List Nat→Nat→Nat→Bool
 |_,_,0=>true
 |t::l,k,n+1=>t==k&&Lp l (k+1) n
 |[],_,_+1=>false
def Qq (P:Program) (c8:List Nat):ResultVar→aD→Bool
 | .tmp t, .tmp i j=>pg (cP.start c8) (.tmp t) (.t i j)
 | .cell a t, .cell i j none=>pb P t false&&pg (cP.start c8) (.tmp a) (.t i j)
 | .cell a t, .cell i j (some n)=>pb P t true&&(mX P t n&&pg (cP.start c8) (.tmp a) (.t i j))
 |_,_=>false
def Lq (P:Program) (c8:List Nat):List ResultVar→List aD→Bool
 |[],[]=>true
 |a::l,b::m=>Qq P c8 a b&&Lq P c8 l m
 |_,_=>false
def vl (P:Program) (f:Nat) (F:ct):Bool:=match P.funcs[f]? with
 |some fn=>fn.name != "runtime.NumGoroutine" &&(match fn.body with
  |some c=>(decide (F.c8.length≤64)&&(decide (F.jq≤F.c8.length)&&Lp F.c8 0 F.jq))&&(decide (F.jq≤fn.ntmps)&&(sD P F.c8 fn.ntmps c F.body&&Lq P F.c8 fn.results.toList F.results))
  |none=>false)
 |none=>false
def cM:List V→Nat→Env→Env
 |[],_,env=>env
 |v::l,i,env=>cM l (i+1) (Env.set (gg i).1 (gg i).2 v env)
theorem GV:∀(l:List V) (i:Nat) (env:Env) (k:Env→bn),args l i env k=k (cM l i env)
 |[],_,_,_=>rfl
 |v::l,i,env,k=>by
  show v.force (fun v=>Env.dF (gg i).1 (gg i).2 v (fun env=>args l (i+1) env k) env)=_
  rw [V.force_eq,Env.iY,GV l];rfl
theorem Zv {j k:Nat} (aV:j<64) (hk:k<64) (h:gg j=gg k):j=k:=by
 have h1:bx.of (j / 8)=bx.of (k / 8):=congrArg (·.1) h
 have h2:bx.of (j % 8)=bx.of (k % 8):=congrArg (·.2) h
 have aT:=bx.FU (by omega) (by omega) h1
 have bu:=bx.FU (Nat.mod_lt _ (by decide)) (Nat.mod_lt _ (by decide)) h2
 omega
theorem Qr:∀(l:List V) (i:Nat) (env:Env) (k:Nat),k<64→i+l.length≤64→
  Env.get (gg k).1 (gg k).2 (cM l i env)=if i≤k∧k<i+l.length then (l[k - i]?).getD .bot else Env.get (gg k).1 (gg k).2 env
 |[],i,env,k,hk,au=>by rw [if_neg (by simp)];rfl
 |v::l,i,env,k,hk,au=>by
  have au:i+(l.length+1)≤64:=au
  show Env.get (gg k).1 (gg k).2 (cM l (i+1) (Env.set (gg i).1 (gg i).2 v env))=_
  rw [Qr l (i+1) _ k hk (by omega),Env.fJ]
  by_cases h:i=k
  · subst h
    rw [if_neg (by omega),if_pos ⟨rfl,rfl⟩,if_pos ⟨Nat.le_refl _,by simp⟩];simp
  · have bO:¬((gg k).1=(gg i).1∧(gg k).2=(gg i).2):=fun e=>h (Zv (by omega) hk (Prod.ext e.1.symm e.2.symm))
    rw [if_neg bO]
    by_cases h1:i+1≤k∧k<i+1+l.length
    · rw [if_pos h1,if_pos ⟨by omega,by simp;omega⟩,show k - i=(k - (i+1))+1 by omega];rfl
    · rw [if_neg h1,if_neg (by simp;omega)]
theorem Qs:∀(l:List Nat) (k n:Nat),Lp l k n=true→∀j,j<n→l[j]? =some (k+j)
 |_,_,0,_,j,aV=>by omega
 |[],_,_+1,h,_,_=>by cases h
 |t::l,k,n+1,h,j,aV=>by
  have h:=Bool.dZ h
  have ht:t=k:=by simpa using h.1
  subst ht
  cases j with
  |zero=>rfl
  |succ j=>
   have:=Qs l (t+1) n h.2 j (by omega)
   rw [List.getElem?_cons_succ,this];congr 1;omega
section
variable {P:Program} {call:eU} {c8:List Nat} {N:Nat}
theorem Zw {ι:bb} {h:ag} {w:World} {env:Env} {a:Act} (g:Good ι h w) (r:qj [] ι c8 N env a) {x:ResultVar} {y:aD} (ax:Qq P c8 x y=true) {v:V} (aE:ts h env y=some v):
  ∃v',((match x with| .tmp t=>pure (a.tmps.getD t undef)| .cell c t=>do loadVar t (←asAddr (a.tmps.getD c undef)):Sem Value)).run P w= .ok v' w∧bL ι v v':=by
 have cell:∀{c:Nat} {t:TypeId} {i j:bx} {b o:Nat},pg (cP.start c8) (.tmp c) (.t i j)=true→(Env.get i j env).mM=some (b,o)→∃B,ι b=some B∧a.tmps.getD c undef= .pointer (some ⟨B.c,B.off+o,none⟩):=by
  intro c t i j b o ax hp
  have h1:bL ι (Env.get i j env) (a.tmps.getD c undef):=ve r.start _ _ ax
  generalize Env.get i j env=u at hp h1
  cases u<;>first|(cases hp;done)|skip
  cases hp
  obtain ⟨B,bW,h1⟩:=h1
  exact ⟨B,bW,h1⟩
 cases x with
 |tmp t=>
  cases y with
  |tmp i j=>
   have aE:some (Env.get i j env)=some v:=aE
   cases aE
   exact ⟨_,rfl,ve r.start (.tmp t) (.t i j) ax⟩
  |cell i j n=>cases ax
 |cell c t=>
  cases y with
  |tmp i j=>cases ax
  |cell i j n=>
   cases n with
   |none=>
    have ax:=Bool.dZ ax
    simp only [ts] at aE
    cases hp:(Env.get i j env).mM with
    |none=>rw [hp] at aE;cases aE
    |some Lr=>
     obtain ⟨b,o⟩:=Lr
     rw [hp] at aE
     have aE:h.eZ b o=some v:=aE
     obtain ⟨B,bW,hx⟩:=cell (t:=t) ax.2 hp
     obtain ⟨y,hy,_,hcell⟩:=OI g bW aE
     exact ⟨y,by simp [hx,asAddr,Result.andThen,Sem.run_bind,O2 w ax.1 hcell],hy⟩
   |some n=>
    have ax:=Bool.dZ ax
    have lU:=Bool.dZ ax.2
    simp only [ts] at aE
    cases hp:(Env.get i j env).mM with
    |none=>rw [hp] at aE;cases aE
    |some Lr=>
     obtain ⟨b,o⟩:=Lr
     rw [hp] at aE
     simp only at aE
     cases au:h.load b o n with
     |none=>rw [au] at aE;cases aE
     |some l=>
      rw [au] at aE;cases aE
      obtain ⟨B,bW,hx⟩:=cell (t:=t) lU.2 hp
      obtain ⟨xs,hlen,CW,wD,hcell⟩:=Ag g bW au
      refine ⟨.agg xs.toArray,by simp [hx,asAddr,Result.andThen,Sem.run_bind,O3 w ax.1 lU.1 hlen hcell], ?_⟩
      exact ⟨xs.toArray,rfl,by simpa using CW,by simpa using wD⟩
theorem Qt {ι:bb} {h:ag} {w:World} {env:Env} {a:Act} (g:Good ι h w) (r:qj [] ι c8 N env a):∀(l:List ResultVar) (rs:List aD),Lq P c8 l rs=true→∀vs,results env h rs=some vs→
  ∃nN,(l.mapM fun x=>(match x with| .tmp t=>pure (a.tmps.getD t undef)| .cell c t=>do loadVar t (←asAddr (a.tmps.getD c undef)):Sem Value)).run P w= .ok nN w∧cE ι vs nN
 |[],[],_,vs,aE=>by
  have aE:some []=some vs:=aE
  cases aE;exact ⟨[],rfl,rfl⟩
 |x::l,y::rs,ax,vs,aE=>by
  have ax:=Bool.dZ ax
  have aE:(Option.rec none (fun v=>Option.rec none (fun vs=>some (v::vs)) (results env h rs)) (ts h env y):Option (List V))=some vs:=aE
  cases h1:ts h env y with
  |none=>rw [h1] at aE;cases aE
  |some v=>
   rw [h1] at aE
   have aE:(Option.rec none (fun vs=>some (v::vs)) (results env h rs):Option (List V))=some vs:=aE
   cases h2:results env h rs with
   |none=>rw [h2] at aE;cases aE
   |some vs1=>
    rw [h2] at aE
    cases aE
    obtain ⟨v',aT,r1⟩:=Zw g r ax.1 h1
    obtain ⟨nN,bu,gl⟩:=Qt g r l rs ax.2 vs1 h2
    refine ⟨v'::nN, ?_,⟨v',nN,rfl,r1,gl⟩⟩
    rw [List.mapM_cons,Sem.run_bind,aT]
    simp only [Result.andThen]
    rw [Sem.run_bind,bu]
    rfl
 |[],_::_,ax,_,_=>by cases ax
 |_::_,[],ax,_,_=>by cases ax
theorem cE.Zx {ι:bb}:∀{vs:List V} {xs:Array Value},cE ι vs xs.toList→bL ι (one vs) (if h:xs.size=1 then xs[0] else .tuple xs)
 |[v],xs,h=>by
  have au:=h.length
  have au:xs.size=1:=by simpa using au
  rw [dif_pos au]
  obtain ⟨x,hx,aE⟩:=h.get (j:=0) (v:=v) rfl
  have:xs[0]=x:=by
   have h0:xs[0]? =some x:=by simpa using hx
   rw [Array.getElem?_eq_getElem (by omega)] at h0
   exact Option.some.inj h0
  rw [this];exact aE
 |[],xs,h=>by
  have au:=h.length
  have au:¬xs.size=1:=by simp at au;simp [au]
  rw [dif_neg au];exact ⟨xs,rfl,h⟩
 |a::b::l,xs,h=>by
  have au:=h.length
  have au:¬xs.size=1:=by simp at au;omega
  rw [dif_neg au];exact ⟨xs,rfl,h⟩
theorem Zy (gD:P.follows .mixedOrders=true) (er:rp P call) (dE:mn call) {f R:Nat} {F:ct} (ax:vl P f F=true) {as_:List V} {h:ag} (bO:q5 F R call as_ h≠.bad):
  ph P f∧∀ι w (args:Array Value),Good ι h w→bg.free ι h (q5 F R call as_ h)→cE ι as_ args.toList→Calls P f args w (sv ι h w (q5 F R call as_ h)):=by
 unfold vl at ax
 cases hf:P.funcs[f]? with
 |none=>rw [hf] at ax;cases ax
 |some fn=>
  rw [hf] at ax
  have ax:=Bool.dZ ax
  cases hb:fn.body with
  |none=>rw [hb] at ax;exact absurd ax.2 (by simp)
  |some c=>
   rw [hb] at ax
   have lU:=Bool.dZ ax.2
   have tF:=Bool.dZ lU.1
   have CU:=Bool.dZ tF.2
   have wG:=Bool.dZ lU.2
   have AH:=Bool.dZ wG.2
   have Zz:fn.name≠ "runtime.NumGoroutine" :=by simpa using ax.1
   have aiD:F.c8.length≤64:=by simpa using tF.1
   have aiE:F.jq≤F.c8.length:=by simpa using CU.1
   have Qu:F.jq≤fn.ntmps:=by simpa using wG.1
   refine ⟨⟨fn,hf,by simpa using Zz,by rw [hb];rfl⟩,fun ι w args g gx hr=> ?_⟩
   have jt:∃r,r=q5 F R call as_ h:=⟨_,rfl⟩
   obtain ⟨r,jt⟩:=jt
   rw [←jt] at bO gx ⊢
   have rz:r=(Bool.rec .bad (Cw F.results (Go.Eng.args as_ 0 Env.nil fun env=>code F.body call R env h)) ((cZ as_).beq F.jq):bg):=jt
   cases hlen:(cZ as_).beq F.jq with
   |false=>rw [hlen] at rz;exact absurd rz bO
   |true=>
    have au:as_.length=F.jq:=by rw [me] at hlen;exact Nat.eq_of_beq_eq_true hlen
    rw [hlen] at rz
    have rz:r=Cw F.results (code F.body call R (cM as_ 0 Env.nil) h):=by rw [rz,GV]
    have AJ:args.size=as_.length:=by have:=hr.length;simpa using this
    have Ls:qj [] ι F.c8 fn.ntmps (cM as_ 0 Env.nil) {tmps:=args++Array.replicate (fn.ntmps - args.size) undef,defers:=[]}:=by
     refine ⟨by simp;omega,rfl,fun k t hk=> ?_⟩
     have ZA:k<64:=by have:=(List.getElem?_eq_some_iff.1 hk).1;omega
     rw [Qr as_ 0 Env.nil k ZA (by omega)]
     by_cases hlt:k<as_.length
     · rw [if_pos ⟨Nat.zero_le _,by omega⟩]
       have:=Qs _ _ _ CU.2 k (by omega)
       rw [hk] at this
       have ht:t=0+k:=Option.some.inj this
       rw [Nat.zero_add] at ht
       subst ht
       obtain ⟨v,aE⟩:∃v,as_[t]? =some v:=⟨as_[t],List.getElem?_eq_getElem hlt⟩
       obtain ⟨y,hy,Qv⟩:=hr.get aE
       have na:(args++Array.replicate (fn.ntmps - args.size) undef).getD t undef=y:=by
        have:(args++Array.replicate (fn.ntmps - args.size) undef)[t]? =some y:=by
         rw [Array.getElem?_append_left (by omega)];simpa using hy
        simp [Array.getD_eq_getD_getElem?,this]
       rw [show t - 0=t from rfl,aE]
       show bL ι v ((args++Array.replicate (fn.ntmps - args.size) undef).getD t undef)
       rw [na];exact Qv
     · rw [if_neg (by omega),Env.get_nil];trivial
    refine calls_of_wp hf hb ?_
    cases Dk:code F.body call R (cM as_ 0 Env.nil) h with
    |bad=>rw [Dk] at rz;exact absurd rz bO
    |ok x env' aB=>
     rw [Dk] at rz
     have fin:∀r,r=finish F.results env' aB→r≠.bad→∃vs,results env' aB F.results=some vs∧r= .ok (one vs) aB:=by
      intro r hr bO
      have hr:r=(Option.rec .bad (fun vs=> .ok (one vs) aB) (results env' aB F.results):bg):=hr
      cases Qw:results env' aB F.results with
      |none=>rw [Qw] at hr;exact absurd hr bO
      |some vs=>rw [Qw] at hr;exact ⟨vs,rfl,hr⟩
     have Qx:∀vs,results env' aB F.results=some vs→∀bk bp w',dL ι h w bk aB w'→qj [] bk F.c8 fn.ntmps env' bp→bp.defers=[]∧∃v,(Go.results fn bp.tmps).run P w'= .ok v w'∧sv ι h w (.ok (one vs) aB) (.returned v) w':=by
      intro vs Dl bk bp w' dT eT
      obtain ⟨nN,aT,bu⟩:=Qt (P:=P) dT.gm eT fn.results.toList F.results AH.2 vs Dl
      refine ⟨eT.defers,(if h:nN.toArray.size=1 then nN.toArray[0] else .tuple nN.toArray), ?_,bk,dT, ?_⟩
      · unfold Go.results
        rw [Array.mapM_eq_mapM_toList]
        simp only [Sem.run_bind,Sem.run_map]
        erw [aT]
        rfl
      · have:=cE.Zx (ι:=bk) (vs:=vs) (xs:=nN.toArray) (by simpa using bu)
        exact this
     cases x with
     |nrm=>
      have vm:r=finish F.results env' aB:=rz
      obtain ⟨vs,Dl,AK⟩:=fin r vm bO
      subst AK
      exact lo gD er dE c F.body AH.1 R Dk Ls g gx fun bk bp w' dT eT=>Qx vs Dl bk bp w' dT eT
     |ret=>
      have vm:r=finish F.results env' aB:=rz
      obtain ⟨vs,Dl,AK⟩:=fin r vm bO
      subst AK
      exact lo gD er dE c F.body AH.1 R Dk Ls g gx fun bk bp w' dT eT=>Qx vs Dl bk bp w' dT eT
     |exit i=>exact absurd rz bO
     |du v=>
      have vm:r= .du v aB:=rz
      subst vm
      exact lo gD er dE c F.body AH.1 R Dk Ls g gx fun bk bp w' dT v' aE aX=>⟨aX,v',bk,rfl,dT,aE⟩
end
end
end Go.Eng
namespace Go.Eng
noncomputable section
def ZB {α:Type} (p:α→Bool):Option α→Bool
 |none=>true
 |some x=>p x
def GX {α:Type} (p:bx→α→Bool) (r:aI α):Bool:=p .d0 r.a&&(p .d1 r.b&&(p .d2 r.c&&(p .d3 r.d&&(p .d4 r.e&&(p .d5 r.f&&(p .d6 r.g&&p .d7 r.h))))))
theorem Lu {α:Type} {p:bx→α→Bool} {r:aI α} (h:GX p r=true) (i:bx):p i (aI.get i r)=true:=by
 have h1:=Bool.dZ h;have h2:=Bool.dZ h1.2;have bj:=Bool.dZ h2.2;have cy:=Bool.dZ bj.2
 have gh:=Bool.dZ cy.2;have lf:=Bool.dZ gh.2;have Db:=Bool.dZ lf.2
 cases i
 · exact h1.1
 · exact h2.1
 · exact bj.1
 · exact cy.1
 · exact gh.1
 · exact lf.1
 · exact Db.1
 · exact Db.2
def bx.num:bx→Nat
 | .d0=>0| .d1=>1| .d2=>2| .d3=>3| .d4=>4| .d5=>5| .d6=>6| .d7=>7
theorem bx.Lv {n:Nat} (h:n<8):(bx.of n).num=n:=by
 have:n=0∨n=1∨n=2∨n=3∨n=4∨n=5∨n=6∨n=7:=by omega
 rcases this with rfl|rfl|rfl|rfl|rfl|rfl|rfl|rfl<;>rfl
def sE {α:Type} (p:Nat→α→Bool) (t:T α):Bool:=
 GX (fun k=>GX fun j=>GX fun i=>ZB (p (64 * k.num+8 * j.num+i.num))) t.x&&(t.y.isNone&&t.z.empty)
theorem Qy {α:Type} {p:Nat→α→Bool} {F:α} {k:Nat} {t:T α} (h:sE p t=true) (hg:T.get k t=some F):p k F=true:=by
 have h1:=Bool.dZ h;have h2:=Bool.dZ h1.2
 rw [T.get_eq] at hg
 by_cases c:k<512
 · rw [if_pos c] at hg
   have:=Lu (Lu (Lu h1.1 (bx.of (k.div 64))) (bx.of ((k.div 8).mod 8))) (bx.of (k.mod 8))
   have hg:aI.get (bx.of (k.mod 8)) (aI.get (bx.of ((k.div 8).mod 8)) (aI.get (bx.of (k.div 64)) t.x))=some F:=hg
   rw [hg] at this
   have bu:(bx.of (k.div 64)).num=k / 64:=bx.Lv (by show k / 64<8;omega)
   have aT:(bx.of ((k.div 8).mod 8)).num=k / 8 % 8:=bx.Lv (Nat.mod_lt _ (by decide))
   have ja:(bx.of (k.mod 8)).num=k % 8:=bx.Lv (Nat.mod_lt _ (by decide))
   have e:64 * (bx.of (k.div 64)).num+8 * (bx.of ((k.div 8).mod 8)).num+(bx.of (k.mod 8)).num=k:=by rw [bu,aT,ja];omega
   rw [e] at this;exact this
 · rw [if_neg c] at hg
   by_cases c2:k<32768
   · rw [if_pos c2] at hg
     have:t.y=none:=by have:=h2.1;simpa using this
     simp [T.ty,this,T.uT,T.gY,aI.JU] at hg
   · rw [if_neg c2] at hg
     have:t.z= .mt:=B.empty_eq h2.2
     rw [this] at hg;cases hg
def Dm (P:Program) (c:Ctx):Prop:=∀call,rp P call→mn call→∀f as_ h,T.get f c.cF=none→
 bg.next h (c.xV call f as_ h)∧(c.xV call f as_ h≠.bad→ph P f∧∀ι w (args:Array Value),Good ι h w→bg.free ι h (c.xV call f as_ h)→cE ι as_ args.toList→Calls P f args w (sv ι h w (c.xV call f as_ h)))
section
variable {P:Program} {call:eU}
theorem ZC (dE:mn call) (F:ct) (R:Nat) (as_:List V) (h:ag):bg.next h (q5 F R call as_ h):=by
 unfold q5
 cases (cZ as_).beq F.jq with
 |false=>trivial
 |true=>
  show bg.next h (Cw F.results (args as_ 0 Env.nil fun env=>code F.body call R env h))
  rw [GV]
  have:=tP dE F.body R (cM as_ 0 Env.nil) h
  cases hr:code F.body call R (cM as_ 0 Env.nil) h with
  |bad=>trivial
  |ok x env' aB=>
   rw [hr] at this
   have fin:bg.next h (finish F.results env' aB):=by
    show bg.next h (Option.rec .bad (fun vs=> .ok (one vs) aB) (results env' aB F.results):bg)
    cases results env' aB F.results with
    |none=>trivial
    |some vs=>exact this
   cases x with
   |nrm=>exact fin
   |ret=>exact fin
   |exit i=>trivial
   |du v=>exact this
theorem Qz (gD:P.follows .mixedOrders=true) (c:Ctx) (hf:sE (vl P) c.cF=true) (aC:Dm P c) (R:Nat):∀n,rp P (dg c R n)∧mn (dg c R n)
 |0=>⟨fun f as_ h bO=>absurd rfl bO,fun f as_ bI h=>trivial⟩
 |n+1=>by
  obtain ⟨Dn,AL⟩:=Qz gD c hf aC R n
  have step:∀f as_ bI h,(dg c R (n+1) f as_ bI h).1=(Option.rec (c.xV (dg c R n) f as_ h) (fun fn=>q5 fn R (dg c R n) as_ h) (T.get f c.cF):bg):=fun _ _ _ _=>rfl
  refine ⟨fun f as_ h bO=> ?_,fun f as_ bI h=> ?_⟩
  · rw [step] at bO ⊢
    cases hg:T.get f c.cF with
    |none=>
     rw [hg] at bO
     exact (aC _ Dn AL f as_ h hg).2 bO
    |some F=>
     rw [hg] at bO
     have ax:=Qy hf hg
     exact Zy gD Dn AL ax bO
  · rw [step]
    cases hg:T.get f c.cF with
    |none=>exact (aC _ Dn AL f as_ h hg).1
    |some F=>exact ZC AL F R as_ h
def bb.none:bb:=fun _=>Option.none
theorem Good.empty (w:World):Good bb.none ag.empty w:=
 ⟨fun b B o h=>(by cases h),fun b B h=>(by cases h),fun b B bT bc h=>(by cases h),fun b B h=>(by cases h),fun b B F o h=>(by cases h),fun b B o h=>(by cases h),
   fun f F b h=>(by rw [show T.get f ag.empty.bJ=none from T.wj f] at h;cases h),Nat.le_refl _,fun b _ h=>absurd (T.wj b) h,fun b h=>absurd rfl h,fun f _ h=>absurd (T.wj f) h,fun b B h=>(by cases h)⟩
structure Kept (w w':World):Prop where
 old:∀c,c<w.heap.size→w'.heap[c]? =w.heap[c]?
 size:w.heap.size≤w'.heap.size
 tape:w'.tape=w.tape
 os:w'.os=w.os
 out:w'.output=w.output
theorem bg.ZD {ι:bb} {h:ag} {r:bg} (ry:∀b,h.next≤b→ι b=Option.none) (bO:r≠.bad):bg.free ι h r:=by
 cases r with
 |ok v aB=>exact fun b hb _=>ry b hb
 |du v aB=>exact fun b hb _=>ry b hb
 |bad=>exact absurd rfl bO
theorem QA (gD:P.follows .mixedOrders=true) {c:Ctx} (hf:sE (vl P) c.cF=true) (aC:Dm P c) {R n f:Nat} {as_:List V} {b:Bool} {aB:ag} (he:(dg c R n f as_ .none ag.empty).1= .ok (.bool b) aB)
  {args:Array Value} (hr:cE bb.none as_ args.toList) (w:World):Calls P f args w fun e w'=>e= .returned (.bool b)∧Kept w w':=by
 have h1:=((Qz gD c hf aC R n).1 f as_ ag.empty (by rw [he];simp)).2 bb.none w args (Good.empty w) (bg.ZD (fun b _=>rfl) (by rw [he];simp)) hr
 rw [he] at h1
 refine h1.mono fun e w' bq=> ?_
 cases e with
 |returned v'=>
  obtain ⟨bk,kR,aE⟩:=bq
  have aE:v'= .bool b:=aE
  subst aE
  exact ⟨rfl,fun k hk=>kR.frame.wq k hk fun b B hb=>(by cases hb),kR.frame.size,kR.frame.tape,kR.frame.os,kR.frame.out⟩
 |panicked GF=>exact bq.elim
 |outgrown=>exact bq.elim
theorem ZE (gD:P.follows .mixedOrders=true) {c:Ctx} (hf:sE (vl P) c.cF=true) (aC:Dm P c) {n f:Nat} {as_:List V} {b:Bool} {aB:ag} (he:(JR c n f as_ .none ag.empty).1= .ok (.bool b) aB)
  {args:Array Value} (hr:cE bb.none as_ args.toList) (w:World):Calls P f args w fun e w'=>e= .returned (.bool b)∧Kept w w':=QA gD hf aC (R:=FT) he hr w
end
end
end Go.Eng
namespace Go.Eng
noncomputable section
structure ql where
 jq:Nat
 c8:List Nat
 pre:C
 aiF:Nat
 QB:List A
 iH:Nat
 ops:List dp
 ws:List Nat
 results:List aD
 aiG:List Nat
 QC:Nat
 ZF:C
def QD:List Nat→Env→Env
 |[],env=>env
 |k::l,env=>QD l (Env.set (gg k).1 (gg k).2 .bot env)
def ql.fin (F:ql) (call:eU) (ZG:List V) (QE:Env) (h:ag) (v:V):bg:=
 bn.rec (fun x _ bj=>X.rec (finish F.results QE bj) (finish F.results QE bj) (fun _=> .bad) (fun _=> .bad) x) .bad
   (args ZG 0 Env.nil fun env=>Env.dF (gg F.QC).1 (gg F.QC).2 v (fun env=>code F.ZF call FT env h) env)
def ql.go (F:ql) (call:eU) (kQ:Env) (h1:ag):bg:=
 bn.rec (fun x sy h2=>X.rec (F.fin call (h8 F.QB fun a=>a.ev [] kQ) sy h2 .kj) .bad (fun _=> .bad) (fun v=>F.fin call (h8 F.QB fun a=>a.ev [] kQ) (QD F.ws kQ) h2 v) x) .bad (e9 F.ops call [] kQ h1)
def AO (F:ql) (call:eU) (as_:List V) (h:ag):bg:=
 Bool.rec .bad (bn.rec (fun x kQ h1=>X.rec (F.go call kQ h1) .bad (fun _=> .bad) (fun _=> .bad) x) .bad (args as_ 0 Env.nil fun env=>code F.pre call FT env h)) ((cZ as_).beq F.jq)
def Lw (P:Program) (f:Nat) (F:ql):Bool:=false
end
end Go.Eng
namespace Go.Eng
noncomputable section
section
variable {P:Program} {call:eU} {F:ql}
end
end
end Go.Eng
namespace Go.Eng
noncomputable section
section
variable {P:Program} {call:eU} {F:ql}
end
end
end Go.Eng
namespace Go.Eng
noncomputable section
def Ctx.of (cF:T ct) (kS:T ql) (more:Nat→List V→ag→bg):Ctx:=
 ⟨cF,fun call f as_ h=>Option.rec (more f as_ h) (fun F=>AO F call as_ h) (T.get f kS)⟩
def mq (P:Program) (more:Nat→List V→ag→bg):Prop:=∀f as_ h,
 bg.next h (more f as_ h)∧(more f as_ h≠.bad→ph P f∧∀ι w (args:Array Value),Good ι h w→bg.free ι h (more f as_ h)→cE ι as_ args.toList→Calls P f args w (sv ι h w (more f as_ h)))
theorem QF {P:Program} (gD:P.follows .mixedOrders=true) {cF:T ct} {kS:T ql} {more:Nat→List V→ag→bg} (aX:sE (Lw P) kS=true) (hm:mq P more):Dm P (Ctx.of cF kS more):=by
 intro call er dE f as_ h hn
 show bg.next h (Option.rec (more f as_ h) (fun F=>AO F call as_ h) (T.get f kS):bg)∧((Option.rec (more f as_ h) (fun F=>AO F call as_ h) (T.get f kS):bg)≠.bad→ph P f∧∀ι w (args:Array Value),Good ι h w→bg.free ι h (Option.rec (more f as_ h) (fun F=>AO F call as_ h) (T.get f kS):bg)→cE ι as_ args.toList→Calls P f args w (sv ι h w (Option.rec (more f as_ h) (fun F=>AO F call as_ h) (T.get f kS):bg)))
 cases hg:T.get f kS with
 |none=>exact ⟨(hm f as_ h).1,fun bO=>⟨((hm f as_ h).2 bO).1,fun ι w args g CZ hr=>((hm f as_ h).2 bO).2 ι w args g CZ hr⟩⟩
 |some F=>
  have ax:=Qy aX hg
  exact (Bool.false_ne_true ax).elim
def isTrue (r:bg):Bool:=bg.rec (fun v _=>V.same v (.bool true)) (fun _ _=>false) false r
theorem ZH {r:bg} (h:isTrue r=true):∃aB,r= .ok (.bool true) aB:=by
 cases r with
 |ok v aB=>have:=V.rq v (.bool true) h;subst this;exact ⟨aB,rfl⟩
 |du v aB=>cases h
 |bad=>cases h
end
end Go.Eng
namespace Go.Eng
noncomputable section
end
end Go.Eng
namespace Go.Eng
noncomputable section
end
end Go.Eng
