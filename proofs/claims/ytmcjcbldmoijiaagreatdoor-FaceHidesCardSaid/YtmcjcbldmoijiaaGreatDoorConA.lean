/- Part of a proof of a law: rules of an evaluator, contracts, plain laws. No condition of its own. -/
import Derived.Test.YtmcjcbldmoijiaaGreatDoorSymA
import Derived.Test.YtmcjcbldmoijiaaGreatDoorCodeA
import Derived.Test.YtmcjcbldmoijiaaGreatDoorSymE
set_option linter.unusedVariables false
set_option linter.unusedSimpArgs false
namespace Go.Eng.YtmcjcbldmoijiaaGreatDoor
open Go.Eng
noncomputable section
variable {c:Ctx}
structure zY (c:Ctx):Prop where
 f19:T.get 19 c.cE=some i19
 f21:T.get 21 c.cE=some i21
 f46:T.get 46 c.cE=some i46
 f47:T.get 47 c.cE=some i47
 f48:T.get 48 c.cE=some i48
 f49:T.get 49 c.cE=some i49
 f50:T.get 50 c.cE=some i50
 f80:T.get 80 c.cE=some i80
 f81:T.get 81 c.cE=some i81
def k5 (ns:List Lab.aL) (x:Lab.aL):Int:=if x∈ns then (ns.idxOf x:Int) else -1
theorem KM {ns:List Lab.aL} {x:Lab.aL} (h:x∉ns):k5 ns x= -1:=if_neg h
theorem CS:∀{ns:List Lab.aL} {x:Lab.aL} {k:Nat},ns[k]? =some x→x∉ns.take k→ns.idxOf x=k
 |[],x,k,h,_=>by simp at h
 |y::ns,x,0,h,_=>by simp at h;subst h;simp
 |y::ns,x,k+1,h,hn=>by
  have h1:y≠x:=fun e=>hn (by rw [e];simp)
  rw [List.idxOf_cons,show (y==x)=false from by simpa using h1]
  simp [CS (ns:=ns) (x:=x) (k:=k) (by simpa using h) (fun hm=>hn (by simp [hm]))]
theorem KN {ns:List Lab.aL} {x y:Lab.aL} {k:Nat} (_hk:k≤ns.length) (h:ns[k]? =some y) (hn:x∉ns.take k) (e:x=y):k5 ns x=(k:Int):=by
 subst e
 unfold k5;rw [if_pos (List.mem_of_getElem? h),CS h hn]
theorem KO {ns:List Lab.aL} {x y:Lab.aL} {k:Nat} (hn:x∉ns.take k) (h:ns[k]? =some y) (e:x≠y):x∉ns.take (k+1):=by
 rw [List.take_add_one,h];simp [hn,e]
theorem P9 {ns:List Lab.aL} {x:Lab.aL} (h:0≤k5 ns x):x∈ns:=by
 unfold k5 at h
 by_cases e:x∈ns
 ·exact e
 ·rw [if_neg e] at h;omega
theorem Qa {ns:List Lab.aL} {x:Lab.aL} (h:¬0≤k5 ns x):x∉ns:=by
 unfold k5 at h
 intro e;rw [if_pos e] at h;omega
theorem Qb (D:zY c) {h0:ae} {v:V} {ns:List Lab.aL} {x:Lab.aL} (hn:ns.length<4294967296) (R:dU h0 v ns):
 bT c 81 [v,L.str x] h0 fun v1 h1=>v1= .int .i64 (k5 ns x)∧h1=h0:=by
 refine bT.dN D.f81 rfl (WP.ak (I.aC (.int .i64 0) (I.nil (WP.seq (WP.ak (I.bS (v:= .n ns.length) (L.Gb rfl R) (I.aC (.int .i64 0) (I.nil (WP.block (WP.dS (α:=Nat) (fun k env rK=>∃bR eO c4 dH,(k≤ns.length∧x∉ns.take k)∧env=c6 [v,L.str x,bR, .n k, .n ns.length,eO,c4,dH] 0 Env.nil∧rK=h0) (fun k=>ns.length - k) 0 ?_ ?_))))))))))
 ·exact ⟨(.int .i64 0), .bot, .bot, .bot,⟨Nat.zero_le _,by simp⟩,by kernel_rfl,rfl⟩
 rintro k _ h ⟨bR,eO,c4,dH,⟨hk,uA⟩,rfl,rfl⟩
 refine WP.ak (I.bV (L.lss rfl rfl) (fun c1=> ?_) (fun c1=> ?_))
 ·replace c1:k<ns.length:=by omega
  obtain ⟨y,hx⟩:∃y,ns[k]? =some y:=⟨ns[k]'(by omega),List.getElem?_eq_getElem (by omega)⟩
  refine I.nil (WP.seq (WP.cond (t:=true) rfl (WP.skip (WP.seq (WP.block (WP.ak (I.aC (.n k) (I.ak (I.val (v:= .ptr (cY v) (db v+k * 1)) (L.KJ R c1 rfl rfl) (I.val (v:=L.str y) (L.load rfl (R.at hx)) (I.bV (L.seq rfl rfl) (fun hv=> ?_) (fun hv=> ?_))))))))))))
  ·refine I.bI (WP.ak (I.aC (.n k) (I.nil (WP.ret ?_))))
   exact ⟨_,(b0 (.n k)),(by rw [KN hk hx (by simpa using uA) (by simp [*])];rfl),rfl⟩
  ·refine I.nil (WP.cond (t:=false) rfl (WP.skip (WP.ad (I.bS (v:= .int .i64 ((k+1:Nat):Int)) (L.cX rfl rfl (by omega) (And.intro (by omega) (by omega))) (I.nil ?_)))))
   exact ⟨k+1,(by omega),bR,(.bool true),(.n k),(.bool false),⟨by omega,KO uA hx (by simp [*])⟩,by kernel_rfl,rfl⟩
 ·replace c1:¬(k<ns.length):=by omega
  refine I.nil (WP.seq (WP.cond (t:=false) rfl (WP.exit (WP.ak (I.aC (.int .i64 (-1)) (I.nil (WP.ret ?_)))))))
  exact ⟨_,(b0 (.int .i64 (-1))),(by rw [KM (by rw [List.take_of_length_le (by omega)] at uA;exact uA)];rfl),rfl⟩
theorem aae (D:zY c) {h0:ae} {v:V} {ns:List Lab.aL} {x:Lab.aL} (hn:ns.length<4294967296) (R:dU h0 v ns):
 bT c 50 [v,L.str x] h0 fun v1 h1=>v1= .bool (decide (x∈ns))∧h1=h0:=by
 refine bT.dN D.f50 rfl (WP.ak (I.aC (.bool false) (I.ak (I.bx rfl (Qb D hn R) ?_))))
 rintro _ h ⟨rfl,rfl⟩
 refine I.bV (L.geq rfl rfl) (fun c1=> ?_) (fun c1=> ?_)
 ·refine I.nil (WP.ret ?_)
  exact ⟨_,(b0 (.bool true)),(by rw [decide_eq_true (P9 c1)];rfl),rfl⟩
 ·refine I.nil (WP.ret ?_)
  exact ⟨_,(b0 (.bool false)),(by rw [decide_eq_false (Qa c1)];rfl),rfl⟩
theorem Qc (D:zY c) {h0:ae} {v w:V} {ns:List Lab.aL} (hn:ns.length<4294967296) (R:dU h0 v ns) (xV:dU h0 w ns):
 bT c 19 [v,w] h0 fun v1 h1=>v1= .bool true∧h1=h0:=by
 refine bT.dN D.f19 rfl (WP.ak (I.aC (.bool false) (I.nil (WP.seq (WP.ak (I.val (v:= .n ns.length) (L.Gb rfl R) (I.val (v:= .n ns.length) (L.Gb rfl xV) (I.bV (L.neq rfl rfl) (fun c1=>by exfalso;omega) (fun c1=> ?_)))))))))
 refine I.bw (WP.skip (WP.seq (WP.ak (I.aC (.int .i64 0) (I.nil (WP.block (WP.dS (α:=Nat) (fun k env rK=>∃bR eO c4,(k≤ns.length)∧env=c6 [v,w,bR, .bool false, .n k,eO,c4] 0 Env.nil∧rK=h0) (fun k=>ns.length - k) 0 ?_ ?_)))))))
 ·exact ⟨(.bool false), .bot, .bot,Nat.zero_le _,by kernel_rfl,rfl⟩
 rintro k _ h ⟨bR,eO,c4,hk,rfl,rfl⟩
 refine WP.seq (WP.ak (I.val (v:= .n ns.length) (L.Gb rfl R) (I.bV (L.lss rfl rfl) (fun c1=> ?_) (fun c1=> ?_))))
 ·replace c1:k<ns.length:=by omega
  obtain ⟨x,hx⟩:∃y,ns[k]? =some y:=⟨ns[k]'(by omega),List.getElem?_eq_getElem (by omega)⟩
  refine I.bI (WP.skip (WP.seq (WP.block (WP.seq (WP.draw (af.v v (af.v (.n k) (af.val (v:= .ptr (cY v) (db v+k * 1)) (L.KJ R c1 rfl rfl) (af.val (v:=L.str x) (L.load rfl (R.at hx)) (af.v w (af.v (.n k) (af.val (v:= .ptr (cY w) (db w+k * 1)) (L.KJ xV c1 rfl rfl) (af.val (v:=L.str x) (L.load rfl (xV.at hx)) (af.bV (L.xk rfl rfl) (fun _ c2=>by exfalso;exact c2 rfl) (fun _ c2=> ?_)))))))))))))))
  refine af.nil (WP.cond (t:=false) rfl (WP.skip (WP.ad (I.bS (v:= .int .i64 ((k+1:Nat):Int)) (L.cX rfl rfl (by omega) (And.intro (by omega) (by omega))) (I.nil ?_)))))
  exact ⟨k+1,(by omega),bR,(.bool true),(.bool false),by omega,by kernel_rfl,rfl⟩
 ·replace c1:¬(k<ns.length):=by omega
  refine I.bw (WP.exit (WP.ak (I.aC (.bool true) (I.nil (WP.ret ?_)))))
  exact ⟨_,(b0 (.bool true)),rfl,rfl⟩
end
end Go.Eng.YtmcjcbldmoijiaaGreatDoor
namespace Go.Eng.YtmcjcbldmoijiaaGreatDoor
open Go.Eng
noncomputable section
variable {c:Ctx}
structure rM (c:Ctx):Prop where
 f17:T.get 17 c.cE=some i17
 f44:T.get 44 c.cE=some i44
 f45:T.get 45 c.cE=some i45
 f74:T.get 74 c.cE=some i74
 f78:T.get 78 c.cE=some i78
 sort:∀args h r,s0 77 77 args h=r→r≠.bad→h9 c 77 args h r
 grow:∀args h r,zR 79 79 args h=r→r≠.bad→h9 c 79 args h r
theorem aaf (D:rM c) {fs:List Fact} {h:ae} {v:V} {l:List Lab.aL} (hn:l=[]→v= .U) (ar:l.length<4294967296) (st:aq (.aE (fun h=>dU h v l)::fs) h):
 bT c 74 [v] h fun v1 h1=>∃bs f,aq (.cS bs f 1 v1 (SR l):: .aE (fun h=>dU h v l)::fs) h1:=by
 refine bT.dN D.f74 rfl (WP.ak (I.aC .U (I.nil (WP.ss (WP.ad ?_)))))
 have cz:dU h v l:=st.bt 0 rfl
 by_cases aD:v= .U
 ·subst aD
  obtain rfl:l=[]:=by
   rcases cz with ⟨_,e⟩|⟨_,_,_,e,_⟩
   ·exact e
   ·cases e
  refine I.bS (v:= .bool true) (L.PR rfl rfl) (I.bI (WP.ak (I.aC .U (I.nil (WP.ret ?_)))))
  exact ⟨_,(b0 .U),[],0,aq.xN st 1⟩
 ·have bG:l≠[]:=fun e=>aD (hn e)
  have EE:0<l.length:=List.length_pos_iff.2 bG
  have gD:=cz.au (i:=0) EE
  refine I.bS (v:= .bool false) (L.ZK gD rfl) (I.bw (WP.skip (WP.ak (I.PS (rows:=[]) st rfl (by decide) rfl (fun row hm=>by cases hm) (fun k6 h fB st=> ?_)))))
  refine I.aac st rfl fB rfl (st.bt 1 rfl) EE (by omega) (fun bs f Qd h st=> ?_)
  refine I.nil (WP.ret ?_)
  exact ⟨_,(b0 Qd),bs,f,(st.pick 1 rfl).tail⟩
theorem aag {S:List Lab.aL} (h:S.length<2):Lab.uniq S=S:=by
 match S,h with
 |[],_=>rfl
 |[x],_=>rfl
theorem aah (D:rM c) {fs:List Fact} {h:ae} {bs:List Nat} {f b:Nat} {S:List Lab.aL} (hn:S.length<4294967296) (st:aq (.cS bs f 1 (.au b 0 S.length none) (SR S)::fs) h):
 bT c 78 [.au b 0 S.length none] h fun v1 h1=>v1= .au b 0 (Lab.uniq S).length none∧aq (.cS bs f 1 (.au b 0 (Lab.uniq S).length none) (SR (Lab.uniq S))::fs) h1:=by
 refine bT.dN D.f78 rfl (WP.ak (I.aC .U (I.nil (WP.seq (WP.ak (I.val (v:= .n S.length) (L.pr rfl) (I.bV (L.lss rfl rfl) (fun ed=> ?_) (fun ed=> ?_))))))))
 ·replace ed:S.length<2:=by omega
  refine I.bI (WP.ak (I.aC (.au b 0 S.length none) (I.nil (WP.ret ?_))))
  have hu:Lab.uniq S=S:=aag (by omega)
  exact ⟨_,(b0 (.au b 0 S.length none)),(by rw [hu];rfl),(by rw [hu];exact st)⟩
 ·replace ed:¬S.length<2:=by omega
  refine I.bw (WP.skip (WP.seq (WP.ak (I.aC (.int .i64 1) (I.nil (WP.block (WP.dS (α:=Nat) (fun k env h=>∃x1 eM eO c4 dH eo ih,(1≤k∧k≤S.length∧Lab.uniq (S.take k)=S.take k)∧env=c6 [.au b 0 S.length none,x1, .bool false, .n k,eM,eO,c4,dH,eo,ih] 0 Env.nil∧aq (.cS bs f 1 (.au b 0 S.length none) (SR S)::fs) h) (fun k=>S.length - k) 1 ?_ ?_)))))))
  ·exact ⟨.U, .bot, .bot, .bot, .bot, .bot, .bot,⟨by omega,by omega,Lab.ZB S⟩,by kernel_rfl,st⟩
  rintro k _ h ⟨x1,eM,eO,c4,dH,eo,ih,⟨uB,vd,hu⟩,rfl,st⟩
  refine WP.seq (WP.ak (I.val (v:= .n S.length) (L.pr rfl) (I.bV (L.lss rfl rfl) (fun c1=> ?_) (fun c1=> ?_))))
  ·replace c1:k<S.length:=by omega
   obtain ⟨x,hx⟩:∃x,S[k]? =some x:=⟨S[k]'(by omega),List.getElem?_eq_getElem (by omega)⟩
   obtain ⟨y,hy⟩:∃y,S[k - 1]? =some y:=⟨S[k - 1]'(by omega),List.getElem?_eq_getElem (by omega)⟩
   refine I.nil (WP.cond (t:=true) rfl (WP.skip (WP.seq (WP.block (WP.seq (WP.draw (af.val (v:= .au b 0 S.length none) rfl (af.val (v:= .n k) rfl (af.val (v:= .ptr b (0+k * 1)) (L.bY rfl rfl (by omega)) (af.val (v:=L.str x) (L.load rfl ((st.jK 0 rfl (by decide)).eb (qD hx))) (af.val (v:= .au b 0 S.length none) rfl (af.val (v:= .n k) rfl (af.val (v:= .int .i64 ((k - 1:Nat):Int)) (L.jA rfl rfl (by omega) (And.intro (by omega) (by omega))) (af.val (v:= .ptr b (0+(k - 1) * 1)) (L.bY rfl rfl (by omega)) (af.val (v:=L.str y) (L.load rfl ((st.jK 0 rfl (by decide)).eb (qD hy))) (af.bV (L.seq rfl rfl) (fun _ cG=> ?_) (fun _ cG=> ?_)))))))))))))))))
   ·refine af.bI (WP.ak (I.bS (v:= .au b (0+k * 1) (S.length - k) none) (L.jU rfl (st.jK 0 rfl (by decide)) rfl rfl (by omega) (Nat.le_refl _)) (I.nil (WP.seq (WP.ak (I.aC (.int .i64 1) (I.nil (WP.block (WP.dS (α:=Nat) (fun j env h=>∃q R eo ih,(Lab.oB S R k j q)∧env=c6 [.au b 0 S.length none,x1, .bool false, .n q, .bool true, .bool true, .au b (0+k * 1) (S.length - k) none, .n j,eo,ih] 0 Env.nil∧aq (.cS bs f 1 (.au b 0 S.length none) (SR R)::fs) h) (fun j=>S.length - j) 1 ?_ ?_)))))))))
    ·exact ⟨k,S,eo,ih,Lab.oB.start uB hu hx (by rw [hy,cG]),by kernel_rfl,st⟩
    rintro j _ h ⟨q,R,eo,ih,ci,rfl,st⟩
    refine WP.seq (WP.ak (I.val (v:= .int .i64 ((S.length - k:Nat):Int)) (L.pr rfl) (I.bV (L.lss rfl rfl) (fun dm=> ?_) (fun dm=> ?_))))
    ·replace dm:j<S.length - k:=by omega
     have mH:k+j<S.length:=by omega
     obtain ⟨bR,ky⟩:∃x,S[k+j]? =some x:=⟨S[k+j]'(by omega),List.getElem?_eq_getElem (by omega)⟩
     obtain ⟨nL,KP⟩:∃y,S[k+j - 1]? =some y:=⟨S[k+j - 1]'(by omega),List.getElem?_eq_getElem (by omega)⟩
     have Be:=ci.ob
     have uC:=ci.CN
     have CI:=ci.len
     have Qe:R[k+j]? =some bR:=by rw [ci.at (by omega)];exact ky
     have aai:R[k+j - 1]? =some nL:=by rw [ci.at (by omega)];exact KP
     refine I.bI (WP.skip (WP.seq (WP.block (WP.seq (WP.draw (af.v (.au b (0+k * 1) (S.length - k) none) (af.v (.n j) (af.val (v:= .ptr b (0+k * 1+j * 1)) (L.bY rfl rfl (by omega)) (af.val (v:=L.str bR) (L.load rfl (by rw [show 0+k * 1+j * 1=0+(k+j) * 1 by omega];exact (st.jK 0 rfl (by decide)).eb (qD Qe))) ?_)))))))))
     refine af.val (v:= .au b (0+k * 1) (S.length - k) none) rfl (af.val (v:= .n j) rfl (af.val (v:= .int .i64 ((j - 1:Nat):Int)) (L.jA rfl rfl (by omega) (And.intro (by omega) (by omega))) (af.val (v:= .ptr b (0+k * 1+(j - 1) * 1)) (L.bY rfl rfl (by omega)) (af.val (v:=L.str nL) (L.load rfl (by rw [show 0+k * 1+(j - 1) * 1=0+(k+j - 1) * 1 by omega];exact (st.jK 0 rfl (by decide)).eb (qD aai))) ?_))))
     refine af.bV (L.xk rfl rfl) (fun _ dR=> ?_) (fun _ dR=> ?_)
     ·refine af.bI (WP.ak (I.val (v:= .ptr b (0+k * 1+j * 1)) (L.bY rfl rfl (by omega)) (I.val (v:=L.str bR) (L.load rfl (by rw [show 0+k * 1+j * 1=0+(k+j) * 1 by omega];exact (st.jK 0 rfl (by decide)).eb (qD Qe))) ?_)))
      refine I.val (v:= .ptr b (0+q * 1)) (L.bY rfl rfl (by omega)) (I.CH st rfl rfl (by decide) (by rw [gQ];omega) rfl (fun h st=> ?_))
      replace st:aq (.cS bs f 1 (.au b 0 S.length none) (SR (R.set q bR))::fs) h:=by rw [←CM];exact st
      refine I.nil (WP.ad (I.bS (v:= .int .i64 ((q+1:Nat):Int)) (L.cX rfl rfl (by omega) (And.intro (by omega) (by omega))) (I.nil (WP.ad (I.bS (v:= .int .i64 ((j+1:Nat):Int)) (L.cX rfl rfl (by omega) (And.intro (by omega) (by omega))) (I.nil ?_))))))
      exact ⟨j+1,(by have:=ci.le;omega),(q+1),(R.set q bR),(.bool true),(.bool true),ci.put ky KP dR,by kernel_rfl,st⟩
     ·refine af.nil (WP.cond (t:=false) rfl (WP.skip (WP.ad (I.bS (v:= .int .i64 ((j+1:Nat):Int)) (L.cX rfl rfl (by omega) (And.intro (by omega) (by omega))) (I.nil ?_)))))
      exact ⟨j+1,(by have:=ci.le;omega),q,R,(.bool true),(.bool false),ci.skip ky (by rw [KP,Decidable.not_not.1 dR]),by kernel_rfl,st⟩
    ·replace dm:¬j<S.length - k:=by omega
     have hle:=ci.le
     refine I.bw (WP.exit (WP.ak (I.val (v:= .au b (0+q * 1) (S.length - q) none) (L.jU rfl (st.jK 0 rfl (by decide)) rfl rfl (by have:=ci.CN;have:=ci.le;omega) (Nat.le_refl _)) ?_)))
     have bB:=(ci.done (by omega)).2.2
     have CI:=ci.len
     refine I.Zy st rfl (by decide) rfl (by omega) (by rw [gQ];omega) (fun h st=> ?_)
     refine I.ak (I.bS (v:= .au b 0 q none) (L.jU rfl (st.jK 0 rfl (by decide)) rfl rfl (Nat.zero_le _) (by omega)) (I.nil (WP.ret ?_)))
     obtain ⟨d1,d2,d3⟩:=ci.done (by omega)
     have s2:=st.Pq (k:=q) (by omega)
     rw [List.take_left' (by rw [List.length_take,gQ,ci.len];omega),Zz,d2,d1] at s2
     exact ⟨_,(b0 (.au b 0 q none)),(by rw [d1];rfl),s2⟩
   ·refine af.nil (WP.cond (t:=false) rfl (WP.skip (WP.ad (I.bS (v:= .int .i64 ((k+1:Nat):Int)) (L.cX rfl rfl (by omega) (And.intro (by omega) (by omega))) (I.nil ?_)))))
    exact ⟨k+1,(by omega),x1,(.bool true),(.bool false),c4,dH,eo,ih,⟨by omega,by omega,Lab.ZA uB hu hx hy cG⟩,by kernel_rfl,st⟩
  ·replace c1:¬k<S.length:=by omega
   refine I.bw (WP.exit (WP.ak (I.aC (.au b 0 S.length none) (I.nil (WP.ret ?_)))))
   have gm:Lab.uniq S=S:=by rw [List.take_of_length_le (by omega)] at hu;exact hu
   exact ⟨_,(b0 (.au b 0 S.length none)),(by rw [gm];rfl),(by rw [gm];exact st)⟩
theorem Qf (D:rM c) {fs:List Fact} {h:ae} (st:aq fs h):
 bT c 78 [.U] h fun v1 h1=>v1= .U∧aq fs h1:=by
 refine bT.dN D.f78 rfl (WP.ak (I.aC .U (I.nil (WP.seq (WP.ak (I.val (v:= .int .i64 ((0:Nat):Int)) (L.zt rfl) (I.bV (L.lss rfl rfl) (fun c1=> ?_) (fun c1=>by exfalso;omega))))))))
 refine I.bI (WP.ak (I.aC .U (I.nil (WP.ret ?_))))
 exact ⟨_,(b0 .U),rfl,st⟩
theorem aaj (D:rM c) {fs:List Fact} {h:ae} {bs:List Nat} {f:Nat} {v:V} {S:List Lab.aL} (hn:S.length<4294967296) (st:aq (.cS bs f 1 v (SR S)::fs) h):
 bT c 78 [v] h fun v1 h1=>aq (.cS bs f 1 v1 (SR (Lab.uniq S))::fs) h1:=by
 obtain ⟨_,_,a⟩:=st.FV
 have ar:=gQ S
 generalize cz:SR S=R at st a ar
 cases a with
 |nil=>
  obtain rfl:S=[]:=by simpa using ar.symm
  obtain ⟨v1,h1,aS,rfl,s1⟩:=Qf D st
  exact ⟨_,_,aS,cz▸s1⟩
 |row=>
  rw [ar] at st ⊢
  rw [←cz] at st
  obtain ⟨v1,h1,aS,rfl,s1⟩:=aah D hn st
  exact ⟨_,_,aS,s1⟩
theorem aak (D:rM c) {fs:List Fact} {h:ae} (st:aq fs h):
 bT c 74 [.U] h fun v1 h1=>v1= .U∧aq fs h1:=by
 refine bT.dN D.f74 rfl (WP.ak (I.aC .U (I.nil (WP.seq (WP.ak (I.bS (v:= .bool true) (L.PR rfl rfl) (I.bI (WP.ak (I.aC .U (I.nil (WP.ret ?_)))))))))))
 exact ⟨_,(b0 .U),rfl,st⟩
theorem aal (D:rM c) {fs:List Fact} {h:ae} (st:aq fs h):
 bT c 44 [.U] h fun v1 h1=>v1= .U∧aq fs h1:=by
 refine bT.dN D.f44 rfl (WP.ak (I.aC .U (I.ak (I.dK rfl (aak D st) ?_))))
 rintro _ h ⟨rfl,st⟩
 refine I.ak (I.bx rfl (Pv D.sort (ss:=[]) (by decide) (st.xN 1)) ?_)
 rintro _ h st
 replace st:aq (fs) h:=aq.tail st
 refine I.ak (I.dK rfl (Qf D st) ?_)
 rintro _ h ⟨rfl,st⟩
 refine I.ak (I.val (v:= .int .i64 ((0:Nat):Int)) (L.zt rfl) (I.val (v:= .int .i64 ((0:Nat):Int)) (L.zt rfl) (I.aC .U (I.nil (WP.ret ?_)))))
 exact ⟨_,(b0 .U),rfl,st⟩
theorem aam (D:rM c) {fs:List Fact} {h:ae} {v:V} {l:List Lab.aL} (bG:l≠[]) (hn:l.length<4294967296) (st:aq (.aE (fun h=>dU h v l)::fs) h):
 bT c 44 [v] h fun v1 h1=>aq (.aE (fun h=>Rows 1 h v1 (SR (mY l))):: .aE (fun h=>dU h v l)::fs) h1:=by
 refine bT.dN D.f44 rfl (WP.ak (I.aC .U (I.ak (I.dK rfl (aaf D (fun e=>absurd e bG) hn st) ?_))))
 rintro Qd h ⟨bs,f,st⟩
 refine I.ak (I.bx rfl (Pv D.sort (ss:=l) hn st) ?_)
 rintro _ h st
 refine I.ak (I.dK rfl (aaj D (S:=iz l) (by rw [(uv l).length_eq];exact hn) st) ?_)
 rintro aan h st
 rw [show Lab.uniq (iz l)=mY l from rfl] at st
 have vP:=P8 l
 have iv:¬(mY l).length=0:=fun e=>bG (by cases l with|nil=>rfl|cons a l=>exact absurd ((aad (a::l) a).2 (by simp)) (by rw [List.length_eq_zero_iff.1 e];simp))
 obtain ⟨eG,rfl⟩:∃eG,aan= .au eG 0 (mY l).length none:=F8 (st.xM 0 rfl) (gQ _) iv
 refine I.ak (I.val (v:= .int .i64 ((mY l).length:Int)) (L.pr rfl) (I.val (v:= .int .i64 ((mY l).length:Int)) (L.pr rfl) (I.bS (v:= .au eG (0+0 * 1) ((mY l).length - 0) (some ((mY l).length - 0))) (L.Zw rfl rfl rfl rfl (by omega) (Nat.zero_le _) (Nat.le_refl _) (Nat.le_refl _) (by omega)) (I.nil (WP.ret ?_)))))
 exact ⟨_,(cH (fl (v:= .au eG (0+0 * 1) ((mY l).length - 0) (some ((mY l).length - 0))) rfl) (eX _ _)),(st.CC (by decide)).e4 fun h hx=>Rows.cap hx⟩
theorem aao (D:rM c) {fs:List Fact} {h:ae} {v:V} {l:List Lab.aL} (hz:l=[]→v= .U) (hn:l.length<4294967296) (st:aq (.aE (fun h=>dU h v l)::fs) h):
 bT c 44 [v] h fun v1 h1=>aq (.aE (fun h=>Rows 1 h v1 (SR (mY l))):: .aE (fun h=>dU h v l)::fs) h1:=by
 by_cases e:l=[]
 ·subst e
  rw [hz rfl] at st ⊢
  obtain ⟨v1,h1,r,rfl,s1⟩:=aal D st
  exact ⟨_,_,r,aq.qB (P:=fun h=>Rows 1 h .U (SR [])) s1 fun _=> .nil⟩
 ·exact aam D e hn st
end
end Go.Eng.YtmcjcbldmoijiaaGreatDoor
