/- Part of a proof of a law: rules of an evaluator, contracts, plain laws. No condition of its own. -/
import Derived.Test.YtmcjcbldmoijiaaGreatDoorSymA
import Derived.Test.YtmcjcbldmoijiaaGreatDoorBaseB
import Derived.Test.YtmcjcbldmoijiaaGreatDoorSymK
set_option linter.unusedVariables false
set_option linter.unusedSimpArgs false
namespace Go.Eng.YtmcjcbldmoijiaaGreatDoor.Lt
open Go.Eng
noncomputable section
variable {c:Ctx}
structure L8 (c:Ctx):Prop where
 f69:T.get 69 c.cE=some i69
 h:yx c
theorem afe (D:L8 c) {fs:List Fact} {h:ae} {v:V} {aO:List lJ} (hn:aO.length<2147483648) (st:aq (.aE (fun h=>fj h v aO)::fs) h):
 bT c 69 [v] h fun v1 h1=>∃cg jB dT ei,v1= .dh [.agg ((ig (er aO)).num cg jB dT ei), .int .i64 ((Lab.made (er aO)).1:Int)]∧aq (.aE (fun h=>mX h cg jB dT ei (ig (er aO))):: .aE (fun h=>fj h v aO)::fs) h1:=by
 refine bT.dN D.f69 rfl (WP.ak (I.dI st L.alloc (fun res h st=> ?_)))
 refine I.aC (.int .i64 0) (I.ak (I.aC .U (I.nil (WP.seq (WP.ak (I.aC (.int .i64 0) (I.nil (WP.block ?_))))))))
 replace st:aq (.cS ([]) 0 1 .U ([]):: .box res [.U, .U, .U, .U, .int .i64 0, .int .i64 0]:: .aE (fun h=>fj h v aO)::fs) h:=st.xN 1
 refine WP.dS (α:=Nat) (fun i env h=>∃bs f eu S eM c4 dH,(i≤aO.length∧Lab.Seen (er (aO.take i)) S∧S.length≤13)∧env=c6 [v, .ptr res 0, .int .i64 0, .n i,eM,eu,c4,dH] 0 Env.nil∧aq (.cS bs f 1 eu (SR S):: .box res [.U, .U, .U, .U, .int .i64 0, .int .i64 0]:: .aE (fun h=>fj h v aO)::fs) h) (fun i=>aO.length - i) 0 ?_ ?_
 ·exact ⟨[],0, .U,[], .bot, .bot, .bot,⟨Nat.zero_le _,Lab.Seen.nil,Nat.zero_le _⟩,by kernel_rfl,st⟩
 rintro i _ h ⟨bs,f,eu,S,eM,c4,dH,⟨ag,AP,lQ⟩,rfl,st⟩
 refine WP.seq (WP.ak (I.val (v:= .n aO.length) (L.PW rfl (st.bt 2 rfl)) (I.bV (L.lss rfl rfl) (fun c1=> ?_) (fun c1=> ?_))))
 ·replace c1:i<aO.length:=by omega
  obtain ⟨p,hp⟩:∃y,aO[i]? =some y:=⟨aO[i]'(by omega),List.getElem?_eq_getElem (by omega)⟩
  refine I.bI (WP.skip (WP.seq (WP.block (WP.ak (I.val (v:= .ptr (cY v) (db v+i * 3)) (L.zU (st.bt 2 rfl) c1 rfl rfl) (I.f (.ptr (cY v) (db v+i * 3+0)) (I.val (v:=L.str p.1) (L.load rfl (fj.xT (j:=0) (st.bt 2 rfl) hp rfl)) (I.dK rfl (SX D.h (by omega) st) ?_))))))))
  rintro w1 h ⟨iT,f1,S1,ot,st⟩
  have tl:=ot.len
  refine I.nil (WP.seq (WP.ak (I.val (v:= .ptr (cY v) (db v+i * 3)) (L.zU (st.bt 2 rfl) c1 rfl rfl) (I.f (.ptr (cY v) (db v+i * 3+1)) (I.val (v:=L.str p.2.1) (L.load rfl (fj.xT (j:=1) (st.bt 2 rfl) hp rfl)) (I.bV (L.xk (m:=[]) rfl rfl) (fun cl=> ?_) (fun cl=> ?_)))))))
  ·refine I.bI (WP.ad (I.val (v:= .ptr (cY v) (db v+i * 3)) (L.zU (st.bt 2 rfl) c1 rfl rfl) (I.f (.ptr (cY v) (db v+i * 3+1)) (I.val (v:=L.str p.2.1) (L.load rfl (fj.xT (j:=1) (st.bt 2 rfl) hp rfl)) (I.dK rfl (SX D.h (by omega) st) ?_)))))
   rintro iw h ⟨lR,f2,b9,rU,st⟩
   have fL:=rU.len
   refine I.ak (I.val (v:= .n b9.length) (L.fD rfl (st.jK 0 rfl (by decide)) (gQ _)) (I.bV (L.gtr rfl rfl) (fun j4=> ?_) (fun j4=> ?_)))
   ·replace j4:13<b9.length:=by omega
    have L9:=(AP.two (p:=(p.1,p.2.1)) ot rU cl).many (rest:=(er aO).drop (i+1))
    rw [←Hs hp,SM] at L9
    refine I.bI (WP.exit (WP.ak (I.bS (v:= .n b9.length) (L.fD rfl (st.jK 0 rfl (by decide)) (gQ _)) (I.nil (WP.seq (WP.ak (I.bV (L.eql rfl rfl) (fun pV=>by exfalso;omega) (fun _=> ?_))))))))
    refine I.bw (WP.skip (WP.seq (WP.ak (I.bV (L.gtr rfl rfl) (fun _=> ?_) (fun pV=>by exfalso;omega)))))
    refine I.bI (WP.ak (I.val (v:= .agg [.U, .U, .U, .U, .int .i64 0, .int .i64 0]) (L.build rfl) (I.bM (row':=[.U, .U, .U, .U, .int .i64 0, .int .i64 0]) st 1 rfl rfl rfl rfl rfl rfl rfl (fun h st=> ?_))))
    refine I.aC (.int .i64 14) (I.nil (WP.ret ?_))
    rw [show ig (er aO)=ie.none from by unfold ig;rw [Lab.zQ (by omega)],Lab.zQ (by omega)]
    exact ⟨_,(cH (eY (l:=[.U, .U, .U, .U, .int .i64 0, .int .i64 0]) rfl (L.eN (st.aN 1 rfl) rfl rfl rfl)) (b0 (.int .i64 14))), .U, .U, .U, .U,rfl,aq.qB (P:=fun h=>mX h .U .U .U .U ie.none) (st.tail.tail) fun h=>mX.none h⟩
   ·replace j4:¬13<b9.length:=by omega
    refine I.nil (WP.cond (t:=false) rfl (WP.skip (WP.ad (I.bS (v:= .int .i64 ((i+1:Nat):Int)) (L.cX rfl rfl (by omega) (And.intro (by omega) (by omega))) (I.nil ?_)))))
    exact ⟨i+1,(by omega),lR,f2,iw,b9,(.bool true),(.bool true),(.bool false),⟨by omega,(by have:=AP.two (p:=(p.1,p.2.1)) ot rU cl;rw [←Hs hp] at this;exact this),by omega⟩,by kernel_rfl,st⟩
  ·refine I.bw (WP.skip (WP.ak (I.val (v:= .n S1.length) (L.fD rfl (st.jK 0 rfl (by decide)) (gQ _)) (I.bV (L.gtr rfl rfl) (fun j4=> ?_) (fun j4=> ?_)))))
   ·replace j4:13<S1.length:=by omega
    have L9:=(AP.one (p:=(p.1,p.2.1)) ot (Decidable.not_not.1 cl)).many (rest:=(er aO).drop (i+1))
    rw [←Hs hp,SM] at L9
    refine I.bI (WP.exit (WP.ak (I.bS (v:= .n S1.length) (L.fD rfl (st.jK 0 rfl (by decide)) (gQ _)) (I.nil (WP.seq (WP.ak (I.bV (L.eql rfl rfl) (fun pV=>by exfalso;omega) (fun _=> ?_))))))))
    refine I.bw (WP.skip (WP.seq (WP.ak (I.bV (L.gtr rfl rfl) (fun _=> ?_) (fun pV=>by exfalso;omega)))))
    refine I.bI (WP.ak (I.val (v:= .agg [.U, .U, .U, .U, .int .i64 0, .int .i64 0]) (L.build rfl) (I.bM (row':=[.U, .U, .U, .U, .int .i64 0, .int .i64 0]) st 1 rfl rfl rfl rfl rfl rfl rfl (fun h st=> ?_))))
    refine I.aC (.int .i64 14) (I.nil (WP.ret ?_))
    rw [show ig (er aO)=ie.none from by unfold ig;rw [Lab.zQ (by omega)],Lab.zQ (by omega)]
    exact ⟨_,(cH (eY (l:=[.U, .U, .U, .U, .int .i64 0, .int .i64 0]) rfl (L.eN (st.aN 1 rfl) rfl rfl rfl)) (b0 (.int .i64 14))), .U, .U, .U, .U,rfl,aq.qB (P:=fun h=>mX h .U .U .U .U ie.none) (st.tail.tail) fun h=>mX.none h⟩
   ·replace j4:¬13<S1.length:=by omega
    refine I.nil (WP.cond (t:=false) rfl (WP.skip (WP.ad (I.bS (v:= .int .i64 ((i+1:Nat):Int)) (L.cX rfl rfl (by omega) (And.intro (by omega) (by omega))) (I.nil ?_)))))
    exact ⟨i+1,(by omega),iT,f1,w1,S1,(.bool true),(.bool false),(.bool false),⟨by omega,(by have:=AP.one (p:=(p.1,p.2.1)) ot (Decidable.not_not.1 cl);rw [←Hs hp] at this;exact this),by omega⟩,by kernel_rfl,st⟩
 ·replace c1:¬i<aO.length:=by omega
  rw [List.take_of_length_le (by omega)] at AP
  obtain rfl:i=aO.length:=by omega
  have SY:S=Lab.names (er aO):=AP.is
  obtain ⟨az,iq⟩:∃az,az=Lab.names (er aO):=⟨_,rfl⟩
  rw [SY,←iq] at st
  have aiA:az.length≤13:=by rw [iq,←SY];exact lQ
  have Ma:az.length<4294967296:=by omega
  refine I.bw (WP.exit (WP.ak (I.bS (v:= .n az.length) (L.fD rfl (st.jK 0 rfl (by decide)) (gQ _)) (I.nil (WP.seq (WP.ak (I.bV (L.eql rfl rfl) (fun iv=> ?_) (fun iv=> ?_))))))))
  ·replace iv:az.length=0:=by omega
   refine I.bI (WP.ak (I.val (v:= .agg [.U, .U, .U, .U, .int .i64 0, .int .i64 0]) (L.build rfl) (I.bM (row':=[.U, .U, .U, .U, .int .i64 0, .int .i64 0]) st 1 rfl rfl rfl rfl rfl rfl rfl (fun h st=> ?_))))
   refine I.aC (.int .i64 13) (I.nil (WP.ret ?_))
   rw [show ig (er aO)=ie.none from by unfold ig;rw [Lab.PG (by rw [←iq];exact iv)],Lab.PG (by rw [←iq];exact iv)]
   exact ⟨_,(cH (eY (l:=[.U, .U, .U, .U, .int .i64 0, .int .i64 0]) rfl (L.eN (st.aN 1 rfl) rfl rfl rfl)) (b0 (.int .i64 13))), .U, .U, .U, .U,rfl,aq.qB (P:=fun h=>mX h .U .U .U .U ie.none) (st.tail.tail) fun h=>mX.none h⟩
  ·replace iv:¬az.length=0:=by omega
   refine I.bw (WP.skip (WP.seq (WP.ak (I.bV (L.gtr rfl rfl) (fun aS=> ?_) (fun aS=> ?_)))))
   ·replace aS:12<az.length:=by omega
    refine I.bI (WP.ak (I.val (v:= .agg [.U, .U, .U, .U, .int .i64 0, .int .i64 0]) (L.build rfl) (I.bM (row':=[.U, .U, .U, .U, .int .i64 0, .int .i64 0]) st 1 rfl rfl rfl rfl rfl rfl rfl (fun h st=> ?_))))
    refine I.aC (.int .i64 14) (I.nil (WP.ret ?_))
    rw [show ig (er aO)=ie.none from by unfold ig;rw [Lab.zQ (by rw [←iq];exact aS)],Lab.zQ (by rw [←iq];exact aS)]
    exact ⟨_,(cH (eY (l:=[.U, .U, .U, .U, .int .i64 0, .int .i64 0]) rfl (L.eN (st.aN 1 rfl) rfl rfl rfl)) (b0 (.int .i64 14))), .U, .U, .U, .U,rfl,aq.qB (P:=fun h=>mX h .U .U .U .U ie.none) (st.tail.tail) fun h=>mX.none h⟩
   ·replace aS:¬12<az.length:=by omega
    refine I.bw (WP.skip (WP.ak (I.aC .U (I.nil (WP.seq (WP.ak (I.aC (.int .i64 0) (I.nil (WP.block ?_)))))))))
    replace st:aq (.aE (fun h=>Rows 1 h eu (SR az)):: .box res [.U, .U, .U, .U, .int .i64 0, .int .i64 0]:: .aE (fun h=>fj h v aO)::fs) h:=(st).CC (by decide)
    replace st:aq (.acc 0 1 .U ([]):: .aE (fun h=>Rows 1 h eu (SR az)):: .box res [.U, .U, .U, .U, .int .i64 0, .int .i64 0]:: .aE (fun h=>fj h v aO)::fs) h:=st.kE 1
    refine WP.dS (α:=Nat) (fun a env h=>∃dX SZ jB pM fX,(a≤az.length∧dX.length=a)∧env=c6 [v, .ptr res 0, .int .i64 0, .n aO.length, .bool false,eu,c4,dH, .n az.length, .bool false, .bool false, .n a,pM,fX,jB] 0 Env.nil∧aq (.acc SZ 1 jB (dX.map fun b=>[V.au b 0 az.length (some az.length)]):: .aE (fun h=>Rows 1 h eu (SR az)):: .box res [.U, .U, .U, .U, .int .i64 0, .int .i64 0]:: .aE (fun h=>fj h v aO)::(gH dX (Lab.uy az.length a)++fs)) h) (fun a=>az.length - a) 0 ?_ ?_
    ·exact ⟨[],0, .U, .bot, .bot,⟨Nat.zero_le _,rfl⟩,by kernel_rfl,st⟩
    rintro a _ h ⟨dX,SZ,jB,pM,fX,⟨ha,vM⟩,rfl,st⟩
    refine WP.seq (WP.ak (I.bV (L.lss rfl rfl) (fun oT=> ?_) (fun oT=> ?_)))
    ·replace oT:a<az.length:=by omega
     refine I.bI (WP.skip (WP.seq (WP.block (WP.ak (I.KA st rfl rfl (by decide) rfl (by omega) (fun aT h st=> ?_))))))
     refine I.ak (I.val (v:= .ptr aT (0+a * 1)) (L.bY rfl rfl (by omega)) (I.F7 st rfl rfl (by simp;omega) (fun h st=> ?_)))
     refine I.nil (WP.ad (I.fS (rows:=[[.au aT 0 az.length (some az.length)]]) st rfl (by decide) rfl (by simp) (fun SS h st=> ?_)))
     refine I.kF st 2 rfl rfl rfl (st.bt 0 rfl) (by decide) (by simp;omega) (fun aff uW h st=> ?_)
     rw [show (dX.map fun b=>[V.au b 0 az.length (some az.length)])++[[V.au aT 0 az.length (some az.length)]]=(dX++[aT]).map fun b=>[V.au b 0 az.length (some az.length)] from by simp] at st
     refine I.nil (WP.ad (I.bS (v:= .int .i64 ((a+1:Nat):Int)) (L.cX rfl rfl (by omega) (And.intro (by omega) (by omega))) (I.nil ?_)))
     have st2:=aq.ZO (gs:=[_,_,_,_]) (l:=gH dX (Lab.uy az.length a)) st.tail
     rw [show gH dX (Lab.uy az.length a)++[_]=gH (dX++[aT]) (Lab.uy az.length (a+1)) from by rw [Lab.ZR,ZQ (by rw [Lab.ZS];exact vM)];unfold ux;rw [List.map_set,List.map_replicate]] at st2
     replace st:=st2
     exact ⟨a+1,(by omega),(dX++[aT]),aff,uW,(.bool true),(.au aT 0 az.length (some az.length)),⟨by omega,by simp [vM]⟩,by kernel_rfl,st⟩
    ·obtain rfl:a=az.length:=by omega
     obtain ⟨cq,rfl⟩:=ZP (st.gh 0 rfl) (by rw [List.length_map];exact vM) iv
     replace st:aq (.aE (fun h=>Rows 1 h (.au cq 0 az.length none) (dX.map fun b=>[V.au b 0 az.length (some az.length)])):: .aE (fun h=>Rows 1 h eu (SR az)):: .box res [.U, .U, .U, .U, .int .i64 0, .int .i64 0]:: .aE (fun h=>fj h v aO)::(gH dX (Lab.table az (er (aO.take 0)))++fs)) h:=(st).shut (by decide)
     replace st:aq (.aE (lH cq 0 az.length dX):: .aE (fun h=>Rows 1 h (.au cq 0 az.length none) (dX.map fun b=>[V.au b 0 az.length (some az.length)])):: .aE (fun h=>Rows 1 h eu (SR az)):: .box res [.U, .U, .U, .U, .int .i64 0, .int .i64 0]:: .aE (fun h=>fj h v aO)::(gH dX (Lab.table az (er (aO.take 0)))++fs)) h:=st.imp fun h hx a b hb=>⟨_,hx.eb (by rw [List.getElem?_map,hb];rfl)⟩
     replace st:aq (.aE (fun h=>Rows 1 h (.au cq 0 az.length none) (dX.map fun b=>[V.au b 0 az.length (some az.length)])):: .aE (fun h=>Rows 1 h eu (SR az)):: .box res [.U, .U, .U, .U, .int .i64 0, .int .i64 0]:: .aE (fun h=>fj h v aO):: .aE (lH cq 0 az.length dX)::(gH dX (Lab.table az (er (aO.take 0)))++fs)) h:=((((st.pick 4 rfl).pick 4 rfl).pick 4 rfl).pick 4 rfl)
     refine I.bw (WP.exit (WP.seq (WP.ak (I.aC (.int .i64 0) (I.nil (WP.block (WP.dS (α:=Nat) (fun i env h=>∃oI dL,(i≤aO.length)∧env=c6 [v, .ptr res 0, .int .i64 0, .n aO.length, .bool false,eu,c4,dH, .n az.length, .bool false, .bool false, .n az.length, .bool false,fX, .au cq 0 az.length none, .n i,oI,dL] 0 Env.nil∧aq (.aE (fun h=>Rows 1 h (.au cq 0 az.length none) (dX.map fun b=>[V.au b 0 az.length (some az.length)])):: .aE (fun h=>Rows 1 h eu (SR az)):: .box res [.U, .U, .U, .U, .int .i64 0, .int .i64 0]:: .aE (fun h=>fj h v aO):: .aE (lH cq 0 az.length dX)::(gH dX (Lab.table az (er (aO.take i)))++fs)) h) (fun i=>aO.length - i) 0 ?_ ?_)))))))
     ·exact ⟨.bot, .bot,Nat.zero_le _,by kernel_rfl,st⟩
     rintro i _ h ⟨oI,dL,ag,rfl,st⟩
     refine WP.seq (WP.ak (I.val (v:= .n aO.length) (L.PW rfl (st.bt 3 rfl)) (I.bV (L.lss rfl rfl) (fun c1=> ?_) (fun c1=> ?_))))
     ·replace c1:i<aO.length:=by omega
      obtain ⟨p,hp⟩:∃y,aO[i]? =some y:=⟨aO[i]'(by omega),List.getElem?_eq_getElem (by omega)⟩
      refine I.bI (WP.skip (WP.seq (WP.block (WP.ak (I.val (v:= .ptr (cY v) (db v+i * 3)) (L.zU (st.bt 3 rfl) c1 rfl rfl) (I.f (.ptr (cY v) (db v+i * 3+1)) (I.val (v:=L.str p.2.1) (L.load rfl (fj.xT (j:=1) (st.bt 3 rfl) hp rfl)) (I.bV (L.xk (m:=[]) rfl rfl) (fun cl=> ?_) (fun cl=> ?_)))))))))
      ·have hm:p.1∈az∧p.2.1∈az:=by rw [iq];exact Lab.Zv (p.1,p.2.1) (List.mem_map.2 ⟨p,List.mem_of_getElem? hp,rfl⟩) cl
       have afg:az.idxOf p.1<az.length:=List.idxOf_lt_length_of_mem hm.1
       have aiB:az.idxOf p.2.1<az.length:=List.idxOf_lt_length_of_mem hm.2
       obtain ⟨aT,Lv⟩:∃b,dX[az.idxOf p.1]? =some b:=⟨dX[az.idxOf p.1]'(by omega),List.getElem?_eq_getElem (by omega)⟩
       have cF:(dX.map fun b=>[V.au b 0 az.length (some az.length)])[az.idxOf p.1]? =some [.au aT 0 az.length (some az.length)]:=by rw [List.getElem?_map,Lv];rfl
       obtain ⟨afh,zN,vP⟩:=(Lab.Ks az (er (aO.take i))).at afg
       refine I.bI (WP.draw (af.v (.au cq 0 az.length none) (af.v eu (af.v v (af.v (.n i) (af.val (v:= .ptr (cY v) (db v+i * 3)) (L.zU (st.bt 3 rfl) c1 rfl rfl) (af.f (.ptr (cY v) (db v+i * 3+0)) (af.val (v:=L.str p.1) (L.load rfl (fj.xT (j:=0) (st.bt 3 rfl) hp rfl)) (af.v eu (af.v v (af.v (.n i) (af.val (v:= .ptr (cY v) (db v+i * 3)) (L.zU (st.bt 3 rfl) c1 rfl rfl) (af.f (.ptr (cY v) (db v+i * 3+1)) (af.val (v:=L.str p.2.1) (L.load rfl (fj.xT (j:=1) (st.bt 3 rfl) hp rfl)) (af.bx rfl (SH D.h.g.r Ma (st.bt 1 rfl)) (fun _ afi yd=> ?_) ?_)))))))))))))))
       ·obtain ⟨_,rfl⟩:=yd
        exact hN (jz (L.load rfl (fj.xT (j:=1) (st.bt 3 rfl) hp rfl))) (j6 _ _)
       rintro _ _ ⟨rfl,rfl⟩
       rw [show k5 az p.1=(az.idxOf p.1:Int) from if_pos hm.1]
       refine af.val (v:= .ptr cq (0+az.idxOf p.1 * 1)) (L.bY rfl rfl (by omega)) (af.val (v:= .au aT 0 az.length (some az.length)) (L.load rfl ((st.bt 0 rfl).eb cF)) (af.bx rfl (SH D.h.g.r Ma (st.bt 1 rfl)) (fun _ afi yd=> ?_) ?_))
       ·obtain ⟨_,rfl⟩:=yd
        exact hN (jz (L.load rfl ((st.bt 0 rfl).eb cF))) (j6 _ _)
       rintro _ _ ⟨rfl,rfl⟩
       rw [show k5 az p.2.1=(az.idxOf p.2.1:Int) from if_pos hm.2]
       refine af.val (v:= .ptr aT (0+az.idxOf p.2.1 * 1)) (L.bY rfl rfl (by omega)) (af.storeT (aq.vR (gs:=[_,_,_,_]) st) rfl rfl Lv zN (by rw [vP];omega) (fun h st=> ?_))
       have afj:(Lab.table az (er (aO.take i))).set (az.idxOf p.1) (afh.set (az.idxOf p.2.1) true)=Lab.put (Lab.table az (er (aO.take i))) (az.idxOf p.1) (az.idxOf p.2.1):=by unfold Lab.put;rw [zN];rfl
       rw [afj] at st
       replace st:aq (.aE (fun h=>Rows 1 h (.au cq 0 az.length none) (dX.map fun b=>[V.au b 0 az.length (some az.length)])):: .aE (fun h=>Rows 1 h eu (SR az)):: .box res [.U, .U, .U, .U, .int .i64 0, .int .i64 0]:: .aE (fun h=>fj h v aO):: .aE (lH cq 0 az.length dX)::(gH dX (Lab.put (Lab.table az (er (aO.take i))) (az.idxOf p.1) (az.idxOf p.2.1))++fs)) h:=aq.zS (gs:=[_,_,_,_]) st
       refine af.nil (WP.ad (I.bS (v:= .int .i64 ((i+1:Nat):Int)) (L.cX rfl rfl (by omega) (And.intro (by omega) (by omega))) (I.nil ?_)))
       have yy:=Lab.PX (ns:=az) hp
       unfold Lab.xQ at yy
       rw [if_neg cl] at yy
       rw [←yy] at st
       exact ⟨i+1,(by omega),(.bool true),(.bool true),by omega,by kernel_rfl,st⟩
      ·refine I.nil (WP.cond (t:=false) rfl (WP.skip (WP.ad (I.bS (v:= .int .i64 ((i+1:Nat):Int)) (L.cX rfl rfl (by omega) (And.intro (by omega) (by omega))) (I.nil ?_)))))
       have yy:=Lab.PX (ns:=az) hp
       unfold Lab.xQ at yy
       rw [if_pos (Decidable.not_not.1 cl)] at yy
       rw [←yy] at st
       exact ⟨i+1,(by omega),(.bool true),(.bool false),by omega,by kernel_rfl,st⟩
     ·obtain rfl:i=aO.length:=by omega
      rw [List.take_of_length_le (by omega)] at st
      obtain ⟨AQ,Mb⟩:∃AQ,AQ=Lab.table az (er aO):=⟨_,rfl⟩
      have Mc:eJ az.length AQ:=by rw [Mb];exact Lab.Ks az (er aO)
      rw [←Mb] at st
      refine I.bw (WP.exit (WP.seq (WP.ak (I.aC (.int .i64 0) (I.nil (WP.block (WP.dS (α:=Nat) (fun k env h=>∃LL uR qP yz nT,(k≤az.length)∧env=c6 [v, .ptr res 0, .int .i64 0, .n aO.length, .bool false,eu,c4,dH, .n az.length, .bool false, .bool false, .n az.length, .bool false,fX, .au cq 0 az.length none, .n aO.length, .bool false,dL, .n k,LL,uR,qP,yz,nT] 0 Env.nil∧aq (.aE (fun h=>Rows 1 h (.au cq 0 az.length none) (dX.map fun b=>[V.au b 0 az.length (some az.length)])):: .aE (fun h=>Rows 1 h eu (SR az)):: .box res [.U, .U, .U, .U, .int .i64 0, .int .i64 0]:: .aE (fun h=>fj h v aO):: .aE (lH cq 0 az.length dX)::(gH dX (Lab.closed k AQ)++fs)) h) (fun k=>az.length - k) 0 ?_ ?_)))))))
      ·exact ⟨.bot, .bot, .bot, .bot, .bot,Nat.zero_le _,by kernel_rfl,st⟩
      rintro k _ h ⟨LL,uR,qP,yz,nT,hk,rfl,st⟩
      refine WP.seq (WP.ak (I.bV (L.lss rfl rfl) (fun hF=> ?_) (fun hF=> ?_)))
      ·replace hF:k<az.length:=by omega
       obtain ⟨oU,Md⟩:∃oU,oU=Lab.closed k AQ:=⟨_,rfl⟩
       have sb:eJ az.length oU:=Md▸Lab.zP Mc k hk
       rw [←Md] at st
       obtain ⟨en,s4,q3⟩:=sb.at hF
       rw [show oU=Lab.iQ k 0 oU from (Lab.Zc k oU).symm] at st
       refine I.bI (WP.skip (WP.seq (WP.block (WP.ak (I.aC (.int .i64 0) (I.nil (WP.block (WP.dS (α:=Nat) (fun a env h=>∃qP yz nT,(a≤az.length)∧env=c6 [v, .ptr res 0, .int .i64 0, .n aO.length, .bool false,eu,c4,dH, .n az.length, .bool false, .bool false, .n az.length, .bool false,fX, .au cq 0 az.length none, .n aO.length, .bool false,dL, .n k, .bool true, .n a,qP,yz,nT] 0 Env.nil∧aq (.aE (fun h=>Rows 1 h (.au cq 0 az.length none) (dX.map fun b=>[V.au b 0 az.length (some az.length)])):: .aE (fun h=>Rows 1 h eu (SR az)):: .box res [.U, .U, .U, .U, .int .i64 0, .int .i64 0]:: .aE (fun h=>fj h v aO):: .aE (lH cq 0 az.length dX)::(gH dX (Lab.iQ k a oU)++fs)) h) (fun a=>az.length - a) 0 ?_ ?_))))))))
       ·exact ⟨qP,yz,nT,Nat.zero_le _,by kernel_rfl,st⟩
       rintro a _ h ⟨qP,yz,nT,nm,rfl,st⟩
       refine WP.seq (WP.ak (I.bV (L.lss rfl rfl) (fun oT=> ?_) (fun oT=> ?_)))
       ·replace oT:a<az.length:=by omega
        obtain ⟨ra,Hq,sc⟩:=sb.at oT
        obtain ⟨ab,uD⟩:∃b,dX[a]? =some b:=⟨dX[a]'(by omega),List.getElem?_eq_getElem (by omega)⟩
        obtain ⟨Me,s3⟩:∃b,dX[k]? =some b:=⟨dX[k]'(by omega),List.getElem?_eq_getElem (by omega)⟩
        have Mf:(dX.map fun b=>[V.au b 0 az.length (some az.length)])[a]? =some [.au ab 0 az.length (some az.length)]:=by rw [List.getElem?_map,uD];rfl
        have afk:(dX.map fun b=>[V.au b 0 az.length (some az.length)])[k]? =some [.au Me 0 az.length (some az.length)]:=by rw [List.getElem?_map,s3];rfl
        obtain ⟨y,hy⟩:∃y,ra[k]? =some y:=⟨ra[k]'(by omega),List.getElem?_eq_getElem (by omega)⟩
        rw [show Lab.iQ k a oU=(Lab.iQ k a oU).set a (Lab.jv y 0 ra en) from (Lab.aeZ sb oT Hq y en).symm] at st
        refine I.bI (WP.skip (WP.seq (WP.block (WP.ak (I.aC (.int .i64 0) (I.nil (WP.block (WP.dS (α:=Nat) (fun b env h=>∃nT,(b≤az.length)∧env=c6 [v, .ptr res 0, .int .i64 0, .n aO.length, .bool false,eu,c4,dH, .n az.length, .bool false, .bool false, .n az.length, .bool false,fX, .au cq 0 az.length none, .n aO.length, .bool false,dL, .n k, .bool true, .n a, .bool true, .n b,nT] 0 Env.nil∧aq (.aE (fun h=>Rows 1 h (.au cq 0 az.length none) (dX.map fun b=>[V.au b 0 az.length (some az.length)])):: .aE (fun h=>Rows 1 h eu (SR az)):: .box res [.U, .U, .U, .U, .int .i64 0, .int .i64 0]:: .aE (fun h=>fj h v aO):: .aE (lH cq 0 az.length dX)::(gH dX ((Lab.iQ k a oU).set a (Lab.jv y b ra en))++fs)) h) (fun b=>az.length - b) 0 ?_ ?_))))))))
        ·exact ⟨nT,Nat.zero_le _,by kernel_rfl,st⟩
        rintro b _ h ⟨nT,du,rfl,st⟩
        refine WP.seq (WP.ak (I.bV (L.lss rfl rfl) (fun eZ=> ?_) (fun eZ=> ?_)))
        ·replace eZ:b<az.length:=by omega
         obtain ⟨x,hx⟩:∃x,ra[b]? =some x:=⟨ra[b]'(by omega),List.getElem?_eq_getElem (by omega)⟩
         obtain ⟨z,hz⟩:∃z,en[b]? =some z:=⟨en[b]'(by omega),List.getElem?_eq_getElem (by omega)⟩
         have hA:=(Pw (aq.vR (gs:=[_,_,_,_]) st) uD (Lab.DI sb oT)).2
         have rA:=(Pw (aq.vR (gs:=[_,_,_,_]) st) s3 (Lab.ae0 sb oT hF s4 (ra:=ra) Hq)).2
         have S0:=hA b x (Lab.ae1 sc q3 eZ (by omega) hx (Nat.le_refl _))
         have S2:=hA k y (Lab.ae2 sc q3 hF hy (by omega))
         have S3:=rA b z (Lab.ae3 q3 hz (by omega))
         refine I.bI (WP.skip (WP.seq (WP.block (WP.draw (af.v (.au cq 0 az.length none) (af.v (.n a) (af.val (v:= .ptr cq (0+a * 1)) (L.bY rfl rfl (by omega)) (af.val (v:= .au ab 0 az.length (some az.length)) (L.load rfl ((st.bt 0 rfl).eb Mf)) (af.v (.n b) (af.v (.au cq 0 az.length none) (af.v (.n a) (af.val (v:= .ptr cq (0+a * 1)) (L.bY rfl rfl (by omega)) (af.val (v:= .au ab 0 az.length (some az.length)) (L.load rfl ((st.bt 0 rfl).eb Mf)) (af.v (.n b) (af.val (v:= .ptr ab (0+b * 1)) (L.bY rfl rfl (by omega)) ?_)))))))))))))))
         rcases uz x with yA|yA
         ·refine af.val (v:= .bool false) (L.load rfl (by rw [S0,yA])) (af.v (.bool false) (af.yes rfl (af.v (.au cq 0 az.length none) (af.yes rfl (af.v (.n a) (af.yes rfl (af.val (v:= .ptr cq (0+a * 1)) (L.bY rfl rfl (by omega)) (af.yes rfl (af.val (v:= .au ab 0 az.length (some az.length)) (L.load rfl ((st.bt 0 rfl).eb Mf)) (af.yes rfl (af.v (.n k) (af.yes rfl (af.val (v:= .ptr ab (0+k * 1)) (L.bY rfl rfl (by omega)) (af.yes rfl ?_))))))))))))))
          rcases uz y with AR|AR
          ·refine af.val (v:= .bool false) (L.load rfl (by rw [S2,AR])) (af.yes rfl (af.v (.bool false) (af.no rfl (af.no rfl (af.no rfl (af.no rfl (af.no rfl (af.no rfl (af.no rfl (af.yes rfl (af.v (.bool false) (af.v (.bool false) (af.val (v:= .ptr ab (0+b * 1)) (L.bY rfl rfl (by omega)) (af.storeT (t:=x||(y&&z)) (aq.vR (gs:=[_,_,_,_]) st) rfl (by rw [yA,AR];rfl) uD (Lab.DI sb oT) (by rw [Lab.Hp sc q3 (by omega)];omega) (fun h st=> ?_)))))))))))))))
           rw [List.set_set,Lab.Hr sc q3 eZ hx hz] at st
           replace st:aq (.aE (fun h=>Rows 1 h (.au cq 0 az.length none) (dX.map fun b=>[V.au b 0 az.length (some az.length)])):: .aE (fun h=>Rows 1 h eu (SR az)):: .box res [.U, .U, .U, .U, .int .i64 0, .int .i64 0]:: .aE (fun h=>fj h v aO):: .aE (lH cq 0 az.length dX)::(gH dX ((Lab.iQ k a oU).set a (Lab.jv y (b+1) ra en))++fs)) h:=aq.zS (gs:=[_,_,_,_]) st
           refine af.nil (WP.ad (I.bS (v:= .int .i64 ((b+1:Nat):Int)) (L.cX rfl rfl (by omega) (And.intro (by omega) (by omega))) (I.nil ?_)))
           exact ⟨b+1,(by omega),(.bool true),by omega,by kernel_rfl,st⟩
          ·refine af.val (v:= .bool true) (L.load rfl (by rw [S2,AR])) (af.yes rfl (af.v (.bool true) (af.yes rfl (af.v (.au cq 0 az.length none) (af.yes rfl (af.v (.n k) (af.yes rfl (af.val (v:= .ptr cq (0+k * 1)) (L.bY rfl rfl (by omega)) (af.yes rfl (af.val (v:= .au Me 0 az.length (some az.length)) (L.load rfl ((st.bt 0 rfl).eb afk)) (af.yes rfl (af.v (.n b) (af.yes rfl (af.val (v:= .ptr Me (0+b * 1)) (L.bY rfl rfl (by omega)) (af.yes rfl ?_)))))))))))))))
           rcases uz z with ly|ly
           ·refine af.val (v:= .bool false) (L.load rfl (by rw [S3,ly])) (af.yes rfl (af.v (.bool false) (af.v (.bool false) (af.val (v:= .ptr ab (0+b * 1)) (L.bY rfl rfl (by omega)) (af.storeT (t:=x||(y&&z)) (aq.vR (gs:=[_,_,_,_]) st) rfl (by rw [yA,AR,ly];rfl) uD (Lab.DI sb oT) (by rw [Lab.Hp sc q3 (by omega)];omega) (fun h st=> ?_))))))
            rw [List.set_set,Lab.Hr sc q3 eZ hx hz] at st
            replace st:aq (.aE (fun h=>Rows 1 h (.au cq 0 az.length none) (dX.map fun b=>[V.au b 0 az.length (some az.length)])):: .aE (fun h=>Rows 1 h eu (SR az)):: .box res [.U, .U, .U, .U, .int .i64 0, .int .i64 0]:: .aE (fun h=>fj h v aO):: .aE (lH cq 0 az.length dX)::(gH dX ((Lab.iQ k a oU).set a (Lab.jv y (b+1) ra en))++fs)) h:=aq.zS (gs:=[_,_,_,_]) st
            refine af.nil (WP.ad (I.bS (v:= .int .i64 ((b+1:Nat):Int)) (L.cX rfl rfl (by omega) (And.intro (by omega) (by omega))) (I.nil ?_)))
            exact ⟨b+1,(by omega),(.bool true),by omega,by kernel_rfl,st⟩
           ·refine af.val (v:= .bool true) (L.load rfl (by rw [S3,ly])) (af.yes rfl (af.v (.bool true) (af.v (.bool true) (af.val (v:= .ptr ab (0+b * 1)) (L.bY rfl rfl (by omega)) (af.storeT (t:=x||(y&&z)) (aq.vR (gs:=[_,_,_,_]) st) rfl (by rw [yA,AR,ly];rfl) uD (Lab.DI sb oT) (by rw [Lab.Hp sc q3 (by omega)];omega) (fun h st=> ?_))))))
            rw [List.set_set,Lab.Hr sc q3 eZ hx hz] at st
            replace st:aq (.aE (fun h=>Rows 1 h (.au cq 0 az.length none) (dX.map fun b=>[V.au b 0 az.length (some az.length)])):: .aE (fun h=>Rows 1 h eu (SR az)):: .box res [.U, .U, .U, .U, .int .i64 0, .int .i64 0]:: .aE (fun h=>fj h v aO):: .aE (lH cq 0 az.length dX)::(gH dX ((Lab.iQ k a oU).set a (Lab.jv y (b+1) ra en))++fs)) h:=aq.zS (gs:=[_,_,_,_]) st
            refine af.nil (WP.ad (I.bS (v:= .int .i64 ((b+1:Nat):Int)) (L.cX rfl rfl (by omega) (And.intro (by omega) (by omega))) (I.nil ?_)))
            exact ⟨b+1,(by omega),(.bool true),by omega,by kernel_rfl,st⟩
         ·refine af.val (v:= .bool true) (L.load rfl (by rw [S0,yA])) (af.v (.bool true) (af.no rfl (af.no rfl (af.no rfl (af.no rfl (af.no rfl (af.no rfl (af.no rfl (af.no rfl (af.no rfl (af.no rfl (af.no rfl (af.no rfl (af.no rfl (af.no rfl (af.no rfl (af.no rfl (af.v (.bool true) (af.val (v:= .ptr ab (0+b * 1)) (L.bY rfl rfl (by omega)) (af.storeT (t:=x||(y&&z)) (aq.vR (gs:=[_,_,_,_]) st) rfl (by rw [yA];rfl) uD (Lab.DI sb oT) (by rw [Lab.Hp sc q3 (by omega)];omega) (fun h st=> ?_)))))))))))))))))))))
          rw [List.set_set,Lab.Hr sc q3 eZ hx hz] at st
          replace st:aq (.aE (fun h=>Rows 1 h (.au cq 0 az.length none) (dX.map fun b=>[V.au b 0 az.length (some az.length)])):: .aE (fun h=>Rows 1 h eu (SR az)):: .box res [.U, .U, .U, .U, .int .i64 0, .int .i64 0]:: .aE (fun h=>fj h v aO):: .aE (lH cq 0 az.length dX)::(gH dX ((Lab.iQ k a oU).set a (Lab.jv y (b+1) ra en))++fs)) h:=aq.zS (gs:=[_,_,_,_]) st
          refine af.nil (WP.ad (I.bS (v:= .int .i64 ((b+1:Nat):Int)) (L.cX rfl rfl (by omega) (And.intro (by omega) (by omega))) (I.nil ?_)))
          exact ⟨b+1,(by omega),(.bool true),by omega,by kernel_rfl,st⟩
        ·have k6:b=az.length:=by omega
         rw [k6,Lab.ae4 sc q3,Lab.ae5 s4 hy,Lab.Ze sb oT Hq] at st
         refine I.nil (WP.cond (t:=false) rfl (WP.exit (WP.ad (I.bS (v:= .int .i64 ((a+1:Nat):Int)) (L.cX rfl rfl (by omega) (And.intro (by omega) (by omega))) (I.nil ?_)))))
         exact ⟨a+1,(by omega),(.bool true),(.n b),(.bool false),by omega,by kernel_rfl,st⟩
       ·have afl:a=az.length:=by omega
        rw [afl,Lab.Zd sb,Md,←Lab.Kn] at st
        refine I.nil (WP.cond (t:=false) rfl (WP.exit (WP.ad (I.bS (v:= .int .i64 ((k+1:Nat):Int)) (L.cX rfl rfl (by omega) (And.intro (by omega) (by omega))) (I.nil ?_)))))
        exact ⟨k+1,(by omega),(.bool true),(.n a),(.bool false),yz,nT,by omega,by kernel_rfl,st⟩
      ·have S4:k=az.length:=by omega
       rw [S4] at st
       rw [S4]
       refine I.bw (WP.exit (WP.seq (WP.ad ?_)))
       obtain ⟨M,AU⟩:∃M,M=Lab.order (er aO):=⟨_,rfl⟩
       have Mg:M=Lab.closed az.length AQ:=by rw [AU,Mb,iq];rfl
       rw [←Mg] at st
       have e5:eJ az.length M:=by rw [Mg];exact Lab.zP Mc _ (Nat.le_refl _)
       replace st:=(PV (n:=az.length) (by rw [vM,e5.len]) e5.row (aq.vR (gs:=[_,_,_,_]) st).tail)
       replace st:aq (.aE (fun h=>Rows 1 h (.au cq 0 az.length none) (dX.map fun b=>[V.au b 0 az.length (some az.length)])):: .aE (fun h=>Rows 1 h eu (SR az)):: .box res [.U, .U, .U, .U, .int .i64 0, .int .i64 0]:: .aE (fun h=>fj h v aO):: .aE (fun h=>mr h M (dX.map fun b=> .au b 0 az.length (some az.length)))::fs) h:=aq.zS (gs:=[_,_,_,_]) (l:=[]) (fs:=fs) st
       replace st:aq (.aE (fun h=>gb h (.au cq 0 az.length none) M):: .aE (fun h=>Rows 1 h eu (SR az)):: .box res [.U, .U, .U, .U, .int .i64 0, .int .i64 0]:: .aE (fun h=>fj h v aO)::fs) h:=(((st.pick 4 rfl).pick 1 rfl)).and.e4 fun h hx=>⟨_,by have:=hx.1;rw [List.map_map];exact this,hx.2⟩
       refine I.bx rfl (afb D.h (n:=az.length) Ma rfl e5 (st.pick 1 rfl)) ?_
       rintro _ h ln
       have s5:∀a b c,Lab.cf M a b=true→Lab.cf M b c=true→Lab.cf M a c=true:=fun a b c h1 h2=>by rw [Mg] at h1 h2 ⊢;exact Lab.Zp Mc h1 h2
       have AV:=Lab.Z0 e5 (by omega) s5
       cases sI:Lab.oA az.length M az.length with
       |false=>
        rw [sI] at ln AV
        obtain ⟨rfl,st⟩:=ln
        refine I.v (.agg [.U, .U, .U, .U, .int .i64 0, .int .i64 0]) (I.v (.bool false) (I.dI st L.alloc (fun cr h st=> ?_)))
        refine I.bM (row':=[.U, .U, .U, .U, .int .i64 0, .int .i64 0]) st 0 rfl rfl rfl rfl rfl rfl rfl (fun h st=> ?_)
        refine I.aC (.bool false) (I.nil (WP.seq (WP.ak (I.aC (.bool true) (I.bI (WP.ak (I.val (v:= .agg [.U, .U, .U, .U, .int .i64 0, .int .i64 0]) (L.build rfl) (I.bM (row':=[.U, .U, .U, .U, .int .i64 0, .int .i64 0]) st 3 rfl rfl rfl rfl rfl rfl rfl (fun h st=> ?_)))))))))
        refine I.aC (.int .i64 13) (I.nil (WP.ret ?_))
        rw [show ig (er aO)=ie.none from by unfold ig;rw [Lab.PH (by rw [←iq];exact iv) (by rw [←iq];exact aS) (by rw [←iq,←AU];exact AV)],Lab.PH (by rw [←iq];exact iv) (by rw [←iq];exact aS) (by rw [←iq,←AU];exact AV)]
        exact ⟨_,(cH (eY (l:=[.U, .U, .U, .U, .int .i64 0, .int .i64 0]) rfl (L.eN (st.aN 3 rfl) rfl rfl rfl)) (b0 (.int .i64 13))), .U, .U, .U, .U,rfl,aq.qB (P:=fun h=>mX h .U .U .U .U ie.none) (st.tail.tail.tail.tail) fun h=>mX.none h⟩
       |true=>
        rw [sI] at ln AV
        obtain ⟨dT,ei,rfl,st⟩:=ln
        refine I.v (.agg [eu, .au cq 0 az.length none,dT,ei, .int .i64 (Lab.iZ az.length M az.length:Int), .int .i64 (Lab.iY az.length M az.length:Int)]) (I.v (.bool true) (I.dI st L.alloc (fun cr h st=> ?_)))
        refine I.bM (row':=[eu, .au cq 0 az.length none,dT,ei, .int .i64 (Lab.iZ az.length M az.length:Int), .int .i64 (Lab.iY az.length M az.length:Int)]) st 0 rfl rfl rfl rfl rfl rfl rfl (fun h st=> ?_)
        refine I.aC (.bool true) (I.nil (WP.seq (WP.ak (I.aC (.bool false) (I.bw (WP.skip (WP.ak (I.val (v:= .agg [eu, .au cq 0 az.length none,dT,ei, .int .i64 (Lab.iZ az.length M az.length:Int), .int .i64 (Lab.iY az.length M az.length:Int)]) (L.ey rfl (st.aN 0 rfl) rfl rfl rfl) (I.bM (row':=[eu, .au cq 0 az.length none,dT,ei, .int .i64 (Lab.iZ az.length M az.length:Int), .int .i64 (Lab.iY az.length M az.length:Int)]) st 5 rfl rfl rfl rfl rfl rfl rfl (fun h st=> ?_))))))))))
        refine I.aC (.int .i64 0) (I.nil (WP.ret ?_))
        have jR:=(((st.tail.pick 4 rfl).tail.pick 3 rfl).pick 3 rfl)
        have s1:=((jR.pick 3 rfl).pick 3 rfl).and
        have s2:=(s1.pick 2 rfl).and
        have fw:=(s2.pick 1 rfl).and
        have pt:ig (er aO)=⟨az,M,Lab.jL az.length M az.length,Lab.qC az.length M az.length,Lab.iZ az.length M az.length,Lab.iY az.length M az.length⟩:=by unfold ig;rw [Lab.PI (by rw [←iq];exact iv) (by rw [←iq];exact aS) (by rw [←iq,←AU];exact AV),←iq,←AU]
        rw [Lab.PI (by rw [←iq];exact iv) (by rw [←iq];exact aS) (by rw [←iq,←AU];exact AV),pt]
        exact ⟨_,(cH (eY (l:=[eu, .au cq 0 az.length none,dT,ei, .int .i64 (Lab.iZ az.length M az.length:Int), .int .i64 (Lab.iY az.length M az.length:Int)]) rfl (L.eN (st.aN 5 rfl) rfl rfl rfl)) (b0 (.int .i64 0))),_,_,_,_,rfl,fw.e4 fun h hx=>⟨hx.1,hx.2.1,hx.2.2.1,hx.2.2.2⟩⟩
end
end Go.Eng.YtmcjcbldmoijiaaGreatDoor.Lt
