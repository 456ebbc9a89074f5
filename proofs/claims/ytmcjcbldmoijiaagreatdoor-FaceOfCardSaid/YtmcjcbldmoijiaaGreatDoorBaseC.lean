/- Part of a proof of a law: rules of an evaluator, contracts, plain laws. No condition of its own. -/
import Derived.Test.YtmcjcbldmoijiaaGreatDoorSymA
import Derived.Test.YtmcjcbldmoijiaaGreatDoorBaseB
import Derived.Test.YtmcjcbldmoijiaaGreatDoorSymK
set_option linter.unusedVariables false
set_option linter.unusedSimpArgs false
namespace Go.Eng.YtmcjcbldmoijiaaGreatDoor.Lt
open Go.Eng
noncomputable section
variable {c:Ctx}
structure Of (c:Ctx):Prop where
 f69:T.get 69 c.cF=some i69
 h:Ju c
theorem ag7 (D:Of c) {fs:List Fact} {h:ag} {v:V} {aQ:List nW} (hn:aQ.length<2147483648) (st:ak (.ay (fun h=>fW h v aQ)::fs) h):
 bU c 69 [v] h fun v1 h1=>∃b0 j9 ey eJ,v1= .dD [.agg ((iR (eR aQ)).num b0 j9 ey eJ), .int .i64 ((Lab.made (eR aQ)).1:Int)]∧ak (.ay (fun h=>nX h b0 j9 ey eJ (iR (eR aQ))):: .ay (fun h=>fW h v aQ)::fs) h1:=by
 refine bU.dR D.f69 rfl (WP.af (I.dq st L.alloc (fun res h st=> ?_)))
 refine I.az (.int .i64 0) (I.af (I.az .U (I.nil (WP.seq (WP.af (I.az (.int .i64 0) (I.nil (WP.block ?_))))))))
 replace st:ak (.cX ([]) 0 1 .U ([]):: .box res [.U, .U, .U, .U, .int .i64 0, .int .i64 0]:: .ay (fun h=>fW h v aQ)::fs) h:=st.xa 1
 refine WP.dr (α:=Nat) (fun i env h=>∃bs f eY S ej c3 dc,(i≤aQ.length∧Lab.Seen (eR (aQ.take i)) S∧S.length≤13)∧env=cM [v, .ptr res 0, .int .i64 0, .n i,ej,eY,c3,dc] 0 Env.nil∧ak (.cX bs f 1 eY (SR S):: .box res [.U, .U, .U, .U, .int .i64 0, .int .i64 0]:: .ay (fun h=>fW h v aQ)::fs) h) (fun i=>aQ.length - i) 0 ?_ ?_
 ·exact ⟨[],0, .U,[], .bot, .bot, .bot,⟨Nat.zero_le _,Lab.Seen.nil,Nat.zero_le _⟩,by kernel_rfl,st⟩
 rintro i _ h ⟨bs,f,eY,S,ej,c3,dc,⟨aq,kt,kb⟩,rfl,st⟩
 refine WP.seq (WP.af (I.val (v:= .n aQ.length) (L.RL rfl (st.aS 2 rfl)) (I.bR (L.lss rfl rfl) (fun c1=> ?_) (fun c1=> ?_))))
 ·replace c1:i<aQ.length:=by omega
  obtain ⟨p,hp⟩:=fp (l:=aQ) (i:=i) (by omega)
  refine I.bh (WP.skip (WP.seq (WP.block (WP.af (I.val (v:= .ptr (ck v) (cu v+i * 3)) (L.Bo (st.aS 2 rfl) c1 rfl rfl) (I.f (.ptr (ck v) (cu v+i * 3+0)) (I.val (v:=L.str p.1) (L.load rfl (fW.y0 (j:=0) (st.aS 2 rfl) hp rfl)) (I.dU rfl (y6 D.h (by omega) st) ?_))))))))
  rintro w1 h ⟨fM,f1,S1,oH,st⟩
  have pB:=oH.len
  refine I.nil (WP.seq (WP.af (I.val (v:= .ptr (ck v) (cu v+i * 3)) (L.Bo (st.aS 2 rfl) c1 rfl rfl) (I.f (.ptr (ck v) (cu v+i * 3+1)) (I.val (v:=L.str p.2.1) (L.load rfl (fW.y0 (j:=1) (st.aS 2 rfl) hp rfl)) (I.bR (L.wS (m:=[]) rfl rfl) (fun cl=> ?_) (fun cl=> ?_)))))))
  ·refine I.bh (WP.aG (I.val (v:= .ptr (ck v) (cu v+i * 3)) (L.Bo (st.aS 2 rfl) c1 rfl rfl) (I.f (.ptr (ck v) (cu v+i * 3+1)) (I.val (v:=L.str p.2.1) (L.load rfl (fW.y0 (j:=1) (st.aS 2 rfl) hp rfl)) (I.dU rfl (y6 D.h (by omega) st) ?_)))))
   rintro iq h ⟨mG,f2,cv,pK,st⟩
   have gp:=pK.len
   refine I.af (I.val (v:= .n cv.length) (L.eB rfl (st.ib 0 rfl (by decide)) (eM _)) (I.bR (L.gtr rfl rfl) (fun kR=> ?_) (fun kR=> ?_)))
   ·replace kR:13<cv.length:=by omega
    have Og:=(kt.two (p:=(p.1,p.2.1)) oH pK cl).many (rest:=(eR aQ).drop (i+1))
    rw [←Jq hp,UE] at Og
    refine I.bh (WP.exit (WP.af (I.bX (v:= .n cv.length) (L.eB rfl (st.ib 0 rfl (by decide)) (eM _)) (I.nil (WP.seq (WP.af (I.bR (L.eql rfl rfl) (fun oP=>by exfalso;omega) (fun _=> ?_))))))))
    refine I.aY (WP.skip (WP.seq (WP.af (I.bR (L.gtr rfl rfl) (fun _=> ?_) (fun oP=>by exfalso;omega)))))
    refine I.bh (WP.af (I.val (v:= .agg [.U, .U, .U, .U, .int .i64 0, .int .i64 0]) (L.build rfl) (I.cc [.U, .U, .U, .U, .int .i64 0, .int .i64 0] st 1 rfl (fun h st=> ?_))))
    refine I.az (.int .i64 14) (I.rt ?_)
    rw [show iR (eR aQ)=iQ.none from by unfold iR;rw [Lab.Bl (by omega)],Lab.Bl (by omega)]
    exact ⟨_,(cT (fb (l:=[.U, .U, .U, .U, .int .i64 0, .int .i64 0]) rfl (L.e6 (st.aF 1 rfl) rfl rfl rfl)) (ca (.int .i64 14))), .U, .U, .U, .U,rfl,ak.nn (P:=fun h=>nX h .U .U .U .U iQ.none) (st.tail.tail) fun h=>nX.none h⟩
   ·replace kR:¬13<cv.length:=by omega
    refine I.aY (WP.skip (WP.aG (I.bX (v:= .n (i+1)) L.cB (I.nil ?_))))
    exact ⟨i+1,(by omega),mG,f2,iq,cv,(.bool true),(.bool true),(.bool false),⟨by omega,(by have:=kt.two (p:=(p.1,p.2.1)) oH pK cl;rw [←Jq hp] at this;exact this),by omega⟩,by kernel_rfl,st⟩
  ·refine I.aY (WP.skip (WP.af (I.val (v:= .n S1.length) (L.eB rfl (st.ib 0 rfl (by decide)) (eM _)) (I.bR (L.gtr rfl rfl) (fun kR=> ?_) (fun kR=> ?_)))))
   ·replace kR:13<S1.length:=by omega
    have Og:=(kt.one (p:=(p.1,p.2.1)) oH (Decidable.not_not.1 cl)).many (rest:=(eR aQ).drop (i+1))
    rw [←Jq hp,UE] at Og
    refine I.bh (WP.exit (WP.af (I.bX (v:= .n S1.length) (L.eB rfl (st.ib 0 rfl (by decide)) (eM _)) (I.nil (WP.seq (WP.af (I.bR (L.eql rfl rfl) (fun oP=>by exfalso;omega) (fun _=> ?_))))))))
    refine I.aY (WP.skip (WP.seq (WP.af (I.bR (L.gtr rfl rfl) (fun _=> ?_) (fun oP=>by exfalso;omega)))))
    refine I.bh (WP.af (I.val (v:= .agg [.U, .U, .U, .U, .int .i64 0, .int .i64 0]) (L.build rfl) (I.cc [.U, .U, .U, .U, .int .i64 0, .int .i64 0] st 1 rfl (fun h st=> ?_))))
    refine I.az (.int .i64 14) (I.rt ?_)
    rw [show iR (eR aQ)=iQ.none from by unfold iR;rw [Lab.Bl (by omega)],Lab.Bl (by omega)]
    exact ⟨_,(cT (fb (l:=[.U, .U, .U, .U, .int .i64 0, .int .i64 0]) rfl (L.e6 (st.aF 1 rfl) rfl rfl rfl)) (ca (.int .i64 14))), .U, .U, .U, .U,rfl,ak.nn (P:=fun h=>nX h .U .U .U .U iQ.none) (st.tail.tail) fun h=>nX.none h⟩
   ·replace kR:¬13<S1.length:=by omega
    refine I.aY (WP.skip (WP.aG (I.bX (v:= .n (i+1)) L.cB (I.nil ?_))))
    exact ⟨i+1,(by omega),fM,f1,w1,S1,(.bool true),(.bool false),(.bool false),⟨by omega,(by have:=kt.one (p:=(p.1,p.2.1)) oH (Decidable.not_not.1 cl);rw [←Jq hp] at this;exact this),by omega⟩,by kernel_rfl,st⟩
 ·replace c1:¬i<aQ.length:=by omega
  rw [List.take_of_length_le (by omega)] at kt
  obtain rfl:i=aQ.length:=by omega
  have UJ:S=Lab.names (eR aQ):=kt.is
  obtain ⟨NS,jm⟩:∃NS,NS=Lab.names (eR aQ):=⟨_,rfl⟩
  rw [UJ,←jm] at st
  have akP:NS.length≤13:=by rw [jm,←UJ];exact kb
  have Oh:NS.length<4294967296:=by omega
  refine I.aY (WP.exit (WP.af (I.bX (v:= .n NS.length) (L.eB rfl (st.ib 0 rfl (by decide)) (eM _)) (I.nil (WP.seq (WP.af (I.bR (L.eql rfl rfl) (fun ja=> ?_) (fun ja=> ?_))))))))
  ·replace ja:NS.length=0:=by omega
   refine I.bh (WP.af (I.val (v:= .agg [.U, .U, .U, .U, .int .i64 0, .int .i64 0]) (L.build rfl) (I.cc [.U, .U, .U, .U, .int .i64 0, .int .i64 0] st 1 rfl (fun h st=> ?_))))
   refine I.az (.int .i64 13) (I.rt ?_)
   rw [show iR (eR aQ)=iQ.none from by unfold iR;rw [Lab.RA (by rw [←jm];exact ja)],Lab.RA (by rw [←jm];exact ja)]
   exact ⟨_,(cT (fb (l:=[.U, .U, .U, .U, .int .i64 0, .int .i64 0]) rfl (L.e6 (st.aF 1 rfl) rfl rfl rfl)) (ca (.int .i64 13))), .U, .U, .U, .U,rfl,ak.nn (P:=fun h=>nX h .U .U .U .U iQ.none) (st.tail.tail) fun h=>nX.none h⟩
  ·replace ja:¬NS.length=0:=by omega
   refine I.aY (WP.skip (WP.seq (WP.af (I.bR (L.gtr rfl rfl) (fun aT=> ?_) (fun aT=> ?_)))))
   ·replace aT:12<NS.length:=by omega
    refine I.bh (WP.af (I.val (v:= .agg [.U, .U, .U, .U, .int .i64 0, .int .i64 0]) (L.build rfl) (I.cc [.U, .U, .U, .U, .int .i64 0, .int .i64 0] st 1 rfl (fun h st=> ?_))))
    refine I.az (.int .i64 14) (I.rt ?_)
    rw [show iR (eR aQ)=iQ.none from by unfold iR;rw [Lab.Bl (by rw [←jm];exact aT)],Lab.Bl (by rw [←jm];exact aT)]
    exact ⟨_,(cT (fb (l:=[.U, .U, .U, .U, .int .i64 0, .int .i64 0]) rfl (L.e6 (st.aF 1 rfl) rfl rfl rfl)) (ca (.int .i64 14))), .U, .U, .U, .U,rfl,ak.nn (P:=fun h=>nX h .U .U .U .U iQ.none) (st.tail.tail) fun h=>nX.none h⟩
   ·replace aT:¬12<NS.length:=by omega
    refine I.aY (WP.skip (WP.af (I.az .U (I.nil (WP.seq (WP.af (I.az (.int .i64 0) (I.nil (WP.block ?_)))))))))
    replace st:ak (.ay (fun h=>Rows 1 h eY (SR NS)):: .box res [.U, .U, .U, .U, .int .i64 0, .int .i64 0]:: .ay (fun h=>fW h v aQ)::fs) h:=(st).Bj (by decide)
    replace st:ak (.acc 0 1 .U ([]):: .ay (fun h=>Rows 1 h eY (SR NS)):: .box res [.U, .U, .U, .U, .int .i64 0, .int .i64 0]:: .ay (fun h=>fW h v aQ)::fs) h:=st.je 1
    refine WP.dr (α:=Nat) (fun a env h=>∃eF UK j9 jF e2,(a≤NS.length∧eF.length=a)∧env=cM [v, .ptr res 0, .int .i64 0, .n aQ.length, .bool false,eY,c3,dc, .n NS.length, .bool false, .bool false, .n a,jF,e2,j9] 0 Env.nil∧ak (.acc UK 1 j9 (eF.map fun b=>[V.av b 0 NS.length (some NS.length)]):: .ay (fun h=>Rows 1 h eY (SR NS)):: .box res [.U, .U, .U, .U, .int .i64 0, .int .i64 0]:: .ay (fun h=>fW h v aQ)::(hD eF (Lab.vD NS.length a)++fs)) h) (fun a=>NS.length - a) 0 ?_ ?_
    ·exact ⟨[],0, .U, .bot, .bot,⟨Nat.zero_le _,rfl⟩,by kernel_rfl,st⟩
    rintro a _ h ⟨eF,UK,j9,jF,e2,⟨ha,xb⟩,rfl,st⟩
    refine WP.seq (WP.af (I.bR (L.lss rfl rfl) (fun pU=> ?_) (fun pU=> ?_)))
    ·replace pU:a<NS.length:=by omega
     refine I.bh (WP.skip (WP.seq (WP.block (WP.af (I.Mx st rfl rfl (by decide) rfl (by omega) (fun aW h st=> ?_))))))
     refine I.af (I.val (v:= .ptr aW (0+a * 1)) (L.bQ rfl rfl (by omega)) (I.HT st rfl rfl (by simp;omega) (fun h st=> ?_)))
     refine I.nil (WP.aG (I.eI (rows:=[[.av aW 0 NS.length (some NS.length)]]) st rfl (by decide) rfl (by simp) (fun UI h st=> ?_)))
     refine I.gJ st 2 rfl rfl rfl (st.aS 0 rfl) (by decide) (by simp;omega) (fun ag8 vZ h st=> ?_)
     rw [show (eF.map fun b=>[V.av b 0 NS.length (some NS.length)])++[[V.av aW 0 NS.length (some NS.length)]]=(eF++[aW]).map fun b=>[V.av b 0 NS.length (some NS.length)] from by simp] at st
     refine I.nil (WP.aG (I.bX (v:= .n (a+1)) L.cB (I.nil ?_)))
     have st2:=ak.abu (gs:=[_,_,_,_]) (l:=hD eF (Lab.vD NS.length a)) st.tail
     rw [show hD eF (Lab.vD NS.length a)++[_]=hD (eF++[aW]) (Lab.vD NS.length (a+1)) from by rw [Lab.abx,abw (by rw [Lab.aby];exact xb)];unfold vB;rw [List.map_set,List.map_replicate]] at st2
     replace st:=st2
     exact ⟨a+1,(by omega),(eF++[aW]),ag8,vZ,(.bool true),(.av aW 0 NS.length (some NS.length)),⟨by omega,by simp [xb]⟩,by kernel_rfl,st⟩
    ·obtain rfl:a=NS.length:=by omega
     obtain ⟨cU,rfl⟩:=abv (st.et 0 rfl) (by rw [List.length_map];exact xb) ja
     replace st:ak (.ay (fun h=>Rows 1 h (.av cU 0 NS.length none) (eF.map fun b=>[V.av b 0 NS.length (some NS.length)])):: .ay (fun h=>Rows 1 h eY (SR NS)):: .box res [.U, .U, .U, .U, .int .i64 0, .int .i64 0]:: .ay (fun h=>fW h v aQ)::(hD eF (Lab.table NS (eR (aQ.take 0)))++fs)) h:=(st).shut (by decide)
     replace st:ak (.ay (mw cU 0 NS.length eF):: .ay (fun h=>Rows 1 h (.av cU 0 NS.length none) (eF.map fun b=>[V.av b 0 NS.length (some NS.length)])):: .ay (fun h=>Rows 1 h eY (SR NS)):: .box res [.U, .U, .U, .U, .int .i64 0, .int .i64 0]:: .ay (fun h=>fW h v aQ)::(hD eF (Lab.table NS (eR (aQ.take 0)))++fs)) h:=st.imp fun h hx a b hb=>⟨_,hx.eZ (by rw [List.getElem?_map,hb];rfl)⟩
     replace st:ak (.ay (fun h=>Rows 1 h (.av cU 0 NS.length none) (eF.map fun b=>[V.av b 0 NS.length (some NS.length)])):: .ay (fun h=>Rows 1 h eY (SR NS)):: .box res [.U, .U, .U, .U, .int .i64 0, .int .i64 0]:: .ay (fun h=>fW h v aQ):: .ay (mw cU 0 NS.length eF)::(hD eF (Lab.table NS (eR (aQ.take 0)))++fs)) h:=((((st.pick 4 rfl).pick 4 rfl).pick 4 rfl).pick 4 rfl)
     refine I.aY (WP.exit (WP.seq (WP.af (I.az (.int .i64 0) (I.nil (WP.block (WP.dr (α:=Nat) (fun i env h=>∃iU dx,(i≤aQ.length)∧env=cM [v, .ptr res 0, .int .i64 0, .n aQ.length, .bool false,eY,c3,dc, .n NS.length, .bool false, .bool false, .n NS.length, .bool false,e2, .av cU 0 NS.length none, .n i,iU,dx] 0 Env.nil∧ak (.ay (fun h=>Rows 1 h (.av cU 0 NS.length none) (eF.map fun b=>[V.av b 0 NS.length (some NS.length)])):: .ay (fun h=>Rows 1 h eY (SR NS)):: .box res [.U, .U, .U, .U, .int .i64 0, .int .i64 0]:: .ay (fun h=>fW h v aQ):: .ay (mw cU 0 NS.length eF)::(hD eF (Lab.table NS (eR (aQ.take i)))++fs)) h) (fun i=>aQ.length - i) 0 ?_ ?_)))))))
     ·exact ⟨.bot, .bot,Nat.zero_le _,by kernel_rfl,st⟩
     rintro i _ h ⟨iU,dx,aq,rfl,st⟩
     refine WP.seq (WP.af (I.val (v:= .n aQ.length) (L.RL rfl (st.aS 3 rfl)) (I.bR (L.lss rfl rfl) (fun c1=> ?_) (fun c1=> ?_))))
     ·replace c1:i<aQ.length:=by omega
      obtain ⟨p,hp⟩:=fp (l:=aQ) (i:=i) (by omega)
      refine I.bh (WP.skip (WP.seq (WP.block (WP.af (I.val (v:= .ptr (ck v) (cu v+i * 3)) (L.Bo (st.aS 3 rfl) c1 rfl rfl) (I.f (.ptr (ck v) (cu v+i * 3+1)) (I.val (v:=L.str p.2.1) (L.load rfl (fW.y0 (j:=1) (st.aS 3 rfl) hp rfl)) (I.bR (L.wS (m:=[]) rfl rfl) (fun cl=> ?_) (fun cl=> ?_)))))))))
      ·have hm:p.1∈NS∧p.2.1∈NS:=by rw [jm];exact Lab.abb (p.1,p.2.1) (List.mem_map.2 ⟨p,List.mem_of_getElem? hp,rfl⟩) cl
       have ag9:NS.idxOf p.1<NS.length:=List.idxOf_lt_length_of_mem hm.1
       have akQ:NS.idxOf p.2.1<NS.length:=List.idxOf_lt_length_of_mem hm.2
       obtain ⟨aW,NC⟩:∃b,eF[NS.idxOf p.1]? =some b:=⟨eF[NS.idxOf p.1]'(by omega),List.getElem?_eq_getElem (by omega)⟩
       have dh:(eF.map fun b=>[V.av b 0 NS.length (some NS.length)])[NS.idxOf p.1]? =some [.av aW 0 NS.length (some NS.length)]:=by rw [List.getElem?_map,NC];rfl
       obtain ⟨aha,Bh,Bt⟩:=(Lab.Mr NS (eR (aQ.take i))).at ag9
       refine I.bh (WP.draw (ae.v (.av cU 0 NS.length none) (ae.v eY (ae.v v (ae.v (.n i) (ae.val (v:= .ptr (ck v) (cu v+i * 3)) (L.Bo (st.aS 3 rfl) c1 rfl rfl) (ae.f (.ptr (ck v) (cu v+i * 3+0)) (ae.val (v:=L.str p.1) (L.load rfl (fW.y0 (j:=0) (st.aS 3 rfl) hp rfl)) (ae.v eY (ae.v v (ae.v (.n i) (ae.val (v:= .ptr (ck v) (cu v+i * 3)) (L.Bo (st.aS 3 rfl) c1 rfl rfl) (ae.f (.ptr (ck v) (cu v+i * 3+1)) (ae.val (v:=L.str p.2.1) (L.load rfl (fW.y0 (j:=1) (st.aS 3 rfl) hp rfl)) (ae.bD rfl (xi D.h.g.r Oh (st.aS 1 rfl)) (fun _ ahb vR=> ?_) ?_)))))))))))))))
       ·obtain ⟨_,rfl⟩:=vR
        exact h3 (ju (L.load rfl (fW.y0 (j:=1) (st.aS 3 rfl) hp rfl))) (lp _ _)
       rintro _ _ ⟨rfl,rfl⟩
       rw [show j0 NS p.1=(NS.idxOf p.1:Int) from if_pos hm.1]
       refine ae.val (v:= .ptr cU (0+NS.idxOf p.1 * 1)) (L.bQ rfl rfl (by omega)) (ae.val (v:= .av aW 0 NS.length (some NS.length)) (L.load rfl ((st.aS 0 rfl).eZ dh)) (ae.bD rfl (xi D.h.g.r Oh (st.aS 1 rfl)) (fun _ ahb vR=> ?_) ?_))
       ·obtain ⟨_,rfl⟩:=vR
        exact h3 (ju (L.load rfl ((st.aS 0 rfl).eZ dh))) (lp _ _)
       rintro _ _ ⟨rfl,rfl⟩
       rw [show j0 NS p.2.1=(NS.idxOf p.2.1:Int) from if_pos hm.2]
       refine ae.val (v:= .ptr aW (0+NS.idxOf p.2.1 * 1)) (L.bQ rfl rfl (by omega)) (ae.storeT (ak.xe (gs:=[_,_,_,_]) st) rfl rfl NC Bh (by rw [Bt];omega) (fun h st=> ?_))
       have ahc:(Lab.table NS (eR (aQ.take i))).set (NS.idxOf p.1) (aha.set (NS.idxOf p.2.1) true)=Lab.put (Lab.table NS (eR (aQ.take i))) (NS.idxOf p.1) (NS.idxOf p.2.1):=by unfold Lab.put;rw [Bh];rfl
       rw [ahc] at st
       replace st:ak (.ay (fun h=>Rows 1 h (.av cU 0 NS.length none) (eF.map fun b=>[V.av b 0 NS.length (some NS.length)])):: .ay (fun h=>Rows 1 h eY (SR NS)):: .box res [.U, .U, .U, .U, .int .i64 0, .int .i64 0]:: .ay (fun h=>fW h v aQ):: .ay (mw cU 0 NS.length eF)::(hD eF (Lab.put (Lab.table NS (eR (aQ.take i))) (NS.idxOf p.1) (NS.idxOf p.2.1))++fs)) h:=ak.Bn (gs:=[_,_,_,_]) st
       refine ae.nil (WP.aG (I.bX (v:= .n (i+1)) L.cB (I.nil ?_)))
       have zJ:=Lab.RM (ns:=NS) hp
       unfold Lab.yY at zJ
       rw [if_neg cl] at zJ
       rw [←zJ] at st
       exact ⟨i+1,(by omega),(.bool true),(.bool true),by omega,by kernel_rfl,st⟩
      ·refine I.aY (WP.skip (WP.aG (I.bX (v:= .n (i+1)) L.cB (I.nil ?_))))
       have zJ:=Lab.RM (ns:=NS) hp
       unfold Lab.yY at zJ
       rw [if_pos (Decidable.not_not.1 cl)] at zJ
       rw [←zJ] at st
       exact ⟨i+1,(by omega),(.bool true),(.bool false),by omega,by kernel_rfl,st⟩
     ·obtain rfl:i=aQ.length:=by omega
      rw [List.take_of_length_le (by omega)] at st
      obtain ⟨Ch,Oi⟩:∃Ch,Ch=Lab.table NS (eR aQ):=⟨_,rfl⟩
      have Oj:fg NS.length Ch:=by rw [Oi];exact Lab.Mr NS (eR aQ)
      rw [←Oi] at st
      refine I.aY (WP.exit (WP.seq (WP.af (I.az (.int .i64 0) (I.nil (WP.block (WP.dr (α:=Nat) (fun k env h=>∃lE kz lZ oU mE,(k≤NS.length)∧env=cM [v, .ptr res 0, .int .i64 0, .n aQ.length, .bool false,eY,c3,dc, .n NS.length, .bool false, .bool false, .n NS.length, .bool false,e2, .av cU 0 NS.length none, .n aQ.length, .bool false,dx, .n k,lE,kz,lZ,oU,mE] 0 Env.nil∧ak (.ay (fun h=>Rows 1 h (.av cU 0 NS.length none) (eF.map fun b=>[V.av b 0 NS.length (some NS.length)])):: .ay (fun h=>Rows 1 h eY (SR NS)):: .box res [.U, .U, .U, .U, .int .i64 0, .int .i64 0]:: .ay (fun h=>fW h v aQ):: .ay (mw cU 0 NS.length eF)::(hD eF (Lab.closed k Ch)++fs)) h) (fun k=>NS.length - k) 0 ?_ ?_)))))))
      ·exact ⟨.bot, .bot, .bot, .bot, .bot,Nat.zero_le _,by kernel_rfl,st⟩
      rintro k _ h ⟨lE,kz,lZ,oU,mE,hk,rfl,st⟩
      refine WP.seq (WP.af (I.bR (L.lss rfl rfl) (fun ik=> ?_) (fun ik=> ?_)))
      ·replace ik:k<NS.length:=by omega
       obtain ⟨pV,Ol⟩:∃pV,pV=Lab.closed k Ch:=⟨_,rfl⟩
       have th:fg NS.length pV:=Ol▸Lab.Bk Oj k hk
       rw [←Ol] at st
       obtain ⟨eQ,uc,r8⟩:=th.at ik
       rw [show pV=Lab.jE k 0 pV from (Lab.aaR k pV).symm] at st
       refine I.bh (WP.skip (WP.seq (WP.block (WP.af (I.az (.int .i64 0) (I.nil (WP.block (WP.dr (α:=Nat) (fun a env h=>∃lZ oU mE,(a≤NS.length)∧env=cM [v, .ptr res 0, .int .i64 0, .n aQ.length, .bool false,eY,c3,dc, .n NS.length, .bool false, .bool false, .n NS.length, .bool false,e2, .av cU 0 NS.length none, .n aQ.length, .bool false,dx, .n k, .bool true, .n a,lZ,oU,mE] 0 Env.nil∧ak (.ay (fun h=>Rows 1 h (.av cU 0 NS.length none) (eF.map fun b=>[V.av b 0 NS.length (some NS.length)])):: .ay (fun h=>Rows 1 h eY (SR NS)):: .box res [.U, .U, .U, .U, .int .i64 0, .int .i64 0]:: .ay (fun h=>fW h v aQ):: .ay (mw cU 0 NS.length eF)::(hD eF (Lab.jE k a pV)++fs)) h) (fun a=>NS.length - a) 0 ?_ ?_))))))))
       ·exact ⟨lZ,oU,mE,Nat.zero_le _,by kernel_rfl,st⟩
       rintro a _ h ⟨lZ,oU,mE,oe,rfl,st⟩
       refine WP.seq (WP.af (I.bR (L.lss rfl rfl) (fun pU=> ?_) (fun pU=> ?_)))
       ·replace pU:a<NS.length:=by omega
        obtain ⟨ra,Jo,ti⟩:=th.at pU
        obtain ⟨ab,vF⟩:=fp (l:=eF) (i:=a) (by omega)
        obtain ⟨Om,ub⟩:=fp (l:=eF) (i:=k) (by omega)
        have On:(eF.map fun b=>[V.av b 0 NS.length (some NS.length)])[a]? =some [.av ab 0 NS.length (some NS.length)]:=by rw [List.getElem?_map,vF];rfl
        have ahd:(eF.map fun b=>[V.av b 0 NS.length (some NS.length)])[k]? =some [.av Om 0 NS.length (some NS.length)]:=by rw [List.getElem?_map,ub];rfl
        obtain ⟨y,hy⟩:=fp (l:=ra) (i:=k) (by omega)
        rw [show Lab.jE k a pV=(Lab.jE k a pV).set a (Lab.j5 y 0 ra eQ) from (Lab.agT th pU Jo y eQ).symm] at st
        refine I.bh (WP.skip (WP.seq (WP.block (WP.af (I.az (.int .i64 0) (I.nil (WP.block (WP.dr (α:=Nat) (fun b env h=>∃mE,(b≤NS.length)∧env=cM [v, .ptr res 0, .int .i64 0, .n aQ.length, .bool false,eY,c3,dc, .n NS.length, .bool false, .bool false, .n NS.length, .bool false,e2, .av cU 0 NS.length none, .n aQ.length, .bool false,dx, .n k, .bool true, .n a, .bool true, .n b,mE] 0 Env.nil∧ak (.ay (fun h=>Rows 1 h (.av cU 0 NS.length none) (eF.map fun b=>[V.av b 0 NS.length (some NS.length)])):: .ay (fun h=>Rows 1 h eY (SR NS)):: .box res [.U, .U, .U, .U, .int .i64 0, .int .i64 0]:: .ay (fun h=>fW h v aQ):: .ay (mw cU 0 NS.length eF)::(hD eF ((Lab.jE k a pV).set a (Lab.j5 y b ra eQ))++fs)) h) (fun b=>NS.length - b) 0 ?_ ?_))))))))
        ·exact ⟨mE,Nat.zero_le _,by kernel_rfl,st⟩
        rintro b _ h ⟨mE,dW,rfl,st⟩
        refine WP.seq (WP.af (I.bR (L.lss rfl rfl) (fun fz=> ?_) (fun fz=> ?_)))
        ·replace fz:b<NS.length:=by omega
         obtain ⟨x,hx⟩:=fp (l:=ra) (i:=b) (by omega)
         obtain ⟨z,hz⟩:=fp (l:=eQ) (i:=b) (by omega)
         have hA:=(Rs (ak.xe (gs:=[_,_,_,_]) st) vF (Lab.Fz th pU)).2
         have sC:=(Rs (ak.xe (gs:=[_,_,_,_]) st) ub (Lab.agU th pU ik uc (ra:=ra) Jo)).2
         have UL:=hA b x (Lab.agV ti r8 fz (by omega) hx (Nat.le_refl _))
         have UM:=hA k y (Lab.agW ti r8 ik hy (by omega))
         have UN:=sC b z (Lab.agX r8 hz (by omega))
         refine I.bh (WP.skip (WP.seq (WP.block (WP.draw (ae.v (.av cU 0 NS.length none) (ae.v (.n a) (ae.val (v:= .ptr cU (0+a * 1)) (L.bQ rfl rfl (by omega)) (ae.val (v:= .av ab 0 NS.length (some NS.length)) (L.load rfl ((st.aS 0 rfl).eZ On)) (ae.v (.n b) (ae.v (.av cU 0 NS.length none) (ae.v (.n a) (ae.val (v:= .ptr cU (0+a * 1)) (L.bQ rfl rfl (by omega)) (ae.val (v:= .av ab 0 NS.length (some NS.length)) (L.load rfl ((st.aS 0 rfl).eZ On)) (ae.v (.n b) (ae.val (v:= .ptr ab (0+b * 1)) (L.bQ rfl rfl (by omega)) ?_)))))))))))))))
         rcases ug x with zK|zK
         ·refine ae.val (v:= .bool false) (L.load rfl (by rw [UL,zK])) (ae.v (.bool false) (ae.yes rfl (ae.v (.av cU 0 NS.length none) (ae.yes rfl (ae.v (.n a) (ae.yes rfl (ae.val (v:= .ptr cU (0+a * 1)) (L.bQ rfl rfl (by omega)) (ae.yes rfl (ae.val (v:= .av ab 0 NS.length (some NS.length)) (L.load rfl ((st.aS 0 rfl).eZ On)) (ae.yes rfl (ae.v (.n k) (ae.yes rfl (ae.val (v:= .ptr ab (0+k * 1)) (L.bQ rfl rfl (by omega)) (ae.yes rfl ?_))))))))))))))
          rcases ug y with Ci|Ci
          ·refine ae.val (v:= .bool false) (L.load rfl (by rw [UM,Ci])) (ae.yes rfl (ae.v (.bool false) (ae.no rfl (ae.no rfl (ae.no rfl (ae.no rfl (ae.no rfl (ae.no rfl (ae.no rfl (ae.yes rfl (ae.v (.bool false) (ae.v (.bool false) (ae.val (v:= .ptr ab (0+b * 1)) (L.bQ rfl rfl (by omega)) (ae.storeT (t:=x||(y&&z)) (ak.xe (gs:=[_,_,_,_]) st) rfl (by rw [zK,Ci];rfl) vF (Lab.Fz th pU) (by rw [Lab.Jn ti r8 (by omega)];omega) (fun h st=> ?_)))))))))))))))
           rw [List.set_set,Lab.Jp ti r8 fz hx hz] at st
           replace st:ak (.ay (fun h=>Rows 1 h (.av cU 0 NS.length none) (eF.map fun b=>[V.av b 0 NS.length (some NS.length)])):: .ay (fun h=>Rows 1 h eY (SR NS)):: .box res [.U, .U, .U, .U, .int .i64 0, .int .i64 0]:: .ay (fun h=>fW h v aQ):: .ay (mw cU 0 NS.length eF)::(hD eF ((Lab.jE k a pV).set a (Lab.j5 y (b+1) ra eQ))++fs)) h:=ak.Bn (gs:=[_,_,_,_]) st
           refine ae.nil (WP.aG (I.bX (v:= .n (b+1)) L.cB (I.nil ?_)))
           exact ⟨b+1,(by omega),(.bool true),by omega,by kernel_rfl,st⟩
          ·refine ae.val (v:= .bool true) (L.load rfl (by rw [UM,Ci])) (ae.yes rfl (ae.v (.bool true) (ae.yes rfl (ae.v (.av cU 0 NS.length none) (ae.yes rfl (ae.v (.n k) (ae.yes rfl (ae.val (v:= .ptr cU (0+k * 1)) (L.bQ rfl rfl (by omega)) (ae.yes rfl (ae.val (v:= .av Om 0 NS.length (some NS.length)) (L.load rfl ((st.aS 0 rfl).eZ ahd)) (ae.yes rfl (ae.v (.n b) (ae.yes rfl (ae.val (v:= .ptr Om (0+b * 1)) (L.bQ rfl rfl (by omega)) (ae.yes rfl ?_)))))))))))))))
           rcases ug z with mj|mj
           ·refine ae.val (v:= .bool false) (L.load rfl (by rw [UN,mj])) (ae.yes rfl (ae.v (.bool false) (ae.v (.bool false) (ae.val (v:= .ptr ab (0+b * 1)) (L.bQ rfl rfl (by omega)) (ae.storeT (t:=x||(y&&z)) (ak.xe (gs:=[_,_,_,_]) st) rfl (by rw [zK,Ci,mj];rfl) vF (Lab.Fz th pU) (by rw [Lab.Jn ti r8 (by omega)];omega) (fun h st=> ?_))))))
            rw [List.set_set,Lab.Jp ti r8 fz hx hz] at st
            replace st:ak (.ay (fun h=>Rows 1 h (.av cU 0 NS.length none) (eF.map fun b=>[V.av b 0 NS.length (some NS.length)])):: .ay (fun h=>Rows 1 h eY (SR NS)):: .box res [.U, .U, .U, .U, .int .i64 0, .int .i64 0]:: .ay (fun h=>fW h v aQ):: .ay (mw cU 0 NS.length eF)::(hD eF ((Lab.jE k a pV).set a (Lab.j5 y (b+1) ra eQ))++fs)) h:=ak.Bn (gs:=[_,_,_,_]) st
            refine ae.nil (WP.aG (I.bX (v:= .n (b+1)) L.cB (I.nil ?_)))
            exact ⟨b+1,(by omega),(.bool true),by omega,by kernel_rfl,st⟩
           ·refine ae.val (v:= .bool true) (L.load rfl (by rw [UN,mj])) (ae.yes rfl (ae.v (.bool true) (ae.v (.bool true) (ae.val (v:= .ptr ab (0+b * 1)) (L.bQ rfl rfl (by omega)) (ae.storeT (t:=x||(y&&z)) (ak.xe (gs:=[_,_,_,_]) st) rfl (by rw [zK,Ci,mj];rfl) vF (Lab.Fz th pU) (by rw [Lab.Jn ti r8 (by omega)];omega) (fun h st=> ?_))))))
            rw [List.set_set,Lab.Jp ti r8 fz hx hz] at st
            replace st:ak (.ay (fun h=>Rows 1 h (.av cU 0 NS.length none) (eF.map fun b=>[V.av b 0 NS.length (some NS.length)])):: .ay (fun h=>Rows 1 h eY (SR NS)):: .box res [.U, .U, .U, .U, .int .i64 0, .int .i64 0]:: .ay (fun h=>fW h v aQ):: .ay (mw cU 0 NS.length eF)::(hD eF ((Lab.jE k a pV).set a (Lab.j5 y (b+1) ra eQ))++fs)) h:=ak.Bn (gs:=[_,_,_,_]) st
            refine ae.nil (WP.aG (I.bX (v:= .n (b+1)) L.cB (I.nil ?_)))
            exact ⟨b+1,(by omega),(.bool true),by omega,by kernel_rfl,st⟩
         ·refine ae.val (v:= .bool true) (L.load rfl (by rw [UL,zK])) (ae.v (.bool true) (ae.no rfl (ae.no rfl (ae.no rfl (ae.no rfl (ae.no rfl (ae.no rfl (ae.no rfl (ae.no rfl (ae.no rfl (ae.no rfl (ae.no rfl (ae.no rfl (ae.no rfl (ae.no rfl (ae.no rfl (ae.no rfl (ae.v (.bool true) (ae.val (v:= .ptr ab (0+b * 1)) (L.bQ rfl rfl (by omega)) (ae.storeT (t:=x||(y&&z)) (ak.xe (gs:=[_,_,_,_]) st) rfl (by rw [zK];rfl) vF (Lab.Fz th pU) (by rw [Lab.Jn ti r8 (by omega)];omega) (fun h st=> ?_)))))))))))))))))))))
          rw [List.set_set,Lab.Jp ti r8 fz hx hz] at st
          replace st:ak (.ay (fun h=>Rows 1 h (.av cU 0 NS.length none) (eF.map fun b=>[V.av b 0 NS.length (some NS.length)])):: .ay (fun h=>Rows 1 h eY (SR NS)):: .box res [.U, .U, .U, .U, .int .i64 0, .int .i64 0]:: .ay (fun h=>fW h v aQ):: .ay (mw cU 0 NS.length eF)::(hD eF ((Lab.jE k a pV).set a (Lab.j5 y (b+1) ra eQ))++fs)) h:=ak.Bn (gs:=[_,_,_,_]) st
          refine ae.nil (WP.aG (I.bX (v:= .n (b+1)) L.cB (I.nil ?_)))
          exact ⟨b+1,(by omega),(.bool true),by omega,by kernel_rfl,st⟩
        ·have H0:b=NS.length:=by omega
         rw [H0,Lab.agY ti r8,Lab.agZ uc hy,Lab.aaT th pU Jo] at st
         refine I.aY (WP.exit (WP.aG (I.bX (v:= .n (a+1)) L.cB (I.nil ?_))))
         exact ⟨a+1,(by omega),(.bool true),(.n b),(.bool false),by omega,by kernel_rfl,st⟩
       ·have ahe:a=NS.length:=by omega
        rw [ahe,Lab.aaS th,Ol,←Lab.Ml] at st
        refine I.aY (WP.exit (WP.aG (I.bX (v:= .n (k+1)) L.cB (I.nil ?_))))
        exact ⟨k+1,(by omega),(.bool true),(.n a),(.bool false),oU,mE,by omega,by kernel_rfl,st⟩
      ·have UO:k=NS.length:=by omega
       rw [UO] at st
       rw [UO]
       refine I.aY (WP.exit (WP.seq (WP.aG ?_)))
       obtain ⟨M,Cj⟩:∃M,M=Lab.order (eR aQ):=⟨_,rfl⟩
       have Oo:M=Lab.closed NS.length Ch:=by rw [Cj,Oi,jm];rfl
       rw [←Oo] at st
       have fQ:fg NS.length M:=by rw [Oo];exact Lab.Bk Oj _ (Nat.le_refl _)
       replace st:=(RJ (n:=NS.length) (by rw [xb,fQ.len]) fQ.row (ak.xe (gs:=[_,_,_,_]) st).tail)
       replace st:ak (.ay (fun h=>Rows 1 h (.av cU 0 NS.length none) (eF.map fun b=>[V.av b 0 NS.length (some NS.length)])):: .ay (fun h=>Rows 1 h eY (SR NS)):: .box res [.U, .U, .U, .U, .int .i64 0, .int .i64 0]:: .ay (fun h=>fW h v aQ):: .ay (fun h=>nq h M (eF.map fun b=> .av b 0 NS.length (some NS.length)))::fs) h:=ak.Bn (gs:=[_,_,_,_]) (l:=[]) (fs:=fs) st
       replace st:ak (.ay (fun h=>gL h (.av cU 0 NS.length none) M):: .ay (fun h=>Rows 1 h eY (SR NS)):: .box res [.U, .U, .U, .U, .int .i64 0, .int .i64 0]:: .ay (fun h=>fW h v aQ)::fs) h:=(((st.pick 4 rfl).pick 1 rfl)).and.fD fun h hx=>⟨_,by have:=hx.1;rw [List.map_map];exact this,hx.2⟩
       refine I.bD rfl (ag5 D.h (n:=NS.length) Oh rfl fQ (st.pick 1 rfl)) ?_
       rintro _ h ma
       have ud:∀a b c,Lab.cD M a b=true→Lab.cD M b c=true→Lab.cD M a c=true:=fun a b c h1 h2=>by rw [Oo] at h1 h2 ⊢;exact Lab.aa4 Oj h1 h2
       have Ck:=Lab.abF fQ (by omega) ud
       cases tI:Lab.py NS.length M NS.length with
       |false=>
        rw [tI] at ma Ck
        obtain ⟨rfl,st⟩:=ma
        refine I.v (.agg [.U, .U, .U, .U, .int .i64 0, .int .i64 0]) (I.v (.bool false) (I.dq st L.alloc (fun ch h st=> ?_)))
        refine I.cc [.U, .U, .U, .U, .int .i64 0, .int .i64 0] st 0 rfl (fun h st=> ?_)
        refine I.az (.bool false) (I.nil (WP.seq (WP.af (I.az (.bool true) (I.bh (WP.af (I.val (v:= .agg [.U, .U, .U, .U, .int .i64 0, .int .i64 0]) (L.build rfl) (I.cc [.U, .U, .U, .U, .int .i64 0, .int .i64 0] st 3 rfl (fun h st=> ?_)))))))))
        refine I.az (.int .i64 13) (I.rt ?_)
        rw [show iR (eR aQ)=iQ.none from by unfold iR;rw [Lab.RB (by rw [←jm];exact ja) (by rw [←jm];exact aT) (by rw [←jm,←Cj];exact Ck)],Lab.RB (by rw [←jm];exact ja) (by rw [←jm];exact aT) (by rw [←jm,←Cj];exact Ck)]
        exact ⟨_,(cT (fb (l:=[.U, .U, .U, .U, .int .i64 0, .int .i64 0]) rfl (L.e6 (st.aF 3 rfl) rfl rfl rfl)) (ca (.int .i64 13))), .U, .U, .U, .U,rfl,ak.nn (P:=fun h=>nX h .U .U .U .U iQ.none) (st.tail.tail.tail.tail) fun h=>nX.none h⟩
       |true=>
        rw [tI] at ma Ck
        obtain ⟨ey,eJ,rfl,st⟩:=ma
        refine I.v (.agg [eY, .av cU 0 NS.length none,ey,eJ, .int .i64 (Lab.jK NS.length M NS.length:Int), .int .i64 (Lab.jJ NS.length M NS.length:Int)]) (I.v (.bool true) (I.dq st L.alloc (fun ch h st=> ?_)))
        refine I.cc [eY, .av cU 0 NS.length none,ey,eJ, .int .i64 (Lab.jK NS.length M NS.length:Int), .int .i64 (Lab.jJ NS.length M NS.length:Int)] st 0 rfl (fun h st=> ?_)
        refine I.az (.bool true) (I.nil (WP.seq (WP.af (I.az (.bool false) (I.aY (WP.skip (WP.af (I.val (v:= .agg [eY, .av cU 0 NS.length none,ey,eJ, .int .i64 (Lab.jK NS.length M NS.length:Int), .int .i64 (Lab.jJ NS.length M NS.length:Int)]) (L.eg rfl (st.aF 0 rfl) rfl rfl rfl) (I.cc [eY, .av cU 0 NS.length none,ey,eJ, .int .i64 (Lab.jK NS.length M NS.length:Int), .int .i64 (Lab.jJ NS.length M NS.length:Int)] st 5 rfl (fun h st=> ?_))))))))))
        refine I.az (.int .i64 0) (I.rt ?_)
        have kC:=(((st.tail.pick 4 rfl).tail.pick 3 rfl).pick 3 rfl)
        have s1:=((kC.pick 3 rfl).pick 3 rfl).and
        have s2:=(s1.pick 2 rfl).and
        have gb:=(s2.pick 1 rfl).and
        have sG:iR (eR aQ)=⟨NS,M,Lab.kr NS.length M NS.length,Lab.rI NS.length M NS.length,Lab.jK NS.length M NS.length,Lab.jJ NS.length M NS.length⟩:=by unfold iR;rw [Lab.RC (by rw [←jm];exact ja) (by rw [←jm];exact aT) (by rw [←jm,←Cj];exact Ck),←jm,←Cj]
        rw [Lab.RC (by rw [←jm];exact ja) (by rw [←jm];exact aT) (by rw [←jm,←Cj];exact Ck),sG]
        exact ⟨_,(cT (fb (l:=[eY, .av cU 0 NS.length none,ey,eJ, .int .i64 (Lab.jK NS.length M NS.length:Int), .int .i64 (Lab.jJ NS.length M NS.length:Int)]) rfl (L.e6 (st.aF 5 rfl) rfl rfl rfl)) (ca (.int .i64 0))),_,_,_,_,rfl,gb.fD fun h hx=>⟨hx.1,hx.2.1,hx.2.2.1,hx.2.2.2⟩⟩
end
end Go.Eng.YtmcjcbldmoijiaaGreatDoor.Lt
