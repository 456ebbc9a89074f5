/- Part of a proof of a law: rules of an evaluator, contracts, plain laws. No condition of its own. -/
import Derived.Test.YtmcjcbldmoijiaaGreatDoorSymA
import Derived.Test.YtmcjcbldmoijiaaGreatDoorConD
import Derived.Test.YtmcjcbldmoijiaaGreatDoorConE
import Derived.Test.YtmcjcbldmoijiaaGreatDoorBaseC
import Derived.Test.YtmcjcbldmoijiaaGreatDoorSymL
set_option linter.unusedVariables false
set_option linter.unusedSimpArgs false
namespace Go.Eng.YtmcjcbldmoijiaaGreatDoor
open Go.Eng
noncomputable section
variable {c:Ctx}
structure zL (c:Ctx):Prop where
 f10:T.get 10 c.cF=some i10
 f33:T.get 33 c.cF=some i33
 x:gO c
 i:Lt.Of c
 o:It c
 r:ux c
 yes:∀h:ag,bU c 8 [] h fun v h1=>v= .bool true∧h1=h
theorem ahq (D:zL c) {fs:List Fact} {h:ag} {s:List UInt8} (st:ak fs h):bU c 7 [L.str s] h fun v h1=>∃w,v= .dD [.agg (vI (pJ s) w), .int .i64 (zi s:Int), .int .i64 (Iq s:Int)]∧mD (pJ s) w∧ak (.ay (fun h=>bG h (pJ s) w)::fs) h1:=by
 obtain ⟨v,h1,hr,hp⟩:=agx (s:=s) D.x st
 refine ⟨v,h1,hr, ?_⟩
 have:∃row,v= .dD [.agg row, .int .i64 (zi s:Int), .int .i64 (Iq s:Int)]∧ak (.ay (fun h=>vH h (pJ s) row)::fs) h1:=by
  unfold pJ zi Iq
  cases aC:Par.text s with
  |ok m=>rw [aC] at hp;obtain ⟨row,h1,_,h2⟩:=hp;exact ⟨row,h1,h2⟩
  |error z=>
   obtain ⟨e,a⟩:=z
   rw [aC] at hp
   obtain ⟨_,rfl,st⟩:=hp
   exact ⟨_,rfl,st.xr fun h=>vH.zero h⟩
 obtain ⟨row,rfl,st⟩:=this
 obtain ⟨w,rfl,q1,dn,st⟩:=st.ahj
 exact ⟨w,rfl,ahl q1 dn,st⟩
theorem ahr (D:zL c) {fs:List Fact} {h:ag} {s:List UInt8} (st:ak fs h):bU c 68 [L.str s] h fun v h1=>∃x,v= .dD [x, .int .i64 (rT s:Int), .int .i64 (BS s:Int)]∧x.dY=some [x]∧ak (.ay (fun h=>fW h x ((kx s).map lL))::fs) h1:=by
 obtain ⟨v,h1,hr,hp⟩:=afe (s:=s) D.x st
 refine ⟨v,h1,hr, ?_⟩
 unfold kx rT BS
 cases aC:Par.rows s with
 |ok m=>rw [aC] at hp;obtain ⟨x,h1,h2,bj⟩:=hp;exact ⟨x,h1,h2,bj.fD fun h hx=>fW.pm hx⟩
 |error z=>
  obtain ⟨e,a⟩:=z
  rw [aC] at hp
  obtain ⟨_,rfl,st⟩:=hp
  exact ⟨_,rfl,rfl,st.xr fun h=> .inl ⟨rfl,rfl⟩⟩
theorem ahs (s:List UInt8):(kx s).length<2147483648:=by
 unfold kx
 split
 ·rename_i m hm;have:=acZ hm;omega
 ·simp
theorem Oq (D:zL c) {fs:List Fact} {h:ag} {s:List UInt8} (st:ak fs h):
 bU c 33 [L.str s] h fun v h1=>∃b0 j9 ey eJ a,v= .dD [.agg ((ga s).num b0 j9 ey eJ), .int .i64 (uS s:Int),a]∧ak (.ay (fun h=>nX h b0 j9 ey eJ (ga s))::fs) h1:=by
 refine bU.dR D.f33 rfl (WP.af (I.dq st L.alloc (fun b h st=> ?_)))
 refine I.az (.int .i64 0) (I.az (.int .i64 0) (I.af (I.bD rfl (ahr D (s:=s) st) ?_)))
 rintro _ h ⟨x,rfl,akS,st⟩
 have sj:=ahs s
 refine I.v x (I.v (.int .i64 (rT s:Int)) (I.v (.int .i64 (BS s:Int)) (I.az x (I.az (.int .i64 (rT s:Int)) (I.az (.int .i64 (BS s:Int)) (I.nil (WP.seq (WP.af (I.bR (L.neq rfl rfl) (fun ce=> ?_) (fun ce=> ?_))))))))))
 ·replace ce:¬rT s=0:=by omega
  refine I.bh (WP.af (I.val (v:= .agg [.U, .U, .U, .U, .int .i64 0, .int .i64 0]) (L.build rfl) (I.cc [.U, .U, .U, .U, .int .i64 0, .int .i64 0] st 1 rfl (fun h st=> ?_))))
  refine I.az (.int .i64 (rT s:Int)) (I.az (.int .i64 (BS s:Int)) (I.rt ?_))
  rw [show ga s=iQ.none from if_neg ce,show uS s=rT s from if_neg ce]
  exact ⟨_,(cT (fb (l:=[.U, .U, .U, .U, .int .i64 0, .int .i64 0]) rfl (L.e6 (st.aF 1 rfl) rfl rfl rfl)) (cT (fS (v:= .int .i64 (rT s:Int)) rfl) (ca (.int .i64 (BS s:Int))))), .U, .U, .U, .U,_,rfl,ak.xr st.tail.tail fun h=>nX.none h⟩
 ·replace ce:rT s=0:=by omega
  refine I.aY (WP.skip (WP.af (I.bD rfl (Lt.ag7 D.i (by rw [List.length_map];exact sj) st) ?_)))
  rintro _ h ⟨b0,j9,ey,eJ,rfl,st⟩
  refine I.v (.agg [b0,j9,ey,eJ, .int .i64 ((iR (eR ((kx s).map lL))).bH:Int), .int .i64 ((iR (eR ((kx s).map lL))).aq:Int)]) (I.v (.int .i64 ((Lab.made (eR ((kx s).map lL))).1:Int)) (I.dq st L.alloc (fun fl h st=> ?_)))
  refine I.cc [b0,j9,ey,eJ, .int .i64 ((iR (eR ((kx s).map lL))).bH:Int), .int .i64 ((iR (eR ((kx s).map lL))).aq:Int)] st 0 rfl (fun h st=> ?_)
  refine I.az (.int .i64 ((Lab.made (eR ((kx s).map lL))).1:Int)) (I.af (I.val (v:= .agg [b0,j9,ey,eJ, .int .i64 ((iR (eR ((kx s).map lL))).bH:Int), .int .i64 ((iR (eR ((kx s).map lL))).aq:Int)]) (L.eg rfl (st.aF 0 rfl) rfl rfl rfl) (I.cc [b0,j9,ey,eJ, .int .i64 ((iR (eR ((kx s).map lL))).bH:Int), .int .i64 ((iR (eR ((kx s).map lL))).aq:Int)] st 3 rfl (fun h st=> ?_))))
  refine I.az (.int .i64 ((Lab.made (eR ((kx s).map lL))).1:Int)) (I.az (.int .i64 0) (I.rt ?_))
  rw [show ga s=iR (eR ((kx s).map lL)) from if_pos ce,show uS s=(Lab.made (eR ((kx s).map lL))).1 from if_pos ce]
  exact ⟨_,(cT (fb (l:=[b0,j9,ey,eJ, .int .i64 ((iR (eR ((kx s).map lL))).bH:Int), .int .i64 ((iR (eR ((kx s).map lL))).aq:Int)]) rfl (L.e6 (st.aF 3 rfl) rfl rfl rfl)) (cT (fS (v:= .int .i64 ((Lab.made (eR ((kx s).map lL))).1:Int)) rfl) (ca (.int .i64 0)))),b0,j9,ey,eJ,_,rfl,((st.tail.pick 1 rfl).tail.pick 1 rfl).tail⟩
theorem US (D:zL c) {fs:List Fact} {h:ag} {s:List UInt8} (st:ak fs h):
 bU c 10 [L.str s] h fun v h1=>∃b0 j9 ey eJ,v= .agg ((xL s).num b0 j9 ey eJ)∧ak (.ay (fun h=>nX h b0 j9 ey eJ (xL s))::fs) h1:=by
 refine bU.dR D.f10 rfl (WP.af (I.dq st L.alloc (fun res h st=> ?_)))
 refine I.af (I.bD rfl (Oq D (s:=s) st) ?_)
 rintro _ h ⟨v7,vZ,zM,zN,qG,rfl,st⟩
 refine I.v (.agg [v7,vZ,zM,zN, .int .i64 ((ga s).bH:Int), .int .i64 ((ga s).aq:Int)]) (I.v (.int .i64 (uS s:Int)) (I.v qG (I.dq st L.alloc (fun ch h st=> ?_))))
 refine I.cc [v7,vZ,zM,zN, .int .i64 ((ga s).bH:Int), .int .i64 ((ga s).aq:Int)] st 0 rfl (fun h st=> ?_)
 refine I.az (.int .i64 (uS s:Int)) (I.nil (WP.seq (WP.af (I.eo (L.neq rfl rfl) (fun ce=> ?_) (fun ce=> ?_)))))
 ·replace ce:uS s≠0:=by omega
  refine I.eP (I.no rfl (I.az (.bool true) (I.bh (WP.aG (I.bD (by kernel_rfl) (Oq D (s:=jn) st) ?_)))))
  rintro _ h ⟨pW,qT,qU,qV,l7,rfl,st⟩
  refine I.v (.agg [pW,qT,qU,qV, .int .i64 ((ga jn).bH:Int), .int .i64 ((ga jn).aq:Int)]) (I.v (.int .i64 (uS jn:Int)) (I.v l7 (I.cc [pW,qT,qU,qV, .int .i64 ((ga jn).bH:Int), .int .i64 ((ga jn).aq:Int)] st 1 rfl (fun h st=> ?_))))
  refine I.af (I.val (v:= .agg [pW,qT,qU,qV, .int .i64 ((ga jn).bH:Int), .int .i64 ((ga jn).aq:Int)]) (L.eg rfl (st.aF 1 rfl) rfl rfl rfl) (I.cc [pW,qT,qU,qV, .int .i64 ((ga jn).bH:Int), .int .i64 ((ga jn).aq:Int)] st 3 rfl (fun h st=> ?_)))
  refine I.rt ?_
  rw [show xL s=ga jn from if_pos (.inl ce)]
  exact ⟨_,(cT (fb (l:=[pW,qT,qU,qV, .int .i64 ((ga jn).bH:Int), .int .i64 ((ga jn).aq:Int)]) rfl (L.e6 (st.aF 3 rfl) rfl rfl rfl)) (fo _ _)),_,_,_,_,rfl,(((st.pick 1 rfl).tail.pick 1 rfl).tail.pick 1 rfl).tail⟩
 ·replace ce:¬uS s≠0:=by omega
  refine I.yes rfl (I.v (L.str s) (I.yes rfl (I.val (v:= .n s.length) (L.qo rfl) (I.yes rfl (I.eo (L.gtr rfl rfl) (fun cl=> ?_) (fun cl=> ?_))))))
  ·replace cl:500<s.length:=by omega
   refine I.az (.bool true) (I.bh (WP.aG (I.bD (by kernel_rfl) (Oq D (s:=jn) st) ?_)))
   rintro _ h ⟨pW,qT,qU,qV,l7,rfl,st⟩
   refine I.v (.agg [pW,qT,qU,qV, .int .i64 ((ga jn).bH:Int), .int .i64 ((ga jn).aq:Int)]) (I.v (.int .i64 (uS jn:Int)) (I.v l7 (I.cc [pW,qT,qU,qV, .int .i64 ((ga jn).bH:Int), .int .i64 ((ga jn).aq:Int)] st 1 rfl (fun h st=> ?_))))
   refine I.af (I.val (v:= .agg [pW,qT,qU,qV, .int .i64 ((ga jn).bH:Int), .int .i64 ((ga jn).aq:Int)]) (L.eg rfl (st.aF 1 rfl) rfl rfl rfl) (I.cc [pW,qT,qU,qV, .int .i64 ((ga jn).bH:Int), .int .i64 ((ga jn).aq:Int)] st 3 rfl (fun h st=> ?_)))
   refine I.rt ?_
   rw [show xL s=ga jn from if_pos (.inr cl)]
   exact ⟨_,(cT (fb (l:=[pW,qT,qU,qV, .int .i64 ((ga jn).bH:Int), .int .i64 ((ga jn).aq:Int)]) rfl (L.e6 (st.aF 3 rfl) rfl rfl rfl)) (fo _ _)),_,_,_,_,rfl,(((st.pick 1 rfl).tail.pick 1 rfl).tail.pick 1 rfl).tail⟩
  ·replace cl:¬500<s.length:=by omega
   refine I.az (.bool false) (I.aY (WP.skip (WP.af (I.val (v:= .agg [v7,vZ,zM,zN, .int .i64 ((ga s).bH:Int), .int .i64 ((ga s).aq:Int)]) (L.eg rfl (st.aF 0 rfl) rfl rfl rfl) (I.cc [v7,vZ,zM,zN, .int .i64 ((ga s).bH:Int), .int .i64 ((ga s).aq:Int)] st 2 rfl (fun h st=> ?_))))))
   refine I.rt ?_
   rw [show xL s=ga s from if_neg (by omega)]
   exact ⟨_,(cT (fb (l:=[v7,vZ,zM,zN, .int .i64 ((ga s).bH:Int), .int .i64 ((ga s).aq:Int)]) rfl (L.e6 (st.aF 2 rfl) rfl rfl rfl)) (fo _ _)),_,_,_,_,rfl,(st.tail.pick 1 rfl).tail⟩
theorem aht (D:zL c) {fs:List Fact} {h:ag} {a1 fw a2 fl:V} {vs:List (Fc.aL×Fc.aL)} {aQ:List Fc.gv} (hn:vs.length<4294967296) (hm:aQ.length<4294967296) (ob:∀g∈aQ,g.params.length<4294967296∧g.fU.length<4294967296) (st:ak (.ay (fun h=>pI h a1 fw vs aQ):: .ay (fun h=>pI h a2 fl vs aQ)::fs) h):bU c 12 [.agg [a1,fw], .agg [a2,fl]] h fun v h1=>v= .bool true∧ak fs h1:=by
 obtain ⟨gs,h1,s1⟩:=st.UR
 obtain ⟨gt,h2,s2⟩:=((s1.pick 3 rfl)).UR
 have gb:=(((((s2.pick 2 rfl).pick 5 rfl).pick 3 rfl).pick 5 rfl).pick 4 rfl).pick 5 rfl
 exact ae2 D.r hn (by have:=congrArg List.length h1;rw [List.length_map] at this;omega) (h2.trans h1.symm) (by rw [h1];exact ob) gb
end
end Go.Eng.YtmcjcbldmoijiaaGreatDoor
namespace Go.Eng.YtmcjcbldmoijiaaGreatDoor
open Go.Eng
noncomputable section
variable {c:Ctx}
structure UT (c:Ctx):Prop where
 f3:T.get 3 c.cF=some i3
 l:zL c
theorem ahu (D:UT c) {h:ag} {s u:List UInt8} (st:ak [] h):
 bU c 3 [L.str s,L.str u] h fun v1 _=>v1= .bool true:=by
 refine bU.dR D.f3 rfl (WP.af (I.az (.bool false) (I.af (I.bD rfl (ahq D.l (s:=s) st) ?_))))
 rintro _ h ⟨w,rfl,ok,st⟩
 obtain ⟨m,hm⟩:∃m,m=pJ s:=⟨_,rfl⟩
 rw [←hm] at st ok
 rw [←hm]
 refine I.v (.agg [L.str m.name, .n m.at_,w.i,w.v,w.p]) (I.v (.int .i64 (zi s:Int)) (I.v (.int .i64 (Iq s:Int)) (I.dq st L.alloc (fun bV h st=> ?_))))
 refine I.cc [L.str m.name, .n m.at_,w.i,w.v,w.p] st 0 rfl (fun h st=> ?_)
 refine I.az (.int .i64 (zi s:Int)) (I.nil (WP.seq (WP.af (I.eo (L.neq rfl rfl) (fun c1=> ?_) (fun c1=> ?_)))))
 ·replace c1:(zi s)≠0:=by omega
  refine I.eP (I.no rfl (I.az (.bool true) (I.bh (WP.af (I.dU rfl (D.l.yes _) ?_)))))
  rintro _ h ⟨rfl,rfl⟩
  refine I.rt ?_
  exact ⟨_,(ca (.bool true)),rfl⟩
 ·replace c1:¬((zi s)≠0):=by omega
  refine I.yes rfl (I.v (L.str s) (I.yes rfl (I.val (v:= .n s.length) (L.qo rfl) (I.yes rfl (I.eo (L.gtr rfl rfl) (fun c2=> ?_) (fun c2=> ?_))))))
  ·replace c2:s.length>1500:=by omega
   refine I.az (.bool true) (I.bh (WP.af (I.dU rfl (D.l.yes _) ?_)))
   rintro _ h ⟨rfl,rfl⟩
   refine I.rt ?_
   exact ⟨_,(ca (.bool true)),rfl⟩
  ·replace c2:¬(s.length>1500):=by omega
   refine I.az (.bool false) (I.aY (WP.skip (WP.seq (WP.draw (ae.val (v:= .agg [L.str m.name, .n m.at_,w.i,w.v,w.p]) (L.eg rfl (st.aF 0 rfl) rfl rfl rfl) (ae.v (L.str u) (ae.dq st L.alloc (fun UU h st=> ?_))))))))
   refine ae.bD rfl (US D.l (s:=u) st) (fun v3 h hp=> ?_) ?_
   ·obtain ⟨v7,vZ,zM,zN,rfl,st⟩:=hp
    exact h3 (ju (L.eg rfl (st.aF 2 rfl) rfl rfl rfl)) (h3 (AX st 1 rfl) (lp _ _))
   rintro _ h ⟨v7,vZ,zM,zN,rfl,st⟩
   obtain ⟨NS,jm⟩:∃NS,NS=(xL u).ns:=⟨_,rfl⟩
   have gH:NS.length<4294967296:=by rw [jm];exact (ahg u).N
   replace st:ak (.ay (fun h=>cz h v7 NS):: .box UU [.U, .U]:: .box bV [L.str m.name, .n m.at_,w.i,w.v,w.p]:: .ay (fun h=>bG h m w)::[]) h:=st.fD fun h hx=>by rw [jm];exact hx.N.af
   refine ae.bD rfl (aev D.l.o ok gH ((st.pick 3 rfl).pick 1 rfl)) (fun v3 h hp=> ?_) ?_
   ·obtain ⟨zO,zP,h5,rfl,st⟩:=hp
    exact h3 (AX st 4 rfl) (lp _ _)
   rintro _ h ⟨zO,zP,h5,rfl,st⟩
   refine ae.v (.dD [.agg [zO,zP],h5]) (ae.v (.agg [zO,zP]) (ae.v h5 (ae.fV (row':=[zO,zP]) st 4 rfl rfl rfl rfl rfl rfl rfl (fun h st=>rfl) (fun h st=> ?_))))
   refine ae.az h5 (ae.nil (WP.seq (WP.draw (ae.val (v:= .agg [L.str m.name, .n m.at_,w.i,w.v,w.p]) (L.eg rfl (st.aF 5 rfl) rfl rfl rfl) (ae.v (L.str u) (ae.dq st L.alloc (fun ahv h st=> ?_)))))))
   refine ae.bD rfl (US D.l (s:=u) st) (fun v3 h hp=> ?_) ?_
   ·obtain ⟨pW,qT,qU,qV,rfl,st⟩:=hp
    exact h3 (ju (L.eg rfl (st.aF 7 rfl) rfl rfl rfl)) (h3 (AX st 1 rfl) (lp _ _))
   rintro _ h ⟨pW,qT,qU,qV,rfl,st⟩
   replace st:ak (.ay (fun h=>cz h pW NS):: .box ahv [.U, .U]:: .ay (fun h=>pI h zO zP (Fc.vP m NS) (Fc.uv m NS)):: .ay (fun h=>Rows 4 h h5 ((Fc.jj m NS).map Fc.b6.row)):: .ay (fun h=>cz h v7 NS):: .ay (fun h=>bG h m w):: .box UU [zO,zP]:: .box bV [L.str m.name, .n m.at_,w.i,w.v,w.p]::[]) h:=st.fD fun h hx=>by rw [jm];exact hx.N.af
   refine ae.bD rfl (ae5 D.l.r ok gH ((st.pick 5 rfl).pick 1 rfl)) (fun v3 h hp=> ?_) ?_
   ·obtain ⟨FG,mF,FH,rfl,st⟩:=hp
    exact h3 (AX st 4 rfl) (lp _ _)
   rintro _ h ⟨FG,mF,FH,rfl,st⟩
   refine ae.v (.dD [.agg [FG,mF],FH]) (ae.v (.agg [FG,mF]) (ae.v FH (ae.fV (row':=[FG,mF]) st 4 rfl rfl rfl rfl rfl rfl rfl (fun h st=>rfl) (fun h st=> ?_))))
   refine ae.az FH (ae.af (I.val (v:= .agg [zO,zP]) (L.eg rfl (st.aF 8 rfl) rfl rfl rfl) (I.val (v:= .agg [FG,mF]) (L.eg rfl (st.aF 4 rfl) rfl rfl rfl) (I.bD rfl (aht D.l (by have:=Fc.aho ok NS;omega) (by have:=(Fc.UP ok NS).1;omega) (Fc.UP ok NS).2 (st.pick 5 rfl)) ?_))))
   rintro _ h ⟨rfl,st⟩
   refine I.yes rfl (I.v h5 (I.yes rfl (I.v FH (I.yes rfl (I.bD rfl (ae0 D.l.r (Fc.ahp ok NS) (st.aS 4 rfl) (st.aS 0 rfl)) ?_)))))
   rintro _ h ⟨rfl,rfl⟩
   refine I.v (.bool true) (I.yes rfl (I.bD rfl (D.l.yes _) ?_))
   rintro _ h ⟨rfl,rfl⟩
   refine I.az (.bool true) (I.rt ?_)
   exact ⟨_,(ca (.bool true)),rfl⟩
end
end Go.Eng.YtmcjcbldmoijiaaGreatDoor
