/- Part of a proof of a law: rules of an evaluator, contracts, plain laws. No condition of its own. -/
import Derived.Test.YtmcjcbldmoijiaaGreatDoorSymA
import Derived.Test.YtmcjcbldmoijiaaGreatDoorConC
import Derived.Test.YtmcjcbldmoijiaaGreatDoorSymI
import Derived.Test.YtmcjcbldmoijiaaGreatDoorSymG
import Derived.Test.YtmcjcbldmoijiaaGreatDoorCodeA
set_option linter.unusedVariables false
set_option linter.unusedSimpArgs false
namespace Go.Eng.YtmcjcbldmoijiaaGreatDoor
open Go.Eng
noncomputable section
variable {c:Ctx}
structure Ns (c:Ctx):Prop where
 f36:T.get 36 c.cF=some i36
 a:sP c
theorem aeV (D:Ns c) {fs:List Fact} {h:ag} {m:eK} {w:kZ} {NS:List Fc.aL} (ok:mD m w) (dj:Fc.jj m NS=[]) (st:ak (.ay (fun h=>bG h m w)::fs) h):
 bU c 36 [.agg (vI m w)] h fun v1 h1=>∃eX mF,v1= .agg [eX,mF]∧ak (.ay (fun h=>pI h eX mF (Fc.uk m) (Fc.qD m)):: .ay (fun h=>bG h m w)::fs) h1:=by
 have pK:=ok.um
 have EJ:=ok.jq
 obtain ⟨ml,qk,_⟩:=Fc.TF dj
 refine bU.dR D.f36 rfl (WP.af (I.dq st (L.box (l:=[L.str m.name, .n m.at_,w.i,w.v,w.p]) rfl rfl) (fun bV h st=> ?_)))
 refine I.dq st L.alloc (fun res h st=> ?_)
 refine I.af (I.val (v:= .agg [.U, .U]) (L.build rfl) (I.dq st L.alloc (fun cq h st=> ?_)))
 refine I.cc [.U, .U] st 0 rfl (fun h st=> ?_)
 refine I.af (I.az .U (I.nil (WP.seq (WP.af (I.az (.int .i64 0) (I.nil (WP.block ?_)))))))
 replace st:ak (.cX ([]) 0 1 .U ([]):: .box cq [.U, .U]:: .box res [.U, .U]:: .box bV [L.str m.name, .n m.at_,w.i,w.v,w.p]:: .ay (fun h=>bG h m w)::fs) h:=st.xa 1
 refine WP.dr (α:=Nat) (fun z env h=>∃Nt BV rV ET ej,(z≤m.vars.length∧Lab.Seen (lX ((m.vars.map eW.name).take z)) ET∧ET.length≤z)∧env=cM [.agg [L.str m.name, .n m.at_,w.i,w.v,w.p], .ptr res 0, .ptr bV 0, .n z,ej,rV, .bot, .bot, .bot, .bot, .bot, .bot, .bot, .ptr cq 0] 0 Env.nil∧ak (.cX Nt BV 1 rV (SR ET):: .box cq [.U, .U]:: .box bV [L.str m.name, .n m.at_,w.i,w.v,w.p]:: .box res [.U, .U]:: .ay (fun h=>bG h m w)::fs) h) (fun z=>m.vars.length - z) 0 ?_ ?_
 ·exact ⟨[],0, .U,[], .bot,⟨Nat.zero_le _,by simpa [lX] using Lab.Seen.nil,Nat.zero_le _⟩,by kernel_rfl,(((st.pick 3 rfl).pick 2 rfl).pick 2 rfl)⟩
 rintro z _ h ⟨Nt,BV,rV,ET,ej,⟨aq,kt,kb⟩,rfl,st⟩
 refine WP.seq (WP.af (I.f (.ptr bV 3) (I.b w.v (st.aF 2 rfl) (I.val (v:= .n m.vars.length) (L.eB rfl (bG.vars (st.aS 4 rfl)) (List.length_map _)) (I.bR (L.lss rfl rfl) (fun c1=> ?_) (fun c1=> ?_))))))
 ·replace c1:z<m.vars.length:=by omega
  obtain ⟨x,hx⟩:=fp (l:=m.vars) (i:=z) (by omega)
  refine I.bh (WP.skip (WP.seq (WP.block (WP.aG (I.f (.ptr bV 3) (I.b w.v (st.aF 2 rfl) (I.val (v:= .ptr (ck w.v) (cu w.v+z * 4)) (L.bQ (Rows.av (bG.vars (st.aS 4 rfl)) (by rw [List.length_map];exact c1)) rfl (by rw [List.length_map];exact c1)) (I.f (.ptr (ck w.v) (cu w.v+z * 4+0)) (I.val (v:=L.str x.name) (L.load rfl (Rows.kH (i:=z) (j:=0) (bG.vars (st.aS 4 rfl)) (by rw [List.getElem?_map,hx];rfl) rfl)) ?_)))))))))
  refine I.dU rfl (y6 D.a (by omega) st) ?_
  rintro w1 h ⟨fM,f1,S1,sQ,st⟩
  have pB:=sQ.len
  refine I.nil (WP.aG (I.bX (v:= .n (z+1)) L.cB (I.nil ?_)))
  exact ⟨z+1,(by omega),fM,f1,w1,S1,(.bool true),⟨by omega,(by have:=kt.one (p:=(x.name,[])) sQ rfl;rw [←HU (show (m.vars.map eW.name)[z]? =some x.name from by rw [List.getElem?_map,hx];rfl)] at this;exact this),by omega⟩,by kernel_rfl,st⟩
 ·replace c1:¬(z<m.vars.length):=by omega
  refine I.aY (WP.exit (WP.seq (WP.af (I.az (.int .i64 0) (I.nil (WP.block (WP.dr (α:=Nat) (fun j env h=>∃TV xx gN EU dc,(j≤m.procs.length∧Lab.Seen (lX (m.vars.map eW.name)++lX ((m.procs.map eb.name).take j)) EU∧EU.length≤m.vars.length+j)∧env=cM [.agg [L.str m.name, .n m.at_,w.i,w.v,w.p], .ptr res 0, .ptr bV 0, .n z, .bool false,gN, .n j,dc, .bot, .bot, .bot, .bot, .bot, .ptr cq 0] 0 Env.nil∧ak (.cX TV xx 1 gN (SR EU):: .box cq [.U, .U]:: .box bV [L.str m.name, .n m.at_,w.i,w.v,w.p]:: .box res [.U, .U]:: .ay (fun h=>bG h m w)::fs) h) (fun j=>m.procs.length - j) 0 ?_ ?_)))))))
  ·exact ⟨Nt,BV,rV,ET, .bot,⟨Nat.zero_le _,(by rw [List.take_of_length_le (by rw [List.length_map];omega)] at kt;rw [List.take_zero,show lX ([]:List Lab.aL)=[] from rfl,List.append_nil];exact kt),by omega⟩,by kernel_rfl,st⟩
  rintro j _ h ⟨TV,xx,gN,EU,dc,⟨aV,kt,kb⟩,rfl,st⟩
  refine WP.seq (WP.af (I.f (.ptr bV 4) (I.b w.p (st.aF 2 rfl) (I.val (v:= .n m.procs.length) (L.eB rfl (bG.procs (st.aS 4 rfl)) (iF ok.len)) (I.bR (L.lss rfl rfl) (fun c1=> ?_) (fun c1=> ?_))))))
  ·replace c1:j<m.procs.length:=by omega
   obtain ⟨p,hp⟩:=fp (l:=m.procs) (i:=j) (by omega)
   obtain ⟨q,bC,pe,vM,gT⟩:=ok.pv hp
   refine I.bh (WP.skip (WP.seq (WP.block (WP.aG (I.f (.ptr bV 4) (I.b w.p (st.aF 2 rfl) (I.val (v:= .ptr (ck w.p) (cu w.p+j * 8)) (L.bQ (Rows.av (bG.procs (st.aS 4 rfl)) (by rw [iF ok.len];exact c1)) rfl (by rw [iF ok.len];exact c1)) (I.f (.ptr (ck w.p) (cu w.p+j * 8+0)) (I.val (v:=L.str p.name) (L.load rfl (Rows.kH (i:=j) (j:=0) (bG.procs (st.aS 4 rfl)) (sW hp bC) rfl)) (I.dU rfl (y6 D.a (by omega) st) ?_))))))))))
   rintro w1 h ⟨fM,f1,S1,sQ,st⟩
   have pB:=sQ.len
   refine I.nil (WP.aG (I.bX (v:= .n (j+1)) L.cB (I.nil ?_)))
   exact ⟨j+1,(by omega),fM,f1,w1,S1,(.bool true),⟨by omega,(by have:=kt.one (p:=(p.name,[])) sQ rfl;rw [List.append_assoc,←HU (show (m.procs.map eb.name)[j]? =some p.name from by rw [List.getElem?_map,hp];rfl)] at this;exact this),by omega⟩,by kernel_rfl,st⟩
  ·replace c1:¬(j<m.procs.length):=by omega
   refine I.aY (WP.exit (WP.seq (WP.af (I.az (.int .i64 0) (I.nil (WP.block ?_))))))
   rw [List.take_of_length_le (by rw [List.length_map];omega)] at kt
   obtain rfl:EU=Fc.BZ m:=Fc.aeU kt
   obtain ⟨R,cA⟩:∃R,R=Fc.BZ m:=⟨_,rfl⟩
   rw [←cA] at st kb
   replace st:ak (.ay (fun h=>cz h gN R):: .box cq [.U, .U]:: .box bV [L.str m.name, .n m.at_,w.i,w.v,w.p]:: .box res [.U, .U]:: .ay (fun h=>bG h m w)::fs) h:=((st).Bj (by decide)).fD fun h hx=>hx.af
   replace st:ak (.acc 0 4 .U (((((R.take 0).flatMap (Fc.kA m))).map Fc.k4).map Fc.iv):: .acc 0 6 .U (e1 ([]:List (Fc.gv×eS))):: .ay (fun h=>hF h ([]:List (Fc.gv×eS))):: .ay (fun h=>cz h gN R):: .box cq [.U, .U]:: .box bV [L.str m.name, .n m.at_,w.i,w.v,w.p]:: .box res [.U, .U]:: .ay (fun h=>bG h m w)::fs) h:=((ak.nn (P:=fun h=>hF h ([]:List (Fc.gv×eS))) st fun h x hx=>by cases hx).je 6).je 4
   refine WP.dr (α:=Nat) (fun n env h=>∃Iy uw B0 oV qJ ic fN gX jF l0 l1 iU dx kc lE kz,(n≤R.length∧qJ.map (·.1)=((R.take n).flatMap (Fc.zp m)).map Fc.gV)∧env=cM [.agg [L.str m.name, .n m.at_,w.i,w.v,w.p], .ptr res 0, .ptr bV 0, .n z, .bool false,gN, .n j, .bool false, .n n,ic,fN,gX,jF, .ptr cq 0,l0,l1,iU,dx,kc,lE,kz] 0 Env.nil∧ak (.acc Iy 4 uw (((((R.take n).flatMap (Fc.kA m))).map Fc.k4).map Fc.iv):: .acc B0 6 oV (e1 qJ):: .ay (fun h=>hF h qJ):: .box cq [uw,oV]:: .ay (fun h=>cz h gN R):: .box bV [L.str m.name, .n m.at_,w.i,w.v,w.p]:: .box res [.U, .U]:: .ay (fun h=>bG h m w)::fs) h) (fun n=>R.length - n) 0 ?_ ?_
   ·exact ⟨0, .U,0, .U,[], .bot, .bot, .bot, .bot, .bot, .bot, .bot, .bot, .bot, .bot, .bot,⟨Nat.zero_le _,rfl⟩,by kernel_rfl,((((st.pick 4 rfl).pick 3 rfl).pick 3 rfl).pick 3 rfl)⟩
   rintro n _ h ⟨Iy,uw,B0,oV,qJ,ic,fN,gX,jF,l0,l1,iU,dx,kc,lE,kz,⟨hn,yh⟩,rfl,st⟩
   have Kn:=Fc.rP (f:=Fc.kA m) (l:=R) (n:=8193) (fun x _=>Fc.aeR ok x) n
   have ajz:=Fc.rP (f:=Fc.zp m) (l:=R) (n:=8193) (fun x _=>Nat.le_trans (List.length_filter_le _ _) ok.jq) n
   have Nl:qJ.length=((R.take n).flatMap (Fc.zp m)).length:=by have:=congrArg List.length yh;simpa using this
   refine WP.seq (WP.af (I.val (v:= .n R.length) (L.xh rfl (st.aS 4 rfl)) (I.bR (L.lss rfl rfl) (fun dj=> ?_) (fun dj=> ?_))))
   ·replace dj:n<R.length:=by omega
    obtain ⟨x,ya⟩:=fp (l:=R) (i:=n) (by omega)
    refine I.bh (WP.skip (WP.seq (WP.block (WP.seq (WP.af (I.az (.int .i64 0) (I.nil (WP.block ?_))))))))
    replace st:ak (.acc Iy 4 uw (((((R.take n).flatMap (Fc.kA m))++((m.vars.take 0).filter fun y=>decide (eW.name y=x))).map Fc.k4).map Fc.iv):: .acc B0 6 oV (e1 qJ):: .ay (fun h=>hF h qJ):: .box cq [uw,oV]:: .ay (fun h=>cz h gN R):: .box bV [L.str m.name, .n m.at_,w.i,w.v,w.p]:: .box res [.U, .U]:: .ay (fun h=>bG h m w)::fs) h:=by rw [List.take_zero,List.filter_nil,List.append_nil];exact st
    refine WP.dr (α:=Nat) (fun i env h=>∃rW ke gX jF,(i≤m.vars.length)∧env=cM [.agg [L.str m.name, .n m.at_,w.i,w.v,w.p], .ptr res 0, .ptr bV 0, .n z, .bool false,gN, .n j, .bool false, .n n, .bool true, .n i,gX,jF, .ptr cq 0,l0,l1,iU,dx,kc,lE,kz] 0 Env.nil∧ak (.acc rW 4 ke (((((R.take n).flatMap (Fc.kA m))++((m.vars.take i).filter fun y=>decide (eW.name y=x))).map Fc.k4).map Fc.iv):: .acc B0 6 oV (e1 qJ):: .ay (fun h=>hF h qJ):: .box cq [ke,oV]:: .ay (fun h=>cz h gN R):: .box bV [L.str m.name, .n m.at_,w.i,w.v,w.p]:: .box res [.U, .U]:: .ay (fun h=>bG h m w)::fs) h) (fun i=>m.vars.length - i) 0 ?_ ?_
    ·exact ⟨Iy,uw,gX,jF,Nat.zero_le _,by kernel_rfl,st⟩
    rintro i _ h ⟨rW,ke,gX,jF,aq,rfl,st⟩
    have EL:((m.vars.take i).filter fun y=>decide (eW.name y=x)).length≤8193:=Nat.le_trans (List.length_filter_le _ _) (by rw [List.length_take];omega)
    refine WP.seq (WP.af (I.f (.ptr bV 3) (I.b w.v (st.aF 5 rfl) (I.val (v:= .n m.vars.length) (L.eB rfl (bG.vars (st.aS 7 rfl)) (List.length_map _)) (I.bR (L.lss rfl rfl) (fun c1=> ?_) (fun c1=> ?_))))))
    ·replace c1:i<m.vars.length:=by omega
     obtain ⟨y,hx⟩:=fp (l:=m.vars) (i:=i) (by omega)
     refine I.bh (WP.skip (WP.seq (WP.block (WP.seq (WP.draw (ae.f (.ptr bV 3) (ae.b w.v (st.aF 5 rfl) (ae.v (.n i) (ae.val (v:= .ptr (ck w.v) (cu w.v+i * 4)) (L.bQ (Rows.av (bG.vars (st.aS 7 rfl)) (by rw [List.length_map];exact c1)) rfl (by rw [List.length_map];exact c1)) (ae.f (.ptr (ck w.v) (cu w.v+i * 4+0)) (ae.val (v:=L.str y.name) (L.load rfl (Rows.kH (i:=i) (j:=0) (bG.vars (st.aS 7 rfl)) (by rw [List.getElem?_map,hx];rfl) rfl)) ?_)))))))))))
     refine ae.v gN (ae.v (.n n) (ae.val (v:= .ptr (ck gN) (cu gN+n * 1)) (L.vE (st.aS 4 rfl) dj rfl rfl) (ae.val (v:=L.str x) (L.load rfl (cz.at (st.aS 4 rfl) ya)) (ae.bR (L.seq rfl rfl) (fun _ ce=> ?_) (fun _ ce=> ?_)))))
     ·have jH:((R.take n).flatMap (Fc.kA m))++((m.vars.take (i+1)).filter fun y=>decide (eW.name y=x))=((R.take n).flatMap (Fc.kA m))++((m.vars.take i).filter fun y=>decide (eW.name y=x))++[y]:=by rw [Fc.Ix (l:=m.vars) _ hx,if_pos (decide_eq_true ce),List.append_assoc]
      refine ae.bh (WP.draw (ae.f (.ptr cq 0) (ae.b ke (st.aF 3 rfl) (ae.v gN (ae.v (.n n) (ae.val (v:= .ptr (ck gN) (cu gN+n * 1)) (L.vE (st.aS 4 rfl) dj rfl rfl) (ae.val (v:=L.str x) (L.load rfl (cz.at (st.aS 4 rfl) ya)) (ae.f (.ptr bV 3) (ae.b w.v (st.aF 5 rfl) (ae.v (.n i) (ae.val (v:= .ptr (ck w.v) (cu w.v+i * 4)) (L.bQ (Rows.av (bG.vars (st.aS 7 rfl)) (by rw [List.length_map];exact c1)) rfl (by rw [List.length_map];exact c1)) (ae.f (.ptr (ck w.v) (cu w.v+i * 4+1)) (ae.val (v:=L.str y.label) (L.load rfl (Rows.kH (i:=i) (j:=1) (bG.vars (st.aS 7 rfl)) (by rw [List.getElem?_map,hx];rfl) rfl)) ?_)))))))))))))
      refine ae.val (v:= .agg [L.str x,L.str y.label, .int .i64 0, .int .i64 0]) (L.build rfl) (ae.eI (rows:=[[L.str x,L.str y.label, .int .i64 0, .int .i64 0]]) st rfl (by decide) rfl (by simp) (fun TK h _ st=> ?_))
      refine ae.nh st 1 rfl rfl rfl (st.aS 0 rfl) (by decide) (by simp only [List.length_append,List.length_map,List.length_cons,List.length_nil];omega) (fun _ _ h st=>rfl) (fun BU xu h st=> ?_)
      rw [show (((((R.take n).flatMap (Fc.kA m))++((m.vars.take i).filter fun y=>decide (eW.name y=x))).map Fc.k4).map Fc.iv)++[[L.str x,L.str y.label,V.int .i64 0,V.int .i64 0]]=((((R.take n).flatMap (Fc.kA m))++((m.vars.take (i+1)).filter fun y=>decide (eW.name y=x))).map Fc.k4).map Fc.iv from by rw [jH];simp only [List.map_append,List.map_cons,List.map_nil];rw [←ce];rfl] at st
      have zk:=(st.et 1 rfl).cells
      refine ae.f (.ptr cq 0) (ae.fV (row':=[xu,oV]) st 4 rfl rfl zk rfl rfl rfl rfl (fun h st=>rfl) (fun h st=> ?_))
      refine ae.nil (WP.aG (I.bX (v:= .n (i+1)) L.cB (I.nil ?_)))
      exact ⟨i+1,(by omega),BU,xu,(.bool true),(.bool true),by omega,by kernel_rfl,st.tail⟩
     ·have jH:((R.take n).flatMap (Fc.kA m))++((m.vars.take (i+1)).filter fun y=>decide (eW.name y=x))=((R.take n).flatMap (Fc.kA m))++((m.vars.take i).filter fun y=>decide (eW.name y=x)):=by rw [Fc.Ix (l:=m.vars) _ hx,if_neg (by rw [decide_eq_false ce];decide),List.append_nil]
      rw [←jH] at st
      refine ae.aY (WP.skip (WP.aG (I.bX (v:= .n (i+1)) L.cB (I.nil ?_))))
      exact ⟨i+1,(by omega),rW,ke,(.bool true),(.bool false),by omega,by kernel_rfl,st⟩
    ·replace c1:¬(i<m.vars.length):=by omega
     rw [List.take_of_length_le (show m.vars.length≤i by omega)] at st
     replace st:ak (.acc rW 4 ke (((((R.take (n+1)).flatMap (Fc.kA m))).map Fc.k4).map Fc.iv):: .acc B0 6 oV (e1 qJ):: .ay (fun h=>hF h qJ):: .box cq [ke,oV]:: .ay (fun h=>cz h gN R):: .box bV [L.str m.name, .n m.at_,w.i,w.v,w.p]:: .box res [.U, .U]:: .ay (fun h=>bG h m w)::fs) h:=by rw [Fc.rO (Fc.kA m) ya];exact st
     refine I.aY (WP.exit (WP.af (I.az (.int .i64 0) (I.nil (WP.block (WP.dr (α:=Nat) (fun r env h=>∃vS nz kf l1 iU dx kc lE kz,(r≤m.procs.length∧kf.map (·.1)=(((R.take n).flatMap (Fc.zp m))++((m.procs.take r).filter fun y=>decide (eb.name y=x))).map Fc.gV)∧env=cM [.agg [L.str m.name, .n m.at_,w.i,w.v,w.p], .ptr res 0, .ptr bV 0, .n z, .bool false,gN, .n j, .bool false, .n n, .bool true, .n i, .bool false,jF, .ptr cq 0, .n r,l1,iU,dx,kc,lE,kz] 0 Env.nil∧ak (.acc rW 4 ke (((((R.take (n+1)).flatMap (Fc.kA m))).map Fc.k4).map Fc.iv):: .acc vS 6 nz (e1 kf):: .ay (fun h=>hF h kf):: .box cq [ke,nz]:: .ay (fun h=>cz h gN R):: .box bV [L.str m.name, .n m.at_,w.i,w.v,w.p]:: .box res [.U, .U]:: .ay (fun h=>bG h m w)::fs) h) (fun r=>m.procs.length - r) 0 ?_ ?_))))))
     ·exact ⟨B0,oV,qJ,l1,iU,dx,kc,lE,kz,⟨Nat.zero_le _,by rw [List.take_zero,List.filter_nil,List.append_nil];exact yh⟩,by kernel_rfl,st⟩
     rintro r _ h ⟨vS,nz,kf,l1,iU,dx,kc,lE,kz,⟨hr,zq⟩,rfl,st⟩
     have ajA:kf.length≤200000000:=by
      have h1:=congrArg List.length zq
      have h2:((m.procs.take r).filter fun y=>decide (eb.name y=x)).length≤8193:=Nat.le_trans (List.length_filter_le _ _) (by rw [List.length_take];omega)
      simp only [List.length_map,List.length_append] at h1
      omega
     refine WP.seq (WP.af (I.f (.ptr bV 4) (I.b w.p (st.aF 5 rfl) (I.val (v:= .n m.procs.length) (L.eB rfl (bG.procs (st.aS 7 rfl)) (iF ok.len)) (I.bR (L.lss rfl rfl) (fun c2=> ?_) (fun c2=> ?_))))))
     ·replace c2:r<m.procs.length:=by omega
      obtain ⟨p,hp⟩:=fp (l:=m.procs) (i:=r) (by omega)
      obtain ⟨q,bC,pe,vM,gT⟩:=ok.pv hp
      refine I.bh (WP.skip (WP.seq (WP.block (WP.af (I.f (.ptr bV 4) (I.b w.p (st.aF 5 rfl) (I.val (v:= .ptr (ck w.p) (cu w.p+r * 8)) (L.bQ (Rows.av (bG.procs (st.aS 7 rfl)) (by rw [iF ok.len];exact c2)) rfl (by rw [iF ok.len];exact c2)) (I.val (v:= .agg [L.str p.name,q.p, .bool p.has,L.str p.result,L.str p.bI,q.u,q.b, .n p.at_]) (L.dd rfl (Rows.jY (i:=r) (bG.procs (st.aS 7 rfl)) (show _=some [L.str p.name,q.p, .bool p.has,L.str p.result,L.str p.bI,q.u,q.b, .n p.at_] from sW hp bC))) (I.dq st L.alloc (fun dV h st=> ?_))))))))))
      refine I.cc [L.str p.name,q.p, .bool p.has,L.str p.result,L.str p.bI,q.u,q.b, .n p.at_] st 0 rfl (fun h st=> ?_)
      refine I.nil (WP.ss (WP.draw (ae.f (.ptr dV 0) (ae.b (L.str p.name) (st.aF 0 rfl) (ae.v gN (ae.v (.n n) (ae.val (v:= .ptr (ck gN) (cu gN+n * 1)) (L.vE (st.aS 5 rfl) dj rfl rfl) (ae.val (v:=L.str x) (L.load rfl (cz.at (st.aS 5 rfl) ya)) (ae.bR (L.wS rfl rfl) (fun _ ce=> ?_) (fun _ ce=> ?_))))))))))
      ·refine ae.bh (WP.exit (WP.aG (I.bX (v:= .n (r+1)) L.cB (I.nil ?_))))
       exact ⟨r+1,(by omega),vS,nz,kf,(.bool true),(.ptr dV 0),(.bool true),kc,lE,kz,⟨by omega,by rw [Fc.Ix (l:=m.procs) _ hp,if_neg (by rw [decide_eq_false ce];decide),←List.append_assoc,List.map_append];rw [List.map_nil,List.append_nil];exact zq⟩,by kernel_rfl,st.tail⟩
      ·replace ce:=Decidable.not_not.1 ce
       replace st:ak (.ay (fun h=>cz h q.u p.fU):: .ay (fun h=>cz h .U []):: .ay (fun h=>bG h m w):: .box dV [L.str p.name,q.p, .bool p.has,L.str p.result,L.str p.bI,q.u,q.b, .n p.at_]:: .acc rW 4 ke (((((R.take (n+1)).flatMap (Fc.kA m))).map Fc.k4).map Fc.iv):: .acc vS 6 nz (e1 kf):: .ay (fun h=>hF h kf):: .box cq [ke,nz]:: .ay (fun h=>cz h gN R):: .box bV [L.str m.name, .n m.at_,w.i,w.v,w.p]:: .box res [.U, .U]::fs) h:=(ak.nn (P:=fun h=>cz h .U []) (ak.imp (Q:=fun h=>cz h q.u p.fU) ((st.pick 8 rfl)) fun h hx=>(hx.all _ p q hp bC).2.af) fun h=> .inl ⟨rfl,rfl⟩).pick 1 rfl
       refine ae.aY (WP.skip (WP.seq (WP.draw (ae.f (.ptr dV 0) (ae.b (L.str p.name) (st.aF 3 rfl) (ae.f (.ptr dV 2) (ae.b (.bool p.has) (st.aF 3 rfl) (ae.f (.ptr dV 3) (ae.b (L.str p.result) (st.aF 3 rfl) (ae.f (.ptr dV 4) (ae.b (L.str p.bI) (st.aF 3 rfl) (ae.f (.ptr dV 5) (ae.b q.u (st.aF 3 rfl) (ae.dq st L.alloc (fun gj h st=> ?_)))))))))))))))
       refine ae.bD rfl (abR D.a (by rw [List.length_nil];omega) ((st.pick 2 rfl).pick 2 rfl)) (fun fj h vR=> ?_) ?_
       ·obtain ⟨aeW,aeX,st⟩:=vR
        exact h3 (ju (L.iM rfl (st.aF 5 rfl) rfl)) (h3 (ju (L.iM rfl (st.aF 5 rfl) rfl)) (h3 (ju (L.iM rfl (st.aF 5 rfl) rfl)) (h3 (ju (L.iM rfl (st.aF 5 rfl) rfl)) (h3 (AX st 3 rfl) (lp _ _)))))
       rintro fj h ⟨aeW,aeX,st⟩
       replace st:ak (.ay (fun h=>Rows 1 h fj (SR (jZ p.fU))):: .ay (fun h=>cz h q.u p.fU):: .ay (fun h=>cz h .U []):: .box gj [.str 0 0, .U, .bool false, .str 0 0, .str 0 0, .U]:: .ay (fun h=>bG h m w):: .box dV [L.str p.name,q.p, .bool p.has,L.str p.result,L.str p.bI,q.u,q.b, .n p.at_]:: .acc rW 4 ke (((((R.take (n+1)).flatMap (Fc.kA m))).map Fc.k4).map Fc.iv):: .acc vS 6 nz (e1 kf):: .ay (fun h=>hF h kf):: .box cq [ke,nz]:: .ay (fun h=>cz h gN R):: .box bV [L.str m.name, .n m.at_,w.i,w.v,w.p]:: .box res [.U, .U]::fs) h:=by
        have st:=st.Bj (by decide)
        rw [List.append_nil] at st
        exact st
       have EM:=Rows.vQ (st.aS 0 rfl)
       refine ae.val (v:= .agg [L.str p.name, .U, .bool p.has,L.str p.result,L.str p.bI,fj]) (L.build (TJ EM)) (ae.fV (row':=[L.str p.name, .U, .bool p.has,L.str p.result,L.str p.bI,fj]) st 3 rfl rfl rfl rfl rfl rfl rfl (fun h st=>rfl) (fun h st=> ?_))
       refine ae.nil (WP.seq (WP.af (I.az (.int .i64 0) (I.nil (WP.block ?_)))))
       replace st:ak (.acc 0 1 .U (SR ((p.params.take 0).map cC.label)):: .ay (fun h=>Rows 1 h fj (SR (jZ p.fU))):: .ay (fun h=>cz h q.u p.fU):: .ay (fun h=>cz h .U []):: .box gj [L.str p.name, .U, .bool p.has,L.str p.result,L.str p.bI,fj]:: .ay (fun h=>bG h m w):: .box dV [L.str p.name,q.p, .bool p.has,L.str p.result,L.str p.bI,q.u,q.b, .n p.at_]:: .acc rW 4 ke (((((R.take (n+1)).flatMap (Fc.kA m))).map Fc.k4).map Fc.iv):: .acc vS 6 nz (e1 kf):: .ay (fun h=>hF h kf):: .box cq [ke,nz]:: .ay (fun h=>cz h gN R):: .box bV [L.str m.name, .n m.at_,w.i,w.v,w.p]:: .box res [.U, .U]::fs) h:=st.je 1
       refine WP.dr (α:=Nat) (fun k env h=>∃ES lF lE,(k≤p.params.length)∧env=cM [.agg [L.str m.name, .n m.at_,w.i,w.v,w.p], .ptr res 0, .ptr bV 0, .n z, .bool false,gN, .n j, .bool false, .n n, .bool true, .n i, .bool false,jF, .ptr cq 0, .n r, .bool true, .ptr dV 0, .bool false, .n k,lE, .ptr gj 0] 0 Env.nil∧ak (.acc ES 1 lF (SR ((p.params.take k).map cC.label)):: .box gj [L.str p.name,lF, .bool p.has,L.str p.result,L.str p.bI,fj]:: .box dV [L.str p.name,q.p, .bool p.has,L.str p.result,L.str p.bI,q.u,q.b, .n p.at_]:: .ay (fun h=>Rows 1 h fj (SR (jZ p.fU))):: .acc rW 4 ke (((((R.take (n+1)).flatMap (Fc.kA m))).map Fc.k4).map Fc.iv):: .acc vS 6 nz (e1 kf):: .ay (fun h=>hF h kf):: .box cq [ke,nz]:: .ay (fun h=>cz h gN R):: .box bV [L.str m.name, .n m.at_,w.i,w.v,w.p]:: .box res [.U, .U]:: .ay (fun h=>bG h m w)::fs) h) (fun k=>p.params.length - k) 0 ?_ ?_
       ·exact ⟨0, .U,lE,Nat.zero_le _,by kernel_rfl,(((((((((((((st.pick 2 rfl).tail.pick 2 rfl).tail.pick 11 rfl).pick 11 rfl).pick 11 rfl).pick 11 rfl).pick 11 rfl).pick 11 rfl).pick 11 rfl).pick 8 rfl).pick 11 rfl).pick 10 rfl).pick 10 rfl)⟩
       rintro k _ h ⟨ES,lF,lE,hk,rfl,st⟩
       refine WP.seq (WP.af (I.f (.ptr dV 1) (I.b q.p (st.aF 2 rfl) (I.val (v:= .n p.params.length) (L.eB rfl (((bG.all (st.aS 11 rfl)) _ p q hp bC).1) (List.length_map _)) (I.bR (L.lss rfl rfl) (fun cI=> ?_) (fun cI=> ?_))))))
       ·replace cI:k<p.params.length:=by omega
        obtain ⟨y,hy⟩:=fp (l:=p.params) (i:=k) (by omega)
        refine I.bh (WP.skip (WP.seq (WP.block (WP.draw (ae.f (.ptr gj 1) (ae.b lF (st.aF 1 rfl) (ae.f (.ptr dV 1) (ae.b q.p (st.aF 2 rfl) (ae.v (.n k) (ae.val (v:= .ptr (ck q.p) (cu q.p+k * 3)) (L.bQ (Rows.av (((bG.all (st.aS 11 rfl)) _ p q hp bC).1) (by rw [List.length_map];exact cI)) rfl (by rw [List.length_map];exact cI)) (ae.f (.ptr (ck q.p) (cu q.p+k * 3+1)) (ae.val (v:=L.str y.label) (L.load rfl (Rows.kH (i:=k) (j:=1) (((bG.all (st.aS 11 rfl)) _ p q hp bC).1) (by rw [List.getElem?_map,hy];rfl) rfl)) ?_))))))))))))
        refine ae.eI (rows:=[[L.str y.label]]) st rfl (by decide) rfl (by simp) (fun aeu h _ st=> ?_)
        refine ae.nh st 1 rfl rfl rfl (st.aS 0 rfl) (by decide) (by rw [eM,List.length_map,List.length_take];simp only [List.length_cons,List.length_nil];omega) (fun _ _ h st=>rfl) (fun BW xv h st=> ?_)
        rw [show (SR ((p.params.take k).map cC.label))++[[L.str y.label]]=SR ((p.params.take (k+1)).map cC.label) from by rw [Fc.n4 _ hy,nV];rfl] at st
        have p2:=(st.et 1 rfl).cells
        refine ae.f (.ptr gj 1) (ae.fV (row':=[L.str p.name,xv, .bool p.has,L.str p.result,L.str p.bI,fj]) st 2 rfl rfl p2 rfl rfl rfl rfl (fun h st=>rfl) (fun h st=> ?_))
        refine ae.nil (WP.aG (I.bX (v:= .n (k+1)) L.cB (I.nil ?_)))
        exact ⟨k+1,(by omega),BW,xv,(.bool true),by omega,by kernel_rfl,st.tail⟩
       ·replace cI:¬(k<p.params.length):=by omega
        rw [List.take_of_length_le (show p.params.length≤k by omega)] at st
        have ajB:=(st.et 0 rfl).cells
        replace st:ak (.ay (fun h=>Ey h (Fc.gV p) (eS.mk lF fj)):: .box gj [L.str p.name,lF, .bool p.has,L.str p.result,L.str p.bI,fj]:: .box dV [L.str p.name,q.p, .bool p.has,L.str p.result,L.str p.bI,q.u,q.b, .n p.at_]:: .acc rW 4 ke (((((R.take (n+1)).flatMap (Fc.kA m))).map Fc.k4).map Fc.iv):: .acc vS 6 nz (e1 kf):: .ay (fun h=>hF h kf):: .box cq [ke,nz]:: .ay (fun h=>cz h gN R):: .box bV [L.str m.name, .n m.at_,w.i,w.v,w.p]:: .box res [.U, .U]:: .ay (fun h=>bG h m w)::fs) h:=((((st.pick 3 rfl).pick 1 rfl)).shut (by decide)).and
        refine I.aY (WP.exit (WP.aG (I.f (.ptr cq 1) (I.b nz (st.aF 6 rfl) (I.val (v:= .agg (pH (Fc.gV p) (eS.mk lF fj))) (L.eg rfl (st.aF 1 rfl) rfl rfl rfl) (I.eI (rows:=[pH (Fc.gV p) (eS.mk lF fj)]) st (H5 rfl rfl) (by decide) rfl (by simp [pH]) (fun Iu h st=> ?_)))))))
        refine I.nh st 5 rfl rfl rfl (st.aS 0 rfl) (by decide) (by unfold e1;rw [List.length_map];simp only [List.length_cons,List.length_nil];omega) (fun zn xw h st=> ?_)
        rw [show (e1 kf)++[pH (Fc.gV p) (eS.mk lF fj)]=e1 (kf++[(Fc.gV p,eS.mk lF fj)]) from by unfold e1;rw [List.map_append];rfl] at st
        have EK:=(st.et 5 rfl).cells
        replace st:ak (.ay (fun h=>hF h (kf++[(Fc.gV p,eS.mk lF fj)])):: .ay (fun h=>Rows 6 h (.av Iu 0 1 (some 1)) [pH (Fc.gV p) (eS.mk lF fj)]):: .box gj [L.str p.name,lF, .bool p.has,L.str p.result,L.str p.bI,fj]:: .box dV [L.str p.name,q.p, .bool p.has,L.str p.result,L.str p.bI,q.u,q.b, .n p.at_]:: .acc rW 4 ke (((((R.take (n+1)).flatMap (Fc.kA m))).map Fc.k4).map Fc.iv):: .acc zn 6 xw (e1 (kf++[(Fc.gV p,eS.mk lF fj)])):: .box cq [ke,nz]:: .ay (fun h=>cz h gN R):: .box bV [L.str m.name, .n m.at_,w.i,w.v,w.p]:: .box res [.U, .U]:: .ay (fun h=>bG h m w)::fs) h:=(ak.and ((st.pick 1 rfl).pick 6 rfl)).fD fun h hx=>hF.snoc hx.1 hx.2
        refine I.f (.ptr cq 1) (I.fV (row':=[ke,xw]) st 6 rfl rfl EK rfl rfl rfl rfl (fun h st=> ?_))
        refine I.nil (WP.aG (I.bX (v:= .n (r+1)) L.cB (I.nil ?_)))
        exact ⟨r+1,(by omega),zn,xw,(kf++[(Fc.gV p,eS.mk lF fj)]),(.bool true),(.ptr dV 0),(.bool false),(.n k),(.bool false),(.ptr gj 0),⟨by omega,by rw [Fc.Ix (l:=m.procs) _ hp,if_pos (by exact decide_eq_true ce),←List.append_assoc,List.map_append];rw [List.map_append,zq];rfl⟩,by kernel_rfl,(((((st.pick 1 rfl).tail.pick 1 rfl).tail.pick 1 rfl).tail.pick 2 rfl).pick 2 rfl)⟩
     ·replace c2:¬(r<m.procs.length):=by omega
      rw [List.take_of_length_le (show m.procs.length≤r by omega)] at zq
      replace zq:kf.map (·.1)=((R.take (n+1)).flatMap (Fc.zp m)).map Fc.gV:=by rw [Fc.rO (Fc.zp m) ya];exact zq
      refine I.aY (WP.exit (WP.aG (I.bX (v:= .n (n+1)) L.cB (I.nil ?_))))
      exact ⟨n+1,(by omega),rW,ke,vS,nz,kf,(.bool true),(.n i),(.bool false),jF,(.n r),(.bool false),iU,dx,kc,lE,kz,⟨by omega,zq⟩,by kernel_rfl,st⟩
   ·replace dj:¬n<R.length:=by omega
    refine I.aY (WP.exit (WP.af (I.val (v:= .agg [uw,oV]) (L.eg rfl (st.aF 3 rfl) rfl rfl rfl) (I.cc [uw,oV] st 6 rfl (fun h st=> ?_)))))
    refine I.rt ?_
    rw [List.take_of_length_le (show R.length≤n by omega)] at st yh
    rw [cA] at st yh
    rw [Fc.aeS ml] at st
    rw [Fc.aeT qk] at yh
    refine ⟨_,(cT (fb (l:=[uw,oV]) rfl (L.e6 (st.aF 6 rfl) rfl rfl rfl)) (fo _ _)),uw,oV,rfl, ?_⟩
    have s1:=(((((st.pick 3 rfl).tail.pick 3 rfl).tail.pick 3 rfl).tail.pick 3 rfl).tail).shut (by decide)
    have s2:=((s1.pick 1 rfl).shut (by decide))
    exact ((s2.pick 2 rfl).and.and).fD fun h hx=>⟨hx.2,qJ,yh,hx.1.2,hx.1.1⟩
end
end Go.Eng.YtmcjcbldmoijiaaGreatDoor
namespace Go.Eng.YtmcjcbldmoijiaaGreatDoor
open Go.Eng
noncomputable section
variable {c:Ctx}
structure ux (c:Ctx):Prop where
 f11:T.get 11 c.cF=some i11
 f12:T.get 12 c.cF=some i12
 f13:T.get 13 c.cF=some i13
 a:sP c
 q:EO c
 e:Ns c
theorem aeY (x:Fc.b6):c4.eqs [(0, .str),(1, .int),(2, .int),(3, .str)] [L.str x.mod, .n x.at_, .n x.code,L.str x.name] [L.str x.mod, .n x.at_, .n x.code,L.str x.name]=some true:=
 c4.wV rfl (c4.G9 _) (c4.wV rfl (c4.G8 _) (c4.wV rfl (c4.G8 _) (c4.wV rfl (c4.G9 _) (by simp [c4.eqs]))))
theorem aeZ (x:Fc.aL×Fc.aL):c4.eqs [(0, .str),(1, .str),(2, .int),(3, .int)] [L.str x.1,L.str x.2, .int .i64 0, .int .i64 0] [L.str x.1,L.str x.2, .int .i64 0, .int .i64 0]=some true:=
 c4.wV rfl (c4.G9 _) (c4.wV rfl (c4.G9 _) (c4.wV rfl (c4.G8 _) (c4.wV rfl (c4.G8 _) (by simp [c4.eqs]))))
theorem ae0 (D:ux c) {h0:ag} {v1 v2:V} {DS:List Fc.b6} (hn:DS.length<4294967296) (R:Rows 4 h0 v1 (DS.map Fc.b6.row)) (y4:Rows 4 h0 v2 (DS.map Fc.b6.row)):
 bU c 13 [v1,v2] h0 fun v h1=>v= .bool true∧h1=h0:=by
 refine bU.dR D.f13 rfl (WP.af (I.az (.bool false) (I.nil (WP.seq (WP.af (I.val (v:= .n DS.length) (L.eB rfl R (List.length_map _)) (I.val (v:= .n DS.length) (L.eB rfl y4 (List.length_map _)) (I.bR (L.neq rfl rfl) (fun c1=>by exfalso;omega) (fun c1=> ?_)))))))))
 refine I.aY (WP.skip (WP.seq (WP.af (I.az (.int .i64 0) (I.nil (WP.block (WP.dr (α:=Nat) (fun k env qA=>∃b2 eN c3,(k≤DS.length)∧env=cM [v1,v2,b2, .bool false, .n k,eN,c3] 0 Env.nil∧qA=h0) (fun k=>DS.length - k) 0 ?_ ?_)))))))
 ·exact ⟨(.bool false), .bot, .bot,Nat.zero_le _,by kernel_rfl,rfl⟩
 rintro k _ h ⟨b2,eN,c3,hk,rfl,rfl⟩
 refine WP.seq (WP.af (I.val (v:= .n DS.length) (L.eB rfl R (List.length_map _)) (I.bR (L.lss rfl rfl) (fun c1=> ?_) (fun c1=> ?_))))
 ·replace c1:k<DS.length:=by omega
  obtain ⟨x,hx⟩:=fp (l:=DS) (i:=k) (by omega)
  refine I.bh (WP.skip (WP.seq (WP.block (WP.seq (WP.draw (ae.v v1 (ae.v (.n k) (ae.val (v:= .ptr (ck v1) (cu v1+k * 4)) (L.bQ (Rows.av R (by rw [List.length_map];exact c1)) rfl (by rw [List.length_map];exact c1)) (ae.val (v:= .agg [L.str x.mod, .n x.at_, .n x.code,L.str x.name]) (L.dd rfl (Rows.jY (i:=k) R (by rw [List.getElem?_map,hx];rfl))) ?_)))))))))
  refine ae.v v2 (ae.v (.n k) (ae.val (v:= .ptr (ck v2) (cu v2+k * 4)) (L.bQ (Rows.av y4 (by rw [List.length_map];exact c1)) rfl (by rw [List.length_map];exact c1)) (ae.val (v:= .agg [L.str x.mod, .n x.at_, .n x.code,L.str x.name]) (L.dd rfl (Rows.jY (i:=k) y4 (by rw [List.getElem?_map,hx];rfl))) ?_)))
  refine ae.bX (v:= .bool false) (L.QY rfl rfl (aeY x)) (ae.aY (WP.skip (WP.aG (I.bX (v:= .n (k+1)) L.cB (I.nil ?_)))))
  exact ⟨k+1,(by omega),b2,(.bool true),(.bool false),by omega,by kernel_rfl,rfl⟩
 ·replace c1:¬(k<DS.length):=by omega
  refine I.aY (WP.exit (WP.af (I.az (.bool true) (I.rt ?_))))
  exact ⟨_,(ca (.bool true)),rfl,rfl⟩
theorem ae1 {gs gt:List (Fc.gv×eS)} (h:gt.map (·.1)=gs.map (·.1)) {j:Nat} {g:Fc.gv} {q:eS} (aV:gs[j]? =some (g,q)):∃dn,gt[j]? =some (g,dn):=by
 have:=congrArg (fun l=>l[j]?) h
 simp only [List.getElem?_map,aV,Option.map_some] at this
 cases e:gt[j]? with
 |none=>rw [e] at this;cases this
 |some y=>rw [e] at this;obtain ⟨g2,dn⟩:=y;cases this;exact ⟨dn,rfl⟩
theorem ae2 (D:ux c) {fs:List Fact} {h:ag} {a1 fw a2 fl:V} {vs:List (Fc.aL×Fc.aL)} {gs gt:List (Fc.gv×eS)} (hn:vs.length<4294967296) (hm:gs.length<4294967296) (Er:gt.map (·.1)=gs.map (·.1)) (ob:∀g∈gs.map (·.1),g.params.length<4294967296∧g.fU.length<4294967296) (st:ak (.ay (fun h=>Rows 4 h a1 (vs.map Fc.iv)):: .ay (fun h=>Rows 4 h a2 (vs.map Fc.iv)):: .ay (fun h=>Rows 6 h fw (e1 gs)):: .ay (fun h=>Rows 6 h fl (e1 gt)):: .ay (fun h=>hF h gs):: .ay (fun h=>hF h gt)::fs) h):
 bU c 12 [.agg [a1,fw], .agg [a2,fl]] h fun v h1=>v= .bool true∧ak fs h1:=by
 have Nl:gt.length=gs.length:=by simpa using congrArg List.length Er
 refine bU.dR D.f12 rfl (WP.af (I.dq st (L.box (l:=[a1,fw]) rfl rfl) (fun uy h st=> ?_)))
 refine I.dq st (L.box (l:=[a2,fl]) rfl rfl) (fun xB h st=> ?_)
 refine I.az (.bool false) (I.nil (WP.seq (WP.af (I.f (.ptr uy 0) (I.b a1 (st.aF 1 rfl) (I.val (v:= .n vs.length) (L.eB rfl (st.aS 2 rfl) (List.length_map _)) (I.f (.ptr xB 0) (I.b a2 (st.aF 0 rfl) (I.val (v:= .n vs.length) (L.eB rfl (st.aS 3 rfl) (List.length_map _)) (I.eo (L.neq rfl rfl) (fun c1=>by exfalso;exact c1 rfl) (fun c1=> ?_)))))))))))
 refine I.yes rfl (I.f (.ptr uy 1) (I.yes rfl (I.b fw (st.aF 1 rfl) (I.yes rfl (I.val (v:= .n gs.length) (L.eB rfl (st.aS 4 rfl) (by unfold e1;rw [List.length_map])) (I.yes rfl (I.f (.ptr xB 1) (I.yes rfl (I.b fl (st.aF 0 rfl) (I.yes rfl (I.val (v:= .n gs.length) (L.eB rfl (st.aS 5 rfl) (by unfold e1;rw [List.length_map];exact Nl)) (I.yes rfl (I.eo (L.neq rfl rfl) (fun c2=>by exfalso;exact c2 rfl) (fun c2=> ?_))))))))))))))
 refine I.az (.bool false) (I.aY (WP.skip (WP.seq (WP.af (I.az (.int .i64 0) (I.nil (WP.block (WP.dr (α:=Nat) (fun i env h=>∃b2 dc fi,(i≤vs.length)∧env=cM [.agg [a1,fw], .agg [a2,fl],b2, .ptr uy 0, .ptr xB 0, .bool false, .n i,dc,fi] 0 Env.nil∧ak (.box uy [a1,fw]:: .box xB [a2,fl]:: .ay (fun h=>Rows 4 h a1 (vs.map Fc.iv)):: .ay (fun h=>Rows 4 h a2 (vs.map Fc.iv)):: .ay (fun h=>Rows 6 h fw (e1 gs)):: .ay (fun h=>Rows 6 h fl (e1 gt)):: .ay (fun h=>hF h gs):: .ay (fun h=>hF h gt)::fs) h) (fun i=>vs.length - i) 0 ?_ ?_))))))))
 ·exact ⟨(.bool false), .bot, .bot,Nat.zero_le _,by kernel_rfl,(st.pick 1 rfl)⟩
 rintro i _ h ⟨b2,dc,fi,aq,rfl,st⟩
 refine WP.seq (WP.af (I.f (.ptr uy 0) (I.b a1 (st.aF 0 rfl) (I.val (v:= .n vs.length) (L.eB rfl (st.aS 2 rfl) (List.length_map _)) (I.bR (L.lss rfl rfl) (fun c1=> ?_) (fun c1=> ?_))))))
 ·replace c1:i<vs.length:=by omega
  obtain ⟨x,hx⟩:=fp (l:=vs) (i:=i) (by omega)
  refine I.bh (WP.skip (WP.seq (WP.block (WP.seq (WP.draw (ae.f (.ptr uy 0) (ae.b a1 (st.aF 0 rfl) (ae.v (.n i) (ae.val (v:= .ptr (ck a1) (cu a1+i * 4)) (L.bQ (Rows.av (i:=i) (st.aS 2 rfl) (by rw [List.length_map];exact c1)) rfl (by rw [List.length_map];exact c1)) (ae.val (v:= .agg [L.str x.1,L.str x.2, .int .i64 0, .int .i64 0]) (L.dd rfl (Rows.jY (i:=i) (st.aS 2 rfl) (by rw [List.getElem?_map,hx];rfl))) ?_))))))))))
  refine ae.f (.ptr xB 0) (ae.b a2 (st.aF 1 rfl) (ae.v (.n i) (ae.val (v:= .ptr (ck a2) (cu a2+i * 4)) (L.bQ (Rows.av (i:=i) (st.aS 3 rfl) (by rw [List.length_map];exact c1)) rfl (by rw [List.length_map];exact c1)) (ae.val (v:= .agg [L.str x.1,L.str x.2, .int .i64 0, .int .i64 0]) (L.dd rfl (Rows.jY (i:=i) (st.aS 3 rfl) (by rw [List.getElem?_map,hx];rfl))) ?_))))
  refine ae.bX (v:= .bool false) (L.QY rfl rfl (aeZ x)) (ae.aY (WP.skip (WP.aG (I.bX (v:= .n (i+1)) L.cB (I.nil ?_)))))
  exact ⟨i+1,(by omega),b2,(.bool true),(.bool false),by omega,by kernel_rfl,st⟩
 ·replace c1:¬(i<vs.length):=by omega
  refine I.aY (WP.exit (WP.seq (WP.af (I.az (.int .i64 0) (I.nil (WP.block (WP.dr (α:=Nat) (fun j env h=>∃b2 fN gX jF e2,(j≤gs.length)∧env=cM [.agg [a1,fw], .agg [a2,fl],b2, .ptr uy 0, .ptr xB 0, .bool false, .n i, .bool false,fi, .n j,fN,gX,jF,e2] 0 Env.nil∧ak (.box uy [a1,fw]:: .box xB [a2,fl]:: .ay (fun h=>Rows 4 h a1 (vs.map Fc.iv)):: .ay (fun h=>Rows 4 h a2 (vs.map Fc.iv)):: .ay (fun h=>Rows 6 h fw (e1 gs)):: .ay (fun h=>Rows 6 h fl (e1 gt)):: .ay (fun h=>hF h gs):: .ay (fun h=>hF h gt)::fs) h) (fun j=>gs.length - j) 0 ?_ ?_)))))))
  ·exact ⟨b2, .bot, .bot, .bot, .bot,Nat.zero_le _,by kernel_rfl,st⟩
  rintro j _ h ⟨b2,fN,gX,jF,e2,aV,rfl,st⟩
  refine WP.seq (WP.af (I.f (.ptr uy 1) (I.b fw (st.aF 0 rfl) (I.val (v:= .n gs.length) (L.eB rfl (st.aS 4 rfl) (by unfold e1;rw [List.length_map])) (I.bR (L.lss rfl rfl) (fun c1=> ?_) (fun c1=> ?_))))))
  ·replace c1:j<gs.length:=by omega
   obtain ⟨⟨g,q1⟩,oI⟩:∃y,gs[j]? =some y:=⟨gs[j]'(by omega),List.getElem?_eq_getElem (by omega)⟩
   obtain ⟨dn,Iz⟩:∃dn,gt[j]? =some (g,dn):=ae1 Er oI
   have ae3:=(ob g (List.mem_map.2 ⟨_,List.mem_of_getElem? oI,rfl⟩)).1
   have ae4:=(ob g (List.mem_map.2 ⟨_,List.mem_of_getElem? oI,rfl⟩)).2
   refine I.bh (WP.skip (WP.seq (WP.block (WP.seq (WP.draw (ae.f (.ptr uy 1) (ae.b fw (st.aF 0 rfl) (ae.v (.n j) (ae.val (v:= .ptr (ck fw) (cu fw+j * 6)) (L.bQ (Rows.av (i:=j) (st.aS 4 rfl) (by unfold e1;rw [List.length_map];omega)) rfl (by unfold e1;rw [List.length_map];omega)) (ae.val (v:= .agg [L.str g.name,q1.p, .bool g.has,L.str g.result,L.str g.bI,q1.u]) (L.dd rfl (Rows.jY (i:=j) (st.aS 4 rfl) (show _=some [L.str g.name,q1.p, .bool g.has,L.str g.result,L.str g.bI,q1.u] from by unfold e1;rw [List.getElem?_map,oI];rfl))) ?_))))))))))
   refine ae.f (.ptr xB 1) (ae.b fl (st.aF 1 rfl) (ae.v (.n j) (ae.val (v:= .ptr (ck fl) (cu fl+j * 6)) (L.bQ (Rows.av (i:=j) (st.aS 5 rfl) (by unfold e1;rw [List.length_map];omega)) rfl (by unfold e1;rw [List.length_map];omega)) (ae.val (v:= .agg [L.str g.name,dn.p, .bool g.has,L.str g.result,L.str g.bI,dn.u]) (L.dd rfl (Rows.jY (i:=j) (st.aS 5 rfl) (show _=some [L.str g.name,dn.p, .bool g.has,L.str g.result,L.str g.bI,dn.u] from by unfold e1;rw [List.getElem?_map,Iz];rfl))) ?_))))
   refine ae.dq st L.alloc (fun zr h st=> ?_)
   refine ae.dq st L.alloc (fun zs h st=> ?_)
   refine ae.fV (row':=[L.str g.name,q1.p, .bool g.has,L.str g.result,L.str g.bI,q1.u]) st 1 rfl rfl rfl rfl rfl rfl rfl (fun h st=>h3 (ju (L.iM rfl (st.aF 3 rfl) rfl)) (h3 (ju (L.dd rfl (Rows.jY (i:=j) (st.aS 7 rfl) (show _=some [L.str g.name,dn.p, .bool g.has,L.str g.result,L.str g.bI,dn.u] from by unfold e1;rw [List.getElem?_map,Iz];rfl)))) (lp _ _))) (fun h st=> ?_)
   refine ae.fV (row':=[L.str g.name,dn.p, .bool g.has,L.str g.result,L.str g.bI,dn.u]) st 0 rfl rfl rfl rfl rfl rfl rfl (fun h st=>rfl) (fun h st=> ?_)
   refine ae.af (I.f (.ptr zr 0) (I.b (L.str g.name) (st.aF 1 rfl) (I.f (.ptr zs 0) (I.b (L.str g.name) (st.aF 0 rfl) (I.eo (L.wS rfl rfl) (fun cI=>by exfalso;exact cI rfl) (fun cI=> ?_))))))
   refine I.yes rfl (I.f (.ptr zr 1) (I.yes rfl (I.b q1.p (st.aF 1 rfl) (I.yes rfl (I.f (.ptr zs 1) (I.yes rfl (I.b dn.p (st.aF 0 rfl) (I.yes rfl (I.bD rfl (R3 D.a (ns:=g.params) (ae3) (Rows.af ((st.aS 8 rfl) (g,q1) (List.mem_of_getElem? oI)).1) (Rows.af ((st.aS 9 rfl) (g,dn) (List.mem_of_getElem? Iz)).1)) ?_)))))))))
   rintro _ h ⟨rfl,rfl⟩
   refine I.yes rfl (I.v (.bool false) (I.v (.bool false) (I.yes rfl (I.f (.ptr zr 2) (I.yes rfl (I.b (.bool g.has) (st.aF 1 rfl) (I.yes rfl (I.f (.ptr zs 2) (I.yes rfl (I.b (.bool g.has) (st.aF 0 rfl) (I.yes rfl (I.val (v:= .bool false) (L.Z5 rfl rfl) (I.v (.bool false) (I.yes rfl (I.f (.ptr zr 3) (I.yes rfl (I.b (L.str g.result) (st.aF 1 rfl) (I.yes rfl (I.f (.ptr zs 3) (I.yes rfl (I.b (L.str g.result) (st.aF 0 rfl) (I.yes rfl (I.eo (L.wS rfl rfl) (fun dv=>by exfalso;exact dv rfl) (fun dv=> ?_))))))))))))))))))))))))
   refine I.v (.bool false) (I.yes rfl (I.f (.ptr zr 4) (I.yes rfl (I.b (L.str g.bI) (st.aF 1 rfl) (I.yes rfl (I.f (.ptr zs 4) (I.yes rfl (I.b (L.str g.bI) (st.aF 0 rfl) (I.yes rfl (I.eo (L.wS rfl rfl) (fun eu=>by exfalso;exact eu rfl) (fun eu=> ?_)))))))))))
   refine I.v (.bool false) (I.yes rfl (I.f (.ptr zr 5) (I.yes rfl (I.b q1.u (st.aF 1 rfl) (I.yes rfl (I.f (.ptr zs 5) (I.yes rfl (I.b dn.u (st.aF 0 rfl) (I.yes rfl (I.bD rfl (R3 D.a (ns:=g.fU) (ae4) (Rows.af ((st.aS 8 rfl) (g,q1) (List.mem_of_getElem? oI)).2) (Rows.af ((st.aS 9 rfl) (g,dn) (List.mem_of_getElem? Iz)).2)) ?_))))))))))
   rintro _ h ⟨rfl,rfl⟩
   refine I.yes rfl (I.v (.bool false) (I.az (.bool false) (I.aY (WP.skip (WP.aG (I.bX (v:= .n (j+1)) L.cB (I.nil ?_)))))))
   exact ⟨j+1,(by omega),b2,(.bool true),(.ptr zr 0),(.ptr zs 0),(.bool false),by omega,by kernel_rfl,st.tail.tail⟩
  ·replace c1:¬(j<gs.length):=by omega
   refine I.aY (WP.exit (WP.af (I.az (.bool true) (I.rt ?_))))
   exact ⟨_,(ca (.bool true)),rfl,st.tail.tail.tail.tail.tail.tail.tail.tail⟩
theorem ae5 (D:ux c) {fs:List Fact} {h:ag} {b0 z2 z3 z4 z5 da:V} {m:eK} {w:kZ} {NS:List Fc.aL} (ok:mD m w) (gH:NS.length<4294967296) (st:ak (.ay (fun h=>cz h b0 NS):: .ay (fun h=>bG h m w)::fs) h):
 bU c 11 [.agg (vI m w), .agg [b0,z2,z3,z4,z5,da]] h fun v1 h1=>∃eX mF cf,v1= .dD [.agg [eX,mF],cf]∧ak (.ay (fun h=>pI h eX mF (Fc.vP m NS) (Fc.uv m NS)):: .ay (fun h=>Rows 4 h cf ((Fc.jj m NS).map Fc.b6.row)):: .ay (fun h=>cz h b0 NS):: .ay (fun h=>bG h m w)::fs) h1:=by
 have pK:=ok.um
 have EJ:=ok.jq
 have rX:=Fc.MT ok
 have Nb:(Fc.eh m).length=m.vars.length:=List.length_map _
 have vO:∀p∈m.procs,(Fc.fE m.name NS p).length≤8195:=fun p hp=>Fc.MR _ _ (ok.pa p hp).1
 have Nf:=Fc.rP (f:=(Fc.unk m.name NS)) (l:=Fc.eh m) (n:=1) (fun x _=>Fc.nw _ _ x) (Fc.eh m).length
 rw [List.take_length] at Nf
 refine bU.dR D.f11 rfl (WP.af (I.dq st (L.box (l:=[L.str m.name, .n m.at_,w.i,w.v,w.p]) rfl rfl) (fun bV h st=> ?_)))
 refine I.dq st (L.box (l:=[b0,z2,z3,z4,z5,da]) rfl rfl) (fun ch h st=> ?_)
 refine I.dq st L.alloc (fun res h st=> ?_)
 refine I.az .U (I.af (I.val (v:= .agg [L.str m.name, .n m.at_,w.i,w.v,w.p]) (L.eg rfl (st.aF 2 rfl) rfl rfl rfl) (I.dU rfl (aez D.q ok (st.pick 4 rfl)) ?_)))
 rintro Ni h ⟨Nh,st⟩
 refine I.nil (WP.seq (WP.af (I.az (.int .i64 0) (I.nil (WP.block ?_)))))
 replace st:ak (.acc Nh 4 Ni ((Fc.h4 m++((Fc.eh m).take 0).flatMap (Fc.unk m.name NS)).map Fc.b6.row):: .ay (fun h=>bG h m w):: .box res [.U, .U]:: .box ch [b0,z2,z3,z4,z5,da]:: .box bV [L.str m.name, .n m.at_,w.i,w.v,w.p]:: .ay (fun h=>cz h b0 NS)::fs) h:=by rw [List.take_zero,List.flatMap_nil,List.append_nil];exact st
 refine WP.dr (α:=Nat) (fun i env h=>∃s4 pM c3,(i≤m.vars.length)∧env=cM [.agg [L.str m.name, .n m.at_,w.i,w.v,w.p], .agg [b0,z2,z3,z4,z5,da], .ptr res 0, .U, .ptr bV 0, .n i,c3,pM, .ptr ch 0] 0 Env.nil∧ak (.acc s4 4 pM ((Fc.h4 m++((Fc.eh m).take i).flatMap (Fc.unk m.name NS)).map Fc.b6.row):: .ay (fun h=>cz h b0 NS):: .box bV [L.str m.name, .n m.at_,w.i,w.v,w.p]:: .box ch [b0,z2,z3,z4,z5,da]:: .box res [.U, .U]:: .ay (fun h=>bG h m w)::fs) h) (fun i=>m.vars.length - i) 0 ?_ ?_
 ·exact ⟨Nh,Ni, .bot,Nat.zero_le _,by kernel_rfl,(((((st.pick 2 rfl).pick 3 rfl).pick 4 rfl).pick 5 rfl).pick 4 rfl)⟩
 rintro i _ h ⟨s4,pM,c3,wR,rfl,st⟩
 have EL:=Fc.rP (f:=(Fc.unk m.name NS)) (l:=Fc.eh m) (n:=1) (fun x _=>Fc.nw _ _ x) i
 refine WP.seq (WP.af (I.f (.ptr bV 3) (I.b w.v (st.aF 2 rfl) (I.val (v:= .n m.vars.length) (L.eB rfl (bG.vars (st.aS 5 rfl)) (List.length_map _)) (I.bR (L.lss rfl rfl) (fun c1=> ?_) (fun c1=> ?_))))))
 ·replace c1:i<m.vars.length:=by omega
  obtain ⟨x,hx⟩:=fp (l:=m.vars) (i:=i) (by omega)
  refine I.bh (WP.skip (WP.seq (WP.block (WP.draw (ae.v pM (ae.val (v:= .agg [L.str m.name, .n m.at_,w.i,w.v,w.p]) (L.eg rfl (st.aF 2 rfl) rfl rfl rfl) (ae.val (v:= .agg [b0,z2,z3,z4,z5,da]) (L.eg rfl (st.aF 3 rfl) rfl rfl rfl) (ae.f (.ptr bV 3) (ae.b w.v (st.aF 2 rfl) (ae.v (.n i) (ae.val (v:= .ptr (ck w.v) (cu w.v+i * 4)) (L.bQ (Rows.av (bG.vars (st.aS 5 rfl)) (by rw [List.length_map];exact c1)) rfl (by rw [List.length_map];exact c1)) (ae.f (.ptr (ck w.v) (cu w.v+i * 4+1)) (ae.val (v:=L.str x.label) (L.load rfl (Rows.kH (i:=i) (j:=1) (bG.vars (st.aS 5 rfl)) (by rw [List.getElem?_map,hx];rfl) rfl)) ?_)))))))))))))
  refine ae.f (.ptr bV 3) (ae.b w.v (st.aF 2 rfl) (ae.v (.n i) (ae.val (v:= .ptr (ck w.v) (cu w.v+i * 4)) (L.bQ (Rows.av (bG.vars (st.aS 5 rfl)) (by rw [List.length_map];exact c1)) rfl (by rw [List.length_map];exact c1)) (ae.f (.ptr (ck w.v) (cu w.v+i * 4+3)) (ae.val (v:= .n x.at_) (L.load rfl (Rows.kH (i:=i) (j:=3) (bG.vars (st.aS 5 rfl)) (by rw [List.getElem?_map,hx];rfl) rfl)) ?_)))))
  refine ae.bD rfl (EP D.q (n:=x.label) (a:=x.at_) gH (st.pick 1 rfl)) (fun hE h st=>rfl) ?_
  intro hE h st
  have IA:=Fc.nw m.name NS (x.label,x.at_)
  refine ae.nh st 2 rfl rfl rfl (st.aS 0 rfl) (by decide) (by simp only [List.length_append,List.length_map];omega) (fun _ _ h st=>rfl) (fun BU xu h st=> ?_)
  rw [show ((Fc.h4 m++((Fc.eh m).take i).flatMap (Fc.unk m.name NS)).map Fc.b6.row)++((Fc.unk m.name NS (x.label,x.at_)).map Fc.b6.row)=(Fc.h4 m++((Fc.eh m).take (i+1)).flatMap (Fc.unk m.name NS)).map Fc.b6.row from by rw [←List.map_append,List.append_assoc,←Fc.rO (Fc.unk m.name NS) (show (Fc.eh m)[i]? =some (x.label,x.at_) from by unfold Fc.eh;rw [List.getElem?_map,hx];rfl)]] at st
  have zk:=(st.et 2 rfl).cells
  replace st:ak (.ay (fun h=>cz h b0 NS):: .acc BU 4 xu ((Fc.h4 m++((Fc.eh m).take (i+1)).flatMap (Fc.unk m.name NS)).map Fc.b6.row):: .box bV [L.str m.name, .n m.at_,w.i,w.v,w.p]:: .box ch [b0,z2,z3,z4,z5,da]:: .box res [.U, .U]:: .ay (fun h=>bG h m w)::fs) h:=st.tail
  refine ae.az xu (ae.nil (WP.aG (I.bX (v:= .n (i+1)) L.cB (I.nil ?_))))
  exact ⟨i+1,(by omega),BU,xu,(.bool true),by omega,by kernel_rfl,(st.pick 1 rfl)⟩
 ·replace c1:¬(i<m.vars.length):=by omega
  rw [List.take_of_length_le (show (Fc.eh m).length≤i by omega)] at st EL
  refine I.aY (WP.exit (WP.seq (WP.af (I.az (.int .i64 0) (I.nil (WP.block ?_))))))
  replace st:ak (.acc s4 4 pM ((Fc.h4 m++(Fc.eh m).flatMap (Fc.unk m.name NS)++(m.procs.take 0).flatMap (Fc.fE m.name NS)).map Fc.b6.row):: .ay (fun h=>cz h b0 NS):: .box bV [L.str m.name, .n m.at_,w.i,w.v,w.p]:: .box ch [b0,z2,z3,z4,z5,da]:: .box res [.U, .U]:: .ay (fun h=>bG h m w)::fs) h:=by rw [List.take_zero,List.flatMap_nil,List.append_nil];exact st
  refine WP.dr (α:=Nat) (fun j env h=>∃s5 oa fN gX jF e2 l0,(j≤m.procs.length)∧env=cM [.agg [L.str m.name, .n m.at_,w.i,w.v,w.p], .agg [b0,z2,z3,z4,z5,da], .ptr res 0, .U, .ptr bV 0, .n i, .bool false,oa, .ptr ch 0, .n j,fN,gX,jF,e2,l0] 0 Env.nil∧ak (.acc s5 4 oa ((Fc.h4 m++(Fc.eh m).flatMap (Fc.unk m.name NS)++(m.procs.take j).flatMap (Fc.fE m.name NS)).map Fc.b6.row):: .ay (fun h=>cz h b0 NS):: .box bV [L.str m.name, .n m.at_,w.i,w.v,w.p]:: .box ch [b0,z2,z3,z4,z5,da]:: .box res [.U, .U]:: .ay (fun h=>bG h m w)::fs) h) (fun j=>m.procs.length - j) 0 ?_ ?_
  ·exact ⟨s4,pM, .bot, .bot, .bot, .bot, .bot,Nat.zero_le _,by kernel_rfl,st⟩
  rintro j _ h ⟨s5,oa,fN,gX,jF,e2,l0,Nc,rfl,st⟩
  have ky:=Fc.rP (f:=Fc.fE m.name NS) (l:=m.procs) (n:=8195) (vO) j
  refine WP.seq (WP.af (I.f (.ptr bV 4) (I.b w.p (st.aF 2 rfl) (I.val (v:= .n m.procs.length) (L.eB rfl (bG.procs (st.aS 5 rfl)) (iF ok.len)) (I.bR (L.lss rfl rfl) (fun c1=> ?_) (fun c1=> ?_))))))
  ·replace c1:j<m.procs.length:=by omega
   obtain ⟨p,hp⟩:=fp (l:=m.procs) (i:=j) (by omega)
   obtain ⟨q,bC,pe,vM,gT⟩:=ok.pv hp
   refine I.bh (WP.skip (WP.seq (WP.block (WP.af (I.f (.ptr bV 4) (I.b w.p (st.aF 2 rfl) (I.val (v:= .ptr (ck w.p) (cu w.p+j * 8)) (L.bQ (Rows.av (bG.procs (st.aS 5 rfl)) (by rw [iF ok.len];exact c1)) rfl (by rw [iF ok.len];exact c1)) (I.val (v:= .agg [L.str p.name,q.p, .bool p.has,L.str p.result,L.str p.bI,q.u,q.b, .n p.at_]) (L.dd rfl (Rows.jY (i:=j) (bG.procs (st.aS 5 rfl)) (show _=some [L.str p.name,q.p, .bool p.has,L.str p.result,L.str p.bI,q.u,q.b, .n p.at_] from sW hp bC))) (I.dq st L.alloc (fun dV h st=> ?_))))))))))
   refine I.cc [L.str p.name,q.p, .bool p.has,L.str p.result,L.str p.bI,q.u,q.b, .n p.at_] st 0 rfl (fun h st=> ?_)
   refine I.nil (WP.seq (WP.af (I.az (.int .i64 0) (I.nil (WP.block ?_)))))
   replace st:ak (.box dV [L.str p.name,q.p, .bool p.has,L.str p.result,L.str p.bI,q.u,q.b, .n p.at_]:: .acc s5 4 oa ((Fc.h4 m++(Fc.eh m).flatMap (Fc.unk m.name NS)++(m.procs.take j).flatMap (Fc.fE m.name NS)++((Fc.gM p).take 0).flatMap (Fc.unk m.name NS)).map Fc.b6.row):: .ay (fun h=>cz h b0 NS):: .box bV [L.str m.name, .n m.at_,w.i,w.v,w.p]:: .box ch [b0,z2,z3,z4,z5,da]:: .box res [.U, .U]:: .ay (fun h=>bG h m w)::fs) h:=by rw [List.take_zero,List.flatMap_nil,List.append_nil];exact st
   refine WP.dr (α:=Nat) (fun k env h=>∃xA s6 e2,(k≤p.params.length)∧env=cM [.agg [L.str m.name, .n m.at_,w.i,w.v,w.p], .agg [b0,z2,z3,z4,z5,da], .ptr res 0, .U, .ptr bV 0, .n i, .bool false,s6, .ptr ch 0, .n j, .bool true, .ptr dV 0, .n k,e2,l0] 0 Env.nil∧ak (.acc xA 4 s6 ((Fc.h4 m++(Fc.eh m).flatMap (Fc.unk m.name NS)++(m.procs.take j).flatMap (Fc.fE m.name NS)++((Fc.gM p).take k).flatMap (Fc.unk m.name NS)).map Fc.b6.row):: .ay (fun h=>cz h b0 NS):: .box bV [L.str m.name, .n m.at_,w.i,w.v,w.p]:: .box ch [b0,z2,z3,z4,z5,da]:: .box res [.U, .U]:: .ay (fun h=>bG h m w):: .box dV [L.str p.name,q.p, .bool p.has,L.str p.result,L.str p.bI,q.u,q.b, .n p.at_]::fs) h) (fun k=>p.params.length - k) 0 ?_ ?_
   ·exact ⟨s5,oa,e2,Nat.zero_le _,by kernel_rfl,((((((st.pick 6 rfl).pick 6 rfl).pick 6 rfl).pick 6 rfl).pick 6 rfl).pick 6 rfl)⟩
   rintro k _ h ⟨xA,s6,e2,u1,rfl,st⟩
   have Ng:=Fc.rP (f:=(Fc.unk m.name NS)) (l:=Fc.gM p) (n:=1) (fun x _=>Fc.nw _ _ x) k
   have Nd:(Fc.gM p).length=p.params.length:=List.length_map _
   refine WP.seq (WP.af (I.f (.ptr dV 1) (I.b q.p (st.aF 6 rfl) (I.val (v:= .n p.params.length) (L.eB rfl (((bG.all (st.aS 5 rfl)) _ p q hp bC).1) (List.length_map _)) (I.bR (L.lss rfl rfl) (fun c2=> ?_) (fun c2=> ?_))))))
   ·replace c2:k<p.params.length:=by omega
    obtain ⟨y,hy⟩:=fp (l:=p.params) (i:=k) (by omega)
    refine I.bh (WP.skip (WP.seq (WP.block (WP.draw (ae.v s6 (ae.val (v:= .agg [L.str m.name, .n m.at_,w.i,w.v,w.p]) (L.eg rfl (st.aF 2 rfl) rfl rfl rfl) (ae.val (v:= .agg [b0,z2,z3,z4,z5,da]) (L.eg rfl (st.aF 3 rfl) rfl rfl rfl) (ae.f (.ptr dV 1) (ae.b q.p (st.aF 6 rfl) (ae.v (.n k) (ae.val (v:= .ptr (ck q.p) (cu q.p+k * 3)) (L.bQ (Rows.av (((bG.all (st.aS 5 rfl)) _ p q hp bC).1) (by rw [List.length_map];exact c2)) rfl (by rw [List.length_map];exact c2)) (ae.f (.ptr (ck q.p) (cu q.p+k * 3+1)) (ae.val (v:=L.str y.label) (L.load rfl (Rows.kH (i:=k) (j:=1) (((bG.all (st.aS 5 rfl)) _ p q hp bC).1) (by rw [List.getElem?_map,hy];rfl) rfl)) ?_)))))))))))))
    refine ae.f (.ptr dV 1) (ae.b q.p (st.aF 6 rfl) (ae.v (.n k) (ae.val (v:= .ptr (ck q.p) (cu q.p+k * 3)) (L.bQ (Rows.av (((bG.all (st.aS 5 rfl)) _ p q hp bC).1) (by rw [List.length_map];exact c2)) rfl (by rw [List.length_map];exact c2)) (ae.f (.ptr (ck q.p) (cu q.p+k * 3+2)) (ae.val (v:= .n y.at_) (L.load rfl (Rows.kH (i:=k) (j:=2) (((bG.all (st.aS 5 rfl)) _ p q hp bC).1) (by rw [List.getElem?_map,hy];rfl) rfl)) ?_)))))
    refine ae.bD rfl (EP D.q (n:=y.label) (a:=y.at_) gH (st.pick 1 rfl)) (fun hE h st=>rfl) ?_
    intro hE h st
    have IA:=Fc.nw m.name NS (y.label,y.at_)
    refine ae.nh st 2 rfl rfl rfl (st.aS 0 rfl) (by decide) (by simp only [List.length_append,List.length_map];omega) (fun _ _ h st=>rfl) (fun BW xv h st=> ?_)
    rw [show ((Fc.h4 m++(Fc.eh m).flatMap (Fc.unk m.name NS)++(m.procs.take j).flatMap (Fc.fE m.name NS)++((Fc.gM p).take k).flatMap (Fc.unk m.name NS)).map Fc.b6.row)++((Fc.unk m.name NS (y.label,y.at_)).map Fc.b6.row)=(Fc.h4 m++(Fc.eh m).flatMap (Fc.unk m.name NS)++(m.procs.take j).flatMap (Fc.fE m.name NS)++((Fc.gM p).take (k+1)).flatMap (Fc.unk m.name NS)).map Fc.b6.row from by rw [←List.map_append,List.append_assoc,←Fc.rO (Fc.unk m.name NS) (show (Fc.gM p)[k]? =some (y.label,y.at_) from by unfold Fc.gM;rw [List.getElem?_map,hy];rfl)]] at st
    have p2:=(st.et 2 rfl).cells
    replace st:ak (.ay (fun h=>cz h b0 NS):: .acc BW 4 xv ((Fc.h4 m++(Fc.eh m).flatMap (Fc.unk m.name NS)++(m.procs.take j).flatMap (Fc.fE m.name NS)++((Fc.gM p).take (k+1)).flatMap (Fc.unk m.name NS)).map Fc.b6.row):: .box bV [L.str m.name, .n m.at_,w.i,w.v,w.p]:: .box ch [b0,z2,z3,z4,z5,da]:: .box res [.U, .U]:: .ay (fun h=>bG h m w):: .box dV [L.str p.name,q.p, .bool p.has,L.str p.result,L.str p.bI,q.u,q.b, .n p.at_]::fs) h:=st.tail
    refine ae.az xv (ae.nil (WP.aG (I.bX (v:= .n (k+1)) L.cB (I.nil ?_))))
    exact ⟨k+1,(by omega),BW,xv,(.bool true),by omega,by kernel_rfl,(st.pick 1 rfl)⟩
   ·replace c2:¬(k<p.params.length):=by omega
    rw [List.take_of_length_le (show (Fc.gM p).length≤k by omega)] at st Ng
    refine I.aY (WP.exit (WP.seq (WP.af (I.f (.ptr dV 2) ?_))))
    have jb:=Fc.nw m.name NS (p.result,p.at_)
    rcases ug p.has with hb|hb
    ·refine I.bX (v:= .bool false) ((L.iM rfl (st.aF 6 rfl) rfl).trans (by rw [hb])) (I.aY (WP.skip (WP.aG (I.val (v:= .agg [L.str m.name, .n m.at_,w.i,w.v,w.p]) (L.eg rfl (st.aF 2 rfl) rfl rfl rfl) (I.val (v:= .agg [b0,z2,z3,z4,z5,da]) (L.eg rfl (st.aF 3 rfl) rfl rfl rfl) (I.f (.ptr dV 4) (I.b (L.str p.bI) (st.aF 6 rfl) (I.f (.ptr dV 7) (I.b (.n p.at_) (st.aF 6 rfl) (I.bD rfl (EP D.q (n:=p.bI) (a:=p.at_) gH (st.pick 1 rfl)) ?_))))))))))
     intro hE h st
     have IA:=Fc.nw m.name NS (p.bI,p.at_)
     refine I.gJ st 2 rfl rfl rfl (st.aS 0 rfl) (by decide) (by simp only [List.length_append,List.length_map];omega) (fun zn xw h st=> ?_)
     rw [show ((Fc.h4 m++(Fc.eh m).flatMap (Fc.unk m.name NS)++(m.procs.take j).flatMap (Fc.fE m.name NS)++(Fc.gM p).flatMap (Fc.unk m.name NS)).map Fc.b6.row)++((Fc.unk m.name NS (p.bI,p.at_)).map Fc.b6.row)=(Fc.h4 m++(Fc.eh m).flatMap (Fc.unk m.name NS)++(m.procs.take (j+1)).flatMap (Fc.fE m.name NS)).map Fc.b6.row from by rw [←List.map_append,Fc.rO _ hp,Fc.fE,hb];simp only [if_true,List.append_nil,List.append_assoc,Bool.false_eq_true,if_false,reduceIte]] at st
     have EK:=(st.et 2 rfl).cells
     replace st:ak (.ay (fun h=>cz h b0 NS):: .acc zn 4 xw ((Fc.h4 m++(Fc.eh m).flatMap (Fc.unk m.name NS)++(m.procs.take (j+1)).flatMap (Fc.fE m.name NS)).map Fc.b6.row):: .box bV [L.str m.name, .n m.at_,w.i,w.v,w.p]:: .box ch [b0,z2,z3,z4,z5,da]:: .box res [.U, .U]:: .ay (fun h=>bG h m w):: .box dV [L.str p.name,q.p, .bool p.has,L.str p.result,L.str p.bI,q.u,q.b, .n p.at_]::fs) h:=st.tail
     refine I.nil (WP.aG (I.bX (v:= .n (j+1)) L.cB (I.nil ?_)))
     exact ⟨j+1,(by omega),zn,xw,(.bool true),(.ptr dV 0),(.n k),(.bool false),(.bool false),by omega,by kernel_rfl,((st.pick 6 rfl).tail.pick 1 rfl)⟩
    ·refine I.bX (v:= .bool true) ((L.iM rfl (st.aF 6 rfl) rfl).trans (by rw [hb])) (I.bh (WP.aG (I.val (v:= .agg [L.str m.name, .n m.at_,w.i,w.v,w.p]) (L.eg rfl (st.aF 2 rfl) rfl rfl rfl) (I.val (v:= .agg [b0,z2,z3,z4,z5,da]) (L.eg rfl (st.aF 3 rfl) rfl rfl rfl) (I.f (.ptr dV 3) (I.b (L.str p.result) (st.aF 6 rfl) (I.f (.ptr dV 7) (I.b (.n p.at_) (st.aF 6 rfl) (I.bD rfl (EP D.q (n:=p.result) (a:=p.at_) gH (st.pick 1 rfl)) ?_)))))))))
     intro hE h st
     have IA:=Fc.nw m.name NS (p.result,p.at_)
     refine I.gJ st 2 rfl rfl rfl (st.aS 0 rfl) (by decide) (by simp only [List.length_append,List.length_map];omega) (fun Np Nq h st=> ?_)
     rw [show ((Fc.h4 m++(Fc.eh m).flatMap (Fc.unk m.name NS)++(m.procs.take j).flatMap (Fc.fE m.name NS)++(Fc.gM p).flatMap (Fc.unk m.name NS)).map Fc.b6.row)++((Fc.unk m.name NS (p.result,p.at_)).map Fc.b6.row)=(Fc.h4 m++(Fc.eh m).flatMap (Fc.unk m.name NS)++(m.procs.take j).flatMap (Fc.fE m.name NS)++(Fc.gM p).flatMap (Fc.unk m.name NS)++Fc.unk m.name NS (p.result,p.at_)).map Fc.b6.row from by rw [←List.map_append]] at st
     have Nr:=(st.et 2 rfl).cells
     replace st:ak (.ay (fun h=>cz h b0 NS):: .acc Np 4 Nq ((Fc.h4 m++(Fc.eh m).flatMap (Fc.unk m.name NS)++(m.procs.take j).flatMap (Fc.fE m.name NS)++(Fc.gM p).flatMap (Fc.unk m.name NS)++Fc.unk m.name NS (p.result,p.at_)).map Fc.b6.row):: .box bV [L.str m.name, .n m.at_,w.i,w.v,w.p]:: .box ch [b0,z2,z3,z4,z5,da]:: .box res [.U, .U]:: .ay (fun h=>bG h m w):: .box dV [L.str p.name,q.p, .bool p.has,L.str p.result,L.str p.bI,q.u,q.b, .n p.at_]::fs) h:=st.tail
     refine I.nil (WP.aG (I.val (v:= .agg [L.str m.name, .n m.at_,w.i,w.v,w.p]) (L.eg rfl (st.aF 2 rfl) rfl rfl rfl) (I.val (v:= .agg [b0,z2,z3,z4,z5,da]) (L.eg rfl (st.aF 3 rfl) rfl rfl rfl) (I.f (.ptr dV 4) (I.b (L.str p.bI) (st.aF 6 rfl) (I.f (.ptr dV 7) (I.b (.n p.at_) (st.aF 6 rfl) (I.bD rfl (EP D.q (n:=p.bI) (a:=p.at_) gH st) ?_))))))))
     intro hE h st
     have IA:=Fc.nw m.name NS (p.bI,p.at_)
     refine I.gJ st 2 rfl rfl rfl (st.aS 0 rfl) (by decide) (by simp only [List.length_append,List.length_map];omega) (fun Iv Iw h st=> ?_)
     rw [show ((Fc.h4 m++(Fc.eh m).flatMap (Fc.unk m.name NS)++(m.procs.take j).flatMap (Fc.fE m.name NS)++(Fc.gM p).flatMap (Fc.unk m.name NS)++Fc.unk m.name NS (p.result,p.at_)).map Fc.b6.row)++((Fc.unk m.name NS (p.bI,p.at_)).map Fc.b6.row)=(Fc.h4 m++(Fc.eh m).flatMap (Fc.unk m.name NS)++(m.procs.take (j+1)).flatMap (Fc.fE m.name NS)).map Fc.b6.row from by rw [←List.map_append,Fc.rO _ hp,Fc.fE,hb];simp only [if_true,List.append_nil,List.append_assoc,Bool.false_eq_true,if_false,reduceIte]] at st
     have aeA:=(st.et 2 rfl).cells
     replace st:ak (.ay (fun h=>cz h b0 NS):: .acc Iv 4 Iw ((Fc.h4 m++(Fc.eh m).flatMap (Fc.unk m.name NS)++(m.procs.take (j+1)).flatMap (Fc.fE m.name NS)).map Fc.b6.row):: .box bV [L.str m.name, .n m.at_,w.i,w.v,w.p]:: .box ch [b0,z2,z3,z4,z5,da]:: .box res [.U, .U]:: .ay (fun h=>bG h m w):: .box dV [L.str p.name,q.p, .bool p.has,L.str p.result,L.str p.bI,q.u,q.b, .n p.at_]::fs) h:=st.tail
     refine I.nil (WP.aG (I.bX (v:= .n (j+1)) L.cB (I.nil ?_)))
     exact ⟨j+1,(by omega),Iv,Iw,(.bool true),(.ptr dV 0),(.n k),(.bool false),(.bool true),by omega,by kernel_rfl,((st.pick 6 rfl).tail.pick 1 rfl)⟩
  ·replace c1:¬(j<m.procs.length):=by omega
   rw [List.take_of_length_le (show m.procs.length≤j by omega),List.append_assoc] at st
   refine I.aY (WP.exit (WP.seq (WP.af (I.val (v:= .int .i64 ((Fc.jj m NS).length:Int)) (L.eB rfl (st.rB 0 rfl (by decide)) (List.length_map _)) (I.bR (L.gtr rfl rfl) (fun dj=> ?_) (fun dj=> ?_))))))
   ·replace dj:Fc.jj m NS≠[]:=fun e=>by rw [e] at dj;simp at dj
    refine I.bh (WP.af (I.val (v:= .agg [.U, .U]) (L.build rfl) (I.cc [.U, .U] st 4 rfl (fun h st=> ?_))))
    refine I.az oa (I.rt (⟨_,(cT (fb (l:=[.U, .U]) rfl (L.e6 (st.aF 4 rfl) rfl rfl rfl)) (ca oa)), .U, .U,oa,rfl, ?_⟩))
    rw [show Fc.vP m NS=[] from if_neg dj,show Fc.uv m NS=[] from if_neg dj]
    exact ak.nn (P:=fun h=>pI h .U .U [] []) (((((st.pick 2 rfl).tail.pick 2 rfl).tail.pick 2 rfl).tail).shut (by decide)) fun h=>pI.none h
   ·replace dj:Fc.jj m NS=[]:=by cases Nj:Fc.jj m NS with|nil=>rfl|cons a l=>rw [Nj] at dj;simp at dj
    refine I.aY (WP.skip (WP.af (I.val (v:= .agg [L.str m.name, .n m.at_,w.i,w.v,w.p]) (L.eg rfl (st.aF 2 rfl) rfl rfl rfl) (I.bD rfl (aeV D.e ok (NS:=NS) dj (st.pick 5 rfl)) ?_))))
    rintro _ h ⟨eX,mF,rfl,st⟩
    refine I.cc [eX,mF] st 6 rfl (fun h st=> ?_)
    refine I.az .U (I.rt (⟨_,(cT (fb (l:=[eX,mF]) rfl (L.e6 (st.aF 6 rfl) rfl rfl rfl)) (ca .U)),eX,mF, .U,rfl, ?_⟩))
    rw [show Fc.vP m NS=Fc.uk m from if_pos dj,show Fc.uv m NS=Fc.qD m from if_pos dj,dj]
    exact (ak.nn (P:=fun h=>Rows 4 h .U (([]:List Fc.b6).map Fc.b6.row)) (((((((st.pick 2 rfl).tail.pick 3 rfl).tail.pick 3 rfl).tail.pick 3 rfl).tail.pick 2 rfl).pick 1 rfl)) fun _=> .nil).pick 1 rfl
end
end Go.Eng.YtmcjcbldmoijiaaGreatDoor
namespace Go.Eng.YtmcjcbldmoijiaaGreatDoor
open Go.Eng
noncomputable section
variable {c:Ctx}
structure gO (c:Ctx):Prop where
 f7:T.get 7 c.cF=some i7
 f23:T.get 23 c.cF=some i23
 f24:T.get 24 c.cF=some i24
 f51:T.get 51 c.cF=some i51
 f52:T.get 52 c.cF=some i52
 f53:T.get 53 c.cF=some i53
 f54:T.get 54 c.cF=some i54
 f55:T.get 55 c.cF=some i55
 f56:T.get 56 c.cF=some i56
 f57:T.get 57 c.cF=some i57
 f58:T.get 58 c.cF=some i58
 f59:T.get 59 c.cF=some i59
 f60:T.get 60 c.cF=some i60
 f61:T.get 61 c.cF=some i61
 f68:T.get 68 c.cF=some i68
 f82:T.get 82 c.cF=some i82
 f83:T.get 83 c.cF=some i83
 f84:T.get 84 c.cF=some i84
 f110:T.get 110 c.cF=some i110
 f111:T.get 111 c.cF=some i111
 f140:T.get 140 c.cF=some i140
 f141:T.get 141 c.cF=some i141
 f142:T.get 142 c.cF=some i142
 f157:T.get 157 c.cF=some i157
 f158:T.get 158 c.cF=some i158
 f164:T.get 164 c.cF=some i164
 f165:T.get 165 c.cF=some i165
theorem IB (D:gO c) {fs:List Fact} {h:ag} {b:UInt8} (st:ak fs h):
 bU c 51 [.int .u8 (b.toNat:Int)] h fun v h1=>v= .bool (Lex.small b)∧ak fs h1:=by
 refine bU.dR D.f51 rfl (WP.af (I.az (.bool false) (I.af (I.eo (L.geq rfl rfl) (fun c1=> ?_) (fun c1=> ?_)))))
 ·replace c1:b.toNat≥97:=by omega
  refine I.yes rfl (I.v (.int .u8 (b.toNat:Int)) (I.yes rfl (I.eo (L.leq rfl rfl) (fun c2=> ?_) (fun c2=> ?_))))
  ·replace c2:b.toNat≤122:=by omega
   refine I.az (.bool true) (I.rt ?_)
   exact ⟨_,(ca (.bool true)),(by simp [Lex.small,one, *]<;>omega),st⟩
  ·replace c2:¬(b.toNat≤122):=by omega
   refine I.az (.bool false) (I.rt ?_)
   exact ⟨_,(ca (.bool false)),(by simp [Lex.small,one, *]<;>omega),st⟩
 ·replace c1:¬(b.toNat≥97):=by omega
  refine I.eP (I.az (.bool false) (I.rt ?_))
  exact ⟨_,(ca (.bool false)),(by simp [Lex.small,one, *]<;>omega),st⟩
theorem Nu (D:gO c) {fs:List Fact} {h:ag} {b:UInt8} (st:ak fs h):
 bU c 52 [.int .u8 (b.toNat:Int)] h fun v h1=>v= .bool (Lex.digit b)∧ak fs h1:=by
 refine bU.dR D.f52 rfl (WP.af (I.az (.bool false) (I.af (I.eo (L.geq rfl rfl) (fun c1=> ?_) (fun c1=> ?_)))))
 ·replace c1:b.toNat≥48:=by omega
  refine I.yes rfl (I.v (.int .u8 (b.toNat:Int)) (I.yes rfl (I.eo (L.leq rfl rfl) (fun c2=> ?_) (fun c2=> ?_))))
  ·replace c2:b.toNat≤57:=by omega
   refine I.az (.bool true) (I.rt ?_)
   exact ⟨_,(ca (.bool true)),(by simp [Lex.digit,one, *]<;>omega),st⟩
  ·replace c2:¬(b.toNat≤57):=by omega
   refine I.az (.bool false) (I.rt ?_)
   exact ⟨_,(ca (.bool false)),(by simp [Lex.digit,one, *]<;>omega),st⟩
 ·replace c1:¬(b.toNat≥48):=by omega
  refine I.eP (I.az (.bool false) (I.rt ?_))
  exact ⟨_,(ca (.bool false)),(by simp [Lex.digit,one, *]<;>omega),st⟩
theorem ae6 (D:gO c) {fs:List Fact} {h:ag} {x:List UInt8} (st:ak fs h):
 bU c 53 [L.str x] h fun v h1=>v= .bool (decide (x∈Lex.keys))∧ak fs h1:=by
 refine bU.dR D.f53 rfl (WP.af (I.az (.bool false) (I.nil (WP.seq (WP.af (I.az (L.str x) (I.nil (WP.block (WP.seq (WP.af (I.bR (L.seq (m:=[109,111,100,117,108,101]) rfl rfl) (fun c1=> ?_) (fun c1=> ?_))))))))))))
 ·refine I.bh (WP.skip (WP.cond (t:=true) rfl (WP.af (I.az (.bool true) (I.rt ?_)))))
  exact ⟨_,(ca (.bool true)),(by simp [Lex.keys,one, *]),st⟩
 ·refine I.aY (WP.af (I.bR (L.seq (m:=[105,109,112,111,114,116]) rfl rfl) (fun c2=> ?_) (fun c2=> ?_)))
  ·refine I.bh (WP.skip (WP.cond (t:=true) rfl (WP.af (I.az (.bool true) (I.rt ?_)))))
   exact ⟨_,(ca (.bool true)),(by simp [Lex.keys,one, *]),st⟩
  ·refine I.aY (WP.af (I.bR (L.seq (m:=[118,97,114]) rfl rfl) (fun cI=> ?_) (fun cI=> ?_)))
   ·refine I.bh (WP.skip (WP.cond (t:=true) rfl (WP.af (I.az (.bool true) (I.rt ?_)))))
    exact ⟨_,(ca (.bool true)),(by simp [Lex.keys,one, *]),st⟩
   ·refine I.aY (WP.af (I.bR (L.seq (m:=[112,114,111,99]) rfl rfl) (fun dv=> ?_) (fun dv=> ?_)))
    ·refine I.bh (WP.skip (WP.cond (t:=true) rfl (WP.af (I.az (.bool true) (I.rt ?_)))))
     exact ⟨_,(ca (.bool true)),(by simp [Lex.keys,one, *]),st⟩
    ·refine I.aY (WP.af (I.bR (L.seq (m:=[112,99]) rfl rfl) (fun eu=> ?_) (fun eu=> ?_)))
     ·refine I.bh (WP.skip (WP.cond (t:=true) rfl (WP.af (I.az (.bool true) (I.rt ?_)))))
      exact ⟨_,(ca (.bool true)),(by simp [Lex.keys,one, *]),st⟩
     ·refine I.aY (WP.af (I.bR (L.seq (m:=[117,115,101,115]) rfl rfl) (fun fG=> ?_) (fun fG=> ?_)))
      ·refine I.bh (WP.skip (WP.cond (t:=true) rfl (WP.af (I.az (.bool true) (I.rt ?_)))))
       exact ⟨_,(ca (.bool true)),(by simp [Lex.keys,one, *]),st⟩
      ·refine I.aY (WP.af (I.bR (L.seq (m:=[108,101,116]) rfl rfl) (fun jM=> ?_) (fun jM=> ?_)))
       ·refine I.bh (WP.skip (WP.cond (t:=true) rfl (WP.af (I.az (.bool true) (I.rt ?_)))))
        exact ⟨_,(ca (.bool true)),(by simp [Lex.keys,one, *]),st⟩
       ·refine I.aY (WP.af (I.bR (L.seq (m:=[99,97,108,108]) rfl rfl) (fun jk=> ?_) (fun jk=> ?_)))
        ·refine I.bh (WP.skip (WP.cond (t:=true) rfl (WP.af (I.az (.bool true) (I.rt ?_)))))
         exact ⟨_,(ca (.bool true)),(by simp [Lex.keys,one, *]),st⟩
        ·refine I.aY (WP.af (I.bR (L.seq (m:=[105,102]) rfl rfl) (fun dS=> ?_) (fun dS=> ?_)))
         ·refine I.bh (WP.skip (WP.cond (t:=true) rfl (WP.af (I.az (.bool true) (I.rt ?_)))))
          exact ⟨_,(ca (.bool true)),(by simp [Lex.keys,one, *]),st⟩
         ·refine I.aY (WP.af (I.bR (L.seq (m:=[101,108,115,101]) rfl rfl) (fun kB=> ?_) (fun kB=> ?_)))
          ·refine I.bh (WP.skip (WP.cond (t:=true) rfl (WP.af (I.az (.bool true) (I.rt ?_)))))
           exact ⟨_,(ca (.bool true)),(by simp [Lex.keys,one, *]),st⟩
          ·refine I.aY (WP.af (I.bR (L.seq (m:=[119,104,105,108,101]) rfl rfl) (fun k5=> ?_) (fun k5=> ?_)))
           ·refine I.bh (WP.skip (WP.cond (t:=true) rfl (WP.af (I.az (.bool true) (I.rt ?_)))))
            exact ⟨_,(ca (.bool true)),(by simp [Lex.keys,one, *]),st⟩
           ·refine I.aY (WP.af (I.bR (L.seq (m:=[101,109,105,116]) rfl rfl) (fun pN=> ?_) (fun pN=> ?_)))
            ·refine I.bh (WP.skip (WP.cond (t:=true) rfl (WP.af (I.az (.bool true) (I.rt ?_)))))
             exact ⟨_,(ca (.bool true)),(by simp [Lex.keys,one, *]),st⟩
            ·refine I.aY (WP.af (I.bR (L.seq (m:=[114,101,115,117,108,116]) rfl rfl) (fun qK=> ?_) (fun qK=> ?_)))
             ·refine I.bh (WP.skip (WP.cond (t:=true) rfl (WP.af (I.az (.bool true) (I.rt ?_)))))
              exact ⟨_,(ca (.bool true)),(by simp [Lex.keys,one, *]),st⟩
             ·refine I.aY (WP.af (I.bR (L.seq (m:=[115,107,105,112]) rfl rfl) (fun rY=> ?_) (fun rY=> ?_)))
              ·refine I.bh (WP.skip (WP.cond (t:=true) rfl (WP.af (I.az (.bool true) (I.rt ?_)))))
               exact ⟨_,(ca (.bool true)),(by simp [Lex.keys,one, *]),st⟩
              ·refine I.aY (WP.aG (I.bR (L.seq (m:=[108,97,98,101,108,115]) rfl rfl) (fun s7=> ?_) (fun s7=> ?_)))
               ·refine I.bh (WP.af (I.az (.bool true) (I.rt ?_)))
                exact ⟨_,(ca (.bool true)),(by simp [Lex.keys,one, *]),st⟩
               ·refine I.aY (WP.skip (WP.af (I.az (.bool false) (I.rt ?_))))
                exact ⟨_,(ca (.bool false)),(by simp [Lex.keys,one, *]),st⟩
theorem ae7 (D:gO c) {fs:List Fact} {h:ag} {s:List UInt8} {i:Nat} (st:ak fs h) (aq:i<s.length) (aC:s.length<4294967296):
 bU c 54 [L.str s, .n i] h fun v h1=>v=L.str (Lex.sign (s.drop i))∧ak fs h1:=by
 obtain ⟨b,hb⟩:∃b,s[i]? =some b:=⟨_,List.getElem?_eq_getElem aq⟩
 obtain ⟨r,aX⟩:∃r,s.drop i=b::r:=⟨_,by obtain ⟨_,rfl⟩:=List.getElem?_eq_some_iff.1 hb;exact List.drop_eq_getElem_cons aq⟩
 refine bU.dR D.f54 rfl (WP.af (I.az (.str 0 0) (I.nil (WP.yx (fun env h=>∃z2 z3 z4 z5,((b::r).take 2∉Lex.mB)∧env=cM [L.str s, .n i,z2,z3,z4,z5] 0 Env.nil∧ak (fs) h) ?_ ?_))))
 ·refine WP.af (I.val (v:= .n (i+1)) L.cB (I.val (v:= .n s.length) (L.qo rfl) (I.bR (L.lss rfl rfl) (fun c1=> ?_) (fun c1=> ?_))))
  ·replace c1:i+2≤s.length:=by omega
   refine I.bh (WP.af (I.val (v:= .n (i+2)) L.cB (I.bX (v:=L.str ((s.drop i).take 2)) (L.rQ rfl rfl rfl (by omega) (by omega) (by rw [show i+2 - i=2 by omega])) ?_)))
   refine I.nil (WP.block (WP.seq (WP.af (I.bR (L.seq (m:=[61,61]) rfl rfl) (fun c1=> ?_) (fun c1=> ?_)))))
   ·refine I.bh (WP.skip (WP.cond (t:=true) rfl (WP.af (I.val (v:= .n (i+2)) L.cB (I.bX (v:=L.str ((s.drop i).take 2)) (L.rQ rfl rfl rfl (by omega) (by omega) (by rw [show i+2 - i=2 by omega])) ?_)))))
    refine I.rt ?_
    have cJ:Lex.sign (s.drop i)=(s.drop i).take 2:=MV (by rw [c1];decide) rfl
    rw [cJ]
    exact ⟨_,(ca (L.str ((s.drop i).take 2))),rfl,st⟩
   ·refine I.aY (WP.af (I.bR (L.seq (m:=[60,61]) rfl rfl) (fun c2=> ?_) (fun c2=> ?_)))
    ·refine I.bh (WP.skip (WP.cond (t:=true) rfl (WP.af (I.val (v:= .n (i+2)) L.cB (I.bX (v:=L.str ((s.drop i).take 2)) (L.rQ rfl rfl rfl (by omega) (by omega) (by rw [show i+2 - i=2 by omega])) ?_)))))
     refine I.rt ?_
     have cJ:Lex.sign (s.drop i)=(s.drop i).take 2:=MV (by rw [c2];decide) rfl
     rw [cJ]
     exact ⟨_,(ca (L.str ((s.drop i).take 2))),rfl,st⟩
    ·refine I.aY (WP.aG (I.bR (L.seq (m:=[45,62]) rfl rfl) (fun cI=> ?_) (fun cI=> ?_)))
     ·refine I.bh (WP.af (I.val (v:= .n (i+2)) L.cB (I.bX (v:=L.str ((s.drop i).take 2)) (L.rQ rfl rfl rfl (by omega) (by omega) (by rw [show i+2 - i=2 by omega])) ?_)))
      refine I.rt ?_
      have cJ:Lex.sign (s.drop i)=(s.drop i).take 2:=MV (by rw [cI];decide) rfl
      rw [cJ]
      exact ⟨_,(ca (L.str ((s.drop i).take 2))),rfl,st⟩
     ·refine I.aY (WP.skip ?_)
      exact ⟨(.str 0 0),(.bool true),(L.str ((s.drop i).take 2)),(.bool false),(by rw [←aX];simp [Lex.mB,c1,c2,cI]),by kernel_rfl,st⟩
  ·replace c1:¬i+2≤s.length:=by omega
   refine I.aY (WP.skip ?_)
   exact ⟨(.str 0 0),(.bool false), .bot, .bot,(by intro hm;have h2:=acT hm;rw [←aX,List.length_drop] at h2;omega),by kernel_rfl,st⟩
 ·rintro _ h ⟨z2,z3,z4,z5,Qu,rfl,st⟩
  have jT:=sign_one Qu
  refine WP.seq (WP.af (I.bX (v:= .int .u8 (b.toNat:Int)) (L.rA (b:=b) rfl rfl hb) (I.nil (WP.block (WP.yx (fun env h=>env=cM [L.str s, .n i,z2,z3,z4,z5, .int .u8 (b.toNat:Int), .bool (decide (b∈Lex.gB))] 0 Env.nil∧ak (fs) h) ?_ ?_)))))
  ·refine WP.af (I.bR (L.eql rfl rfl) (fun dv=> ?_) (fun dv=> ?_))
   ·replace dv:b.toNat=40:=by omega
    refine I.bh (WP.skip ?_)
    have aE:decide (b∈Lex.gB)=true:=by simp [Lex.gB,←UInt8.toNat_inj,dv]
    rw [aE]
    exact ⟨by kernel_rfl,st⟩
   ·replace dv:¬(b.toNat=40):=by omega
    refine I.aY (WP.af (I.bR (L.eql rfl rfl) (fun eu=> ?_) (fun eu=> ?_)))
    ·replace eu:b.toNat=41:=by omega
     refine I.bh (WP.skip ?_)
     have aE:decide (b∈Lex.gB)=true:=by simp [Lex.gB,←UInt8.toNat_inj,dv,eu]
     rw [aE]
     exact ⟨by kernel_rfl,st⟩
    ·replace eu:¬(b.toNat=41):=by omega
     refine I.aY (WP.af (I.bR (L.eql rfl rfl) (fun fG=> ?_) (fun fG=> ?_)))
     ·replace fG:b.toNat=123:=by omega
      refine I.bh (WP.skip ?_)
      have aE:decide (b∈Lex.gB)=true:=by simp [Lex.gB,←UInt8.toNat_inj,dv,eu,fG]
      rw [aE]
      exact ⟨by kernel_rfl,st⟩
     ·replace fG:¬(b.toNat=123):=by omega
      refine I.aY (WP.af (I.bR (L.eql rfl rfl) (fun jM=> ?_) (fun jM=> ?_)))
      ·replace jM:b.toNat=125:=by omega
       refine I.bh (WP.skip ?_)
       have aE:decide (b∈Lex.gB)=true:=by simp [Lex.gB,←UInt8.toNat_inj,dv,eu,fG,jM]
       rw [aE]
       exact ⟨by kernel_rfl,st⟩
      ·replace jM:¬(b.toNat=125):=by omega
       refine I.aY (WP.af (I.bR (L.eql rfl rfl) (fun jk=> ?_) (fun jk=> ?_)))
       ·replace jk:b.toNat=44:=by omega
        refine I.bh (WP.skip ?_)
        have aE:decide (b∈Lex.gB)=true:=by simp [Lex.gB,←UInt8.toNat_inj,dv,eu,fG,jM,jk]
        rw [aE]
        exact ⟨by kernel_rfl,st⟩
       ·replace jk:¬(b.toNat=44):=by omega
        refine I.aY (WP.af (I.bR (L.eql rfl rfl) (fun dS=> ?_) (fun dS=> ?_)))
        ·replace dS:b.toNat=59:=by omega
         refine I.bh (WP.skip ?_)
         have aE:decide (b∈Lex.gB)=true:=by simp [Lex.gB,←UInt8.toNat_inj,dv,eu,fG,jM,jk,dS]
         rw [aE]
         exact ⟨by kernel_rfl,st⟩
        ·replace dS:¬(b.toNat=59):=by omega
         refine I.aY (WP.af (I.bR (L.eql rfl rfl) (fun kB=> ?_) (fun kB=> ?_)))
         ·replace kB:b.toNat=58:=by omega
          refine I.bh (WP.skip ?_)
          have aE:decide (b∈Lex.gB)=true:=by simp [Lex.gB,←UInt8.toNat_inj,dv,eu,fG,jM,jk,dS,kB]
          rw [aE]
          exact ⟨by kernel_rfl,st⟩
         ·replace kB:¬(b.toNat=58):=by omega
          refine I.aY (WP.af (I.bR (L.eql rfl rfl) (fun k5=> ?_) (fun k5=> ?_)))
          ·replace k5:b.toNat=46:=by omega
           refine I.bh (WP.skip ?_)
           have aE:decide (b∈Lex.gB)=true:=by simp [Lex.gB,←UInt8.toNat_inj,dv,eu,fG,jM,jk,dS,kB,k5]
           rw [aE]
           exact ⟨by kernel_rfl,st⟩
          ·replace k5:¬(b.toNat=46):=by omega
           refine I.aY (WP.af (I.bR (L.eql rfl rfl) (fun pN=> ?_) (fun pN=> ?_)))
           ·replace pN:b.toNat=61:=by omega
            refine I.bh (WP.skip ?_)
            have aE:decide (b∈Lex.gB)=true:=by simp [Lex.gB,←UInt8.toNat_inj,dv,eu,fG,jM,jk,dS,kB,k5,pN]
            rw [aE]
            exact ⟨by kernel_rfl,st⟩
           ·replace pN:¬(b.toNat=61):=by omega
            refine I.aY (WP.af (I.bR (L.eql rfl rfl) (fun qK=> ?_) (fun qK=> ?_)))
            ·replace qK:b.toNat=60:=by omega
             refine I.bh (WP.skip ?_)
             have aE:decide (b∈Lex.gB)=true:=by simp [Lex.gB,←UInt8.toNat_inj,dv,eu,fG,jM,jk,dS,kB,k5,pN,qK]
             rw [aE]
             exact ⟨by kernel_rfl,st⟩
            ·replace qK:¬(b.toNat=60):=by omega
             refine I.aY (WP.af (I.bR (L.eql rfl rfl) (fun rY=> ?_) (fun rY=> ?_)))
             ·replace rY:b.toNat=43:=by omega
              refine I.bh (WP.skip ?_)
              have aE:decide (b∈Lex.gB)=true:=by simp [Lex.gB,←UInt8.toNat_inj,dv,eu,fG,jM,jk,dS,kB,k5,pN,qK,rY]
              rw [aE]
              exact ⟨by kernel_rfl,st⟩
             ·replace rY:¬(b.toNat=43):=by omega
              refine I.aY (WP.af (I.bR (L.eql rfl rfl) (fun s7=> ?_) (fun s7=> ?_)))
              ·replace s7:b.toNat=45:=by omega
               refine I.bh (WP.skip ?_)
               have aE:decide (b∈Lex.gB)=true:=by simp [Lex.gB,←UInt8.toNat_inj,dv,eu,fG,jM,jk,dS,kB,k5,pN,qK,rY,s7]
               rw [aE]
               exact ⟨by kernel_rfl,st⟩
              ·replace s7:¬(b.toNat=45):=by omega
               refine I.aY (WP.af (I.bR (L.eql rfl rfl) (fun xC=> ?_) (fun xC=> ?_)))
               ·replace xC:b.toNat=42:=by omega
                refine I.bh (WP.skip ?_)
                have aE:decide (b∈Lex.gB)=true:=by simp [Lex.gB,←UInt8.toNat_inj,dv,eu,fG,jM,jk,dS,kB,k5,pN,qK,rY,s7,xC]
                rw [aE]
                exact ⟨by kernel_rfl,st⟩
               ·replace xC:¬(b.toNat=42):=by omega
                refine I.aY (WP.af (I.bR (L.eql rfl rfl) (fun zt=> ?_) (fun zt=> ?_)))
                ·replace zt:b.toNat=47:=by omega
                 refine I.bh (WP.skip ?_)
                 have aE:decide (b∈Lex.gB)=true:=by simp [Lex.gB,←UInt8.toNat_inj,dv,eu,fG,jM,jk,dS,kB,k5,pN,qK,rY,s7,xC,zt]
                 rw [aE]
                 exact ⟨by kernel_rfl,st⟩
                ·replace zt:¬(b.toNat=47):=by omega
                 refine I.aY (WP.af (I.bR (L.eql rfl rfl) (fun B1=> ?_) (fun B1=> ?_)))
                 ·replace B1:b.toNat=37:=by omega
                  refine I.bh (WP.skip ?_)
                  have aE:decide (b∈Lex.gB)=true:=by simp [Lex.gB,←UInt8.toNat_inj,dv,eu,fG,jM,jk,dS,kB,k5,pN,qK,rY,s7,xC,zt,B1]
                  rw [aE]
                  exact ⟨by kernel_rfl,st⟩
                 ·replace B1:¬(b.toNat=37):=by omega
                  refine I.aY (WP.aG (I.bR (L.eql rfl rfl) (fun EV=> ?_) (fun EV=> ?_)))
                  ·replace EV:b.toNat=33:=by omega
                   refine I.nil ?_
                   have aE:decide (b∈Lex.gB)=true:=by simp [Lex.gB,←UInt8.toNat_inj,dv,eu,fG,jM,jk,dS,kB,k5,pN,qK,rY,s7,xC,zt,B1,EV]
                   rw [aE]
                   exact ⟨by kernel_rfl,st⟩
                  ·replace EV:¬(b.toNat=33):=by omega
                   refine I.nil ?_
                   have aE:decide (b∈Lex.gB)=false:=by simp [Lex.gB,←UInt8.toNat_inj,dv,eu,fG,jM,jk,dS,kB,k5,pN,qK,rY,s7,xC,zt,B1,EV]
                   rw [aE]
                   exact ⟨by kernel_rfl,st⟩
  ·rintro _ h ⟨rfl,st⟩
   by_cases IC:b∈Lex.gB
   ·rw [decide_eq_true IC]
    rw [if_pos IC] at jT
    refine WP.cond (t:=true) rfl (WP.af (I.val (v:= .n (i+1)) L.cB (I.bX (v:=L.str [b]) (L.rQ rfl rfl rfl (by omega) (by omega) (by rw [show i+1 - i=1 by omega,aX];rfl)) ?_)))
    refine I.rt ?_
    rw [aX,jT]
    exact ⟨_,(ca (L.str [b])),rfl,st⟩
   ·rw [decide_eq_false IC]
    rw [if_neg IC] at jT
    refine WP.cond (t:=false) rfl (WP.skip (WP.af (I.az (.str 0 0) (I.rt ?_))))
    rw [aX,jT]
    exact ⟨_,(ca (.str 0 0)),rfl,st⟩
theorem TW (D:gO c) {fs:List Fact} {h:ag} {s:List UInt8} (st:ak fs h):
 bU c 23 [L.str s] h fun v h1=>match Lex.lex s with
  | .ok a8=>∃x,v= .dD [x, .int .i64 0, .int .i64 0]∧ak (.ay (fun h=>Rows 3 h x (a8.map Tok.row))::fs) h1
  | .error (e,a)=>v= .dD [.U, .n e, .n a]∧ak fs h1:=by
 refine bU.dR D.f23 rfl (WP.af (I.az .U (I.az (.int .i64 0) (I.az (.int .i64 0) (I.nil (WP.seq (WP.af (I.val (v:= .n s.length) (L.qo rfl) (I.bR (L.gtr rfl rfl) (fun dj=> ?_) (fun dj=> ?_))))))))))
 ·replace dj:8192<s.length:=by omega
  refine I.bh (WP.af (I.az .U (I.az (.int .i64 9) (I.az (.int .i64 8192) (I.rt ?_)))))
  have cJ:Lex.lex s= .error (9,8192):=by unfold Lex.lex;rw [if_pos dj]
  rw [cJ]
  exact ⟨_,(cT (fS (v:= .U) rfl) (cT (fS (v:= .int .i64 9) rfl) (ca (.int .i64 8192)))),rfl,st⟩
 ·replace dj:¬(8192<s.length):=by omega
  have ae8:Lex.lex s=Lex.all (s.length+1) 0 s []:=by unfold Lex.lex;rw [if_neg dj]
  rw [ae8]
  have ec:s.length<4294967296:=by omega
  refine I.aY (WP.skip (WP.af (I.az .U (I.nil (WP.seq (WP.af (I.az (.int .i64 0) (I.nil (WP.block ?_)))))))))
  replace st:ak (.acc 0 3 .U (([]:List Tok).map Tok.row)::fs) h:=st.je 3
  refine WP.dr (α:=Nat) (fun g env h=>∃k a8 qL l2 lG fX h6 l3 qM uz rZ hI mH kg lH iG ij mI qN pO mJ oc od l4 l5,(Lex.all (s.length+1) 0 s []=Lex.all g k (s.drop k) a8∧s.length - k<g∧k≤s.length∧a8.length≤k)∧env=cM [L.str s,lG,fX,h6, .bool false, .n k,l3,qM,uz,rZ,hI,mH,kg,lH,iG,ij,mI,l2,qN,pO,mJ,oc,od,l4,l5] 0 Env.nil∧ak (.acc qL 3 l2 (a8.map Tok.row)::fs) h) (fun g=>g) (s.length+1) ?_ ?_
  ·exact ⟨0,[],0, .U, .U,(.int .i64 0),(.int .i64 0), .bot, .bot, .bot, .bot, .bot, .bot, .bot, .bot, .bot, .bot, .bot, .bot, .bot, .bot, .bot, .bot, .bot, .bot,⟨rfl,by omega,Nat.zero_le _,Nat.le_refl _⟩,by kernel_rfl,st⟩
  rintro g _ h ⟨k,a8,qL,l2,lG,fX,h6,l3,qM,uz,rZ,hI,mH,kg,lH,iG,ij,mI,qN,pO,mJ,oc,od,l4,l5,⟨aC,hg,hk,ajC⟩,rfl,st⟩
  obtain ⟨g,rfl⟩:∃m,g=m+1:=⟨g - 1,by omega⟩
  refine WP.seq (WP.af (I.val (v:= .n s.length) (L.qo rfl) (I.bR (L.lss rfl rfl) (fun c1=> ?_) (fun c1=> ?_))))
  ·replace c1:k<s.length:=by omega
   refine I.bh (WP.skip (WP.block (WP.seq (WP.aG ?_))))
   obtain ⟨b,hb⟩:∃b,s[k]? =some b:=⟨_,List.getElem?_eq_getElem (by omega)⟩
   refine I.bX (v:= .int .u8 (b.toNat:Int)) (L.rA rfl rfl hb) (I.nil (WP.block (WP.af (I.eo (L.eql rfl rfl) (fun c2=> ?_) (fun c2=> ?_)))))
   ·replace c2:b.toNat=32:=by omega
    refine I.eP (I.v (.bool true) (I.eP (I.v (.bool true) (I.eP (I.az (.bool true) (I.bh (WP.aG (I.bX (v:= .n (k+1)) L.cB (I.nil ?_)))))))))
    exact ⟨g,(Nat.lt_succ_self _),k+1,a8,qL,l2,lG,fX,h6,(.bool true),(.int .u8 (b.toNat:Int)),(.bool true),rZ,hI,mH,kg,lH,iG,ij,mI,qN,pO,mJ,oc,od,l4,l5,⟨by rw [aC,k0 hb];simp [Lex.blank,one,Lex.put,dj,c1,c2],(by omega),(by omega),(by first|omega|(simp;omega))⟩,by kernel_rfl,st⟩
   ·replace c2:¬(b.toNat=32):=by omega
    refine I.yes rfl (I.v (.int .u8 (b.toNat:Int)) (I.yes rfl (I.eo (L.eql rfl rfl) (fun cI=> ?_) (fun cI=> ?_))))
    ·replace cI:b.toNat=9:=by omega
     refine I.v (.bool true) (I.eP (I.v (.bool true) (I.eP (I.az (.bool true) (I.bh (WP.aG (I.bX (v:= .n (k+1)) L.cB (I.nil ?_))))))))
     exact ⟨g,(Nat.lt_succ_self _),k+1,a8,qL,l2,lG,fX,h6,(.bool true),(.int .u8 (b.toNat:Int)),(.bool true),rZ,hI,mH,kg,lH,iG,ij,mI,qN,pO,mJ,oc,od,l4,l5,⟨by rw [aC,k0 hb];simp [Lex.blank,one,Lex.put,dj,c1,c2,cI],(by omega),(by omega),(by first|omega|(simp;omega))⟩,by kernel_rfl,st⟩
    ·replace cI:¬(b.toNat=9):=by omega
     refine I.v (.bool false) (I.yes rfl (I.v (.int .u8 (b.toNat:Int)) (I.yes rfl (I.eo (L.eql rfl rfl) (fun dv=> ?_) (fun dv=> ?_)))))
     ·replace dv:b.toNat=10:=by omega
      refine I.v (.bool true) (I.eP (I.az (.bool true) (I.bh (WP.aG (I.bX (v:= .n (k+1)) L.cB (I.nil ?_))))))
      exact ⟨g,(Nat.lt_succ_self _),k+1,a8,qL,l2,lG,fX,h6,(.bool true),(.int .u8 (b.toNat:Int)),(.bool true),rZ,hI,mH,kg,lH,iG,ij,mI,qN,pO,mJ,oc,od,l4,l5,⟨by rw [aC,k0 hb];simp [Lex.blank,one,Lex.put,dj,c1,c2,cI,dv],(by omega),(by omega),(by first|omega|(simp;omega))⟩,by kernel_rfl,st⟩
     ·replace dv:¬(b.toNat=10):=by omega
      refine I.v (.bool false) (I.yes rfl (I.v (.int .u8 (b.toNat:Int)) (I.yes rfl (I.eo (L.eql rfl rfl) (fun eu=> ?_) (fun eu=> ?_)))))
      ·replace eu:b.toNat=13:=by omega
       refine I.az (.bool true) (I.bh (WP.aG (I.bX (v:= .n (k+1)) L.cB (I.nil ?_))))
       exact ⟨g,(Nat.lt_succ_self _),k+1,a8,qL,l2,lG,fX,h6,(.bool true),(.int .u8 (b.toNat:Int)),(.bool true),rZ,hI,mH,kg,lH,iG,ij,mI,qN,pO,mJ,oc,od,l4,l5,⟨by rw [aC,k0 hb];simp [Lex.blank,one,Lex.put,dj,c1,c2,cI,dv,eu],(by omega),(by omega),(by first|omega|(simp;omega))⟩,by kernel_rfl,st⟩
      ·replace eu:¬(b.toNat=13):=by omega
       refine I.az (.bool false) (I.aY (WP.af (I.bR (L.eql rfl rfl) (fun fG=> ?_) (fun fG=> ?_))))
       ·replace fG:b.toNat=35:=by omega
        refine I.bh (WP.block (WP.dr (α:=Nat) (fun j env h=>∃hI,(k+j≤s.length∧(s.drop k).takeWhile Lex.j3=(s.drop k).take j++(s.drop (k+j)).takeWhile Lex.j3)∧env=cM [L.str s,lG,fX,h6, .bool false, .n (k+j), .bool true, .int .u8 (b.toNat:Int), .bool false, .bool true,hI,mH,kg,lH,iG,ij,mI,l2,qN,pO,mJ,oc,od,l4,l5] 0 Env.nil∧ak (.acc qL 3 l2 (a8.map Tok.row)::fs) h) (fun j=>s.length - (k+j)) 0 ?_ ?_))
        ·exact ⟨hI,⟨by omega,by simp⟩,by kernel_rfl,st⟩
        rintro j _ h ⟨hI,⟨CD,nG⟩,rfl,st⟩
        refine WP.seq (WP.af (I.val (v:= .n s.length) (L.qo rfl) (I.eo (L.lss rfl rfl) (fun EW=> ?_) (fun EW=> ?_))))
        ·obtain ⟨pP,ky⟩:∃b,s[k+j]? =some b:=⟨_,List.getElem?_eq_getElem (by omega)⟩
         refine I.yes rfl (I.v (L.str s) (I.yes rfl (I.v (.n (k+j)) (I.yes rfl (I.val (v:= .int .u8 (pP.toNat:Int)) (L.rA rfl rfl ky) (I.yes rfl (I.eo (L.neq rfl rfl) (fun jM=> ?_) (fun jM=> ?_))))))))
         ·replace jM:pP.toNat≠10:=by omega
          refine I.az (.bool true) (I.bh (WP.skip (WP.block (WP.aG (I.bX (v:= .int .i64 ((k+(j+1):Nat):Int)) L.cB (I.nil ?_))))))
          have p5:(s.drop k).takeWhile Lex.j3=(s.drop k).take (j+1)++(s.drop (k+(j+1))).takeWhile Lex.j3:=by
           rw [nG,BD ky (by first|assumption|simp [Lex.j3,jM]),List.take_add_one,List.getElem?_drop,ky];simp [Nat.add_assoc]
          exact ⟨j+1,(by omega),(.bool true),⟨by omega,p5⟩,by kernel_rfl,st⟩
         ·replace jM:¬(pP.toNat≠10):=by omega
          refine I.az (.bool false) (I.aY (WP.exit ?_))
          have hz:(s.drop (k+j)).takeWhile Lex.j3=[]:=(MQ ky (by first|assumption|simp [Lex.j3,jM]))
          have rX:(s.drop k).takeWhile Lex.j3=(s.drop k).take j:=by rw [nG,hz,List.append_nil]
          obtain rfl:((s.drop k).takeWhile Lex.j3).length=j:=by rw [rX];simp;omega
          obtain ⟨nd,uA,qO⟩:=zd (f:=Lex.j3) hb (by first|assumption|simp [Lex.j3,one,dj,c1,c2,cI,dv,eu,fG])
          exact ⟨g,(Nat.lt_succ_self _),k+((s.drop k).takeWhile Lex.j3).length,a8,qL,l2,lG,fX,h6,(.bool true),(.int .u8 (b.toNat:Int)),(.bool false),(.bool true),(.bool false),mH,kg,lH,iG,ij,mI,qN,pO,mJ,oc,od,l4,l5,⟨by rw [aC,k0 hb];simp [Lex.blank,one,Lex.put,dj,c1,c2,cI,dv,eu,fG],(by omega),(by omega),(by first|omega|(simp;omega))⟩,by kernel_rfl,st⟩
        ·have TX:¬k+j<s.length:=by omega
         refine I.gK (I.az (.bool false) (I.aY (WP.exit ?_)))
         have hz:(s.drop (k+j)).takeWhile Lex.j3=[]:=(by rw [List.drop_of_length_le (by omega)];rfl)
         have rX:(s.drop k).takeWhile Lex.j3=(s.drop k).take j:=by rw [nG,hz,List.append_nil]
         obtain rfl:((s.drop k).takeWhile Lex.j3).length=j:=by rw [rX];simp;omega
         obtain ⟨nd,uA,qO⟩:=zd (f:=Lex.j3) hb (by first|assumption|simp [Lex.j3,one,dj,c1,c2,cI,dv,eu,fG])
         exact ⟨g,(Nat.lt_succ_self _),k+((s.drop k).takeWhile Lex.j3).length,a8,qL,l2,lG,fX,h6,(.bool true),(.int .u8 (b.toNat:Int)),(.bool false),(.bool true),(.bool false),mH,kg,lH,iG,ij,mI,qN,pO,mJ,oc,od,l4,l5,⟨by rw [aC,k0 hb];simp [Lex.blank,one,Lex.put,dj,c1,c2,cI,dv,eu,fG],(by omega),(by omega),(by first|omega|(simp;omega))⟩,by kernel_rfl,st⟩
       ·replace fG:¬(b.toNat=35):=by omega
        refine I.aY (WP.af (I.dU rfl (IB D st) ?_))
        rintro _ h ⟨rfl,st⟩
        cases hM:Lex.small b
        ·refine I.aY (WP.af (I.dU rfl (Nu D st) ?_))
         rintro _ h ⟨rfl,st⟩
         cases dW:Lex.digit b
         ·refine I.aY (WP.seq (WP.aG ?_))
          have hj:=acS (s.drop k)
          rw [List.length_drop] at hj
          refine I.dU rfl (ae7 D st (by omega) ec) ?_
          rintro _ h ⟨rfl,st⟩
          refine I.nil (WP.seq (WP.af (I.bR (L.seq (m:=[]) rfl rfl) (fun ID=> ?_) (fun ID=> ?_))))
          ·refine I.bh (WP.af (I.az .U (I.az (.int .i64 10) (I.az (.n k) (I.rt ?_)))))
           have cJ:Lex.all (s.length+1) 0 s []= .error (10,k):=by
            rw [aC,k0 hb];simp [Lex.blank,one,Lex.put,dj,c1,c2,cI,dv,eu,fG,hM,dW,ID]
           rw [cJ]
           exact ⟨_,(cT (fS (v:= .U) rfl) (cT (fS (v:= .int .i64 10) rfl) (ca (.n k)))),rfl,st.tail⟩
          ·have Bf:0<(Lex.sign (s.drop k)).length:=List.length_pos_iff.2 ID
           refine I.aY (WP.skip (WP.af (I.val (v:= .agg [.int .i64 4,L.str (Lex.sign (s.drop k)), .n k]) (L.build rfl) (I.eI (rows:=[[.int .i64 4,L.str (Lex.sign (s.drop k)), .n k]]) st rfl (by decide) rfl (by simp) (fun fM h st=> ?_)))))
           refine I.gJ st 1 rfl rfl rfl (st.aS 0 rfl) (by decide) (by simp;omega) (fun f1 v1 h st=> ?_)
           rw [show (a8.map Tok.row)++[[V.int .i64 4,L.str (Lex.sign (s.drop k)),V.n k]]=(a8++[Tok.mk 4 (Lex.sign (s.drop k)) k]).map Tok.row from by simp [Tok.row]] at st
           obtain ⟨rU,rfl⟩:=(st.et 1 rfl).ne (by simp)
           refine I.nil (WP.aG (I.val (v:= .int .i64 ((Lex.sign (s.drop k)).length:Int)) (L.qo rfl) (I.bX (v:= .int .i64 ((k+(Lex.sign (s.drop k)).length:Nat):Int)) L.cB (I.nil ?_))))
           exact ⟨g,(Nat.lt_succ_self _),k+(Lex.sign (s.drop k)).length,(a8++[Tok.mk 4 (Lex.sign (s.drop k)) k]),f1,(.av rU 0 ((a8++[Tok.mk 4 (Lex.sign (s.drop k)) k]).map Tok.row).length none),lG,fX,h6,(.bool true),(.int .u8 (b.toNat:Int)),(.bool false),(.bool false),hI,(.bool false),kg,lH,iG,ij,mI,(.bool false),pO,mJ,oc,od,(L.str (Lex.sign (s.drop k))),(.bool false),⟨by rw [aC,k0 hb];simp [Lex.blank,one,Lex.put,dj,c1,c2,cI,dv,eu,fG,hM,dW,ID],(by omega),(by omega),(by first|omega|(simp;omega))⟩,by kernel_rfl,st.tail⟩
         ·refine I.bh (WP.af (I.az (.n k) (I.nil (WP.yx (fun env h=>∃z20,env=cM [L.str s,lG,fX,h6, .bool false, .n k, .bool true, .int .u8 (b.toNat:Int), .bool false, .bool false,hI, .bool false,kg,lH,iG,ij,mI,l2, .bool true, .int .i64 ((k+((s.drop k).takeWhile Lex.digit).length:Nat):Int),z20,oc,od,l4,l5] 0 Env.nil∧ak (.acc qL 3 l2 (a8.map Tok.row)::fs) h) ?_ ?_))))
          ·refine WP.block (WP.dr (α:=Nat) (fun j env h=>∃mJ,(k+j≤s.length∧(s.drop k).takeWhile Lex.digit=(s.drop k).take j++(s.drop (k+j)).takeWhile Lex.digit)∧env=cM [L.str s,lG,fX,h6, .bool false, .n k, .bool true, .int .u8 (b.toNat:Int), .bool false, .bool false,hI, .bool false,kg,lH,iG,ij,mI,l2, .bool true, .n (k+j),mJ,oc,od,l4,l5] 0 Env.nil∧ak (.acc qL 3 l2 (a8.map Tok.row)::fs) h) (fun j=>s.length - (k+j)) 0 ?_ ?_)
           ·exact ⟨mJ,⟨by omega,by simp⟩,by kernel_rfl,st⟩
           rintro j _ h ⟨mJ,⟨CD,nG⟩,rfl,st⟩
           refine WP.seq (WP.af (I.val (v:= .n s.length) (L.qo rfl) (I.eo (L.lss rfl rfl) (fun EW=> ?_) (fun EW=> ?_))))
           ·obtain ⟨pP,ky⟩:∃b,s[k+j]? =some b:=⟨_,List.getElem?_eq_getElem (by omega)⟩
            refine I.yes rfl (I.v (L.str s) (I.yes rfl (I.v (.n (k+j)) (I.yes rfl (I.val (v:= .int .u8 (pP.toNat:Int)) (L.rA rfl rfl ky) (I.yes rfl (I.bD rfl (Nu D st) ?_)))))))
            rintro _ h ⟨rfl,st⟩
            cases Kx:Lex.digit pP
            ·refine I.az (.bool false) (I.aY (WP.exit ?_))
             have hz:(s.drop (k+j)).takeWhile Lex.digit=[]:=(MQ ky (by first|assumption|simp [Lex.digit,Kx]))
             have rX:(s.drop k).takeWhile Lex.digit=(s.drop k).take j:=by rw [nG,hz,List.append_nil]
             obtain rfl:((s.drop k).takeWhile Lex.digit).length=j:=by rw [rX];simp;omega
             exact ⟨(.bool false),by kernel_rfl,st⟩
            ·refine I.az (.bool true) (I.bh (WP.skip (WP.block (WP.aG (I.bX (v:= .int .i64 ((k+(j+1):Nat):Int)) L.cB (I.nil ?_))))))
             have p5:(s.drop k).takeWhile Lex.digit=(s.drop k).take (j+1)++(s.drop (k+(j+1))).takeWhile Lex.digit:=by
              rw [nG,BD ky (by first|assumption|simp [Lex.digit,Kx]),List.take_add_one,List.getElem?_drop,ky];simp [Nat.add_assoc]
             exact ⟨j+1,(by omega),(.bool true),⟨by omega,p5⟩,by kernel_rfl,st⟩
           ·have TX:¬k+j<s.length:=by omega
            refine I.gK (I.az (.bool false) (I.aY (WP.exit ?_)))
            have hz:(s.drop (k+j)).takeWhile Lex.digit=[]:=(by rw [List.drop_of_length_le (by omega)];rfl)
            have rX:(s.drop k).takeWhile Lex.digit=(s.drop k).take j:=by rw [nG,hz,List.append_nil]
            obtain rfl:((s.drop k).takeWhile Lex.digit).length=j:=by rw [rX];simp;omega
            exact ⟨(.bool false),by kernel_rfl,st⟩
          ·rintro _ h ⟨z20,rfl,st⟩
           have uB:(b=48)↔b.toNat=48:=⟨fun h=>by rw [h];rfl,fun h=>UInt8.toNat_inj.1 h⟩
           obtain ⟨nd,uA,qO⟩:=zd (f:=Lex.digit) hb (by first|assumption|simp [Lex.digit,one,dj,c1,c2,cI,dv,eu,fG,hM,dW])
           refine WP.seq (WP.af (I.val (v:= .int .i64 (((s.drop k).takeWhile Lex.digit).length:Int)) (L.iB rfl rfl (by omega) (And.intro (by omega) (by omega))) (I.bR (L.gtr rfl rfl) (fun qP=> ?_) (fun qP=> ?_))))
           ·replace qP:9<((s.drop k).takeWhile Lex.digit).length:=by omega
            refine I.bh (WP.af (I.az .U (I.az (.int .i64 9) (I.az (.n k) (I.rt ?_)))))
            have cJ:Lex.all (s.length+1) 0 s []= .error (9,k):=by
             rw [aC,k0 hb];simp [Lex.blank,one,Lex.put,dj,c1,c2,cI,dv,eu,fG,hM,dW,qP,Lex.number,Lex.within,qO,uB]
            rw [cJ]
            exact ⟨_,(cT (fS (v:= .U) rfl) (cT (fS (v:= .int .i64 9) rfl) (ca (.n k)))),rfl,st.tail⟩
           ·replace qP:¬9<((s.drop k).takeWhile Lex.digit).length:=by omega
            refine I.aY (WP.skip (WP.seq (WP.af (I.val (v:= .int .i64 (((s.drop k).takeWhile Lex.digit).length:Int)) (L.iB rfl rfl (by omega) (And.intro (by omega) (by omega))) (I.eo (L.gtr rfl rfl) (fun r2=> ?_) (fun r2=> ?_))))))
            ·replace r2:1<((s.drop k).takeWhile Lex.digit).length:=by omega
             refine I.yes rfl (I.v (.int .u8 (b.toNat:Int)) (I.yes rfl (I.eo (L.eql rfl rfl) (fun jk=> ?_) (fun jk=> ?_))))
             ·replace jk:b.toNat=48:=by omega
              refine I.v (.bool true) (I.gK (I.gK (I.gK (I.gK (I.az (.bool true) (I.bh (WP.af (I.az .U (I.az (.int .i64 10) (I.az (.n k) (I.rt ?_)))))))))))
              have cJ:Lex.all (s.length+1) 0 s []= .error (10,k):=by
               rw [aC,k0 hb];simp [Lex.blank,one,Lex.put,dj,c1,c2,cI,dv,eu,fG,hM,dW,qP,r2,jk,Lex.number,Lex.within,qO,uB]
              rw [cJ]
              exact ⟨_,(cT (fS (v:= .U) rfl) (cT (fS (v:= .int .i64 10) rfl) (ca (.n k)))),rfl,st.tail⟩
             ·replace jk:¬(b.toNat=48):=by omega
              refine I.v (.bool false) (I.yes rfl (I.v (.int .i64 ((k+((s.drop k).takeWhile Lex.digit).length:Nat):Int)) (I.yes rfl (I.v (L.str s) (I.yes rfl (I.val (v:= .n s.length) (L.qo rfl) (I.yes rfl (I.eo (L.lss rfl rfl) (fun aY=> ?_) (fun aY=> ?_)))))))))
              ·obtain ⟨n3,kO⟩:∃b,s[k+((s.drop k).takeWhile Lex.digit).length]? =some b:=⟨_,List.getElem?_eq_getElem (by omega)⟩
               have pj:=SK kO
               have hnd:=SM kO
               refine I.yes rfl (I.v (.bool true) (I.yes rfl (I.v (L.str s) (I.yes rfl (I.v (.int .i64 ((k+((s.drop k).takeWhile Lex.digit).length:Nat):Int)) (I.yes rfl (I.val (v:= .int .u8 (n3.toNat:Int)) (L.rA rfl rfl kO) (I.yes rfl (I.bD rfl (IB D st) ?_)))))))))
               rintro _ h ⟨rfl,st⟩
               cases Nv:Lex.small n3
               ·refine I.yes rfl (I.v (.bool false) (I.yes rfl (I.v (L.str s) (I.yes rfl (I.v (.int .i64 ((k+((s.drop k).takeWhile Lex.digit).length:Nat):Int)) (I.yes rfl (I.val (v:= .int .u8 (n3.toNat:Int)) (L.rA rfl rfl kO) (I.yes rfl (I.eo (L.eql rfl rfl) (fun dS=> ?_) (fun dS=> ?_))))))))))
                ·replace dS:n3.toNat=95:=by omega
                 refine I.yes rfl (I.v (.bool true) (I.yes rfl (I.v (.bool true) (I.az (.bool true) (I.bh (WP.af (I.az .U (I.az (.int .i64 10) (I.az (.n k) (I.rt ?_))))))))))
                 have cJ:Lex.all (s.length+1) 0 s []= .error (10,k):=by
                  rw [aC,k0 hb];simp [Lex.blank,one,Lex.put,dj,c1,c2,cI,dv,eu,fG,hM,dW,qP,r2,jk,pj,hnd,Nv,dS,Lex.number,Lex.within,qO,uB]
                 rw [cJ]
                 exact ⟨_,(cT (fS (v:= .U) rfl) (cT (fS (v:= .int .i64 10) rfl) (ca (.n k)))),rfl,st.tail⟩
                ·replace dS:¬(n3.toNat=95):=by omega
                 refine I.yes rfl (I.v (.bool false) (I.yes rfl (I.v (.bool false) (I.az (.bool false) (I.aY (WP.skip (WP.af (I.val (v:=L.str ((s.drop k).takeWhile Lex.digit)) (L.rQ rfl rfl rfl (by omega) (by omega) (by rw [Nat.add_sub_cancel_left];exact xq _)) (I.val (v:= .agg [.int .i64 2,L.str ((s.drop k).takeWhile Lex.digit), .n k]) (L.build rfl) (I.eI (rows:=[[.int .i64 2,L.str ((s.drop k).takeWhile Lex.digit), .n k]]) st rfl (by decide) rfl (by simp) (fun mG h st=> ?_)))))))))))
                 refine I.gJ st 1 rfl rfl rfl (st.aS 0 rfl) (by decide) (by simp;omega) (fun f2 v2 h st=> ?_)
                 rw [show (a8.map Tok.row)++[[V.int .i64 2,L.str ((s.drop k).takeWhile Lex.digit),V.n k]]=(a8++[Tok.mk 2 ((s.drop k).takeWhile Lex.digit) k]).map Tok.row from by simp [Tok.row]] at st
                 obtain ⟨ae9,rfl⟩:=(st.et 1 rfl).ne (by simp)
                 refine I.nil (WP.aG (I.az (.int .i64 ((k+((s.drop k).takeWhile Lex.digit).length:Nat):Int)) (I.nil ?_)))
                 exact ⟨g,(Nat.lt_succ_self _),k+((s.drop k).takeWhile Lex.digit).length,(a8++[Tok.mk 2 ((s.drop k).takeWhile Lex.digit) k]),f2,(.av ae9 0 ((a8++[Tok.mk 2 ((s.drop k).takeWhile Lex.digit) k]).map Tok.row).length none),lG,fX,h6,(.bool true),(.int .u8 (b.toNat:Int)),(.bool false),(.bool false),hI,(.bool false),kg,lH,iG,ij,mI,(.bool true),(.int .i64 ((k+((s.drop k).takeWhile Lex.digit).length:Nat):Int)),z20,(.bool false),(.bool false),l4,l5,⟨by rw [aC,k0 hb];simp [Lex.blank,one,Lex.put,dj,c1,c2,cI,dv,eu,fG,hM,dW,qP,r2,jk,pj,hnd,Nv,dS,Lex.number,Lex.within,qO,uB],(by omega),(by omega),(by first|omega|(simp;omega))⟩,by kernel_rfl,st.tail⟩
               ·refine I.yes rfl (I.v (.bool true) (I.gK (I.yes rfl (I.v (.bool true) (I.yes rfl (I.v (.bool true) (I.az (.bool true) (I.bh (WP.af (I.az .U (I.az (.int .i64 10) (I.az (.n k) (I.rt ?_)))))))))))))
                have cJ:Lex.all (s.length+1) 0 s []= .error (10,k):=by
                 rw [aC,k0 hb];simp [Lex.blank,one,Lex.put,dj,c1,c2,cI,dv,eu,fG,hM,dW,qP,r2,jk,pj,hnd,Nv,Lex.number,Lex.within,qO,uB]
                rw [cJ]
                exact ⟨_,(cT (fS (v:= .U) rfl) (cT (fS (v:= .int .i64 10) rfl) (ca (.n k)))),rfl,st.tail⟩
              ·have pj:s.drop (k+((s.drop k).takeWhile Lex.digit).length)=[]:=List.drop_of_length_le (by omega)
               refine I.yes rfl (I.v (.bool false) (I.gK (I.gK (I.eP (I.yes rfl (I.v (.bool false) (I.az (.bool false) (I.aY (WP.skip (WP.af (I.val (v:=L.str ((s.drop k).takeWhile Lex.digit)) (L.rQ rfl rfl rfl (by omega) (by omega) (by rw [Nat.add_sub_cancel_left];exact xq _)) (I.val (v:= .agg [.int .i64 2,L.str ((s.drop k).takeWhile Lex.digit), .n k]) (L.build rfl) (I.eI (rows:=[[.int .i64 2,L.str ((s.drop k).takeWhile Lex.digit), .n k]]) st rfl (by decide) rfl (by simp) (fun TY h st=> ?_))))))))))))))
               refine I.gJ st 1 rfl rfl rfl (st.aS 0 rfl) (by decide) (by simp;omega) (fun f3 v3 h st=> ?_)
               rw [show (a8.map Tok.row)++[[V.int .i64 2,L.str ((s.drop k).takeWhile Lex.digit),V.n k]]=(a8++[Tok.mk 2 ((s.drop k).takeWhile Lex.digit) k]).map Tok.row from by simp [Tok.row]] at st
               obtain ⟨Nw,rfl⟩:=(st.et 1 rfl).ne (by simp)
               refine I.nil (WP.aG (I.az (.int .i64 ((k+((s.drop k).takeWhile Lex.digit).length:Nat):Int)) (I.nil ?_)))
               exact ⟨g,(Nat.lt_succ_self _),k+((s.drop k).takeWhile Lex.digit).length,(a8++[Tok.mk 2 ((s.drop k).takeWhile Lex.digit) k]),f3,(.av Nw 0 ((a8++[Tok.mk 2 ((s.drop k).takeWhile Lex.digit) k]).map Tok.row).length none),lG,fX,h6,(.bool true),(.int .u8 (b.toNat:Int)),(.bool false),(.bool false),hI,(.bool false),kg,lH,iG,ij,mI,(.bool true),(.int .i64 ((k+((s.drop k).takeWhile Lex.digit).length:Nat):Int)),z20,(.bool false),(.bool false),l4,l5,⟨by rw [aC,k0 hb];simp [Lex.blank,one,Lex.put,dj,c1,c2,cI,dv,eu,fG,hM,dW,qP,r2,jk,pj,Lex.number,Lex.within,qO,uB],(by omega),(by omega),(by first|omega|(simp;omega))⟩,by kernel_rfl,st.tail⟩
            ·replace r2:¬1<((s.drop k).takeWhile Lex.digit).length:=by omega
             refine I.eP (I.v (.bool false) (I.yes rfl (I.v (.int .i64 ((k+((s.drop k).takeWhile Lex.digit).length:Nat):Int)) (I.yes rfl (I.v (L.str s) (I.yes rfl (I.val (v:= .n s.length) (L.qo rfl) (I.yes rfl (I.eo (L.lss rfl rfl) (fun aY=> ?_) (fun aY=> ?_))))))))))
             ·obtain ⟨n3,kO⟩:∃b,s[k+((s.drop k).takeWhile Lex.digit).length]? =some b:=⟨_,List.getElem?_eq_getElem (by omega)⟩
              have pj:=SK kO
              have hnd:=SM kO
              refine I.yes rfl (I.v (.bool true) (I.yes rfl (I.v (L.str s) (I.yes rfl (I.v (.int .i64 ((k+((s.drop k).takeWhile Lex.digit).length:Nat):Int)) (I.yes rfl (I.val (v:= .int .u8 (n3.toNat:Int)) (L.rA rfl rfl kO) (I.yes rfl (I.bD rfl (IB D st) ?_)))))))))
              rintro _ h ⟨rfl,st⟩
              cases Nx:Lex.small n3
              ·refine I.yes rfl (I.v (.bool false) (I.yes rfl (I.v (L.str s) (I.yes rfl (I.v (.int .i64 ((k+((s.drop k).takeWhile Lex.digit).length:Nat):Int)) (I.yes rfl (I.val (v:= .int .u8 (n3.toNat:Int)) (L.rA rfl rfl kO) (I.yes rfl (I.eo (L.eql rfl rfl) (fun kB=> ?_) (fun kB=> ?_))))))))))
               ·replace kB:n3.toNat=95:=by omega
                refine I.yes rfl (I.v (.bool true) (I.yes rfl (I.v (.bool true) (I.az (.bool true) (I.bh (WP.af (I.az .U (I.az (.int .i64 10) (I.az (.n k) (I.rt ?_))))))))))
                have cJ:Lex.all (s.length+1) 0 s []= .error (10,k):=by
                 rw [aC,k0 hb];simp [Lex.blank,one,Lex.put,dj,c1,c2,cI,dv,eu,fG,hM,dW,qP,r2,pj,hnd,Nx,kB,Lex.number,Lex.within,qO,uB]
                rw [cJ]
                exact ⟨_,(cT (fS (v:= .U) rfl) (cT (fS (v:= .int .i64 10) rfl) (ca (.n k)))),rfl,st.tail⟩
               ·replace kB:¬(n3.toNat=95):=by omega
                refine I.yes rfl (I.v (.bool false) (I.yes rfl (I.v (.bool false) (I.az (.bool false) (I.aY (WP.skip (WP.af (I.val (v:=L.str ((s.drop k).takeWhile Lex.digit)) (L.rQ rfl rfl rfl (by omega) (by omega) (by rw [Nat.add_sub_cancel_left];exact xq _)) (I.val (v:= .agg [.int .i64 2,L.str ((s.drop k).takeWhile Lex.digit), .n k]) (L.build rfl) (I.eI (rows:=[[.int .i64 2,L.str ((s.drop k).takeWhile Lex.digit), .n k]]) st rfl (by decide) rfl (by simp) (fun afa h st=> ?_)))))))))))
                refine I.gJ st 1 rfl rfl rfl (st.aS 0 rfl) (by decide) (by simp;omega) (fun f4 v4 h st=> ?_)
                rw [show (a8.map Tok.row)++[[V.int .i64 2,L.str ((s.drop k).takeWhile Lex.digit),V.n k]]=(a8++[Tok.mk 2 ((s.drop k).takeWhile Lex.digit) k]).map Tok.row from by simp [Tok.row]] at st
                obtain ⟨zu,rfl⟩:=(st.et 1 rfl).ne (by simp)
                refine I.nil (WP.aG (I.az (.int .i64 ((k+((s.drop k).takeWhile Lex.digit).length:Nat):Int)) (I.nil ?_)))
                exact ⟨g,(Nat.lt_succ_self _),k+((s.drop k).takeWhile Lex.digit).length,(a8++[Tok.mk 2 ((s.drop k).takeWhile Lex.digit) k]),f4,(.av zu 0 ((a8++[Tok.mk 2 ((s.drop k).takeWhile Lex.digit) k]).map Tok.row).length none),lG,fX,h6,(.bool true),(.int .u8 (b.toNat:Int)),(.bool false),(.bool false),hI,(.bool false),kg,lH,iG,ij,mI,(.bool true),(.int .i64 ((k+((s.drop k).takeWhile Lex.digit).length:Nat):Int)),z20,(.bool false),(.bool false),l4,l5,⟨by rw [aC,k0 hb];simp [Lex.blank,one,Lex.put,dj,c1,c2,cI,dv,eu,fG,hM,dW,qP,r2,pj,hnd,Nx,kB,Lex.number,Lex.within,qO,uB],(by omega),(by omega),(by first|omega|(simp;omega))⟩,by kernel_rfl,st.tail⟩
              ·refine I.yes rfl (I.v (.bool true) (I.gK (I.yes rfl (I.v (.bool true) (I.yes rfl (I.v (.bool true) (I.az (.bool true) (I.bh (WP.af (I.az .U (I.az (.int .i64 10) (I.az (.n k) (I.rt ?_)))))))))))))
               have cJ:Lex.all (s.length+1) 0 s []= .error (10,k):=by
                rw [aC,k0 hb];simp [Lex.blank,one,Lex.put,dj,c1,c2,cI,dv,eu,fG,hM,dW,qP,r2,pj,hnd,Nx,Lex.number,Lex.within,qO,uB]
               rw [cJ]
               exact ⟨_,(cT (fS (v:= .U) rfl) (cT (fS (v:= .int .i64 10) rfl) (ca (.n k)))),rfl,st.tail⟩
             ·have pj:s.drop (k+((s.drop k).takeWhile Lex.digit).length)=[]:=List.drop_of_length_le (by omega)
              refine I.yes rfl (I.v (.bool false) (I.gK (I.gK (I.eP (I.yes rfl (I.v (.bool false) (I.az (.bool false) (I.aY (WP.skip (WP.af (I.val (v:=L.str ((s.drop k).takeWhile Lex.digit)) (L.rQ rfl rfl rfl (by omega) (by omega) (by rw [Nat.add_sub_cancel_left];exact xq _)) (I.val (v:= .agg [.int .i64 2,L.str ((s.drop k).takeWhile Lex.digit), .n k]) (L.build rfl) (I.eI (rows:=[[.int .i64 2,L.str ((s.drop k).takeWhile Lex.digit), .n k]]) st rfl (by decide) rfl (by simp) (fun ajD h st=> ?_))))))))))))))
              refine I.gJ st 1 rfl rfl rfl (st.aS 0 rfl) (by decide) (by simp;omega) (fun f5 v5 h st=> ?_)
              rw [show (a8.map Tok.row)++[[V.int .i64 2,L.str ((s.drop k).takeWhile Lex.digit),V.n k]]=(a8++[Tok.mk 2 ((s.drop k).takeWhile Lex.digit) k]).map Tok.row from by simp [Tok.row]] at st
              obtain ⟨afb,rfl⟩:=(st.et 1 rfl).ne (by simp)
              refine I.nil (WP.aG (I.az (.int .i64 ((k+((s.drop k).takeWhile Lex.digit).length:Nat):Int)) (I.nil ?_)))
              exact ⟨g,(Nat.lt_succ_self _),k+((s.drop k).takeWhile Lex.digit).length,(a8++[Tok.mk 2 ((s.drop k).takeWhile Lex.digit) k]),f5,(.av afb 0 ((a8++[Tok.mk 2 ((s.drop k).takeWhile Lex.digit) k]).map Tok.row).length none),lG,fX,h6,(.bool true),(.int .u8 (b.toNat:Int)),(.bool false),(.bool false),hI,(.bool false),kg,lH,iG,ij,mI,(.bool true),(.int .i64 ((k+((s.drop k).takeWhile Lex.digit).length:Nat):Int)),z20,(.bool false),(.bool false),l4,l5,⟨by rw [aC,k0 hb];simp [Lex.blank,one,Lex.put,dj,c1,c2,cI,dv,eu,fG,hM,dW,qP,r2,pj,Lex.number,Lex.within,qO,uB],(by omega),(by omega),(by first|omega|(simp;omega))⟩,by kernel_rfl,st.tail⟩
        ·refine I.bh (WP.af (I.az (.n k) (I.nil (WP.yx (fun env h=>∃IE,env=cM [L.str s,lG,fX,h6, .bool false, .n k, .bool true, .int .u8 (b.toNat:Int), .bool false, .bool false,hI, .bool true, .int .i64 ((k+((s.drop k).takeWhile Lex.within).length:Nat):Int),IE,iG,ij,mI,l2,qN,pO,mJ,oc,od,l4,l5] 0 Env.nil∧ak (.acc qL 3 l2 (a8.map Tok.row)::fs) h) ?_ ?_))))
         ·refine WP.block (WP.dr (α:=Nat) (fun j env h=>∃lH,(k+j≤s.length∧(s.drop k).takeWhile Lex.within=(s.drop k).take j++(s.drop (k+j)).takeWhile Lex.within)∧env=cM [L.str s,lG,fX,h6, .bool false, .n k, .bool true, .int .u8 (b.toNat:Int), .bool false, .bool false,hI, .bool true, .n (k+j),lH,iG,ij,mI,l2,qN,pO,mJ,oc,od,l4,l5] 0 Env.nil∧ak (.acc qL 3 l2 (a8.map Tok.row)::fs) h) (fun j=>s.length - (k+j)) 0 ?_ ?_)
          ·exact ⟨lH,⟨by omega,by simp⟩,by kernel_rfl,st⟩
          rintro j _ h ⟨lH,⟨CD,nG⟩,rfl,st⟩
          refine WP.seq (WP.af (I.val (v:= .n s.length) (L.qo rfl) (I.eo (L.lss rfl rfl) (fun EW=> ?_) (fun EW=> ?_))))
          ·obtain ⟨pP,ky⟩:∃b,s[k+j]? =some b:=⟨_,List.getElem?_eq_getElem (by omega)⟩
           refine I.yes rfl (I.v (L.str s) (I.yes rfl (I.v (.n (k+j)) (I.yes rfl (I.val (v:= .int .u8 (pP.toNat:Int)) (L.rA rfl rfl ky) (I.yes rfl (I.bD rfl (IB D st) ?_)))))))
           rintro _ h ⟨rfl,st⟩
           cases IG:Lex.small pP
           ·refine I.yes rfl (I.v (.bool false) (I.yes rfl (I.v (L.str s) (I.yes rfl (I.v (.n (k+j)) (I.yes rfl (I.val (v:= .int .u8 (pP.toNat:Int)) (L.rA rfl rfl ky) (I.yes rfl (I.bD rfl (Nu D st) ?_)))))))))
            rintro _ h ⟨rfl,st⟩
            cases Ny:Lex.digit pP
            ·refine I.yes rfl (I.v (.bool false) (I.yes rfl (I.v (.bool false) (I.yes rfl (I.v (L.str s) (I.yes rfl (I.v (.n (k+j)) (I.yes rfl (I.val (v:= .int .u8 (pP.toNat:Int)) (L.rA rfl rfl ky) (I.yes rfl (I.eo (L.eql rfl rfl) (fun k5=> ?_) (fun k5=> ?_))))))))))))
             ·replace k5:pP.toNat=95:=by omega
              refine I.yes rfl (I.v (.bool true) (I.az (.bool true) (I.bh (WP.skip (WP.block (WP.aG (I.bX (v:= .int .i64 ((k+(j+1):Nat):Int)) L.cB (I.nil ?_))))))))
              have p5:(s.drop k).takeWhile Lex.within=(s.drop k).take (j+1)++(s.drop (k+(j+1))).takeWhile Lex.within:=by
               rw [nG,BD ky (by first|assumption|simp [Lex.within,IG,Ny,k5]),List.take_add_one,List.getElem?_drop,ky];simp [Nat.add_assoc]
              exact ⟨j+1,(by omega),(.bool true),⟨by omega,p5⟩,by kernel_rfl,st⟩
             ·replace k5:¬(pP.toNat=95):=by omega
              refine I.yes rfl (I.v (.bool false) (I.az (.bool false) (I.aY (WP.exit ?_))))
              have hz:(s.drop (k+j)).takeWhile Lex.within=[]:=(MQ ky (by first|assumption|simp [Lex.within,IG,Ny,k5]))
              have rX:(s.drop k).takeWhile Lex.within=(s.drop k).take j:=by rw [nG,hz,List.append_nil]
              obtain rfl:((s.drop k).takeWhile Lex.within).length=j:=by rw [rX];simp;omega
              exact ⟨(.bool false),by kernel_rfl,st⟩
            ·refine I.yes rfl (I.v (.bool true) (I.yes rfl (I.v (.bool true) (I.gK (I.yes rfl (I.v (.bool true) (I.az (.bool true) (I.bh (WP.skip (WP.block (WP.aG (I.bX (v:= .int .i64 ((k+(j+1):Nat):Int)) L.cB (I.nil ?_)))))))))))))
             have p5:(s.drop k).takeWhile Lex.within=(s.drop k).take (j+1)++(s.drop (k+(j+1))).takeWhile Lex.within:=by
              rw [nG,BD ky (by first|assumption|simp [Lex.within,IG,Ny]),List.take_add_one,List.getElem?_drop,ky];simp [Nat.add_assoc]
             exact ⟨j+1,(by omega),(.bool true),⟨by omega,p5⟩,by kernel_rfl,st⟩
           ·refine I.yes rfl (I.v (.bool true) (I.gK (I.yes rfl (I.v (.bool true) (I.yes rfl (I.v (.bool true) (I.gK (I.yes rfl (I.v (.bool true) (I.az (.bool true) (I.bh (WP.skip (WP.block (WP.aG (I.bX (v:= .int .i64 ((k+(j+1):Nat):Int)) L.cB (I.nil ?_))))))))))))))))
            have p5:(s.drop k).takeWhile Lex.within=(s.drop k).take (j+1)++(s.drop (k+(j+1))).takeWhile Lex.within:=by
             rw [nG,BD ky (by first|assumption|simp [Lex.within,IG]),List.take_add_one,List.getElem?_drop,ky];simp [Nat.add_assoc]
            exact ⟨j+1,(by omega),(.bool true),⟨by omega,p5⟩,by kernel_rfl,st⟩
          ·have TX:¬k+j<s.length:=by omega
           refine I.gK (I.gK (I.gK (I.gK (I.az (.bool false) (I.aY (WP.exit ?_))))))
           have hz:(s.drop (k+j)).takeWhile Lex.within=[]:=(by rw [List.drop_of_length_le (by omega)];rfl)
           have rX:(s.drop k).takeWhile Lex.within=(s.drop k).take j:=by rw [nG,hz,List.append_nil]
           obtain rfl:((s.drop k).takeWhile Lex.within).length=j:=by rw [rX];simp;omega
           exact ⟨(.bool false),by kernel_rfl,st⟩
         ·rintro _ h ⟨IE,rfl,st⟩
          obtain ⟨nd,uA,qO⟩:=zd (f:=Lex.within) hb (by first|assumption|simp [Lex.within,one,dj,c1,c2,cI,dv,eu,fG,hM])
          refine WP.af (I.az (.int .i64 1) (I.nil (WP.seq (WP.af (I.val (v:=L.str ((s.drop k).takeWhile Lex.within)) (L.rQ rfl rfl rfl (by omega) (by omega) (by rw [Nat.add_sub_cancel_left];exact xq _)) (I.dU rfl (ae6 D st) ?_))))))
          rintro _ h ⟨rfl,st⟩
          by_cases sH:((s.drop k).takeWhile Lex.within)∈Lex.keys
          ·rw [show decide (((s.drop k).takeWhile Lex.within)∈Lex.keys)=true by simp [sH]]
           refine I.bh (WP.aG (I.az (.int .i64 3) (I.nil (WP.seq (WP.af (I.val (v:= .int .i64 (((s.drop k).takeWhile Lex.within).length:Int)) (L.iB rfl rfl (by omega) (And.intro (by omega) (by omega))) ?_))))))
           have Gq:=acQ sH
           refine I.bR (L.gtr rfl rfl) (fun kR=>by exfalso;omega) (fun kR=> ?_)
           refine I.aY (WP.skip (WP.af (I.val (v:=L.str ((s.drop k).takeWhile Lex.within)) (L.rQ rfl rfl rfl (by omega) (by omega) (by rw [Nat.add_sub_cancel_left];exact xq _)) (I.val (v:= .agg [.int .i64 3,L.str ((s.drop k).takeWhile Lex.within), .n k]) (L.build rfl) (I.eI (rows:=[[.int .i64 3,L.str ((s.drop k).takeWhile Lex.within), .n k]]) st rfl (by decide) rfl (by simp) (fun ajE h st=> ?_))))))
           refine I.gJ st 1 rfl rfl rfl (st.aS 0 rfl) (by decide) (by simp;omega) (fun f6 v6 h st=> ?_)
           rw [show (a8.map Tok.row)++[[V.int .i64 3,L.str ((s.drop k).takeWhile Lex.within),V.n k]]=(a8++[Tok.mk 3 ((s.drop k).takeWhile Lex.within) k]).map Tok.row from by simp [Tok.row]] at st
           obtain ⟨IH,rfl⟩:=(st.et 1 rfl).ne (by simp)
           refine I.nil (WP.aG (I.az (.int .i64 ((k+((s.drop k).takeWhile Lex.within).length:Nat):Int)) (I.nil ?_)))
           exact ⟨g,(Nat.lt_succ_self _),k+((s.drop k).takeWhile Lex.within).length,(a8++[Tok.mk 3 ((s.drop k).takeWhile Lex.within) k]),f6,(.av IH 0 ((a8++[Tok.mk 3 ((s.drop k).takeWhile Lex.within) k]).map Tok.row).length none),lG,fX,h6,(.bool true),(.int .u8 (b.toNat:Int)),(.bool false),(.bool false),hI,(.bool true),(.int .i64 ((k+((s.drop k).takeWhile Lex.within).length:Nat):Int)),IE,(.bool true),(.bool false),(.int .i64 3),qN,pO,mJ,oc,od,l4,l5,⟨by rw [aC,k0 hb];simp [Lex.blank,one,Lex.put,dj,c1,c2,cI,dv,eu,fG,hM,sH,Lex.word],(by omega),(by omega),(by first|omega|(simp;omega))⟩,by kernel_rfl,st.tail⟩
          ·rw [show decide (((s.drop k).takeWhile Lex.within)∈Lex.keys)=false by simp [sH]]
           refine I.aY (WP.skip (WP.seq (WP.af (I.val (v:= .int .i64 (((s.drop k).takeWhile Lex.within).length:Int)) (L.iB rfl rfl (by omega) (And.intro (by omega) (by omega))) (I.bR (L.gtr rfl rfl) (fun kR=> ?_) (fun kR=> ?_))))))
           ·replace kR:20<((s.drop k).takeWhile Lex.within).length:=by omega
            refine I.bh (WP.af (I.az .U (I.az (.int .i64 9) (I.az (.n k) (I.rt ?_)))))
            have cJ:Lex.all (s.length+1) 0 s []= .error (9,k):=by
             rw [aC,k0 hb];simp [Lex.blank,one,Lex.put,dj,c1,c2,cI,dv,eu,fG,hM,sH,kR,Lex.word]
            rw [cJ]
            exact ⟨_,(cT (fS (v:= .U) rfl) (cT (fS (v:= .int .i64 9) rfl) (ca (.n k)))),rfl,st.tail⟩
           ·replace kR:¬20<((s.drop k).takeWhile Lex.within).length:=by omega
            refine I.aY (WP.skip (WP.af (I.val (v:=L.str ((s.drop k).takeWhile Lex.within)) (L.rQ rfl rfl rfl (by omega) (by omega) (by rw [Nat.add_sub_cancel_left];exact xq _)) (I.val (v:= .agg [.int .i64 1,L.str ((s.drop k).takeWhile Lex.within), .n k]) (L.build rfl) (I.eI (rows:=[[.int .i64 1,L.str ((s.drop k).takeWhile Lex.within), .n k]]) st rfl (by decide) rfl (by simp) (fun ajF h st=> ?_))))))
            refine I.gJ st 1 rfl rfl rfl (st.aS 0 rfl) (by decide) (by simp;omega) (fun f7 II h st=> ?_)
            rw [show (a8.map Tok.row)++[[V.int .i64 1,L.str ((s.drop k).takeWhile Lex.within),V.n k]]=(a8++[Tok.mk 1 ((s.drop k).takeWhile Lex.within) k]).map Tok.row from by simp [Tok.row]] at st
            obtain ⟨l6,rfl⟩:=(st.et 1 rfl).ne (by simp)
            refine I.nil (WP.aG (I.az (.int .i64 ((k+((s.drop k).takeWhile Lex.within).length:Nat):Int)) (I.nil ?_)))
            exact ⟨g,(Nat.lt_succ_self _),k+((s.drop k).takeWhile Lex.within).length,(a8++[Tok.mk 1 ((s.drop k).takeWhile Lex.within) k]),f7,(.av l6 0 ((a8++[Tok.mk 1 ((s.drop k).takeWhile Lex.within) k]).map Tok.row).length none),lG,fX,h6,(.bool true),(.int .u8 (b.toNat:Int)),(.bool false),(.bool false),hI,(.bool true),(.int .i64 ((k+((s.drop k).takeWhile Lex.within).length:Nat):Int)),IE,(.bool false),(.bool false),(.int .i64 1),qN,pO,mJ,oc,od,l4,l5,⟨by rw [aC,k0 hb];simp [Lex.blank,one,Lex.put,dj,c1,c2,cI,dv,eu,fG,hM,sH,kR,Lex.word],(by omega),(by omega),(by first|omega|(simp;omega))⟩,by kernel_rfl,st.tail⟩
  ·replace c1:¬(k<s.length):=by omega
   refine I.aY (WP.exit (WP.af (I.val (v:= .n s.length) (L.qo rfl) (I.val (v:= .agg [.int .i64 0, .str 0 0, .n s.length]) (L.build rfl) (I.eI (rows:=[[.int .i64 0, .str 0 0, .n s.length]]) st rfl (by decide) rfl (by simp) (fun ajG h st=> ?_))))))
   refine I.gJ st 1 rfl rfl rfl (st.aS 0 rfl) (by decide) (by simp;omega) (fun f8 B2 h st=> ?_)
   rw [show (a8.map Tok.row)++[[V.int .i64 0,V.str 0 0,V.n s.length]]=(a8++[Tok.mk 0 [] s.length]).map Tok.row from by simp [Tok.row];rfl] at st
   obtain ⟨Nz,rfl⟩:=(st.et 1 rfl).ne (by simp)
   refine I.az (.int .i64 0) (I.az (.int .i64 0) (I.rt ?_))
   have hz:s.drop k=[]:=List.drop_of_length_le (by omega)
   have cJ:Lex.all (s.length+1) 0 s []= .ok (a8++[⟨0,[],s.length⟩]):=by
    rw [aC,hz,show k=s.length by omega];rfl
   rw [cJ]
   exact ⟨_,(cT (fS (v:= .av Nz 0 (((a8++[Tok.mk 0 [] s.length]).map Tok.row).length) none) rfl) (cT (fS (v:= .int .i64 0) rfl) (ca (.int .i64 0)))),_,rfl,(st.tail).shut (by decide)⟩
end
end Go.Eng.YtmcjcbldmoijiaaGreatDoor
namespace Go.Eng.YtmcjcbldmoijiaaGreatDoor
open Go.Eng
noncomputable section
variable {c:Ctx}
theorem s8 (D:gO c) {fs:List Fact} {h:ag} {p:eE} {i d e a:Nat} {S:Par.dz} (st:ak (p.cb i d e a::p.toks::fs) h) (hx:XAt p i e a S):
 bU c 56 [.ptr p.aW 0] h fun v h1=>v= .int .i64 (a6 p i:Int)∧ak (p.cb i d e a::p.toks::fs) h1:=by
 obtain ⟨t,ht,dh⟩:=hx.row
 rw [MX ht]
 refine bU.dR D.f56 rfl (WP.af (I.az (.int .i64 0) (I.nil (WP.seq (WP.draw (ae.v (.ptr p.aW 0) (ae.v (.ptr p.aW 0) (ae.f (.ptr p.aW 0) (ae.b (.av p.ch p.to p.a8.length p.cap) (st.aF 0 rfl) (ae.v (.ptr p.aW 0) (ae.v (.ptr p.aW 0) (ae.f (.ptr p.aW 1) (ae.b (.n i) (st.aF 0 rfl) (ae.val (v:= .ptr p.ch (p.to+i * 3)) (L.bQ rfl rfl hx.lt) (ae.f (.ptr p.ch (p.to+i * 3+2)) (ae.val (v:= .n t.at_) (L.load rfl ((st.aS 1 rfl).yy dh (show _=some _ from rfl))) (ae.az (.n t.at_) (ae.nil (WP.ret ?_)))))))))))))))))))
 exact ⟨_,(ca (.n t.at_)),(rfl),st⟩
theorem s9 (D:gO c) {fs:List Fact} {h:ag} {p:eE} {i d e a:Nat} {S:Par.dz} {s:List UInt8} (st:ak (p.cb i d e a::p.toks::fs) h) (hx:XAt p i e a S):
 bU c 82 [.ptr p.aW 0,L.str s] h fun v h1=>v= .bool (Par.gF s S)∧ak (p.cb i d e a::p.toks::fs) h1:=by
 obtain ⟨t,ht,dh⟩:=hx.row
 rw [hx.acU ht]
 refine bU.dR D.f82 rfl (WP.af (I.az (.bool false) (I.nil (WP.seq (WP.draw (ae.v (.ptr p.aW 0) (ae.v (.ptr p.aW 0) (ae.f (.ptr p.aW 0) (ae.b (.av p.ch p.to p.a8.length p.cap) (st.aF 0 rfl) (ae.v (.ptr p.aW 0) (ae.v (.ptr p.aW 0) (ae.f (.ptr p.aW 1) (ae.b (.n i) (st.aF 0 rfl) (ae.val (v:= .ptr p.ch (p.to+i * 3)) (L.bQ rfl rfl hx.lt) (ae.val (v:= .agg [.n t.kind,L.str t.text, .n t.at_]) (L.dd rfl ((st.aS 1 rfl).dd dh)) (ae.dq st L.alloc (fun fw h st=> ?_)))))))))))))))))
 refine ae.fV (row':=[.n t.kind,L.str t.text, .n t.at_]) st 0 rfl rfl rfl rfl rfl rfl rfl (fun h st=>rfl) (fun h st=> ?_)
 refine ae.af (I.v (.ptr p.aW 0) (I.f (.ptr p.aW 3) (I.b (.n e) (st.aF 1 rfl) (I.eo (L.eql rfl rfl) (fun c1=> ?_) (fun c1=> ?_)))))
 ·replace c1:e=0:=by omega
  refine I.yes rfl (I.f (.ptr fw 0) (I.yes rfl (I.b (.n t.kind) (st.aF 0 rfl) (I.yes rfl (I.eo (L.eql rfl rfl) (fun c2=> ?_) (fun c2=> ?_))))))
  ·replace c2:t.kind=4:=by omega
   refine I.yes rfl (I.v (.bool true) (I.eP (I.no rfl (I.yes rfl (I.v (.bool true) (I.v (.bool true) (I.yes rfl (I.f (.ptr fw 1) (I.yes rfl (I.b (L.str t.text) (st.aF 0 rfl) (I.yes rfl (I.v (L.str s) (I.yes rfl (I.eo (L.seq rfl rfl) (fun cI=> ?_) (fun cI=> ?_)))))))))))))))
   ·refine I.az (.bool true) (I.rt ?_)
    exact ⟨_,(ca (.bool true)),((by simp [one, *])),st.tail⟩
   ·refine I.az (.bool false) (I.rt ?_)
    exact ⟨_,(ca (.bool false)),((by simp [one, *])),st.tail⟩
  ·replace c2:¬(t.kind=4):=by omega
   refine I.yes rfl (I.v (.bool false) (I.yes rfl (I.f (.ptr fw 0) (I.yes rfl (I.b (.n t.kind) (st.aF 0 rfl) (I.yes rfl (I.eo (L.eql rfl rfl) (fun dv=> ?_) (fun dv=> ?_))))))))
   ·replace dv:t.kind=3:=by omega
    refine I.yes rfl (I.v (.bool true) (I.v (.bool true) (I.yes rfl (I.f (.ptr fw 1) (I.yes rfl (I.b (L.str t.text) (st.aF 0 rfl) (I.yes rfl (I.v (L.str s) (I.yes rfl (I.eo (L.seq rfl rfl) (fun eu=> ?_) (fun eu=> ?_)))))))))))
    ·refine I.az (.bool true) (I.rt ?_)
     exact ⟨_,(ca (.bool true)),((by simp [one, *])),st.tail⟩
    ·refine I.az (.bool false) (I.rt ?_)
     exact ⟨_,(ca (.bool false)),((by simp [one, *])),st.tail⟩
   ·replace dv:¬(t.kind=3):=by omega
    refine I.yes rfl (I.v (.bool false) (I.v (.bool false) (I.gK (I.az (.bool false) (I.rt ?_)))))
    exact ⟨_,(ca (.bool false)),((by simp [one, *])),st.tail⟩
 ·replace c1:¬(e=0):=by omega
  refine I.gK (I.gK (I.v (.bool false) (I.gK (I.az (.bool false) (I.rt ?_)))))
  exact ⟨_,(ca (.bool false)),((by simp [one, *])),st.tail⟩
theorem iV (D:gO c) {fs:List Fact} {h:ag} {p:eE} {i d e a:Nat} {S:Par.dz} {s:List UInt8} (st:ak (p.cb i d e a::p.toks::fs) h) (hx:XAt p i e a S):
 bU c 58 [.ptr p.aW 0,L.str s] h fun v h1=>(v= .bool true∧(∃l,S= .ok l∧e=0∧a=0∧Par.is s l=true∧Left p (i+1) l.tail)∧ak (p.cb (i+1) d 0 0::p.toks::fs) h1)∨(v= .bool false∧Par.gF s S=false∧ak (p.cb i d e a::p.toks::fs) h1):=by
 refine bU.dR D.f58 rfl (WP.af (I.az (.bool false) (I.nil (WP.seq (WP.af (I.bD rfl (s9 D st hx) ?_))))))
 rintro _ h ⟨rfl,st⟩
 cases EX:Par.gF s S
 ·refine I.az (.bool true) (I.bh (WP.af (I.az (.bool false) (I.rt ?_))))
  exact ⟨_,(ca (.bool false)),Or.inr ⟨rfl,rfl,st⟩⟩
 ·obtain ⟨l,kb,he,ha,aq,au⟩:=hx.gF EX
  have ob:=hx.small
  have hlt:=au.lt
  refine I.az (.bool false) (I.aY (WP.skip (WP.af (I.v (.ptr p.aW 0) (I.f (.ptr p.aW 1) (I.b (.n i) (st.aF 0 rfl) (I.val (v:= .n (i+1)) L.cB (I.v (.ptr p.aW 0) (I.f (.ptr p.aW 1) (I.cc [.av p.ch p.to p.a8.length p.cap, .n (i+1), .n d, .n e, .n a] st 0 rfl (fun h st=> ?_)))))))))))
  refine I.af (I.az (.bool true) (I.rt ?_))
  exact ⟨_,(ca (.bool true)),Or.inl ⟨rfl,⟨l,kb,he,ha,aq,au.is aq⟩,by subst he ha;exact st⟩⟩
theorem uC (D:gO c) {fs:List Fact} {h:ag} {p:eE} {i d e a:Nat} {S:Par.dz} {k:Nat} (st:ak (p.cb i d e a::p.toks::fs) h) (hx:XAt p i e a S) (hk:k≠0):
 bU c 61 [.ptr p.aW 0, .n k] h fun v h1=>v= .dD []∧∃bN bp,bN≠0∧XAt p i bN bp (Par.vK k S)∧ak (p.cb i d bN bp::p.toks::fs) h1:=by
 obtain ⟨t,ht,dh⟩:=hx.row
 refine bU.dR D.f61 rfl (WP.af (I.v (.ptr p.aW 0) (I.f (.ptr p.aW 3) (I.b (.n e) (st.aF 0 rfl) (I.bR (L.eql rfl rfl) (fun ce=> ?_) (fun ce=> ?_))))))
 ·replace ce:e=0:=by omega
  obtain ⟨aZ,uD,EY,pB⟩:=hx.gm ce
  subst uD EY ce
  refine I.bh (WP.af (I.v (.ptr p.aW 0) (I.f (.ptr p.aW 3) (I.cc [.av p.ch p.to p.a8.length p.cap, .n i, .n d, .n k, .int .i64 0] st 0 rfl (fun h st=> ?_)))))
  refine I.nil (WP.draw (ae.v (.ptr p.aW 0) (ae.v (.ptr p.aW 0) (ae.v (.ptr p.aW 0) (ae.f (.ptr p.aW 0) (ae.b (.av p.ch p.to p.a8.length p.cap) (st.aF 0 rfl) (ae.v (.ptr p.aW 0) (ae.v (.ptr p.aW 0) (ae.f (.ptr p.aW 1) (ae.b (.n i) (st.aF 0 rfl) (ae.val (v:= .ptr p.ch (p.to+i * 3)) (L.bQ rfl rfl (XAt.ok pB).lt) (ae.f (.ptr p.ch (p.to+i * 3+2)) (ae.val (v:= .int .i64 (a6 p i:Int)) (by rw [MX ht];exact L.load rfl ((st.aS 1 rfl).yy dh (show _=some _ from rfl))) (ae.v (.ptr p.aW 0) (ae.f (.ptr p.aW 4) (ae.fV (row':=[.av p.ch p.to p.a8.length p.cap, .n i, .n d, .n k, .int .i64 (a6 p i:Int)]) st 0 rfl rfl rfl rfl rfl rfl rfl (fun h st=>rfl) (fun h st=> ?_)))))))))))))))))
  refine ae.nil ?_
  exact ⟨_,(fo _ _),rfl,k,_,hk,by rw [pB.here];exact XAt.err hk hx.lt hx.small,st⟩
 ·replace ce:e≠0:=by omega
  have jN:=hx.bad ce
  refine I.aY (WP.skip ?_)
  exact ⟨_,(fo _ _),rfl,e,a,ce,by rw [jN];exact XAt.err ce hx.lt hx.small,st⟩
theorem fY (D:gO c) {fs:List Fact} {h:ag} {p:eE} {i d e a:Nat} {S:Par.dz} {s:List UInt8} (st:ak (p.cb i d e a::p.toks::fs) h) (hx:XAt p i e a S):
 bU c 55 [.ptr p.aW 0,L.str s] h fun v h1=>∃(x:Nat) (b7:Par.dz) (cS bN bp:Nat),v= .dD []∧nx p S i (Par.must s) x b7 cS bN bp∧ak (p.cb cS d bN bp::p.toks::fs) h1:=by
 refine bU.dR D.f55 rfl (WP.af (I.bD rfl (iV (s:=s) D st hx) ?_))
 rintro _ h (⟨rfl,⟨aZ,uD,afc,EY,aq,pB⟩,cw⟩|⟨rfl,aq,cw⟩)
 ·subst uD afc EY
  replace st:ak ((p.cb (i+1) d 0 0)::p.toks::fs) h:=cw
  have r3:=pB.lt
  refine I.az (.bool false) (I.aY (WP.skip ?_))
  exact ⟨_,(fo _ _),Par.here aZ,_,_,_,_,rfl,⟨.ok pB,Par.aD.qF (by unfold Par.must;rw [if_pos aq]),by omega⟩,st⟩
 ·replace st:ak ((p.cb i d e a)::p.toks::fs) h:=cw
  refine I.az (.bool true) (I.bh (WP.aG (I.bD rfl (uC D st hx (by decide)) ?_)))
  rintro _ h ⟨rfl,uE,uF,pQ,hi,st⟩
  refine I.nil ?_
  exact ⟨_,(fo _ _),0,_,_,_,_,rfl,⟨hi,Par.aD.acV aq,by omega⟩,st⟩
theorem nA (D:gO c) {fs:List Fact} {h:ag} {p:eE} {i d e a:Nat} {S:Par.dz} (st:ak (p.cb i d e a::p.toks::fs) h) (hx:XAt p i e a S):
 bU c 57 [.ptr p.aW 0] h fun v h1=>∃(x:List UInt8) (b7:Par.dz) (cS bN bp:Nat),v=L.str x∧nx p S i (Par.name) x b7 cS bN bp∧ak (p.cb cS d bN bp::p.toks::fs) h1:=by
 obtain ⟨t,ht,dh⟩:=hx.row
 have ob:=hx.small
 have hlt:=hx.lt
 refine bU.dR D.f57 rfl (WP.af (I.az (.str 0 0) (I.nil (WP.seq (WP.draw (ae.v (.ptr p.aW 0) (ae.v (.ptr p.aW 0) (ae.f (.ptr p.aW 0) (ae.b (.av p.ch p.to p.a8.length p.cap) (st.aF 0 rfl) (ae.v (.ptr p.aW 0) (ae.v (.ptr p.aW 0) (ae.f (.ptr p.aW 1) (ae.b (.n i) (st.aF 0 rfl) (ae.val (v:= .ptr p.ch (p.to+i * 3)) (L.bQ rfl rfl hx.lt) (ae.val (v:= .agg [.n t.kind,L.str t.text, .n t.at_]) (L.dd rfl ((st.aS 1 rfl).dd dh)) (ae.dq st L.alloc (fun fw h st=> ?_)))))))))))))))))
 refine ae.fV (row':=[.n t.kind,L.str t.text, .n t.at_]) st 0 rfl rfl rfl rfl rfl rfl rfl (fun h st=>rfl) (fun h st=> ?_)
 refine ae.nil (WP.seq (WP.af (I.v (.ptr p.aW 0) (I.f (.ptr p.aW 3) (I.b (.n e) (st.aF 1 rfl) (I.eo (L.neq rfl rfl) (fun ce=> ?_) (fun ce=> ?_)))))))
 ·replace ce:e≠0:=by omega
  have jN:=hx.bad ce
  refine I.eP (I.no rfl (I.az (.bool true) (I.bh (WP.af (I.bD rfl (uC D ((st.pick 2 rfl).pick 2 rfl) hx (by decide)) ?_)))))
  rintro _ h ⟨rfl,uE,uF,pQ,hi,st⟩
  refine I.af (I.az (.str 0 0) (I.rt ?_))
  exact ⟨_,(ca (.str 0 0)),[],_,_,_,_,rfl,⟨hi,Par.aD.SQ (fun l kb=>by rw [jN] at kb;cases kb),by omega⟩,(st.pick 2 rfl).tail⟩
 ·replace ce:e=0:=by omega
  obtain ⟨aZ,uD,EY,pB⟩:=hx.gm ce
  subst uD EY ce
  have hx:XAt p i 0 0 (.ok aZ):= .ok pB
  refine I.yes rfl (I.f (.ptr fw 0) (I.yes rfl (I.b (.n t.kind) (st.aF 0 rfl) (I.yes rfl (I.eo (L.neq rfl rfl) (fun ik=> ?_) (fun ik=> ?_))))))
  ·replace ik:t.kind≠1:=by omega
   have k6:=hx.aX ht
   refine I.az (.bool true) (I.bh (WP.af (I.bD rfl (uC D ((st.pick 2 rfl).pick 2 rfl) (XAt.ok pB) (by decide)) ?_)))
   rintro _ h ⟨rfl,uE,uF,pQ,hi,st⟩
   refine I.af (I.az (.str 0 0) (I.rt ?_))
   exact ⟨_,(ca (.str 0 0)),[],_,_,_,_,rfl,⟨hi,Par.aD.SQ (fun l kb=>by cases kb;rw [k6];exact ik),by omega⟩,(st.pick 2 rfl).tail⟩
  ·replace ik:t.kind=1:=by omega
   have k6:=hx.aX ht
   refine I.az (.bool false) (I.aY (WP.skip (WP.af (I.v (.ptr p.aW 0) (I.f (.ptr p.aW 1) (I.b (.n i) (st.aF 1 rfl) (I.val (v:= .n (i+1)) L.cB (I.v (.ptr p.aW 0) (I.f (.ptr p.aW 1) (I.cc [.av p.ch p.to p.a8.length p.cap, .n (i+1), .n d, .int .i64 0, .int .i64 0] st 1 rfl (fun h st=> ?_)))))))))))
   refine I.af (I.f (.ptr fw 1) (I.rC (L.str t.text) (st.aF 0 rfl) (I.rt ?_)))
   exact ⟨_,(ca (L.str t.text)),t.text,_,_,_,_,rfl,⟨.ok (pB.tail (by rw [k6];omega)),by rw [←k6];exact Par.aD.acW (by rw [k6];exact ik),by omega⟩,st.tail⟩
theorem afd (D:gO c) {fs:List Fact} {h:ag} {p:eE} {i d e a:Nat} {S:Par.dz} {s:List UInt8} (st:ak (p.cb i d e a::p.toks::fs) h) (hx:XAt p i e a S) (fB:Par.gF s S=false):
 bU c 58 [.ptr p.aW 0,L.str s] h fun v h1=>v= .bool false∧ak (p.cb i d e a::p.toks::fs) h1:=by
 obtain ⟨v,h1,hr,hp⟩:=iV (s:=s) D st hx
 refine ⟨v,h1,hr, ?_⟩
 rcases hp with ⟨_,⟨l,rfl,_,_,aq,_⟩,_⟩|⟨aE,_,st⟩
 ·exact absurd (show Par.is s l=false from fB) (by rw [aq];decide)
 ·exact ⟨aE,st⟩
theorem afe (D:gO c) {fs:List Fact} {h:ag} {s:List UInt8} (st:ak fs h):
 bU c 68 [L.str s] h fun v h1=>match Par.rows s with
  | .ok m=>∃x,v= .dD [x, .int .i64 0, .int .i64 0]∧x.dY=some [x]∧ak (.ay (fun h=>Rows 3 h x (m.map cC.row))::fs) h1
  | .error (e,a)=>e≠0∧v= .dD [.U, .n e, .n a]∧ak fs h1:=by
 refine bU.dR D.f68 rfl (WP.af (I.az .U (I.az (.int .i64 0) (I.az (.int .i64 0) (I.nil (WP.seq (WP.aG ?_)))))))
 have ax:=TW (s:=s) D st
 cases kh:Lex.lex s with
 |error z=>
  obtain ⟨ex,ta⟩:=z
  rw [kh] at ax
  refine I.bD rfl ax ?_
  rintro _ h ⟨rfl,st⟩
  have hex:=SP kh
  refine I.v .U (I.v (.n ex) (I.v (.n ta) (I.az .U (I.az (.n ex) (I.az (.n ta) (I.nil (WP.seq (WP.af (I.bR (L.neq rfl rfl) (fun oP=> ?_) (fun oP=>by exfalso;omega))))))))))
  refine I.bh (WP.af (I.az .U (I.az (.n ex) (I.az (.n ta) (I.rt ?_)))))
  have cJ:Par.rows s= .error (ex,ta):=by unfold Par.rows;rw [kh]
  rw [cJ]
  exact ⟨_,(cT (fS (v:= .U) rfl) (cT (fS (v:= .n ex) rfl) (ca (.n ta)))),hex,rfl,st⟩
 |ok a8=>
  rw [kh] at ax
  refine I.bD rfl ax ?_
  rintro _ h ⟨y,rfl,st⟩
  obtain ⟨p0,rfl,rfl⟩:=SN st (Ib kh ⟨0,0,0,none,a8⟩ rfl).2
  refine I.v (.av p0.ch p0.to p0.a8.length p0.cap) (I.v (.int .i64 0) (I.v (.int .i64 0) (I.az (.av p0.ch p0.to p0.a8.length p0.cap) (I.az (.int .i64 0) (I.az (.int .i64 0) (I.nil (WP.seq (WP.af (I.bR (L.neq rfl rfl) (fun oP=>by exfalso;omega) (fun oP=> ?_))))))))))
  refine I.aY (WP.skip (WP.af (I.val (v:= .agg [.av p0.ch p0.to p0.a8.length p0.cap, .int .i64 0, .int .i64 0, .int .i64 0, .int .i64 0]) (L.build rfl) (I.dq st (L.box (l:=[.av p0.ch p0.to p0.a8.length p0.cap, .int .i64 0, .int .i64 0, .int .i64 0, .int .i64 0]) rfl rfl) (fun aW h st=> ?_)))))
  obtain ⟨p,hp,vO,EZ,E0,E1,NA⟩:∃p:eE,p.a8=p0.a8∧p.aW=aW∧p.ch=p0.ch∧p.to=p0.to∧p.cap=p0.cap∧Left p 0 p.a8:=⟨{p0 with aW:=aW},rfl,rfl,rfl,rfl,rfl,(Ib kh {p0 with aW:=aW} rfl).1⟩
  rw [←hp] at kh
  rw [←hp,←vO,←EZ,←E0,←E1] at st
  rw [←hp,←vO,←EZ,←E0,←E1]
  refine I.af (I.az .U (I.af (I.bD rfl (fY (s:=[108,97,98,101,108,115]) D st (XAt.ok NA)) ?_)))
  rintro _ h ⟨x1,S1,i1,aT,a1,rfl,q1,st⟩
  have nB:=q1.cL
  have r3:=q1.at_.lt
  refine I.nil (WP.seq (WP.block ?_))
  replace st:ak (.acc 0 3 .U (([]:List cC).map cC.row)::(p.cb i1 0 aT a1)::p.toks::fs) h:=st.je 3
  have T0:=q1.at_
  refine WP.dr (α:=Nat) (fun k env h=>∃fZ b1 cx fH xz jl c5 rZ hI mH kg iG ij,((∀y b7,Par.aD fZ (fun l=>Par.n2 k l xz) y b7→Par.aD S1 (fun l=>Par.n2 l.length l []) y b7)∧XAt p b1 cx fH fZ∧(cx=0→p.a8.length≤b1+k)∧xz.length≤b1+min cx 1)∧env=cM [L.str s, .U, .int .i64 0, .int .i64 0, .int .i64 0, .bool false, .int .i64 0, .av p.ch p.to p.a8.length p.cap, .ptr p.aW 0,rZ,hI,mH,kg,c5,iG,ij] 0 Env.nil∧ak ((p.cb b1 0 cx fH)::p.toks:: .acc jl 3 c5 (xz.map cC.row)::fs) h) (fun k=>k) (Par.dz.len S1) ?_ ?_
  ·exact ⟨S1,i1,aT,a1,[],0, .U, .bot, .bot, .bot, .bot, .bot, .bot,⟨fun _ _ r=>Par.aD.len (F:=fun n l=>Par.n2 n l []) r,T0,T0.fuel,Nat.zero_le _⟩,by kernel_rfl,((st.pick 2 rfl).pick 2 rfl)⟩
  rintro k _ h ⟨fZ,b1,cx,fH,xz,jl,c5,rZ,hI,mH,kg,iG,ij,⟨aC,hz,hk,xZ⟩,rfl,st⟩
  have xD:=hz.lt
  have xE:=hz.small
  refine WP.ss (WP.draw (ae.v (.ptr p.aW 0) (ae.v (.ptr p.aW 0) (ae.f (.ptr p.aW 3) (ae.b (.n cx) (st.aF 0 rfl) (ae.eo (L.eql rfl rfl) (fun _ ce=> ?_) (fun _ ce=> ?_)))))))
  ·replace ce:cx=0:=by omega
   obtain ⟨bF,oW,oe,gp⟩:=hz.gm ce
   subst oW oe ce
   refine ae.v (.bool true) (ae.yes rfl (ae.v (.ptr p.aW 0) (ae.yes rfl (ae.v (.ptr p.aW 0) (ae.yes rfl (ae.f (.ptr p.aW 0) (ae.yes rfl (ae.b (.av p.ch p.to p.a8.length p.cap) (st.aF 0 rfl) (ae.yes rfl (ae.v (.ptr p.aW 0) (ae.yes rfl (ae.v (.ptr p.aW 0) (ae.yes rfl (ae.f (.ptr p.aW 1) (ae.yes rfl (ae.b (.n b1) (st.aF 0 rfl) (ae.yes rfl (ae.val (v:= .ptr p.ch (p.to+b1 * 3)) (L.bQ rfl rfl (XAt.ok gp).lt) (ae.yes rfl (ae.f (.ptr p.ch (p.to+b1 * 3+0)) (ae.yes rfl ?_)))))))))))))))))))))
   obtain ⟨t,ht,dh⟩:=(XAt.ok gp).row
   have k6:=(XAt.ok gp).aX ht
   refine ae.val (v:= .int .i64 ((Par.aX bF).kind:Int)) (by rw [k6];exact L.load rfl ((st.aS 1 rfl).yy dh (show _=some _ from rfl))) (ae.yes rfl (ae.eo (L.neq rfl rfl) (fun _ pR=> ?_) (fun _ pR=> ?_)))
   ·replace pR:(Par.aX bF).kind≠0:=by omega
    obtain ⟨k,rfl⟩:∃m,k=m+1:=⟨k - 1,by omega⟩
    refine ae.az (.bool true) (ae.bh (WP.skip (WP.block (WP.af (I.dU rfl (s8 D st (XAt.ok gp)) ?_)))))
    rintro _ h ⟨rfl,st⟩
    refine I.af (I.dU rfl (nA D st (XAt.ok gp)) ?_)
    rintro _ h ⟨b9,ez,i3,dH,a3,rfl,ea,st⟩
    have tb:=ea.cL
    have uG:=ea.at_.lt
    refine I.nil (WP.seq (WP.af (I.bD rfl (s9 (s:=[60]) D st ea.at_) ?_)))
    rintro _ h ⟨rfl,st⟩
    cases oH:Par.gF [60] ez
    ·refine I.az (.bool true) (I.bh (WP.aG (I.val (v:= .agg [L.str b9, .str 0 0, .int .i64 (a6 p b1:Int)]) (L.build rfl) (I.eI (rows:=[[L.str b9, .str 0 0, .int .i64 (a6 p b1:Int)]]) st rfl (by decide) rfl (by simp) (fun fM h st=> ?_)))))
     refine I.gJ st 3 rfl rfl rfl (st.aS 0 rfl) (by decide) (by simp;omega) (fun f4 v4 h st=> ?_)
     rw [show (xz.map cC.row)++[[L.str b9,V.str 0 0,V.int .i64 (a6 p b1:Int)]]=(xz++[cC.mk b9 [] (a6 p b1)]).map cC.row from by simp [cC.row];rfl] at st
     obtain ⟨zu,rfl⟩:=(st.et 3 rfl).ne (by simp)
     refine I.nil (WP.seq (WP.block ?_))
     have cA:=Par.SS (k:=ez.len) (last:=b9) (x:=xz) (al:=true) oH (fun l e=>by have:=ea.at_;rw [e] at this ⊢;exact List.length_pos_iff.2 this.ig.2.2.ne)
     replace cA:=Par.aD.len (F:=fun k l=>Par.mA k l b9 xz true) cA
     refine WP.dr (α:=Nat) (fun u env h=>∃iG ij,True∧env=cM [L.str s, .U, .int .i64 0, .int .i64 0, .int .i64 0, .bool false, .int .i64 0, .av p.ch p.to p.a8.length p.cap, .ptr p.aW 0, .bool true, .bool true,L.str b9, .int .i64 (a6 p b1:Int), .av zu 0 (((xz++[cC.mk b9 [] (a6 p b1)]).map cC.row).length) none,iG,ij] 0 Env.nil∧ak (.ay (fun h=>Rows 3 h (.av fM 0 1 (some 1)) [[L.str b9, .str 0 0, .int .i64 (a6 p b1:Int)]])::(p.cb i3 0 dH a3)::p.toks:: .acc f4 3 (.av zu 0 ((xz++[cC.mk b9 [] (a6 p b1)]).map cC.row).length none) ((xz++[cC.mk b9 [] (a6 p b1)]).map cC.row)::fs) h) (fun u=>u) 0 ?_ ?_
     ·exact ⟨iG,ij,trivial,by kernel_rfl,st⟩
     rintro u _ h ⟨iG,ij,ajH,rfl,st⟩
     refine WP.seq (WP.af (I.dU rfl (afd D ((st.pick 2 rfl).pick 2 rfl) ea.at_ oH) ?_))
     rintro _ h ⟨rfl,st⟩
     refine I.aY (WP.exit (WP.aG (I.bD rfl (fY (s:=[59]) D st ea.at_) ?_)))
     rintro _ h ⟨eN,hG,i5,gY,a5,rfl,iE,st⟩
     have IJ:=iE.cL
     have B3:=iE.at_.lt
     refine I.nil ?_
     exact ⟨k,(Nat.lt_succ_self _),hG,i5,gY,a5,(xz++[cC.mk b9 [] (a6 p b1)]),f4,(.av zu 0 ((xz++[cC.mk b9 [] (a6 p b1)]).map cC.row).length none),(.bool true),(.bool true),(L.str b9),(.int .i64 (a6 p b1:Int)),(.bool false),ij,⟨fun y b7 r=>aC y b7 (Par.SU pR gp.here ea.res cA iE.res r),iE.at_,(by omega),(by first|omega|(simp;omega))⟩,by kernel_rfl,(st.pick 2 rfl).tail⟩
    ·refine I.az (.bool false) (I.aY (WP.skip (WP.seq (WP.block (WP.dr (α:=Nat) (fun c6 env h=>∃fg ng eq IK uH tc al E2 B4 kg iG ij,((∀y b7,Par.aD fg (fun l=>Par.mA c6 l uH tc al) y b7→Par.aD ez (fun l=>Par.mA l.length l b9 xz true) y b7)∧XAt p ng eq IK fg∧(eq=0→p.a8.length≤ng+c6)∧tc.length≤ng+min eq 1∧(al=true→Par.gF [60] fg=true)∧b1+1≤ng+min eq 1)∧env=cM [L.str s, .U, .int .i64 0, .int .i64 0, .int .i64 0, .bool false, .int .i64 0, .av p.ch p.to p.a8.length p.cap, .ptr p.aW 0, .bool true, .bool false,L.str uH,kg,B4,iG,ij] 0 Env.nil∧ak ((p.cb ng 0 eq IK)::p.toks:: .acc E2 3 B4 (tc.map cC.row)::fs) h) (fun c6=>c6) (Par.dz.len ez) ?_ ?_)))))
     ·exact ⟨ez,i3,dH,a3,b9,xz,true,jl,c5,(.int .i64 (a6 p b1:Int)),iG,ij,⟨fun _ _ r=>Par.aD.len (F:=fun k l=>Par.mA k l b9 xz true) r,ea.at_,ea.at_.fuel,(by omega),(fun _=>oH),tb⟩,by kernel_rfl,st⟩
     rintro c6 _ h ⟨fg,ng,eq,IK,uH,tc,al,E2,B4,kg,iG,ij,⟨uf,bC,wv,ajI,AJ,ajJ⟩,rfl,st⟩
     have ajK:=bC.lt
     have ajL:=bC.small
     refine WP.seq (WP.af (I.dU rfl (iV (s:=[60]) D st bC) ?_))
     rintro _ h (⟨rfl,⟨BB,B5,aff,afg,pK,r4⟩,cw⟩|⟨rfl,pK,cw⟩)
     ·subst B5 aff afg
      replace st:ak ((p.cb (ng+1) 0 0 0)::p.toks:: .acc E2 3 B4 (tc.map cC.row)::fs) h:=cw
      have zv:=r4.lt
      obtain ⟨c6,rfl⟩:∃m,c6=m+1:=⟨c6 - 1,by omega⟩
      refine I.bh (WP.skip (WP.block (WP.af (I.dU rfl (s8 D st (XAt.ok r4)) ?_))))
      rintro _ h ⟨rfl,st⟩
      refine I.af (I.dU rfl (nA D st (XAt.ok r4)) ?_)
      rintro _ h ⟨dc,sZ,i7,sF,uI,rfl,gP,st⟩
      have B6:=gP.cL
      have B7:=gP.at_.lt
      refine I.af (I.val (v:= .agg [L.str uH,L.str dc, .int .i64 (a6 p (ng+1):Int)]) (L.build rfl) (I.eI (rows:=[[L.str uH,L.str dc, .int .i64 (a6 p (ng+1):Int)]]) st rfl (by decide) rfl (by simp) (fun mG h st=> ?_)))
      refine I.gJ st 3 rfl rfl rfl (st.aS 0 rfl) (by decide) (by simp;omega) (fun f8 B2 h st=> ?_)
      rw [show (tc.map cC.row)++[[L.str uH,L.str dc,V.int .i64 (a6 p (ng+1):Int)]]=(tc++[cC.mk uH dc (a6 p (ng+1))]).map cC.row from by simp [cC.row]] at st
      obtain ⟨Nz,rfl⟩:=(st.et 3 rfl).ne (by simp)
      refine I.nil (WP.aG (I.az (L.str dc) (I.nil ?_)))
      exact ⟨c6,(Nat.lt_succ_self _),sZ,i7,sF,uI,dc,(tc++[cC.mk uH dc (a6 p (ng+1))]),false,f8,(.av Nz 0 ((tc++[cC.mk uH dc (a6 p (ng+1))]).map cC.row).length none),(.int .i64 (a6 p (ng+1):Int)),(.bool true),(L.str dc),⟨fun y b7 r=>uf y b7 (Par.acX pK r4.here gP.res r),gP.at_,(by omega),(by simp;omega),(by intro hf;cases hf),(by omega)⟩,by kernel_rfl,st.tail⟩
     ·replace st:ak ((p.cb ng 0 eq IK)::p.toks:: .acc E2 3 B4 (tc.map cC.row)::fs) h:=cw
      have cA:=uf _ _ (Par.SS pK (fun l e=>by subst e;have:=bC.ig.1;omega))
      obtain rfl:al=false:=by cases al with
       |false=>rfl
       |true=>exact absurd (AJ rfl) (by rw [pK];decide)
      refine I.aY (WP.exit (WP.aG (I.bD rfl (fY (s:=[59]) D st bC) ?_)))
      rintro _ h ⟨ic,E3,i9,sG,a9,rfl,k7,st⟩
      have IL:=k7.cL
      have E4:=k7.at_.lt
      refine I.nil ?_
      exact ⟨k,(Nat.lt_succ_self _),E3,i9,sG,a9,tc,E2,B4,(.bool true),(.bool false),(L.str uH),kg,(.bool false),ij,⟨fun y b7 r=>aC y b7 (Par.SU pR gp.here ea.res cA k7.res r),k7.at_,(by omega),(by first|omega|(simp;omega))⟩,by kernel_rfl,st⟩
   ·replace pR:(Par.aX bF).kind=0:=by omega
    obtain ⟨k,rfl⟩:∃m,k=m+1:=⟨k - 1,by omega⟩
    refine ae.az (.bool false) (ae.aY (WP.exit (WP.seq (WP.af (I.v (.ptr p.aW 0) (I.f (.ptr p.aW 3) (I.b (.int .i64 0) (st.aF 0 rfl) (I.bR (L.neq rfl rfl) (fun ce=>by exfalso;omega) (fun ce=> ?_)))))))))
    refine I.aY (WP.skip (WP.af (I.az c5 (I.az (.int .i64 0) (I.az (.int .i64 0) (I.rt ?_))))))
    have cj:=Par.aD.out (Par.aD.cast (fun l _=>Par.SV l) (q1.res.bf (aC xz _ (Par.acY pR))))
    have cJ:Par.rows s= .ok xz:=by unfold Par.rows;rw [kh];simp only [cj]
    rw [cJ]
    exact ⟨_,(cT (fS (v:=c5) rfl) (cT (fS (v:= .int .i64 0) rfl) (ca (.int .i64 0)))),c5,rfl,(st.et 2 rfl).cells,(st.tail.tail).shut (by decide)⟩
  ·replace ce:cx≠0:=by omega
   have jN:=hz.bad ce
   refine ae.v (.bool false) (ae.no rfl (ae.no rfl (ae.no rfl (ae.no rfl (ae.no rfl (ae.no rfl (ae.no rfl (ae.no rfl (ae.no rfl (ae.no rfl (ae.no rfl (ae.no rfl (ae.az (.bool false) (ae.aY (WP.exit (WP.seq (WP.af (I.v (.ptr p.aW 0) (I.f (.ptr p.aW 3) (I.b (.n cx) (st.aF 0 rfl) (I.bR (L.neq rfl rfl) (fun ce=> ?_) (fun ce=>by exfalso;omega))))))))))))))))))))))
   refine I.bh (WP.seq (WP.draw (ae.v (.ptr p.aW 0) (ae.v (.ptr p.aW 0) (ae.f (.ptr p.aW 3) (ae.b (.n cx) (st.aF 0 rfl) (ae.v (.ptr p.aW 0) (ae.v (.ptr p.aW 0) (ae.f (.ptr p.aW 4) (ae.b (.n fH) (st.aF 0 rfl) (ae.az .U (ae.az (.n cx) (ae.az (.n fH) (ae.nil (WP.ret ?_)))))))))))))))
   have qq:Par.aD fZ (fun l=>Par.n2 k l xz) xz (.error (cx,fH)):=by rw [jN];rfl
   have cj:=Par.aD.out (Par.aD.cast (fun l _=>Par.SV l) (q1.res.bf (aC xz _ qq)))
   have cJ:Par.rows s= .error (cx,fH):=by unfold Par.rows;rw [kh];simp only [cj]
   rw [cJ]
   exact ⟨_,(cT (fS (v:= .U) rfl) (cT (fS (v:= .n cx) rfl) (ca (.n fH)))),(by omega),rfl,st.tail.tail.tail⟩
end
end Go.Eng.YtmcjcbldmoijiaaGreatDoor
namespace Go.Eng.YtmcjcbldmoijiaaGreatDoor
open Go.Eng
noncomputable section
variable {c:Ctx}
theorem NB (D:gO c) {fs:List Fact} {h:ag} {s:List UInt8} (st:ak fs h) (aX:xk s):
 bU c 83 [L.str s] h fun v h1=>v= .int .i64 (num s:Int)∧ak fs h1:=by
 have ajM:=aX.len
 refine bU.dR D.f83 rfl (WP.af (I.az (.int .i64 0) (I.af (I.az (.int .i64 0) (I.nil (WP.seq (WP.af (I.az (.int .i64 0) (I.nil (WP.block (WP.dr (α:=Nat) (fun k env h=>∃h6,(k≤s.length)∧env=cM [L.str s, .int .i64 0, .n k,h6, .int .i64 (num (s.take k):Int)] 0 Env.nil∧ak (fs) h) (fun k=>s.length - k) 0 ?_ ?_)))))))))))
 ·exact ⟨.bot,(Nat.zero_le _),by kernel_rfl,st⟩
 rintro k _ h ⟨h6,hk,rfl,st⟩
 have kO:=aX.bound k
 refine WP.seq (WP.af (I.val (v:= .n s.length) (L.qo rfl) (I.bR (L.lss rfl rfl) (fun c1=> ?_) (fun c1=> ?_))))
 ·replace c1:k<s.length:=by omega
  refine I.bh (WP.skip (WP.seq (WP.block (WP.aG (I.val (v:= .int .i64 ((num (s.take k) * 10:Nat):Int)) (L.ZO rfl rfl (by omega) (And.intro (by omega) (by omega))) ?_)))))
  obtain ⟨b,hb⟩:∃b,s[k]? =some b:=⟨_,List.getElem?_eq_getElem (by omega)⟩
  have NC:=aX.St b (List.mem_of_getElem? hb)
  refine I.val (v:= .int .u8 (b.toNat:Int)) (L.rA rfl rfl hb) (I.val (v:= .int .u8 ((b.toNat - 48:Nat):Int)) (L.Z1 (a:=b.toNat) (b:=48) rfl rfl rfl (by omega) (by omega)) (I.val (v:= .n (b.toNat - 48)) (L.Z2 rfl (And.intro (by omega) (by omega))) (I.bX (v:= .int .i64 (num (s.take (k+1)):Int)) (L.QM rfl rfl (by rw [MO hb];omega) (by rw [MO hb];exact And.intro (by omega) (by omega))) (I.nil (WP.aG (I.bX (v:= .n (k+1)) L.cB (I.nil ?_)))))))
  exact ⟨k+1,(by omega),(.bool true),by omega,by kernel_rfl,st⟩
 ·replace c1:¬(k<s.length):=by omega
  refine I.aY (WP.exit (WP.af (I.az (.int .i64 (num (s.take k):Int)) (I.rt ?_))))
  exact ⟨_,(ca (.int .i64 (num (s.take k):Int))),(by rw [List.take_of_length_le (by omega)];rfl),st⟩
theorem B8 (D:gO c) {fs:List Fact} {h:ag} {k kd at_:Nat} {A:Int} {v:V} {ns:List bS} (st:ak (.acc k 7 v (ns.map bS.row)::fs) h) (hn:ns.length<4294967298):
 bU c 158 [v, .int .i64 A, .n kd, .n at_] h fun v1 h1=>∃An,ak (.acc An 7 v1 ((ns++[bS.mk kd 0 [] [] A ((ns.length:Int) - 1) at_]).map bS.row)::fs) h1:=by
 refine bU.dR D.f158 rfl (WP.af (I.az .U (I.af (I.val (v:= .n ns.length) (L.eB rfl (st.rB 0 rfl (by decide)) (List.length_map _)) (I.val (v:= .int .i64 ((ns.length:Int) - 1)) (L.iB rfl rfl (by omega) (And.intro (by omega) (by omega))) (I.val (v:= .agg [.n kd, .int .i64 0, .str 0 0, .str 0 0, .int .i64 A, .int .i64 ((ns.length:Int) - 1), .n at_]) (L.build rfl) (I.eI (rows:=[[.n kd, .int .i64 0, .str 0 0, .str 0 0, .int .i64 A, .int .i64 ((ns.length:Int) - 1), .n at_]]) st rfl (by decide) rfl (by simp) (fun fM h st=> ?_))))))))
 refine I.gJ st 1 rfl rfl rfl (st.aS 0 rfl) (by decide) (by simp;omega) (fun f1 v1 h st=> ?_)
 rw [show (ns.map bS.row)++[[V.n kd,V.int .i64 0,V.str 0 0,V.str 0 0,V.int .i64 A,V.int .i64 ((ns.length:Int) - 1),V.n at_]]=(ns++[bS.mk kd 0 [] [] A ((ns.length:Int) - 1) at_]).map bS.row from by simp [bS.row];rfl] at st
 obtain ⟨rU,rfl⟩:=(st.et 1 rfl).ne (by simp)
 refine I.rt ?_
 exact ⟨_,(cT (fS (v:= .av rU 0 (((ns++[bS.mk kd 0 [] [] A ((ns.length:Int) - 1) at_]).map bS.row).length) none) rfl) (fo _ _)),_,st.tail⟩
theorem IM (D:gO c) {fs:List Fact} {h:ag} {p:eE} {i d e a:Nat} {S:Par.dz} (st:ak (p.cb i d e a::p.toks::fs) h) (hx:XAt p i e a S):
 bU c 140 [.ptr p.aW 0] h fun v h1=>∃(x:List UInt8×List UInt8) (b7:Par.dz) (cS bN bp:Nat),v= .dD [L.str x.1,L.str x.2]∧nx p S i (Par.iS) x b7 cS bN bp∧ak (p.cb cS d bN bp::p.toks::fs) h1:=by
 refine bU.dR D.f140 rfl (WP.af (I.az (.str 0 0) (I.az (.str 0 0) (I.af (I.dU rfl (nA D st hx) ?_)))))
 rintro _ h ⟨x1,S1,i1,aT,a1,rfl,q1,st⟩
 have nB:=q1.cL
 have r3:=q1.at_.lt
 refine I.nil (WP.seq (WP.af (I.dU rfl (iV (s:=[46]) D st q1.at_) ?_)))
 rintro _ h (⟨rfl,⟨bF,oW,sz,oe,aq,gp⟩,cw⟩|⟨rfl,aq,cw⟩)
 ·subst oW sz oe
  replace st:ak ((p.cb (i1+1) d 0 0)::p.toks::fs) h:=cw
  have xF:=gp.lt
  refine I.bh (WP.af (I.bD rfl (nA D st (XAt.ok gp)) ?_))
  rintro _ h ⟨b9,ez,i3,dH,a3,rfl,ea,st⟩
  have tb:=ea.cL
  have uG:=ea.at_.lt
  refine I.az (L.str x1) (I.az (L.str b9) (I.rt ?_))
  exact ⟨_,(cT (fS (v:=L.str x1) rfl) (ca (L.str b9))),(x1,b9),_,_,_,_,rfl,⟨ea.at_,Par.ac7 q1.res aq ea.res,by omega⟩,st⟩
 ·replace st:ak ((p.cb i1 d aT a1)::p.toks::fs) h:=cw
  refine I.aY (WP.skip (WP.af (I.az (.str 0 0) (I.az (L.str x1) (I.rt ?_)))))
  exact ⟨_,(cT (fS (v:= .str 0 0) rfl) (ca (L.str x1))),([],x1),_,_,_,_,rfl,⟨q1.at_,Par.ac8 q1.res aq,by omega⟩,st⟩
theorem IP (D:gO c) {fs:List Fact} {h:ag} {p:eE} {i d e a:Nat} {S:Par.dz} {s:List UInt8} (st:ak (p.cb i d e a::p.toks::fs) h) (hx:XAt p i e a S) (aX:d≤40):
 bU c 110 [.ptr p.aW 0,L.str s] h fun v h1=>∃(b7:Par.dz) (cS bN bp:Nat),v= .dD []∧nx p S i (Par.n9 d s) () b7 cS bN bp∧(bN=0→d+1≤40)∧ak (p.cb cS (d+1) bN bp::p.toks::fs) h1:=by
 refine bU.dR D.f110 rfl (WP.seq (WP.af (I.bD rfl (s9 (s:=s) D st hx) ?_)))
 rintro _ h ⟨rfl,st⟩
 cases EX:Par.gF s S
 ·refine I.gK (I.no rfl (I.az (.bool false) (I.aY (WP.skip (WP.af (I.bD rfl (fY (s:=s) D st hx) ?_))))))
  rintro _ h ⟨x1,S1,i1,aT,a1,rfl,q1,st⟩
  have nB:=q1.cL
  have r3:=q1.at_.lt
  refine I.nil (WP.aG (I.v (.ptr p.aW 0) (I.f (.ptr p.aW 2) (I.b (.n d) (st.aF 0 rfl) (I.val (v:= .n (d+1)) L.cB (I.v (.ptr p.aW 0) (I.f (.ptr p.aW 2) (I.cc [.av p.ch p.to p.a8.length p.cap, .n i1, .n (d+1), .n aT, .n a1] st 0 rfl (fun h st=> ?_)))))))))
  refine I.nil ?_
  have uD:S1=Par.vK 11 S:=by
   have:=q1.res
   cases S with
   |error z=>exact this
   |ok l=>have h2:Par.is s l=false:=EX;unfold Par.aD Par.must at this;simp only [h2,Bool.false_eq_true,if_false] at this;exact this
  exact ⟨_,(fo _ _),_,_,_,_,rfl,⟨q1.at_,(by rw [uD];exact Par.adb EX),by omega⟩,(fun h0=>by obtain ⟨bF,h2,_⟩:=q1.at_.gm h0;rw [uD] at h2;cases S<;>cases h2),st⟩
 ·obtain ⟨l,kb,he,ha,aq,au⟩:=hx.gF EX
  subst kb he ha
  refine I.yes rfl (I.v (.ptr p.aW 0) (I.yes rfl (I.v (.ptr p.aW 0) (I.yes rfl (I.f (.ptr p.aW 2) (I.yes rfl (I.b (.n d) (st.aF 0 rfl) (I.yes rfl (I.eo (L.geq rfl rfl) (fun E5=> ?_) (fun E5=> ?_))))))))))
  ·replace E5:40≤d:=by omega
   refine I.az (.bool true) (I.bh (WP.aG (I.bD rfl (uC D st (XAt.ok au) (by decide)) ?_)))
   rintro _ h ⟨rfl,uE,uF,pQ,hi,st⟩
   refine I.af (I.bD rfl (fY (s:=s) D st hi) ?_)
   rintro _ h ⟨b2,cv,i2,bu,a2,rfl,dn,st⟩
   have xG:=dn.cL
   have xF:=dn.at_.lt
   refine I.nil (WP.aG (I.v (.ptr p.aW 0) (I.f (.ptr p.aW 2) (I.b (.n d) (st.aF 0 rfl) (I.val (v:= .n (d+1)) L.cB (I.v (.ptr p.aW 0) (I.f (.ptr p.aW 2) (I.cc [.av p.ch p.to p.a8.length p.cap, .n i2, .n (d+1), .n bu, .n a2] st 0 rfl (fun h st=> ?_)))))))))
   refine I.nil ?_
   have hM:=hi.bad pQ
   rw [hM] at dn
   exact ⟨_,(fo _ _),_,_,_,_,rfl,⟨dn.at_,(by have:=dn.res;rw [show cv=_ from this,←hM];exact Par.ada aq E5),by omega⟩,(fun h0=>by obtain ⟨bF,h2,_⟩:=dn.at_.gm h0;have bj:=dn.res;rw [show cv=_ from bj] at h2;cases h2),st⟩
  ·replace E5:¬(40≤d):=by omega
   refine I.az (.bool false) (I.aY (WP.skip (WP.af (I.bD rfl (fY (s:=s) D st (XAt.ok au)) ?_))))
   rintro _ h ⟨b9,ez,i3,dH,a3,rfl,ea,st⟩
   have tb:=ea.cL
   have uG:=ea.at_.lt
   refine I.nil (WP.aG (I.v (.ptr p.aW 0) (I.f (.ptr p.aW 2) (I.b (.n d) (st.aF 0 rfl) (I.val (v:= .n (d+1)) L.cB (I.v (.ptr p.aW 0) (I.f (.ptr p.aW 2) (I.cc [.av p.ch p.to p.a8.length p.cap, .n i3, .n (d+1), .n dH, .n a3] st 0 rfl (fun h st=> ?_)))))))))
   refine I.nil ?_
   have uD:ez= .ok l.tail:=by have:=ea.res;unfold Par.aD Par.must at this;simp only [aq,if_true] at this;exact this.2
   exact ⟨_,(fo _ _),_,_,_,_,rfl,⟨ea.at_,(by rw [uD];exact Par.ac9 aq E5),by omega⟩,(fun _=>by omega),st⟩
theorem afh (D:gO c) {p:eE} {i d e a N:Nat} {S:Par.dz} {un:Par.E} {fs:List Fact} {h:ag} {ns:List bS} {k:Nat} {v:V} (og:uo c 165 N (un)) (st:ak (p.cb i d e a::p.toks:: .acc k 7 v (ns.map bS.row)::fs) h) (hx:XAt p i e a S) (fy:e=0→p.a8.length≤i+N∧d≤40) (aX:d≤41) (gH:ns.length≤i+min e 1):
 bU c 164 [.ptr p.aW 0,v] h (BO p d S i e (Par.chain un Par.vG) ns fs):=by
 have ob:=hx.small
 have hlt:=hx.lt
 refine bU.dR D.f164 rfl (WP.af (I.az .U (I.af (I.dU rfl (og st hx fy (by omega) (by omega)) ?_))))
 rintro v1 h ⟨fe,S1,i1,aT,a1,cH,q1,ml,oI,st⟩
 have nB:=q1.cL
 have r3:=q1.at_.lt
 refine I.nil (WP.seq (WP.block (WP.dr (α:=Nat) (fun g env h=>∃fZ b1 cx fH eG oX c5 fX h6 r5 td l3 qM uz,((∀y b7,Par.aD fZ (fun l=>Par.lz un Par.vG g d l (eG.length - 1) eG) y b7→Par.aD S (fun l=>Par.chain un Par.vG d l ns) y b7)∧XAt p b1 cx fH fZ∧(cx=0→p.a8.length≤b1+g)∧eG.length+(i+min e 1)≤ns.length+(b1+min cx 1)∧(cx=0→1≤eG.length)∧i+1≤b1+min cx 1∧(cx=0→e=0))∧env=cM [.ptr p.aW 0,c5,fX,h6,r5,td,l3,qM,uz] 0 Env.nil∧ak ((p.cb b1 d cx fH)::p.toks:: .acc oX 7 c5 (eG.map bS.row)::fs) h) (fun g=>g) (Par.dz.len S1) ?_ ?_)))
 ·exact ⟨S1,i1,aT,a1,fe,cH,v1, .U, .bot, .bot, .bot, .bot, .bot, .bot,⟨fun _ _ r=>Par.S3 q1.res (Par.aD.len (F:=fun n l=>Par.lz un Par.vG n d l (fe.length - 1) fe) r),q1.at_,q1.at_.fuel,ml,oI,nB,q1.gm hx⟩,by kernel_rfl,st⟩
 rintro g _ h ⟨fZ,b1,cx,fH,eG,oX,c5,fX,h6,r5,td,l3,qM,uz,⟨aC,hz,hk,E6,E7,tf,lI⟩,rfl,st⟩
 have xD:=hz.lt
 have xE:=hz.small
 refine WP.seq (WP.af (I.v (.ptr p.aW 0) (I.f (.ptr p.aW 3) (I.b (.n cx) (st.aF 0 rfl) (I.bR (L.eql rfl rfl) (fun ce=> ?_) (fun ce=> ?_))))))
 ·replace ce:cx=0:=by omega
  obtain ⟨bF,oW,oe,gp⟩:=hz.gm ce
  subst oW oe ce
  obtain ⟨g,rfl⟩:∃m,g=m+1:=⟨g - 1,by omega⟩
  refine I.bh (WP.skip (WP.block (WP.af (I.val (v:= .n eG.length) (L.eB rfl (st.rB 2 rfl (by decide)) (List.length_map _)) (I.val (v:= .int .i64 ((eG.length:Int) - 1)) (L.iB rfl rfl rfl (And.intro (by omega) (by omega))) (I.bD rfl (s8 D st (XAt.ok gp)) ?_))))))
  rintro _ h ⟨rfl,st⟩
  refine I.az (.int .i64 ((eG.length:Int) - 1)) (I.az (.int .i64 (a6 p b1:Int)) (I.nil (WP.block (WP.af (I.dU rfl (iV (s:=[42]) D st (XAt.ok gp)) ?_)))))
  rintro _ h (⟨rfl,⟨afi,E8,_,_,h1,xH⟩,cw⟩|⟨rfl,h1,cw⟩)
  ·cases E8
   replace st:ak ((p.cb (b1+1) d 0 0)::p.toks:: .acc oX 7 c5 (eG.map bS.row)::fs) h:=cw
   have uG:=xH.lt
   refine I.bh (WP.aG (I.bD rfl (og st (XAt.ok xH) (fun _=>⟨by have:=fy (lI rfl);omega,(fy (lI rfl)).2⟩) (by omega) (by omega)) ?_))
   rintro v4 h ⟨E9,gW,i4,gC,a4,nc,eL,afj,ND,st⟩
   have B9:=eL.cL
   have zw:=eL.at_.lt
   refine I.dU rfl (B8 (kd:=7) (at_:=(a6 p b1)) (A:=((eG.length:Int) - 1)) D (st.pick 2 rfl) (by omega)) ?_
   rintro v5 h ⟨IQ,st⟩
   refine I.nil ?_
   exact ⟨g,(Nat.lt_succ_self _),gW,i4,gC,a4,(E9++[bS.mk 7 0 [] [] ((eG.length:Int) - 1) ((E9.length:Int) - 1) (a6 p b1)]),IQ,v5,fX,(.bool true),(.bool true),(.int .i64 ((eG.length:Int) - 1)),(.int .i64 (a6 p b1:Int)),qM,uz,⟨fun y b7 r=>aC y b7 (Par.EA (o:=([42],7)) (by simp [Par.find,Par.vG,h1]) gp.here (by omega) eL.res (fun aP bN=>by have:=eL.at_;rw [bN] at this;have:=ND this.ig.1;omega) r),eL.at_,(by omega),(by simp;omega),(by intro _;simp),(by omega),(fun _=>lI rfl)⟩,by kernel_rfl,((st.pick 2 rfl).pick 2 rfl)⟩
  ·replace st:ak ((p.cb b1 d 0 0)::p.toks:: .acc oX 7 c5 (eG.map bS.row)::fs) h:=cw
   replace h1:Par.is [42] bF=false:=h1
   refine I.aY (WP.af (I.dU rfl (iV (s:=[47]) D st (XAt.ok gp)) ?_))
   rintro _ h (⟨rfl,⟨afk,B5,_,_,h2,r4⟩,cw⟩|⟨rfl,h2,cw⟩)
   ·cases B5
    replace st:ak ((p.cb (b1+1) d 0 0)::p.toks:: .acc oX 7 c5 (eG.map bS.row)::fs) h:=cw
    have zv:=r4.lt
    refine I.bh (WP.aG (I.bD rfl (og st (XAt.ok r4) (fun _=>⟨by have:=fy (lI rfl);omega,(fy (lI rfl)).2⟩) (by omega) (by omega)) ?_))
    rintro II h ⟨Fa,sZ,i7,sF,uI,afl,gP,afm,NF,st⟩
    have B6:=gP.cL
    have B7:=gP.at_.lt
    refine I.dU rfl (B8 (kd:=8) (at_:=(a6 p b1)) (A:=((eG.length:Int) - 1)) D (st.pick 2 rfl) (by omega)) ?_
    rintro B2 h ⟨wK,st⟩
    refine I.nil ?_
    exact ⟨g,(Nat.lt_succ_self _),sZ,i7,sF,uI,(Fa++[bS.mk 8 0 [] [] ((eG.length:Int) - 1) ((Fa.length:Int) - 1) (a6 p b1)]),wK,B2,fX,(.bool true),(.bool false),(.int .i64 ((eG.length:Int) - 1)),(.int .i64 (a6 p b1:Int)),(.bool true),uz,⟨fun y b7 r=>aC y b7 (Par.EA (o:=([47],8)) (by simp [Par.find,Par.vG,h1,h2]) gp.here (by omega) gP.res (fun aP bN=>by have:=gP.at_;rw [bN] at this;have:=NF this.ig.1;omega) r),gP.at_,(by omega),(by simp;omega),(by intro _;simp),(by omega),(fun _=>lI rfl)⟩,by kernel_rfl,((st.pick 2 rfl).pick 2 rfl)⟩
   ·replace st:ak ((p.cb b1 d 0 0)::p.toks:: .acc oX 7 c5 (eG.map bS.row)::fs) h:=cw
    replace h2:Par.is [47] bF=false:=h2
    refine I.aY (WP.af (I.dU rfl (iV (s:=[37]) D st (XAt.ok gp)) ?_))
    rintro _ h (⟨rfl,⟨afn,IU,_,_,bj,zx⟩,cw⟩|⟨rfl,bj,cw⟩)
    ·cases IU
     replace st:ak ((p.cb (b1+1) d 0 0)::p.toks:: .acc oX 7 c5 (eG.map bS.row)::fs) h:=cw
     have E4:=zx.lt
     refine I.bh (WP.aG (I.bD rfl (og st (XAt.ok zx) (fun _=>⟨by have:=fy (lI rfl);omega,(fy (lI rfl)).2⟩) (by omega) (by omega)) ?_))
     rintro v10 h ⟨T1,xI,i10,xJ,xK,ajN,il,ajO,afo,st⟩
     have Fb:=il.cL
     have Ca:=il.at_.lt
     refine I.dU rfl (B8 (kd:=9) (at_:=(a6 p b1)) (A:=((eG.length:Int) - 1)) D (st.pick 2 rfl) (by omega)) ?_
     rintro v11 h ⟨T2,st⟩
     refine I.nil ?_
     exact ⟨g,(Nat.lt_succ_self _),xI,i10,xJ,xK,(T1++[bS.mk 9 0 [] [] ((eG.length:Int) - 1) ((T1.length:Int) - 1) (a6 p b1)]),T2,v11,fX,(.bool true),(.bool false),(.int .i64 ((eG.length:Int) - 1)),(.int .i64 (a6 p b1:Int)),(.bool false),(.bool true),⟨fun y b7 r=>aC y b7 (Par.EA (o:=([37],9)) (by simp [Par.find,Par.vG,h1,h2,bj]) gp.here (by omega) il.res (fun aP bN=>by have:=il.at_;rw [bN] at this;have:=afo this.ig.1;omega) r),il.at_,(by omega),(by simp;omega),(by intro _;simp),(by omega),(fun _=>lI rfl)⟩,by kernel_rfl,((st.pick 2 rfl).pick 2 rfl)⟩
    ·replace st:ak ((p.cb b1 d 0 0)::p.toks:: .acc oX 7 c5 (eG.map bS.row)::fs) h:=cw
     replace bj:Par.is [37] bF=false:=bj
     refine I.aY (WP.af (I.az c5 (I.rt ?_)))
     exact ⟨_,(ca c5),eG,_,_,_,_,_,⟨hz,aC _ _ (Par.S4 (by simp [Par.find,Par.vG,h1,h2,bj])),tf⟩,E6,E7,st⟩
 ·replace ce:cx≠0:=by omega
  have jN:=hz.bad ce
  refine I.aY (WP.exit (WP.af (I.az c5 (I.rt ?_))))
  exact ⟨_,(ca c5),eG,_,_,_,_,_,⟨hz,aC _ _ (by rw [jN];rfl),tf⟩,E6,E7,st⟩
theorem afp (D:gO c) {p:eE} {i d e a N:Nat} {S:Par.dz} {un:Par.E} {fs:List Fact} {h:ag} {ns:List bS} {k:Nat} {v:V} (og:uo c 164 N ((Par.term un))) (st:ak (p.cb i d e a::p.toks:: .acc k 7 v (ns.map bS.row)::fs) h) (hx:XAt p i e a S) (fy:e=0→p.a8.length≤i+N∧d≤40) (aX:d≤41) (gH:ns.length≤i+min e 1):
 bU c 157 [.ptr p.aW 0,v] h (BO p d S i e (Par.chain (Par.term un) Par.xl) ns fs):=by
 have ob:=hx.small
 have hlt:=hx.lt
 refine bU.dR D.f157 rfl (WP.af (I.az .U (I.af (I.dU rfl (og st hx fy (by omega) (by omega)) ?_))))
 rintro v1 h ⟨fe,S1,i1,aT,a1,cH,q1,ml,oI,st⟩
 have nB:=q1.cL
 have r3:=q1.at_.lt
 refine I.nil (WP.seq (WP.block (WP.dr (α:=Nat) (fun g env h=>∃fZ b1 cx fH eG oX c5 fX h6 r5 td l3 qM,((∀y b7,Par.aD fZ (fun l=>Par.lz (Par.term un) Par.xl g d l (eG.length - 1) eG) y b7→Par.aD S (fun l=>Par.chain (Par.term un) Par.xl d l ns) y b7)∧XAt p b1 cx fH fZ∧(cx=0→p.a8.length≤b1+g)∧eG.length+(i+min e 1)≤ns.length+(b1+min cx 1)∧(cx=0→1≤eG.length)∧i+1≤b1+min cx 1∧(cx=0→e=0))∧env=cM [.ptr p.aW 0,c5,fX,h6,r5,td,l3,qM] 0 Env.nil∧ak ((p.cb b1 d cx fH)::p.toks:: .acc oX 7 c5 (eG.map bS.row)::fs) h) (fun g=>g) (Par.dz.len S1) ?_ ?_)))
 ·exact ⟨S1,i1,aT,a1,fe,cH,v1, .U, .bot, .bot, .bot, .bot, .bot,⟨fun _ _ r=>Par.S3 q1.res (Par.aD.len (F:=fun n l=>Par.lz (Par.term un) Par.xl n d l (fe.length - 1) fe) r),q1.at_,q1.at_.fuel,ml,oI,nB,q1.gm hx⟩,by kernel_rfl,st⟩
 rintro g _ h ⟨fZ,b1,cx,fH,eG,oX,c5,fX,h6,r5,td,l3,qM,⟨aC,hz,hk,E6,E7,tf,lI⟩,rfl,st⟩
 have xD:=hz.lt
 have xE:=hz.small
 refine WP.seq (WP.af (I.v (.ptr p.aW 0) (I.f (.ptr p.aW 3) (I.b (.n cx) (st.aF 0 rfl) (I.bR (L.eql rfl rfl) (fun ce=> ?_) (fun ce=> ?_))))))
 ·replace ce:cx=0:=by omega
  obtain ⟨bF,oW,oe,gp⟩:=hz.gm ce
  subst oW oe ce
  obtain ⟨g,rfl⟩:∃m,g=m+1:=⟨g - 1,by omega⟩
  refine I.bh (WP.skip (WP.block (WP.af (I.val (v:= .n eG.length) (L.eB rfl (st.rB 2 rfl (by decide)) (List.length_map _)) (I.val (v:= .int .i64 ((eG.length:Int) - 1)) (L.iB rfl rfl rfl (And.intro (by omega) (by omega))) (I.bD rfl (s8 D st (XAt.ok gp)) ?_))))))
  rintro _ h ⟨rfl,st⟩
  refine I.az (.int .i64 ((eG.length:Int) - 1)) (I.az (.int .i64 (a6 p b1:Int)) (I.nil (WP.block (WP.af (I.dU rfl (iV (s:=[43]) D st (XAt.ok gp)) ?_)))))
  rintro _ h (⟨rfl,⟨afi,E8,_,_,h1,xH⟩,cw⟩|⟨rfl,h1,cw⟩)
  ·cases E8
   replace st:ak ((p.cb (b1+1) d 0 0)::p.toks:: .acc oX 7 c5 (eG.map bS.row)::fs) h:=cw
   have uG:=xH.lt
   refine I.bh (WP.aG (I.bD rfl (og st (XAt.ok xH) (fun _=>⟨by have:=fy (lI rfl);omega,(fy (lI rfl)).2⟩) (by omega) (by omega)) ?_))
   rintro v4 h ⟨E9,gW,i4,gC,a4,nc,eL,afj,ND,st⟩
   have B9:=eL.cL
   have zw:=eL.at_.lt
   refine I.dU rfl (B8 (kd:=5) (at_:=(a6 p b1)) (A:=((eG.length:Int) - 1)) D (st.pick 2 rfl) (by omega)) ?_
   rintro v5 h ⟨IQ,st⟩
   refine I.nil ?_
   exact ⟨g,(Nat.lt_succ_self _),gW,i4,gC,a4,(E9++[bS.mk 5 0 [] [] ((eG.length:Int) - 1) ((E9.length:Int) - 1) (a6 p b1)]),IQ,v5,fX,(.bool true),(.bool true),(.int .i64 ((eG.length:Int) - 1)),(.int .i64 (a6 p b1:Int)),qM,⟨fun y b7 r=>aC y b7 (Par.EA (o:=([43],5)) (by simp [Par.find,Par.xl,h1]) gp.here (by omega) eL.res (fun aP bN=>by have:=eL.at_;rw [bN] at this;have:=ND this.ig.1;omega) r),eL.at_,(by omega),(by simp;omega),(by intro _;simp),(by omega),(fun _=>lI rfl)⟩,by kernel_rfl,((st.pick 2 rfl).pick 2 rfl)⟩
  ·replace st:ak ((p.cb b1 d 0 0)::p.toks:: .acc oX 7 c5 (eG.map bS.row)::fs) h:=cw
   replace h1:Par.is [43] bF=false:=h1
   refine I.aY (WP.af (I.dU rfl (iV (s:=[45]) D st (XAt.ok gp)) ?_))
   rintro _ h (⟨rfl,⟨afk,B5,_,_,h2,r4⟩,cw⟩|⟨rfl,h2,cw⟩)
   ·cases B5
    replace st:ak ((p.cb (b1+1) d 0 0)::p.toks:: .acc oX 7 c5 (eG.map bS.row)::fs) h:=cw
    have zv:=r4.lt
    refine I.bh (WP.aG (I.bD rfl (og st (XAt.ok r4) (fun _=>⟨by have:=fy (lI rfl);omega,(fy (lI rfl)).2⟩) (by omega) (by omega)) ?_))
    rintro II h ⟨Fa,sZ,i7,sF,uI,afl,gP,afm,NF,st⟩
    have B6:=gP.cL
    have B7:=gP.at_.lt
    refine I.dU rfl (B8 (kd:=6) (at_:=(a6 p b1)) (A:=((eG.length:Int) - 1)) D (st.pick 2 rfl) (by omega)) ?_
    rintro B2 h ⟨wK,st⟩
    refine I.nil ?_
    exact ⟨g,(Nat.lt_succ_self _),sZ,i7,sF,uI,(Fa++[bS.mk 6 0 [] [] ((eG.length:Int) - 1) ((Fa.length:Int) - 1) (a6 p b1)]),wK,B2,fX,(.bool true),(.bool false),(.int .i64 ((eG.length:Int) - 1)),(.int .i64 (a6 p b1:Int)),(.bool true),⟨fun y b7 r=>aC y b7 (Par.EA (o:=([45],6)) (by simp [Par.find,Par.xl,h1,h2]) gp.here (by omega) gP.res (fun aP bN=>by have:=gP.at_;rw [bN] at this;have:=NF this.ig.1;omega) r),gP.at_,(by omega),(by simp;omega),(by intro _;simp),(by omega),(fun _=>lI rfl)⟩,by kernel_rfl,((st.pick 2 rfl).pick 2 rfl)⟩
   ·replace st:ak ((p.cb b1 d 0 0)::p.toks:: .acc oX 7 c5 (eG.map bS.row)::fs) h:=cw
    replace h2:Par.is [45] bF=false:=h2
    refine I.aY (WP.af (I.az c5 (I.rt ?_)))
    exact ⟨_,(ca c5),eG,_,_,_,_,_,⟨hz,aC _ _ (Par.S4 (by simp [Par.find,Par.xl,h1,h2])),tf⟩,E6,E7,st⟩
 ·replace ce:cx≠0:=by omega
  have jN:=hz.bad ce
  refine I.aY (WP.exit (WP.af (I.az c5 (I.rt ?_))))
  exact ⟨_,(ca c5),eG,_,_,_,_,_,⟨hz,aC _ _ (by rw [jN];rfl),tf⟩,E6,E7,st⟩
theorem afq (D:gO c) {p:eE} {i d e a N:Nat} {S:Par.dz} {un:Par.E} {fs:List Fact} {h:ag} {ns:List bS} {k:Nat} {v:V} (og:uo c 157 N (Par.sum un)) (st:ak (p.cb i d e a::p.toks:: .acc k 7 v (ns.map bS.row)::fs) h) (hx:XAt p i e a S) (fy:e=0→p.a8.length≤i+N∧d≤40) (aX:d≤41) (gH:ns.length≤i+min e 1):
 bU c 141 [.ptr p.aW 0,v] h (BO p d S i e (Par.whole un) ns fs):=by
 have ob:=hx.small
 have hlt:=hx.lt
 refine bU.dR D.f141 rfl (WP.af (I.az .U (I.af (I.dU rfl (og st hx fy (by omega) (by omega)) ?_))))
 rintro v1 h ⟨fe,S1,i1,aT,a1,cH,q1,ml,oI,st⟩
 have nB:=q1.cL
 have r3:=q1.at_.lt
 refine I.af (I.QV (rows:=Par.rR.map iT) st rfl (by decide) rfl (by intro row hm;simp at hm;obtain ⟨a,_,rfl⟩:=hm;rfl) (fun IV h st=> ?_))
 refine I.nil (WP.seq (WP.af (I.az (.int .i64 0) (I.nil (WP.block (WP.dr (α:=Nat) (fun j env h=>∃fX td l3 qM uz,(j≤3∧∀q y,Par.rR[q]? =some y→q<j→Par.gF y S1=false)∧env=cM [.ptr p.aW 0,v1,fX, .av IV 0 3 (some 3), .n j,td,l3,qM,uz] 0 Env.nil∧ak (.ay (fun h=>Rows 1 h (.av IV 0 3 (some 3)) (Par.rR.map iT))::(p.cb i1 d aT a1)::p.toks:: .acc cH 7 v1 (fe.map bS.row)::fs) h) (fun j=>3 - j) 0 ?_ ?_))))))
 ·exact ⟨.U, .bot, .bot, .bot, .bot,⟨Nat.zero_le _,fun _ _ _ h=>absurd h (Nat.not_lt_zero _)⟩,by kernel_rfl,st⟩
 rintro j _ h ⟨fX,td,l3,qM,uz,⟨aV,fB⟩,rfl,st⟩
 refine WP.seq (WP.af (I.val (v:= .int .i64 3) (L.qp rfl) (I.bR (L.lss rfl rfl) (fun c1=> ?_) (fun c1=> ?_))))
 ·replace c1:j<3:=by omega
  refine I.bh (WP.skip (WP.seq (WP.block (WP.af (I.val (v:= .n fe.length) (L.eB rfl (st.rB 3 rfl (by decide)) (List.length_map _)) (I.val (v:= .int .i64 ((fe.length:Int) - 1)) (L.iB rfl rfl rfl (And.intro (by omega) (by omega))) (I.bD rfl (s8 D ((st.pick 2 rfl).pick 2 rfl) q1.at_) ?_)))))))
  rintro _ h ⟨rfl,st⟩
  refine I.az (.int .i64 ((fe.length:Int) - 1)) (I.az (.int .i64 (a6 p i1:Int)) (I.nil (WP.seq (WP.aG ?_))))
  obtain ⟨y,hy⟩:∃y,Par.rR[j]? =some y:=⟨_,List.getElem?_eq_getElem (show j<Par.rR.length from by show j<3;omega)⟩
  refine I.val (L.bQ rfl rfl (by omega)) (I.val (v:=L.str y) (L.load rfl ((st.aS 2 rfl).eZ (by rw [List.getElem?_map,hy];rfl))) ?_)
  refine I.dU rfl (iV (s:=y) D st q1.at_) ?_
  rintro _ h (⟨rfl,⟨bF,oW,sz,oe,C7,gp⟩,cw⟩|⟨rfl,C7,cw⟩)
  ·subst oW sz oe
   replace st:ak ((p.cb (i1+1) d 0 0)::p.toks:: .ay (fun h=>Rows 1 h (.av IV 0 3 (some 3)) (Par.rR.map iT)):: .acc cH 7 v1 (fe.map bS.row)::fs) h:=cw
   have xF:=gp.lt
   refine I.bh (WP.af (I.bD rfl (og (((st.pick 3 rfl).pick 2 rfl).pick 2 rfl) (XAt.ok gp) (fun _=>⟨by have:=fy (q1.gm hx rfl);omega,(fy (q1.gm hx rfl)).2⟩) (by omega) (by omega)) ?_))
   rintro v3 h ⟨ajP,ez,i3,dH,a3,gI,ea,aew,afr,st⟩
   have tb:=ea.cL
   have uG:=ea.at_.lt
   refine I.val (v:= .n (10+j)) L.cB (I.dU rfl (B8 (kd:=(10+j)) (at_:=(a6 p i1)) (A:=((fe.length:Int) - 1)) D (st.pick 2 rfl) (by omega)) ?_)
   rintro v4 h ⟨nc,st⟩
   refine I.rt ?_
   exact ⟨_,(ca v4),_,_,_,_,_,_,⟨ea.at_,Par.ac2 q1.res (Par.adf hy C7) (q1.at_.here rfl) (by have:=oI rfl;omega) ea.res (fun bF bu=>by have:=ea.at_;rw [bu] at this;have:=afr this.ig.1;omega),by omega⟩,(by simp;omega),(by intro _;simp),(((st.pick 3 rfl).tail.pick 2 rfl).pick 2 rfl)⟩
  ·replace st:ak ((p.cb i1 d aT a1)::p.toks:: .ay (fun h=>Rows 1 h (.av IV 0 3 (some 3)) (Par.rR.map iT)):: .acc cH 7 v1 (fe.map bS.row)::fs) h:=cw
   refine I.aY (WP.skip (WP.aG (I.bX (v:= .n (j+1)) L.cB (I.nil ?_))))
   have afs:∀q y,Par.rR[q]? =some y→q<j+1→Par.gF y S1=false:=by
    intro q qa bC hlt
    rcases Nat.lt_succ_iff_lt_or_eq.1 hlt with hlt|rfl
    ·exact fB q qa bC hlt
    ·rw [hy] at bC;cases bC;exact C7
   exact ⟨j+1,(by omega),fX,(.bool true),(.bool false),(.int .i64 ((fe.length:Int) - 1)),(.int .i64 (a6 p i1:Int)),⟨by omega,afs⟩,by kernel_rfl,(st.pick 2 rfl)⟩
 ·replace c1:¬(j<3):=by omega
  refine I.aY (WP.exit (WP.af (I.az v1 (I.rt ?_))))
  exact ⟨_,(ca v1),_,_,_,_,_,_,⟨q1.at_,Par.ac1 q1.res (fun bF bu=>Par.adg bu (fun q y bC hlt=>fB q y bC (by omega))),by omega⟩,ml,oI,st.tail⟩
theorem T3 (D:gO c) {p:eE} {i d e a N:Nat} {S:Par.dz} {g:Par.E} {fs:List Fact} {h:ag} {ns:List bS} {k:Nat} {v:V} (st:ak (p.cb i d e a::p.toks:: .acc k 7 v (ns.map bS.row)::fs) h) (hx:XAt p i e a S) (he:e≠0):
 bU c 165 [.ptr p.aW 0,v] h (BO p d S i e g ns fs):=by
 refine bU.dR D.f165 rfl (WP.af (I.az .U (I.nil (WP.seq (WP.af (I.v (.ptr p.aW 0) (I.f (.ptr p.aW 3) (I.b (.n e) (st.aF 0 rfl) (I.bR (L.neq rfl rfl) (fun c1=> ?_) (fun c1=>by exfalso;omega))))))))))
 refine I.bh (WP.af (I.az v (I.rt ?_)))
 exact ⟨_,(ca v),ns,_,_,_,_,_,⟨hx,by rw [hx.bad he];rfl,by omega⟩,by omega,fun h0=>absurd h0 he,st⟩
theorem aft (D:gO c) {p:eE} {i d N:Nat} {un:Par.E} {fs:List Fact} {h:ag} {ns:List bS} {k:Nat} {v:V} {t:Tok} {l:List Tok} (og:uo c 165 N un) (hW:uo c 141 N (Par.whole un)) (st:ak (p.cb i d 0 0::p.toks:: .acc k 7 v (ns.map bS.row)::fs) h) (au:Left p i (t::l)) (fy:p.a8.length≤i+(N+1)) (aX:d≤40) (gH:ns.length≤i):
 bU c 165 [.ptr p.aW 0,v] h (BO p d (.ok (t::l)) i 0 (Par.qB un) ns fs):=by
 have ob:=au.small
 have hlt:=au.lt
 refine bU.dR D.f165 rfl (WP.af (I.az .U (I.nil (WP.seq (WP.af (I.v (.ptr p.aW 0) (I.f (.ptr p.aW 3) (I.b (.int .i64 0) (st.aF 0 rfl) (I.bR (L.neq rfl rfl) (fun ce=>by exfalso;omega) (fun ce=> ?_))))))))))
 refine I.aY (WP.skip (WP.seq (WP.draw (ae.v (.ptr p.aW 0) (ae.v (.ptr p.aW 0) (ae.f (.ptr p.aW 0) (ae.b (.av p.ch p.to p.a8.length p.cap) (st.aF 0 rfl) (ae.v (.ptr p.aW 0) (ae.v (.ptr p.aW 0) (ae.f (.ptr p.aW 1) (ae.b (.n i) (st.aF 0 rfl) (ae.val (v:= .ptr p.ch (p.to+i * 3)) (L.bQ rfl rfl (XAt.ok au).lt) (ae.val (v:= .agg [.n t.kind,L.str t.text, .n t.at_]) (L.dd rfl ((st.aS 1 rfl).dd au.row)) (ae.dq st L.alloc (fun ch h st=> ?_)))))))))))))))
 refine ae.fV (row':=[.n t.kind,L.str t.text, .n t.at_]) st 0 rfl rfl rfl rfl rfl rfl rfl (fun h st=>rfl) (fun h st=> ?_)
 refine ae.nil (WP.seq (WP.block (WP.af (I.bD rfl (s9 (s:=[45]) D ((st.pick 2 rfl).pick 2 rfl) (XAt.ok au)) ?_))))
 rintro _ h ⟨rfl,st⟩
 cases h1:Par.gF [45] (.ok (t::l))
 ·replace h1:Par.is [45] (t::l)=false:=h1
  refine I.yes rfl (I.v (.ptr p.aW 0) (I.yes rfl (I.bD rfl (s9 (s:=[33]) D st (XAt.ok au)) ?_)))
  rintro _ h ⟨rfl,st⟩
  cases h2:Par.gF [33] (.ok (t::l))
  ·replace h2:Par.is [33] (t::l)=false:=h2
   refine I.az (.bool false) (I.aY (WP.af (I.dU rfl (s9 (s:=[40]) D st (XAt.ok au)) ?_)))
   rintro _ h ⟨rfl,st⟩
   cases bj:Par.gF [40] (.ok (t::l))
   ·replace bj:Par.is [40] (t::l)=false:=bj
    refine I.aY (WP.af (I.f (.ptr ch 0) (I.b (.n t.kind) (st.aF 2 rfl) (I.bR (L.eql rfl rfl) (fun c2=> ?_) (fun c2=> ?_)))))
    ·replace c2:t.kind=2:=by omega
     refine I.bh (WP.af (I.v (.ptr p.aW 0) (I.f (.ptr p.aW 1) (I.b (.n i) (st.aF 0 rfl) (I.val (v:= .n (i+1)) L.cB (I.v (.ptr p.aW 0) (I.f (.ptr p.aW 1) (I.cc [.av p.ch p.to p.a8.length p.cap, .n (i+1), .n d, .int .i64 0, .int .i64 0] st 0 rfl (fun h st=> ?_)))))))))
     refine I.nil (WP.seq (WP.draw (ae.v v (ae.f (.ptr ch 1) (ae.b (L.str t.text) (st.aF 2 rfl) (ae.f (.ptr ch 2) (ae.b (.n t.at_) (st.aF 2 rfl) (ae.bD rfl (NB D st (au.num t (by simp) c2)) (fun _ h hp=> ?_) ?_))))))))
     ·obtain ⟨rfl,st⟩:=hp
      exact h3 (ju (L.iM rfl (st.aF 2 rfl) rfl)) (lp _ _)
     rintro _ h ⟨rfl,st⟩
     refine ae.val (v:= .agg [.int .i64 1, .int .i64 (num t.text:Int), .str 0 0, .str 0 0, .int .i64 (-1), .int .i64 (-1), .n t.at_]) (L.build rfl) (ae.eI (rows:=[[.int .i64 1, .int .i64 (num t.text:Int), .str 0 0, .str 0 0, .int .i64 (-1), .int .i64 (-1), .n t.at_]]) st rfl (by decide) rfl (by simp) (fun fM h _ st=> ?_))
     refine ae.nh st 4 rfl rfl rfl (st.aS 0 rfl) (by decide) (by simp;omega) (fun _ _ h st=>rfl) (fun f1 v1 h st=> ?_)
     rw [show (ns.map bS.row)++[[V.int .i64 1,V.int .i64 (num t.text:Int),V.str 0 0,V.str 0 0,V.int .i64 (-1),V.int .i64 (-1),V.n t.at_]]=(ns++[bS.mk 1 (num t.text:Int) [] [] (-1) (-1) t.at_]).map bS.row from by simp [bS.row];rfl] at st
     obtain ⟨rU,rfl⟩:=(st.et 4 rfl).ne (by simp)
     refine ae.az (.av rU 0 (((ns++[bS.mk 1 (num t.text:Int) [] [] (-1) (-1) t.at_]).map bS.row).length) none) (ae.nil (WP.ret ?_))
     exact ⟨_,(cT (fS (v:= .av rU 0 (((ns++[bS.mk 1 (num t.text:Int) [] [] (-1) (-1) t.at_]).map bS.row).length) none) rfl) (fo _ _)),_,_,_,_,_,_,⟨.ok (au.next (by omega)),Par.ac4 (by simp [Par.find,Par.pE,h1,h2]) bj c2 rfl,by omega⟩,(by simp;omega),(by intro _;simp),(st.tail.pick 2 rfl).tail⟩
    ·replace c2:t.kind≠2:=by omega
     refine I.aY (WP.af (I.f (.ptr ch 0) (I.b (.n t.kind) (st.aF 2 rfl) (I.bR (L.eql rfl rfl) (fun cI=> ?_) (fun cI=> ?_)))))
     ·replace cI:t.kind=1:=by omega
      refine I.bh (WP.af (I.bD rfl (IM D st (XAt.ok au)) ?_))
      rintro _ h ⟨b2,cv,i2,bu,a2,rfl,dn,st⟩
      have xG:=dn.cL
      have xF:=dn.at_.lt
      refine I.v (L.str b2.1) (I.v (L.str b2.2) (I.az (L.str b2.1) (I.az (L.str b2.2) (I.af (I.f (.ptr ch 2) (I.b (.n t.at_) (st.aF 2 rfl) (I.val (v:= .agg [.int .i64 2, .int .i64 0,L.str b2.1,L.str b2.2, .int .i64 (-1), .int .i64 (-1), .n t.at_]) (L.build rfl) (I.eI (rows:=[[.int .i64 2, .int .i64 0,L.str b2.1,L.str b2.2, .int .i64 (-1), .int .i64 (-1), .n t.at_]]) st rfl (by decide) rfl (by simp) (fun mG h st=> ?_)))))))))
      refine I.gJ st 4 rfl rfl rfl (st.aS 0 rfl) (by decide) (by simp;omega) (fun f3 v3 h st=> ?_)
      rw [show (ns.map bS.row)++[[V.int .i64 2,V.int .i64 0,L.str b2.1,L.str b2.2,V.int .i64 (-1),V.int .i64 (-1),V.n t.at_]]=(ns++[bS.mk 2 0 b2.1 b2.2 (-1) (-1) t.at_]).map bS.row from by simp [bS.row]] at st
      obtain ⟨Nw,rfl⟩:=(st.et 4 rfl).ne (by simp)
      refine I.rt ?_
      exact ⟨_,(cT (fS (v:= .av Nw 0 (((ns++[bS.mk 2 0 b2.1 b2.2 (-1) (-1) t.at_]).map bS.row).length) none) rfl) (fo _ _)),_,_,_,_,_,_,⟨dn.at_,Par.ac5 (by simp [Par.find,Par.pE,h1,h2]) bj c2 rfl dn.res,by omega⟩,(by simp;omega),(by intro _;simp),(st.tail.pick 2 rfl).tail⟩
     ·replace cI:t.kind≠1:=by omega
      refine I.aY (WP.skip (WP.af (I.bD rfl (uC (k:=11) D st (XAt.ok au) (by decide)) ?_)))
      rintro _ h ⟨rfl,uE,uF,pQ,hi,st⟩
      refine I.af (I.az v (I.rt ?_))
      have hM:=hi.bad pQ
      exact ⟨_,(ca v),ns,_,_,_,_,_,⟨hi,Par.ac6 (by simp [Par.find,Par.pE,h1,h2]) bj c2 cI,by omega⟩,(by omega),(fun h0=>absurd h0 pQ),(st.pick 2 rfl).tail⟩
   ·replace bj:Par.is [40] (t::l)=true:=bj
    have Cb:t.text=[40]:=Par.Ic bj
    refine I.bh (WP.af (I.bD rfl (IP (s:=[40]) D st (XAt.ok au) (by omega)) ?_))
    rintro _ h ⟨gW,i4,gC,a4,rfl,eL,Nr,st⟩
    have B9:=eL.cL
    have zw:=eL.at_.lt
    refine I.af (I.dU rfl (hW (((st.pick 3 rfl).pick 2 rfl).pick 2 rfl) eL.at_ (fun h0=>⟨by omega,Nr h0⟩) (by omega) (by omega)) ?_)
    rintro v5 h ⟨ajQ,hG,i5,gY,a5,IQ,iE,ajR,afu,st⟩
    have IJ:=iE.cL
    have B3:=iE.at_.lt
    refine I.af (I.bD rfl (fY (s:=[41]) D st iE.at_) ?_)
    rintro _ h ⟨c3,k2,i6,kL,uJ,rfl,hC,st⟩
    have IW:=hC.cL
    have zv:=hC.at_.lt
    refine I.af (I.v (.ptr p.aW 0) (I.f (.ptr p.aW 2) (I.b (.n (d+1)) (st.aF 0 rfl) (I.val (v:= .n d) (L.iB rfl rfl (by omega) (And.intro (by omega) (by omega))) (I.v (.ptr p.aW 0) (I.f (.ptr p.aW 2) (I.cc [.av p.ch p.to p.a8.length p.cap, .n i6, .n d, .n kL, .n uJ] st 0 rfl (fun h st=> ?_))))))))
    refine I.af (I.az v5 (I.rt ?_))
    exact ⟨_,(ca v5),_,_,_,_,_,_,⟨hC.at_,Par.ac3 (by simp [Par.find,Par.pE,h1,h2]) bj eL.res iE.res hC.res,by omega⟩,(by omega),(fun h0=>afu (hC.gm iE.at_ h0)),(st.pick 3 rfl).tail⟩
  ·replace h2:Par.is [33] (t::l)=true:=h2
   have Cb:t.text=[33]:=Par.Ic h2
   refine I.az (.bool true) (I.bh (WP.af (I.az (.int .i64 3) (I.nil (WP.seq (WP.af (I.f (.ptr ch 1) (I.b (L.str t.text) (st.aF 2 rfl) (I.bR (L.seq (m:=[33]) rfl rfl) (fun _=> ?_) (fun NG=>absurd Cb NG))))))))))
   refine I.bh (WP.aG (I.az (.int .i64 4) (I.af (I.f (.ptr ch 1) (I.b (L.str t.text) (st.aF 2 rfl) (I.bD rfl (IP (s:=t.text) D st (XAt.ok au) (by omega)) ?_))))))
   rintro _ h ⟨sZ,i7,sF,uI,rfl,gP,TN,st⟩
   have B6:=gP.cL
   have B7:=gP.at_.lt
   refine I.af (I.dU rfl (og (((st.pick 3 rfl).pick 2 rfl).pick 2 rfl) gP.at_ (fun h0=>⟨by omega,TN h0⟩) (by omega) (by omega)) ?_)
   rintro B2 h ⟨uK,Ta,i8,LG,T4,wK,uL,ajS,afv,st⟩
   have afw:=uL.cL
   have NH:=uL.at_.lt
   refine I.af (I.v (.ptr p.aW 0) (I.f (.ptr p.aW 2) (I.b (.n (d+1)) (st.aF 0 rfl) (I.val (v:= .n d) (L.iB rfl rfl (by omega) (And.intro (by omega) (by omega))) (I.v (.ptr p.aW 0) (I.f (.ptr p.aW 2) (I.cc [.av p.ch p.to p.a8.length p.cap, .n i8, .n d, .n LG, .n T4] st 0 rfl (fun h st=> ?_))))))))
   refine I.af (I.val (v:= .n uK.length) (L.eB rfl (st.rB 2 rfl (by decide)) (List.length_map _)) (I.val (v:= .int .i64 ((uK.length:Int) - 1)) (L.iB rfl rfl rfl (And.intro (by omega) (by omega))) (I.f (.ptr ch 2) (I.b (.n t.at_) (st.aF 3 rfl) (I.val (v:= .agg [.int .i64 4, .int .i64 0, .str 0 0, .str 0 0, .int .i64 ((uK.length:Int) - 1), .int .i64 (-1), .n t.at_]) (L.build rfl) (I.eI (rows:=[[.int .i64 4, .int .i64 0, .str 0 0, .str 0 0, .int .i64 ((uK.length:Int) - 1), .int .i64 (-1), .n t.at_]]) st rfl (by decide) rfl (by simp) (fun TY h st=> ?_)))))))
   refine I.gJ st 3 rfl rfl rfl (st.aS 0 rfl) (by decide) (by simp;omega) (fun f9 v9 h st=> ?_)
   rw [show (uK.map bS.row)++[[V.int .i64 4,V.int .i64 0,V.str 0 0,V.str 0 0,V.int .i64 ((uK.length:Int) - 1),V.int .i64 (-1),V.n t.at_]]=(uK++[bS.mk 4 0 [] [] ((uK.length:Int) - 1) (-1) t.at_]).map bS.row from by simp [bS.row];rfl] at st
   obtain ⟨afx,rfl⟩:=(st.et 3 rfl).ne (by simp)
   refine I.rt ?_
   exact ⟨_,(cT (fS (v:= .av afx 0 (((uK++[bS.mk 4 0 [] [] ((uK.length:Int) - 1) (-1) t.at_]).map bS.row).length) none) rfl) (fo _ _)),_,_,_,_,_,_,⟨uL.at_,Par.unary_neg (o:=([33],4)) (by simp [Par.find,Par.pE,h1,h2]) h2 rfl (by have bq:=gP.res;rw [Cb] at bq;exact bq) uL.res (fun bF bu=>by have:=uL.at_;rw [bu] at this;have:=afv this.ig.1;omega),by omega⟩,(by simp;omega),(by intro _;simp),(st.tail.pick 3 rfl).tail⟩
 ·replace h1:Par.is [45] (t::l)=true:=h1
  have Cb:t.text=[45]:=Par.Ic h1
  refine I.eP (I.az (.bool true) (I.bh (WP.af (I.az (.int .i64 3) (I.nil (WP.seq (WP.af (I.f (.ptr ch 1) (I.b (L.str t.text) (st.aF 2 rfl) (I.bR (L.seq (m:=[33]) rfl rfl) (fun NG=>absurd (NG.symm.trans Cb) (by decide)) (fun _=> ?_)))))))))))
  refine I.aY (WP.skip (WP.af (I.f (.ptr ch 1) (I.b (L.str t.text) (st.aF 2 rfl) (I.bD rfl (IP (s:=t.text) D st (XAt.ok au) (by omega)) ?_)))))
  rintro _ h ⟨xI,i10,xJ,xK,rfl,il,TQ,st⟩
  have Fb:=il.cL
  have Ca:=il.at_.lt
  refine I.af (I.dU rfl (og (((st.pick 3 rfl).pick 2 rfl).pick 2 rfl) il.at_ (fun h0=>⟨by omega,TQ h0⟩) (by omega) (by omega)) ?_)
  rintro v11 h ⟨uM,IX,i11,Fe,Ff,T2,lJ,ajT,afy,st⟩
  have NI:=lJ.cL
  have NJ:=lJ.at_.lt
  refine I.af (I.v (.ptr p.aW 0) (I.f (.ptr p.aW 2) (I.b (.n (d+1)) (st.aF 0 rfl) (I.val (v:= .n d) (L.iB rfl rfl (by omega) (And.intro (by omega) (by omega))) (I.v (.ptr p.aW 0) (I.f (.ptr p.aW 2) (I.cc [.av p.ch p.to p.a8.length p.cap, .n i11, .n d, .n Fe, .n Ff] st 0 rfl (fun h st=> ?_))))))))
  refine I.af (I.val (v:= .n uM.length) (L.eB rfl (st.rB 2 rfl (by decide)) (List.length_map _)) (I.val (v:= .int .i64 ((uM.length:Int) - 1)) (L.iB rfl rfl rfl (And.intro (by omega) (by omega))) (I.f (.ptr ch 2) (I.b (.n t.at_) (st.aF 3 rfl) (I.val (v:= .agg [.int .i64 3, .int .i64 0, .str 0 0, .str 0 0, .int .i64 ((uM.length:Int) - 1), .int .i64 (-1), .n t.at_]) (L.build rfl) (I.eI (rows:=[[.int .i64 3, .int .i64 0, .str 0 0, .str 0 0, .int .i64 ((uM.length:Int) - 1), .int .i64 (-1), .n t.at_]]) st rfl (by decide) rfl (by simp) (fun afa h st=> ?_)))))))
  refine I.gJ st 3 rfl rfl rfl (st.aS 0 rfl) (by decide) (by simp;omega) (fun f12 v12 h st=> ?_)
  rw [show (uM.map bS.row)++[[V.int .i64 3,V.int .i64 0,V.str 0 0,V.str 0 0,V.int .i64 ((uM.length:Int) - 1),V.int .i64 (-1),V.n t.at_]]=(uM++[bS.mk 3 0 [] [] ((uM.length:Int) - 1) (-1) t.at_]).map bS.row from by simp [bS.row];rfl] at st
  obtain ⟨afz,rfl⟩:=(st.et 3 rfl).ne (by simp)
  refine I.rt ?_
  exact ⟨_,(cT (fS (v:= .av afz 0 (((uM++[bS.mk 3 0 [] [] ((uM.length:Int) - 1) (-1) t.at_]).map bS.row).length) none) rfl) (fo _ _)),_,_,_,_,_,_,⟨lJ.at_,Par.unary_neg (o:=([45],3)) (by simp [Par.find,Par.pE,h1]) h1 rfl (by have bq:=il.res;rw [Cb] at bq;exact bq) lJ.res (fun bF bu=>by have:=lJ.at_;rw [bu] at this;have:=afy this.ig.1;omega),by omega⟩,(by simp;omega),(by intro _;simp),(st.tail.pick 3 rfl).tail⟩
theorem T5 (D:gO c) {N:Nat} {un:Par.E} (og:uo c 165 N un):uo c 141 N (Par.whole un):=by
 have h1:uo c 164 N (Par.term un):=by intro fs h p i d e a S ns k v st hx fy aX gH;exact afh D og st hx fy aX gH
 have h2:uo c 157 N (Par.sum un):=by intro fs h p i d e a S ns k v st hx fy aX gH;exact afp D h1 st hx fy aX gH
 intro fs h p i d e a S ns k v st hx fy aX gH
 exact afq D h2 st hx fy aX gH
theorem afA (D:gO c) (N:Nat):uo c 165 N (Par.unary N):=by
 induction N with
 |zero=>
  intro fs h p i d e a S ns k v st hx fy aX gH
  refine T3 (N:=0) D st hx fun h0=> ?_
  have:=hx.lt;have:=(fy h0).1;omega
 |succ N bt=>
  intro fs h p i d e a S ns k v st hx fy aX gH
  by_cases he:e=0
  ·obtain ⟨l,kb,ha,au⟩:=hx.gm he
   subst kb ha he
   obtain ⟨t,l,rfl⟩:=au.cons
   have:=fy rfl
   exact aft D bt (T5 D bt) st au (by omega) this.2 (by omega)
  ·exact T3 (N:=0) D st hx he
end
end Go.Eng.YtmcjcbldmoijiaaGreatDoor
namespace Go.Eng.YtmcjcbldmoijiaaGreatDoor
open Go.Eng
noncomputable section
variable {c:Ctx}
theorem nZ.iW (h:ag):nZ h .U []:=⟨[], .nil,trivial⟩
theorem hS.iW (h:ag):hS h .U []:=⟨[], .nil,lA.nil⟩
theorem hS.vQ {h:ag} {v:V} {l:List cR} (a:hS h v l):v.dY=some [v]:=by obtain ⟨_,r,_⟩:=a;exact r.cells
theorem nv.of {h:ag} {k a:Nat} {m n l rM t:List UInt8} {aC:Bool} {e:List bS} {tk:List (List bS)} {b el:List cR} {Bu cO mz cf:V} (h1:Rows 7 h Bu (e.map bS.row)) (h2:nZ h cO tk) (bj:hS h mz b) (cy:hS h cf el):
 nv h (.mk k a m n l aC rM t e tk b el) [.n k, .n a,L.str m,L.str n,L.str l, .bool aC,L.str rM,L.str t,Bu,cO,mz,cf]:=by
 simp only [nv];exact ⟨Bu,cO,mz,cf,rfl,h1,h2,bj,cy⟩
theorem zy (D:gO c) {fs:List Fact} {h:ag} {p:eE} {i d e a:Nat} {S:Par.dz} (st:ak (p.cb i d e a::p.toks::fs) h) (hx:XAt p i e a S) (aX:e=0→d≤40) (p2:d≤41):
 bU c 141 [.ptr p.aW 0, .U] h fun v h1=>∃(x:List bS) (b7:Par.dz) (cS bN bp:Nat),nx p S i (Par.expr d) x b7 cS bN bp∧ak (.ay (fun h=>Rows 7 h v (x.map bS.row))::p.cb cS d bN bp::p.toks::fs) h1:=by
 have kC:ak (p.cb i d e a::p.toks:: .acc 0 7 .U (([]:List bS).map bS.row)::fs) h:=((st.je 7).pick 2 rfl).pick 2 rfl
 obtain ⟨v,h1,hr,ns,b7,cS,bN,bp,An,q,hn,hg,s1⟩:=T5 D (afA D S.len) kC hx (fun h0=>⟨hx.fuel h0,aX h0⟩) p2 (Nat.zero_le _)
 refine ⟨v,h1,hr,ns,b7,cS,bN,bp,⟨q.at_, ?_,q.cL⟩,(s1.pick 2 rfl).shut (by decide)⟩
 exact Par.aD.eqv (Par.adi d) ((Par.aD.len (F:=fun n l=>Par.whole (Par.unary n) d l []) q.res).bf (g:=fun x aP=> .ok (x.2,aP)) (Par.aD.pure b7 ns))
def T6 (c:Ctx) (N:Nat) (gu:Nat→List Tok→Par.R cR):Prop:=∀{fs:List Fact} {h:ag} {p:eE} {i d:Nat} {l:List Tok},ak (p.cb i d 0 0::p.toks::fs) h→Left p i l→p.a8.length≤i+N→d≤40→
 bU c 111 [.ptr p.aW 0] h fun v h1=>∃(x:cR) (b7:Par.dz) (cS bN bp:Nat) (row:List V),v= .agg row∧row.length=12∧nx p (.ok l) i (gu d) x b7 cS bN bp∧ak (.ay (fun h=>nv h x row)::p.cb cS d bN bp::p.toks::fs) h1
def T7 (c:Ctx) (N:Nat) (cr:Par.oG):Prop:=∀{fs:List Fact} {h:ag} {p:eE} {i d e a:Nat} {S:Par.dz},ak (p.cb i d e a::p.toks::fs) h→XAt p i e a S→(e=0→p.a8.length≤i+N)→d≤40→
 bU c 84 [.ptr p.aW 0] h fun v h1=>∃(x:List cR) (b7:Par.dz) (cS bN bp:Nat),nx p S i (cr d) x b7 cS bN bp∧ak (.ay (fun h=>hS h v x)::p.cb cS d bN bp::p.toks::fs) h1
theorem T8 (D:gO c) {N:Nat} {gu:Nat→List Tok→Par.R cR} (afB:T6 c N gu) {fs:List Fact} {h:ag} {p:eE} {i d e a:Nat} {S:Par.dz} (st:ak (p.cb i d e a::p.toks::fs) h) (hx:XAt p i e a S) (fy:e=0→p.a8.length≤i+N) (aX:d≤40):
 bU c 84 [.ptr p.aW 0] h fun v h1=>∃(x:List cR) (b7:Par.dz) (cS bN bp:Nat),nx p S i (Par.sT gu d) x b7 cS bN bp∧ak (.ay (fun h=>hS h v x)::p.cb cS d bN bp::p.toks::fs) h1:=by
 have ob:=hx.small
 have hlt:=hx.lt
 refine bU.dR D.f84 rfl (WP.af (I.az .U (I.af (I.az .U (I.af (I.bD rfl (IP (s:=[123]) D st hx (by omega)) ?_))))))
 rintro _ h ⟨S1,i1,aT,a1,rfl,q1,zk,st⟩
 have nB:=q1.cL
 have r3:=q1.at_.lt
 refine I.nil (WP.seq (WP.block ?_))
 replace st:ak (.acc 0 12 .U ([]):: .ay (fun h=>lA h ([]) ([]))::(p.cb i1 (d+1) aT a1)::p.toks::fs) h:=((st.je 12) |> fun st=>((ak.pure st (Q:=True) trivial).fD (Q:=fun h=>lA h [] []) (fun _ _=>lA.nil)).pick 1 rfl)
 refine WP.dr (α:=Nat) (fun k env h=>∃fZ b1 cx fH Cc Cd jl c5 fX,((∀y b7,Par.aD fZ (fun l=>Par.n1 gu (d+1) k l Cc) y b7→Par.aD S (Par.sT gu d) y b7)∧XAt p b1 cx fH fZ∧(cx=0→p.a8.length≤b1+k)∧Cd.length≤b1+min cx 1∧i+1≤b1+min cx 1∧(cx=0→e=0∧d+1≤40))∧env=cM [.ptr p.aW 0, .U,fX,c5] 0 Env.nil∧ak (.acc jl 12 c5 Cd:: .ay (fun h=>lA h Cc Cd)::(p.cb b1 (d+1) cx fH)::p.toks::fs) h) (fun k=>k) (Par.dz.len S1) ?_ ?_
 ·exact ⟨S1,i1,aT,a1,[],[],0, .U, .bot,⟨fun _ _ r=>Par.adA q1.res (Par.aD.len (F:=fun n l=>Par.n1 gu (d+1) n l []) r),q1.at_,q1.at_.fuel,Nat.zero_le _,nB,fun h0=>⟨q1.gm hx h0,zk h0⟩⟩,by kernel_rfl,st⟩
 rintro k _ h ⟨fZ,b1,cx,fH,Cc,Cd,jl,c5,fX,⟨aC,hz,hk,ajU,tf,lI⟩,rfl,st⟩
 have xD:=hz.lt
 have xE:=hz.small
 refine WP.seq (WP.af (I.v (.ptr p.aW 0) (I.f (.ptr p.aW 3) (I.b (.n cx) (st.aF 2 rfl) (I.eo (L.eql rfl rfl) (fun ce=> ?_) (fun ce=> ?_))))))
 ·replace ce:cx=0:=by omega
  obtain ⟨bF,oW,oe,gp⟩:=hz.gm ce
  subst oW oe ce
  obtain ⟨k,rfl⟩:∃m,k=m+1:=⟨k - 1,by omega⟩
  refine I.yes rfl (I.v (.ptr p.aW 0) (I.yes rfl (I.bD rfl (s9 (s:=[125]) D ((st.pick 3 rfl).pick 3 rfl) (XAt.ok gp)) ?_)))
  rintro _ h ⟨rfl,st⟩
  cases hb:Par.gF [125] (.ok bF)
  ·replace hb:Par.is [125] bF=false:=hb
   refine I.yes rfl (I.v (.bool true) (I.az (.bool true) (I.bh (WP.skip (WP.block (WP.aG (I.bD rfl (afB st gp (by have:=fy (lI rfl).1;omega) (lI rfl).2) ?_)))))))
   rintro _ h ⟨b9,ez,i3,dH,a3,NK,rfl,AK,ea,st⟩
   have tb:=ea.cL
   have uG:=ea.at_.lt
   refine I.eI (rows:=[NK]) st (H5 rfl AK) (by decide) rfl (by simpa using AK) (fun fM h st=> ?_)
   refine I.gJ st 4 rfl rfl rfl (st.aS 0 rfl) (by decide) (by simp;omega) (fun f4 v4 h st=> ?_)
   obtain ⟨zu,rfl⟩:=(st.et 4 rfl).ne (by simp)
   replace st:=((((st.pick 5 rfl).pick 2 rfl)).and).fD (fun h hx=>hx.2.snoc hx.1)
   refine I.nil ?_
   exact ⟨k,(Nat.lt_succ_self _),ez,i3,dH,a3,(Cc++[b9]),(Cd++[NK]),f4,(.av zu 0 (Cd++[NK]).length none),(.bool true),⟨fun y b7 r=>aC y b7 (Par.adB hb ea.res r),ea.at_,(by omega),(by simp;omega),(by omega),(fun _=>lI rfl)⟩,by kernel_rfl,((st.pick 1 rfl).tail.pick 3 rfl)⟩
  ·replace hb:Par.is [125] bF=true:=hb
   refine I.yes rfl (I.v (.bool false) (I.az (.bool false) (I.aY (WP.exit (WP.af (I.bD rfl (fY (s:=[125]) D st (XAt.ok gp)) ?_))))))
   rintro _ h ⟨eN,hG,i5,gY,a5,rfl,iE,st⟩
   have IJ:=iE.cL
   have B3:=iE.at_.lt
   refine I.af (I.v (.ptr p.aW 0) (I.f (.ptr p.aW 2) (I.b (.int .i64 (((d+1):Nat):Int)) (st.aF 0 rfl) (I.val (v:= .n d) (L.iB rfl rfl (by omega) (And.intro (by omega) (by omega))) (I.v (.ptr p.aW 0) (I.f (.ptr p.aW 2) (I.cc [.av p.ch p.to p.a8.length p.cap, .n i5, .n d, .n gY, .n a5] st 0 rfl (fun h st=> ?_))))))))
   refine I.af (I.az c5 (I.rt ?_))
   have st2:=((((st.pick 3 rfl).pick 3 rfl)).shut (by decide)).and
   exact ⟨_,(ca c5),Cc,_,_,_,_,⟨iE.at_,aC _ _ (Par.adC hb iE.res),by omega⟩,st2.fD fun h hx=>⟨_,hx.1,hx.2⟩⟩
 ·replace ce:cx≠0:=by omega
  have jN:=hz.bad ce
  refine I.eP (I.no rfl (I.az (.bool false) (I.aY (WP.exit (WP.af (I.bD rfl (fY (s:=[125]) D ((st.pick 3 rfl).pick 3 rfl) hz) ?_))))))
  rintro _ h ⟨c3,k2,i6,kL,uJ,rfl,hC,st⟩
  have IW:=hC.cL
  have zv:=hC.at_.lt
  refine I.af (I.v (.ptr p.aW 0) (I.f (.ptr p.aW 2) (I.b (.int .i64 (((d+1):Nat):Int)) (st.aF 0 rfl) (I.val (v:= .n d) (L.iB rfl rfl (by omega) (And.intro (by omega) (by omega))) (I.v (.ptr p.aW 0) (I.f (.ptr p.aW 2) (I.cc [.av p.ch p.to p.a8.length p.cap, .n i6, .n d, .n kL, .n uJ] st 0 rfl (fun h st=> ?_))))))))
  refine I.af (I.az c5 (I.rt ?_))
  have st2:=((((st.pick 3 rfl).pick 3 rfl)).shut (by decide)).and
  exact ⟨_,(ca c5),Cc,_,_,_,_,⟨hC.at_,aC _ _ (Par.aD.any jN hC.res),by omega⟩,st2.fD fun h hx=>⟨_,hx.1,hx.2⟩⟩
theorem afC (D:gO c) {fs:List Fact} {h:ag} {p:eE} {i d e a at_:Nat} {S:Par.dz} (st:ak (p.cb i d e a::p.toks::fs) h) (hx:XAt p i e a S) (aX:d≤40):
 bU c 142 [.ptr p.aW 0, .agg [.int .i64 0, .n at_,L.str [],L.str [],L.str [], .bool false,L.str [],L.str [], .U, .U, .U, .U]] h fun v h1=>∃(x:Par.sS) (b7:Par.dz) (cS bN bp:Nat) (cO:V),v= .agg [.int .i64 4, .n at_,L.str x.mod,L.str x.name,L.str [], .bool x.has,L.str x.tomod,L.str x.to, .U,cO, .U, .U]∧cO.dY=some [cO]∧nx p S i (Par.call d) x b7 cS bN bp∧ak (.ay (fun h=>nZ h cO x.args)::p.cb cS d bN bp::p.toks::fs) h1:=by
 have ob:=hx.small
 have hlt:=hx.lt
 refine bU.dR D.f142 rfl (WP.af (I.dq st (L.box (l:=[.int .i64 0, .n at_,L.str [],L.str [],L.str [], .bool false,L.str [],L.str [], .U, .U, .U, .U]) rfl rfl) (fun gj h st=> ?_)))
 refine I.dq st L.alloc (fun r6 h st=> ?_)
 refine I.af (I.f (.ptr gj 0) (I.cc [.int .i64 4, .n at_,L.str [],L.str [],L.str [], .bool false,L.str [],L.str [], .U, .U, .U, .U] st 1 rfl (fun h st=> ?_)))
 refine I.af (I.bD rfl (IM D ((st.pick 3 rfl).pick 3 rfl) hx) ?_)
 rintro _ h ⟨x1,S1,i1,aT,a1,rfl,q1,st⟩
 have nB:=q1.cL
 have r3:=q1.at_.lt
 refine I.v (L.str x1.1) (I.v (L.str x1.2) (I.az (L.str x1.1) (I.az (L.str x1.2) (I.nil (WP.seq (WP.af (I.dU rfl (iV (s:=[61]) D st q1.at_) ?_)))))))
 rintro _ h (⟨rfl,⟨bF,oW,sz,oe,aq,gp⟩,cw⟩|⟨rfl,aq,cw⟩)
 ·subst oW sz oe
  replace st:ak ((p.cb (i1+1) d 0 0)::p.toks:: .box r6 [.int .i64 0, .int .i64 0, .str 0 0, .str 0 0, .str 0 0, .bool false, .str 0 0, .str 0 0, .U, .U, .U, .U]:: .box gj [.int .i64 4, .n at_,L.str [],L.str [],L.str [], .bool false,L.str [],L.str [], .U, .U, .U, .U]::fs) h:=cw
  have xF:=gp.lt
  refine I.bh (WP.af (I.f (.ptr gj 5) (I.cc [.int .i64 4, .n at_,L.str [],L.str [],L.str [], .bool true,L.str [],L.str [], .U, .U, .U, .U] st 3 rfl (fun h st=> ?_))))
  refine I.af (I.f (.ptr gj 2) (I.cc [.int .i64 4, .n at_,L.str x1.1,L.str [],L.str [], .bool true,L.str [],L.str [], .U, .U, .U, .U] st 3 rfl (fun h st=> ?_)))
  refine I.af (I.f (.ptr gj 3) (I.cc [.int .i64 4, .n at_,L.str x1.1,L.str x1.2,L.str [], .bool true,L.str [],L.str [], .U, .U, .U, .U] st 3 rfl (fun h st=> ?_)))
  refine I.af (I.bD rfl (IM D st (XAt.ok gp)) ?_)
  rintro _ h ⟨b9,ez,i3,dH,a3,rfl,ea,st⟩
  have tb:=ea.cL
  have uG:=ea.at_.lt
  refine I.v (L.str b9.1) (I.v (L.str b9.2) (I.az (L.str b9.1) (I.az (L.str b9.2) (I.af (I.az (L.str b9.1) (I.nil (WP.aG (I.az (L.str b9.2) (I.af (I.f (.ptr gj 6) (I.cc [.int .i64 4, .n at_,L.str x1.1,L.str x1.2,L.str [], .bool true,L.str b9.1,L.str [], .U, .U, .U, .U] st 3 rfl (fun h st=> ?_))))))))))))
  refine I.af (I.f (.ptr gj 7) (I.cc [.int .i64 4, .n at_,L.str x1.1,L.str x1.2,L.str [], .bool true,L.str b9.1,L.str b9.2, .U, .U, .U, .U] st 3 rfl (fun h st=> ?_)))
  refine I.af (I.bD rfl (fY (s:=[40]) D st ea.at_) ?_)
  rintro _ h ⟨ej,gW,i4,gC,a4,rfl,eL,st⟩
  have B9:=eL.cL
  have zw:=eL.at_.lt
  refine I.nil (WP.seq (WP.af (I.bD rfl (s9 (s:=[41]) D st eL.at_) ?_)))
  rintro _ h ⟨rfl,st⟩
  cases fB:Par.gF [41] gW
  ·refine I.az (.bool true) (I.bh (WP.block ?_))
   replace st:ak (.acc 0 1 .U (([]:List V).map fun x=>[x]):: .ay (fun h=>oQ h ([]) ([]))::(p.cb i4 d gC a4)::p.toks:: .box r6 [.int .i64 0, .int .i64 0, .str 0 0, .str 0 0, .str 0 0, .bool false, .str 0 0, .str 0 0, .U, .U, .U, .U]:: .box gj [.int .i64 4, .n at_,L.str x1.1,L.str x1.2,L.str [], .bool true,L.str b9.1,L.str b9.2, .U, .U, .U, .U]::fs) h:=((st.je 1).pick 0 rfl |> fun st=>((ak.pure st (Q:=True) trivial).fD (Q:=fun h=>oQ h [] []) (fun _ _=>trivial)).pick 1 rfl)
   refine WP.dr (α:=Nat) (fun g env h=>∃fZ b1 cx fH as2 fC f2 l7 hI mH,((∀y b7,Par.aD fZ (Par.sY (Par.ny d) [41] g as2.length as2) y b7→Par.aD gW (fun l=>Par.jL (Par.ny d) [41] l []) y b7)∧XAt p b1 cx fH fZ∧(cx=0→p.a8.length≤b1+g+1)∧fC.length≤b1+min cx 1∧as2.length=fC.length∧i4+min gC 1≤b1+min cx 1)∧env=cM [.ptr p.aW 0, .agg [.int .i64 0, .n at_,L.str [],L.str [],L.str [], .bool false,L.str [],L.str [], .U, .U, .U, .U], .ptr r6 0, .ptr gj 0, .bool true,L.str b9.1,L.str b9.2,L.str b9.1,L.str b9.2, .bool true,hI,mH] 0 Env.nil∧ak (.box gj [.int .i64 4, .n at_,L.str x1.1,L.str x1.2,L.str [], .bool true,L.str b9.1,L.str b9.2, .U,l7, .U, .U]:: .acc f2 1 l7 (fC.map fun x=>[x]):: .ay (fun h=>oQ h as2 fC):: .box r6 [.int .i64 0, .int .i64 0, .str 0 0, .str 0 0, .str 0 0, .bool false, .str 0 0, .str 0 0, .U, .U, .U, .U]::(p.cb b1 d cx fH)::p.toks::fs) h) (fun g=>g) (Par.dz.len gW - 1) ?_ ?_
   ·exact ⟨gW,i4,gC,a4,[],[],0, .U, .bot, .bot,⟨fun _ _ r=>Par.Ih fB (fun l e=>by have:=eL.at_;rw [e] at this;exact List.length_pos_iff.2 this.ig.2.2.ne) r,eL.at_,(fun h0=>by have:=eL.at_.fuel h0;omega),Nat.zero_le _,rfl,Nat.le_refl _⟩,by kernel_rfl,((((st.pick 4 rfl).pick 2 rfl).pick 2 rfl).pick 5 rfl)⟩
   rintro g _ h ⟨fZ,b1,cx,fH,as2,fC,f2,l7,hI,mH,⟨aC,hz,hk,afD,AJ,tf⟩,rfl,st⟩
   have xD:=hz.lt
   have xE:=hz.small
   refine WP.seq (WP.af (I.v (.ptr p.aW 0) (I.f (.ptr p.aW 3) (I.b (.n cx) (st.aF 4 rfl) (I.bR (L.eql rfl rfl) (fun ce=> ?_) (fun ce=> ?_))))))
   ·replace ce:cx=0:=by omega
    obtain ⟨ji,Fg,NL,qQ⟩:=hz.gm ce
    subst Fg NL ce
    refine I.bh (WP.skip (WP.block (WP.seq (WP.draw (ae.f (.ptr gj 9) (ae.b l7 (st.aF 0 rfl) (ae.v (.ptr p.aW 0) (ae.bD rfl (zy D ((st.pick 5 rfl).pick 5 rfl) (XAt.ok qQ) (fun _=>by omega) (by omega)) (fun afE h hp=> ?_) ?_))))))))
    ·obtain ⟨c3,k2,i6,kL,uJ,hC,st⟩:=hp
     exact h3 (ju (L.iM rfl (st.aF 3 rfl) rfl)) (lp _ _)
    rintro v6 h ⟨c3,k2,i6,kL,uJ,hC,st⟩
    have IW:=hC.cL
    have zv:=hC.at_.lt
    have AH:=(st.aS 0 rfl).cells
    have Fh:∀{as2:List (List bS)} {l cv b2},Par.aD (.ok l) (Par.expr d) b2 cv→Par.aD (.ok l) (Par.ny d as2) (as2++[b2]) cv:=fun q=>q.bf (Par.aD.pure _ _)
    refine ae.eI (rows:=[[v6]]) st (MP AH) (by decide) rfl (by simp) (fun fM h _ st=> ?_)
    refine ae.nh st 5 rfl rfl rfl (st.aS 0 rfl) (by decide) (by simp;omega) (fun _ _ h st=>rfl) (fun f7 II h st=> ?_)
    rw [show (fC.map fun x=>[x])++[[v6]]=(fC++[v6]).map fun x=>[x] from by simp] at st
    obtain ⟨l6,rfl⟩:=(st.et 5 rfl).ne (by simp)
    refine ae.f (.ptr gj 9) (ae.fV (row':=[.int .i64 4, .n at_,L.str x1.1,L.str x1.2,L.str [], .bool true,L.str b9.1,L.str b9.2, .U, .av l6 0 (((fC++[v6]).map fun x=>[x]).length) none, .U, .U]) st 4 rfl rfl rfl rfl rfl rfl rfl (fun h st=>rfl) (fun h st=> ?_))
    replace st:=((((st.pick 6 rfl).pick 2 rfl)).and).fD (fun h hx=>hx.2.snoc hx.1)
    refine ae.af (I.bD rfl (iV (s:=[44]) D ((st.pick 3 rfl).pick 3 rfl) hC.at_) ?_)
    rintro _ h (⟨rfl,⟨oY,zz,NM,zA,dE,l8⟩,cw⟩|⟨rfl,dE,cw⟩)
    ·subst zz NM zA
     replace st:ak ((p.cb (i6+1) d 0 0)::p.toks:: .ay (fun h=>oQ h (as2++[c3]) (fC++[v6])):: .ay (fun h=>Rows 1 h (.av fM 0 1 (some 1)) [[v6]]):: .box gj [.int .i64 4, .n at_,L.str x1.1,L.str x1.2,L.str [], .bool true,L.str b9.1,L.str b9.2, .U, .av l6 0 (((fC++[v6]).map fun x=>[x]).length) none, .U, .U]:: .acc f7 1 (.av l6 0 ((fC++[v6]).map fun x=>[x]).length none) ((fC++[v6]).map fun x=>[x]):: .box r6 [.int .i64 0, .int .i64 0, .str 0 0, .str 0 0, .str 0 0, .bool false, .str 0 0, .str 0 0, .U, .U, .U, .U]::fs) h:=cw
     have NH:=l8.lt
     obtain ⟨g,rfl⟩:∃m,g=m+1:=⟨g - 1,by omega⟩
     refine I.az (.bool false) (I.aY (WP.skip ?_))
     exact ⟨g,(Nat.lt_succ_self _),(.ok oY.tail),i6+1,0,0,(as2++[c3]),(fC++[v6]),f7,(.av l6 0 ((fC++[v6]).map fun x=>[x]).length none),(.bool true),(.bool false),⟨fun y b7 r=>aC y b7 (Par.Ii (by decide) (Fh (as2:=as2) hC.res) dE (by rw [List.length_append] at r;exact r)), .ok l8,(by omega),(by simp;omega),(by simp [AJ]),(by omega)⟩,by kernel_rfl,(((((st.pick 3 rfl).tail.pick 5 rfl).pick 3 rfl).pick 5 rfl).pick 5 rfl)⟩
    ·replace st:ak ((p.cb i6 d kL uJ)::p.toks:: .ay (fun h=>oQ h (as2++[c3]) (fC++[v6])):: .ay (fun h=>Rows 1 h (.av fM 0 1 (some 1)) [[v6]]):: .box gj [.int .i64 4, .n at_,L.str x1.1,L.str x1.2,L.str [], .bool true,L.str b9.1,L.str b9.2, .U, .av l6 0 (((fC++[v6]).map fun x=>[x]).length) none, .U, .U]:: .acc f7 1 (.av l6 0 ((fC++[v6]).map fun x=>[x]).length none) ((fC++[v6]).map fun x=>[x]):: .box r6 [.int .i64 0, .int .i64 0, .str 0 0, .str 0 0, .str 0 0, .bool false, .str 0 0, .str 0 0, .U, .U, .U, .U]::fs) h:=cw
     refine I.az (.bool true) (I.bh (WP.exit (WP.af (I.bD rfl (fY (s:=[41]) D st hC.at_) ?_))))
     rintro _ h ⟨ic,E3,i9,sG,a9,rfl,k7,st⟩
     have IL:=k7.cL
     have E4:=k7.at_.lt
     refine I.af (I.val (v:= .agg [.int .i64 4, .n at_,L.str x1.1,L.str x1.2,L.str [], .bool true,L.str b9.1,L.str b9.2, .U, .av l6 0 (((fC++[v6]).map fun x=>[x]).length) none, .U, .U]) (L.eg rfl (st.aF 4 rfl) rfl rfl rfl) (I.cc [.int .i64 4, .n at_,L.str x1.1,L.str x1.2,L.str [], .bool true,L.str b9.1,L.str b9.2, .U, .av l6 0 (((fC++[v6]).map fun x=>[x]).length) none, .U, .U] st 6 rfl (fun h st=> ?_)))
     refine I.rt ?_
     have zB:=(st.et 5 rfl).cells
     have st2:=(((((((st.pick 3 rfl).tail.pick 3 rfl).tail.pick 4 rfl).tail.pick 2 rfl).pick 3 rfl)).shut (by decide)).and
     exact ⟨_,(cT (fb (l:=[.int .i64 4, .n at_,L.str x1.1,L.str x1.2,L.str [], .bool true,L.str b9.1,L.str b9.2, .U, .av l6 0 (((fC++[v6]).map fun x=>[x]).length) none, .U, .U]) rfl (L.e6 (st.aF 6 rfl) rfl rfl rfl)) (fo _ _)),⟨true,x1.1,x1.2,b9.1,b9.2,(as2++[c3])⟩,_,_,_,_,_,rfl,zB,⟨k7.at_,(Par.M3 q1.res aq ea.res eL.res (aC _ _ (Par.Ij (Fh hC.res) dE k7.res (fun l e=>by have:=hC.at_;rw [e] at this;have bj:=this.ig.1;have cy:=this.ig.2.2.lt;omega)))),by omega⟩,st2.fD fun h hx=>⟨_,hx.1,hx.2⟩⟩
   ·replace ce:cx≠0:=by omega
    have jN:=hz.bad ce
    refine I.aY (WP.exit (WP.af (I.bD rfl (fY (s:=[41]) D ((st.pick 5 rfl).pick 5 rfl) hz) ?_)))
    rintro _ h ⟨fN,xI,i10,xJ,xK,rfl,il,st⟩
    have Fb:=il.cL
    have Ca:=il.at_.lt
    refine I.af (I.val (v:= .agg [.int .i64 4, .n at_,L.str x1.1,L.str x1.2,L.str [], .bool true,L.str b9.1,L.str b9.2, .U,l7, .U, .U]) (L.eg rfl (st.aF 2 rfl) rfl rfl rfl) (I.cc [.int .i64 4, .n at_,L.str x1.1,L.str x1.2,L.str [], .bool true,L.str b9.1,L.str b9.2, .U,l7, .U, .U] st 5 rfl (fun h st=> ?_)))
    refine I.rt ?_
    have zB:=(st.et 3 rfl).cells
    have st2:=((((((st.pick 2 rfl).tail.pick 4 rfl).tail.pick 3 rfl).pick 3 rfl)).shut (by decide)).and
    exact ⟨_,(cT (fb (l:=[.int .i64 4, .n at_,L.str x1.1,L.str x1.2,L.str [], .bool true,L.str b9.1,L.str b9.2, .U,l7, .U, .U]) rfl (L.e6 (st.aF 5 rfl) rfl rfl rfl)) (fo _ _)),⟨true,x1.1,x1.2,b9.1,b9.2,as2⟩,_,_,_,_,_,rfl,zB,⟨il.at_,(Par.M3 q1.res aq ea.res eL.res (aC _ _ (Par.aD.any jN il.res))),by omega⟩,st2.fD fun h hx=>⟨_,hx.1,hx.2⟩⟩
  ·refine I.az (.bool false) (I.aY (WP.skip (WP.af (I.bD rfl (fY (s:=[41]) D st eL.at_) ?_))))
   rintro _ h ⟨gX,IX,i11,Fe,Ff,rfl,lJ,st⟩
   have NI:=lJ.cL
   have NJ:=lJ.at_.lt
   refine I.af (I.val (v:= .agg [.int .i64 4, .n at_,L.str x1.1,L.str x1.2,L.str [], .bool true,L.str b9.1,L.str b9.2, .U, .U, .U, .U]) (L.eg rfl (st.aF 3 rfl) rfl rfl rfl) (I.cc [.int .i64 4, .n at_,L.str x1.1,L.str x1.2,L.str [], .bool true,L.str b9.1,L.str b9.2, .U, .U, .U, .U] st 2 rfl (fun h st=> ?_)))
   refine I.rt ?_
   exact ⟨_,(cT (fb (l:=[.int .i64 4, .n at_,L.str x1.1,L.str x1.2,L.str [], .bool true,L.str b9.1,L.str b9.2, .U, .U, .U, .U]) rfl (L.e6 (st.aF 2 rfl) rfl rfl rfl)) (fo _ _)),⟨true,x1.1,x1.2,b9.1,b9.2,[]⟩,_,_,_,_, .U,rfl,rfl,⟨lJ.at_,(Par.M3 q1.res aq ea.res eL.res (Par.Ig fB lJ.res)),by omega⟩,(((st.pick 2 rfl).tail.pick 2 rfl).tail).xr fun h=>nZ.iW h⟩
 ·replace st:ak ((p.cb i1 d aT a1)::p.toks:: .box r6 [.int .i64 0, .int .i64 0, .str 0 0, .str 0 0, .str 0 0, .bool false, .str 0 0, .str 0 0, .U, .U, .U, .U]:: .box gj [.int .i64 4, .n at_,L.str [],L.str [],L.str [], .bool false,L.str [],L.str [], .U, .U, .U, .U]::fs) h:=cw
  refine I.aY (WP.skip (WP.af (I.f (.ptr gj 6) (I.cc [.int .i64 4, .n at_,L.str [],L.str [],L.str [], .bool false,L.str x1.1,L.str [], .U, .U, .U, .U] st 3 rfl (fun h st=> ?_)))))
  refine I.af (I.f (.ptr gj 7) (I.cc [.int .i64 4, .n at_,L.str [],L.str [],L.str [], .bool false,L.str x1.1,L.str x1.2, .U, .U, .U, .U] st 3 rfl (fun h st=> ?_)))
  refine I.af (I.bD rfl (fY (s:=[40]) D st q1.at_) ?_)
  rintro _ h ⟨jF,Fi,i12,IY,a12,rfl,oZ,st⟩
  have T9:=oZ.cL
  have NN:=oZ.at_.lt
  refine I.nil (WP.seq (WP.af (I.bD rfl (s9 (s:=[41]) D st oZ.at_) ?_)))
  rintro _ h ⟨rfl,st⟩
  cases fB:Par.gF [41] Fi
  ·refine I.az (.bool true) (I.bh (WP.block ?_))
   replace st:ak (.acc 0 1 .U (([]:List V).map fun x=>[x]):: .ay (fun h=>oQ h ([]) ([]))::(p.cb i12 d IY a12)::p.toks:: .box r6 [.int .i64 0, .int .i64 0, .str 0 0, .str 0 0, .str 0 0, .bool false, .str 0 0, .str 0 0, .U, .U, .U, .U]:: .box gj [.int .i64 4, .n at_,L.str [],L.str [],L.str [], .bool false,L.str x1.1,L.str x1.2, .U, .U, .U, .U]::fs) h:=((st.je 1).pick 0 rfl |> fun st=>((ak.pure st (Q:=True) trivial).fD (Q:=fun h=>oQ h [] []) (fun _ _=>trivial)).pick 1 rfl)
   refine WP.dr (α:=Nat) (fun g env h=>∃fZ b1 cx fH as2 fC f2 l7 hI mH,((∀y b7,Par.aD fZ (Par.sY (Par.ny d) [41] g as2.length as2) y b7→Par.aD Fi (fun l=>Par.jL (Par.ny d) [41] l []) y b7)∧XAt p b1 cx fH fZ∧(cx=0→p.a8.length≤b1+g+1)∧fC.length≤b1+min cx 1∧as2.length=fC.length∧i12+min IY 1≤b1+min cx 1)∧env=cM [.ptr p.aW 0, .agg [.int .i64 0, .n at_,L.str [],L.str [],L.str [], .bool false,L.str [],L.str [], .U, .U, .U, .U], .ptr r6 0, .ptr gj 0, .bool false,L.str x1.1,L.str x1.2, .bot, .bot, .bool true,hI,mH] 0 Env.nil∧ak (.box gj [.int .i64 4, .n at_,L.str [],L.str [],L.str [], .bool false,L.str x1.1,L.str x1.2, .U,l7, .U, .U]:: .acc f2 1 l7 (fC.map fun x=>[x]):: .ay (fun h=>oQ h as2 fC):: .box r6 [.int .i64 0, .int .i64 0, .str 0 0, .str 0 0, .str 0 0, .bool false, .str 0 0, .str 0 0, .U, .U, .U, .U]::(p.cb b1 d cx fH)::p.toks::fs) h) (fun g=>g) (Par.dz.len Fi - 1) ?_ ?_
   ·exact ⟨Fi,i12,IY,a12,[],[],0, .U, .bot, .bot,⟨fun _ _ r=>Par.Ih fB (fun l e=>by have:=oZ.at_;rw [e] at this;exact List.length_pos_iff.2 this.ig.2.2.ne) r,oZ.at_,(fun h0=>by have:=oZ.at_.fuel h0;omega),Nat.zero_le _,rfl,Nat.le_refl _⟩,by kernel_rfl,((((st.pick 4 rfl).pick 2 rfl).pick 2 rfl).pick 5 rfl)⟩
   rintro g _ h ⟨fZ,b1,cx,fH,as2,fC,f2,l7,hI,mH,⟨aC,hz,hk,afD,AJ,tf⟩,rfl,st⟩
   have xD:=hz.lt
   have xE:=hz.small
   refine WP.seq (WP.af (I.v (.ptr p.aW 0) (I.f (.ptr p.aW 3) (I.b (.n cx) (st.aF 4 rfl) (I.bR (L.eql rfl rfl) (fun ce=> ?_) (fun ce=> ?_))))))
   ·replace ce:cx=0:=by omega
    obtain ⟨ajV,afF,afG,afH⟩:=hz.gm ce
    subst afF afG ce
    refine I.bh (WP.skip (WP.block (WP.seq (WP.draw (ae.f (.ptr gj 9) (ae.b l7 (st.aF 0 rfl) (ae.v (.ptr p.aW 0) (ae.bD rfl (zy D ((st.pick 5 rfl).pick 5 rfl) (XAt.ok afH) (fun _=>by omega) (by omega)) (fun afE h hp=> ?_) ?_))))))))
    ·obtain ⟨l0,NP,i14,IZ,I0,mK,st⟩:=hp
     exact h3 (ju (L.iM rfl (st.aF 3 rfl) rfl)) (lp _ _)
    rintro jO h ⟨l0,NP,i14,IZ,I0,mK,st⟩
    have NQ:=mK.cL
    have Ua:=mK.at_.lt
    have NR:=(st.aS 0 rfl).cells
    have Fh:∀{as2:List (List bS)} {l cv b2},Par.aD (.ok l) (Par.expr d) b2 cv→Par.aD (.ok l) (Par.ny d as2) (as2++[b2]) cv:=fun q=>q.bf (Par.aD.pure _ _)
    refine ae.eI (rows:=[[jO]]) st (MP NR) (by decide) rfl (by simp) (fun mG h _ st=> ?_)
    refine ae.nh st 5 rfl rfl rfl (st.aS 0 rfl) (by decide) (by simp;omega) (fun _ _ h st=>rfl) (fun f15 ajW h st=> ?_)
    rw [show (fC.map fun x=>[x])++[[jO]]=(fC++[jO]).map fun x=>[x] from by simp] at st
    obtain ⟨vT,rfl⟩:=(st.et 5 rfl).ne (by simp)
    refine ae.f (.ptr gj 9) (ae.fV (row':=[.int .i64 4, .n at_,L.str [],L.str [],L.str [], .bool false,L.str x1.1,L.str x1.2, .U, .av vT 0 (((fC++[jO]).map fun x=>[x]).length) none, .U, .U]) st 4 rfl rfl rfl rfl rfl rfl rfl (fun h st=>rfl) (fun h st=> ?_))
    replace st:=((((st.pick 6 rfl).pick 2 rfl)).and).fD (fun h hx=>hx.2.snoc hx.1)
    refine ae.af (I.bD rfl (iV (s:=[44]) D ((st.pick 3 rfl).pick 3 rfl) mK.at_) ?_)
    rintro _ h (⟨rfl,⟨Ub,Fj,afI,NT,dE,zC⟩,cw⟩|⟨rfl,dE,cw⟩)
    ·subst Fj afI NT
     replace st:ak ((p.cb (i14+1) d 0 0)::p.toks:: .ay (fun h=>oQ h (as2++[l0]) (fC++[jO])):: .ay (fun h=>Rows 1 h (.av mG 0 1 (some 1)) [[jO]]):: .box gj [.int .i64 4, .n at_,L.str [],L.str [],L.str [], .bool false,L.str x1.1,L.str x1.2, .U, .av vT 0 (((fC++[jO]).map fun x=>[x]).length) none, .U, .U]:: .acc f15 1 (.av vT 0 ((fC++[jO]).map fun x=>[x]).length none) ((fC++[jO]).map fun x=>[x]):: .box r6 [.int .i64 0, .int .i64 0, .str 0 0, .str 0 0, .str 0 0, .bool false, .str 0 0, .str 0 0, .U, .U, .U, .U]::fs) h:=cw
     have afJ:=zC.lt
     obtain ⟨g,rfl⟩:∃m,g=m+1:=⟨g - 1,by omega⟩
     refine I.az (.bool false) (I.aY (WP.skip ?_))
     exact ⟨g,(Nat.lt_succ_self _),(.ok Ub.tail),i14+1,0,0,(as2++[l0]),(fC++[jO]),f15,(.av vT 0 ((fC++[jO]).map fun x=>[x]).length none),(.bool true),(.bool false),⟨fun y b7 r=>aC y b7 (Par.Ii (by decide) (Fh (as2:=as2) mK.res) dE (by rw [List.length_append] at r;exact r)), .ok zC,(by omega),(by simp;omega),(by simp [AJ]),(by omega)⟩,by kernel_rfl,(((((st.pick 3 rfl).tail.pick 5 rfl).pick 3 rfl).pick 5 rfl).pick 5 rfl)⟩
    ·replace st:ak ((p.cb i14 d IZ I0)::p.toks:: .ay (fun h=>oQ h (as2++[l0]) (fC++[jO])):: .ay (fun h=>Rows 1 h (.av mG 0 1 (some 1)) [[jO]]):: .box gj [.int .i64 4, .n at_,L.str [],L.str [],L.str [], .bool false,L.str x1.1,L.str x1.2, .U, .av vT 0 (((fC++[jO]).map fun x=>[x]).length) none, .U, .U]:: .acc f15 1 (.av vT 0 ((fC++[jO]).map fun x=>[x]).length none) ((fC++[jO]).map fun x=>[x]):: .box r6 [.int .i64 0, .int .i64 0, .str 0 0, .str 0 0, .str 0 0, .bool false, .str 0 0, .str 0 0, .U, .U, .U, .U]::fs) h:=cw
     refine I.az (.bool true) (I.bh (WP.exit (WP.af (I.bD rfl (fY (s:=[41]) D st mK.at_) ?_))))
     rintro _ h ⟨dx,I1,i17,Fk,a17,rfl,mL,st⟩
     have Uc:=mL.cL
     have Ud:=mL.at_.lt
     refine I.af (I.val (v:= .agg [.int .i64 4, .n at_,L.str [],L.str [],L.str [], .bool false,L.str x1.1,L.str x1.2, .U, .av vT 0 (((fC++[jO]).map fun x=>[x]).length) none, .U, .U]) (L.eg rfl (st.aF 4 rfl) rfl rfl rfl) (I.cc [.int .i64 4, .n at_,L.str [],L.str [],L.str [], .bool false,L.str x1.1,L.str x1.2, .U, .av vT 0 (((fC++[jO]).map fun x=>[x]).length) none, .U, .U] st 6 rfl (fun h st=> ?_)))
     refine I.rt ?_
     have zB:=(st.et 5 rfl).cells
     have st2:=(((((((st.pick 3 rfl).tail.pick 3 rfl).tail.pick 4 rfl).tail.pick 2 rfl).pick 3 rfl)).shut (by decide)).and
     exact ⟨_,(cT (fb (l:=[.int .i64 4, .n at_,L.str [],L.str [],L.str [], .bool false,L.str x1.1,L.str x1.2, .U, .av vT 0 (((fC++[jO]).map fun x=>[x]).length) none, .U, .U]) rfl (L.e6 (st.aF 6 rfl) rfl rfl rfl)) (fo _ _)),⟨false,[],[],x1.1,x1.2,(as2++[l0])⟩,_,_,_,_,_,rfl,zB,⟨mL.at_,(Par.M4 q1.res aq oZ.res (aC _ _ (Par.Ij (Fh mK.res) dE mL.res (fun l e=>by have:=mK.at_;rw [e] at this;have bj:=this.ig.1;have cy:=this.ig.2.2.lt;omega)))),by omega⟩,st2.fD fun h hx=>⟨_,hx.1,hx.2⟩⟩
   ·replace ce:cx≠0:=by omega
    have jN:=hz.bad ce
    refine I.aY (WP.exit (WP.af (I.bD rfl (fY (s:=[41]) D ((st.pick 5 rfl).pick 5 rfl) hz) ?_)))
    rintro _ h ⟨kc,afK,i18,afL,afM,rfl,vU,st⟩
    have afN:=vU.cL
    have afO:=vU.at_.lt
    refine I.af (I.val (v:= .agg [.int .i64 4, .n at_,L.str [],L.str [],L.str [], .bool false,L.str x1.1,L.str x1.2, .U,l7, .U, .U]) (L.eg rfl (st.aF 2 rfl) rfl rfl rfl) (I.cc [.int .i64 4, .n at_,L.str [],L.str [],L.str [], .bool false,L.str x1.1,L.str x1.2, .U,l7, .U, .U] st 5 rfl (fun h st=> ?_)))
    refine I.rt ?_
    have zB:=(st.et 3 rfl).cells
    have st2:=((((((st.pick 2 rfl).tail.pick 4 rfl).tail.pick 3 rfl).pick 3 rfl)).shut (by decide)).and
    exact ⟨_,(cT (fb (l:=[.int .i64 4, .n at_,L.str [],L.str [],L.str [], .bool false,L.str x1.1,L.str x1.2, .U,l7, .U, .U]) rfl (L.e6 (st.aF 5 rfl) rfl rfl rfl)) (fo _ _)),⟨false,[],[],x1.1,x1.2,as2⟩,_,_,_,_,_,rfl,zB,⟨vU.at_,(Par.M4 q1.res aq oZ.res (aC _ _ (Par.aD.any jN vU.res))),by omega⟩,st2.fD fun h hx=>⟨_,hx.1,hx.2⟩⟩
  ·refine I.az (.bool false) (I.aY (WP.skip (WP.af (I.bD rfl (fY (s:=[41]) D st oZ.at_) ?_))))
   rintro _ h ⟨lE,ajX,i19,ajY,ajZ,rfl,I2,st⟩
   have aj0:=I2.cL
   have Ue:=I2.at_.lt
   refine I.af (I.val (v:= .agg [.int .i64 4, .n at_,L.str [],L.str [],L.str [], .bool false,L.str x1.1,L.str x1.2, .U, .U, .U, .U]) (L.eg rfl (st.aF 3 rfl) rfl rfl rfl) (I.cc [.int .i64 4, .n at_,L.str [],L.str [],L.str [], .bool false,L.str x1.1,L.str x1.2, .U, .U, .U, .U] st 2 rfl (fun h st=> ?_)))
   refine I.rt ?_
   exact ⟨_,(cT (fb (l:=[.int .i64 4, .n at_,L.str [],L.str [],L.str [], .bool false,L.str x1.1,L.str x1.2, .U, .U, .U, .U]) rfl (L.e6 (st.aF 2 rfl) rfl rfl rfl)) (fo _ _)),⟨false,[],[],x1.1,x1.2,[]⟩,_,_,_,_, .U,rfl,rfl,⟨I2.at_,(Par.M4 q1.res aq oZ.res (Par.Ig fB I2.res)),by omega⟩,(((st.pick 2 rfl).tail.pick 2 rfl).tail).xr fun h=>nZ.iW h⟩
end
end Go.Eng.YtmcjcbldmoijiaaGreatDoor
namespace Go.Eng.YtmcjcbldmoijiaaGreatDoor
open Go.Eng
noncomputable section
variable {c:Ctx}
theorem afP (D:gO c) {N:Nat} {cr:Par.oG} (hblk:T7 c N cr) {fs:List Fact} {h:ag} {p:eE} {i d:Nat} {l:List Tok} (st:ak (p.cb i d 0 0::p.toks::fs) h) (au:Left p i l) (fy:p.a8.length≤i+(N+1)) (aX:d≤40):
 bU c 111 [.ptr p.aW 0] h fun v h1=>∃(x:cR) (b7:Par.dz) (cS bN bp:Nat) (row:List V),v= .agg row∧row.length=12∧nx p (.ok l) i (Par.j1 cr d) x b7 cS bN bp∧ak (.ay (fun h=>nv h x row)::p.cb cS d bN bp::p.toks::fs) h1:=by
 have ob:=au.small
 have hlt:=au.lt
 refine bU.dR D.f111 rfl (WP.af (I.dq st L.alloc (fun res h st=> ?_)))
 refine I.af (I.bD rfl (s8 D ((st.pick 2 rfl).pick 2 rfl) (XAt.ok au)) ?_)
 rintro _ h ⟨rfl,st⟩
 refine I.val (v:= .agg [.int .i64 0, .int .i64 (a6 p i:Int), .str 0 0, .str 0 0, .str 0 0, .bool false, .str 0 0, .str 0 0, .U, .U, .U, .U]) (L.build rfl) (I.dq st L.alloc (fun s h st=> ?_))
 refine I.cc [.int .i64 0, .int .i64 (a6 p i:Int), .str 0 0, .str 0 0, .str 0 0, .bool false, .str 0 0, .str 0 0, .U, .U, .U, .U] st 0 rfl (fun h st=> ?_)
 refine I.nil (WP.seq (WP.block (WP.seq (WP.draw (ae.v (.ptr p.aW 0) (ae.v (.ptr p.aW 0) (ae.f (.ptr p.aW 3) (ae.b (.int .i64 0) (st.aF 1 rfl) (ae.eo (L.eql rfl rfl) (fun _ ce=> ?_) (fun _ ce=>by exfalso;omega))))))))))
 refine ae.v (.bool true) (ae.yes rfl (ae.v (.ptr p.aW 0) (ae.yes rfl (ae.v (.ptr p.aW 0) (ae.yes rfl (ae.f (.ptr p.aW 0) (ae.yes rfl (ae.b (.av p.ch p.to p.a8.length p.cap) (st.aF 1 rfl) (ae.yes rfl (ae.v (.ptr p.aW 0) (ae.yes rfl (ae.v (.ptr p.aW 0) (ae.yes rfl (ae.f (.ptr p.aW 1) (ae.yes rfl (ae.b (.n i) (st.aF 1 rfl) (ae.yes rfl (ae.val (v:= .ptr p.ch (p.to+i * 3)) (L.bQ rfl rfl (XAt.ok au).lt) (ae.yes rfl (ae.f (.ptr p.ch (p.to+i * 3+0)) (ae.yes rfl ?_)))))))))))))))))))))
 obtain ⟨t,ht,dh⟩:=(XAt.ok au).row
 have k6:=(XAt.ok au).aX ht
 refine ae.val (v:= .int .i64 ((Par.aX l).kind:Int)) (by rw [k6];exact L.load rfl ((st.aS 2 rfl).yy dh (show _=some _ from rfl))) (ae.yes rfl (ae.eo (L.eql rfl rfl) (fun _ ik=> ?_) (fun _ ik=> ?_)))
 ·replace ik:(Par.aX l).kind=1:=by omega
  refine ae.v (.bool true) (ae.az (.bool true) (ae.bh (WP.af (I.bD rfl (IM D ((st.pick 2 rfl).pick 2 rfl) (XAt.ok au)) ?_))))
  rintro _ h ⟨x1,S1,i1,aT,a1,rfl,q1,st⟩
  have nB:=q1.cL
  have r3:=q1.at_.lt
  refine I.v (L.str x1.1) (I.v (L.str x1.2) (I.az (L.str x1.1) (I.az (L.str x1.2) (I.af (I.f (.ptr s 0) (I.cc [.int .i64 2, .int .i64 (a6 p i:Int), .str 0 0, .str 0 0, .str 0 0, .bool false, .str 0 0, .str 0 0, .U, .U, .U, .U] st 2 rfl (fun h st=> ?_)))))))
  refine I.af (I.f (.ptr s 2) (I.cc [.int .i64 2, .int .i64 (a6 p i:Int),L.str x1.1, .str 0 0, .str 0 0, .bool false, .str 0 0, .str 0 0, .U, .U, .U, .U] st 2 rfl (fun h st=> ?_)))
  refine I.af (I.f (.ptr s 3) (I.cc [.int .i64 2, .int .i64 (a6 p i:Int),L.str x1.1,L.str x1.2, .str 0 0, .bool false, .str 0 0, .str 0 0, .U, .U, .U, .U] st 2 rfl (fun h st=> ?_)))
  refine I.af (I.bD rfl (fY (s:=[61]) D st q1.at_) ?_)
  rintro _ h ⟨b2,cv,i2,bu,a2,rfl,dn,st⟩
  have xG:=dn.cL
  have xF:=dn.at_.lt
  refine I.nil (WP.aG (I.bD rfl (zy D st dn.at_ (fun _=>by omega) (by omega)) ?_))
  rintro v3 h ⟨b9,ez,i3,dH,a3,ea,st⟩
  have tb:=ea.cL
  have uG:=ea.at_.lt
  have tF:=(st.aS 0 rfl).cells
  refine I.f (.ptr s 8) (I.fV (row':=[.int .i64 2, .int .i64 (a6 p i:Int),L.str x1.1,L.str x1.2, .str 0 0, .bool false, .str 0 0, .str 0 0,v3, .U, .U, .U]) st 3 rfl rfl tF rfl rfl rfl rfl (fun h st=> ?_))
  refine I.nil (WP.seq (WP.aG (I.bD rfl (fY (s:=[59]) D ((st.pick 2 rfl).pick 2 rfl) ea.at_) ?_)))
  rintro _ h ⟨ej,gW,i4,gC,a4,rfl,eL,st⟩
  have B9:=eL.cL
  have zw:=eL.at_.lt
  refine I.af (I.val (v:= .agg [.int .i64 2, .int .i64 (a6 p i:Int),L.str x1.1,L.str x1.2, .str 0 0, .bool false, .str 0 0, .str 0 0,v3, .U, .U, .U]) (L.eg rfl (st.aF 3 rfl) rfl rfl rfl) (I.cc [.int .i64 2, .int .i64 (a6 p i:Int),L.str x1.1,L.str x1.2, .str 0 0, .bool false, .str 0 0, .str 0 0,v3, .U, .U, .U] st 4 rfl (fun h st=> ?_)))
  refine I.rt ?_
  exact ⟨_,(cT (fb (l:=[.int .i64 2, .int .i64 (a6 p i:Int),L.str x1.1,L.str x1.2, .str 0 0, .bool false, .str 0 0, .str 0 0,v3, .U, .U, .U]) rfl (L.e6 (st.aF 4 rfl) rfl rfl rfl)) (fo _ _)), .mk 2 (a6 p i) x1.1 x1.2 [] false [] [] b9 [] [] [],_,_,_,_,_,rfl,rfl,⟨eL.at_,(Par.adp ik au.here q1.res dn.res ea.res eL.res),by omega⟩,((((st.pick 3 rfl).tail.pick 3 rfl).tail.pick 2 rfl)).fD fun h hx=>nv.of hx (nZ.iW h) (hS.iW h) (hS.iW h)⟩
 ·replace ik:(Par.aX l).kind≠1:=by omega
  refine ae.v (.bool false) (ae.az (.bool false) (ae.aY (WP.af (I.dU rfl (iV (s:=[108,101,116]) D ((st.pick 2 rfl).pick 2 rfl) (XAt.ok au)) ?_))))
  rintro _ h (⟨rfl,⟨aj5,Fg,_,_,I3,qQ⟩,cw⟩|⟨rfl,I3,cw⟩)
  ·cases Fg
   replace st:ak ((p.cb (i+1) d 0 0)::p.toks:: .box s [.int .i64 0, .int .i64 (a6 p i:Int), .str 0 0, .str 0 0, .str 0 0, .bool false, .str 0 0, .str 0 0, .U, .U, .U, .U]:: .box res [.int .i64 0, .int .i64 0, .str 0 0, .str 0 0, .str 0 0, .bool false, .str 0 0, .str 0 0, .U, .U, .U, .U]::fs) h:=cw
   have B3:=qQ.lt
   refine I.bh (WP.af (I.f (.ptr s 0) (I.cc [.int .i64 1, .int .i64 (a6 p i:Int), .str 0 0, .str 0 0, .str 0 0, .bool false, .str 0 0, .str 0 0, .U, .U, .U, .U] st 2 rfl (fun h st=> ?_))))
   refine I.af (I.bD rfl (nA D st (XAt.ok qQ)) ?_)
   rintro _ h ⟨c3,k2,i6,kL,uJ,rfl,hC,st⟩
   have IW:=hC.cL
   have zv:=hC.at_.lt
   refine I.f (.ptr s 3) (I.cc [.int .i64 1, .int .i64 (a6 p i:Int), .str 0 0,L.str c3, .str 0 0, .bool false, .str 0 0, .str 0 0, .U, .U, .U, .U] st 2 rfl (fun h st=> ?_))
   refine I.af (I.bD rfl (fY (s:=[58]) D st hC.at_) ?_)
   rintro _ h ⟨dc,sZ,i7,sF,uI,rfl,gP,st⟩
   have B6:=gP.cL
   have B7:=gP.at_.lt
   refine I.af (I.bD rfl (nA D st gP.at_) ?_)
   rintro _ h ⟨fi,Ta,i8,LG,T4,rfl,uL,st⟩
   have afw:=uL.cL
   have NH:=uL.at_.lt
   refine I.f (.ptr s 4) (I.cc [.int .i64 1, .int .i64 (a6 p i:Int), .str 0 0,L.str c3,L.str fi, .bool false, .str 0 0, .str 0 0, .U, .U, .U, .U] st 2 rfl (fun h st=> ?_))
   refine I.af (I.bD rfl (fY (s:=[61]) D st uL.at_) ?_)
   rintro _ h ⟨ic,E3,i9,sG,a9,rfl,k7,st⟩
   have IL:=k7.cL
   have E4:=k7.at_.lt
   refine I.nil (WP.aG (I.bD rfl (zy D st k7.at_ (fun _=>by omega) (by omega)) ?_))
   rintro v10 h ⟨fN,xI,i10,xJ,xK,il,st⟩
   have Fb:=il.cL
   have Ca:=il.at_.lt
   have afQ:=(st.aS 0 rfl).cells
   refine I.f (.ptr s 8) (I.fV (row':=[.int .i64 1, .int .i64 (a6 p i:Int), .str 0 0,L.str c3,L.str fi, .bool false, .str 0 0, .str 0 0,v10, .U, .U, .U]) st 3 rfl rfl afQ rfl rfl rfl rfl (fun h st=> ?_))
   refine I.nil (WP.seq (WP.aG (I.bD rfl (fY (s:=[59]) D ((st.pick 2 rfl).pick 2 rfl) il.at_) ?_)))
   rintro _ h ⟨gX,IX,i11,Fe,Ff,rfl,lJ,st⟩
   have NI:=lJ.cL
   have NJ:=lJ.at_.lt
   refine I.af (I.val (v:= .agg [.int .i64 1, .int .i64 (a6 p i:Int), .str 0 0,L.str c3,L.str fi, .bool false, .str 0 0, .str 0 0,v10, .U, .U, .U]) (L.eg rfl (st.aF 3 rfl) rfl rfl rfl) (I.cc [.int .i64 1, .int .i64 (a6 p i:Int), .str 0 0,L.str c3,L.str fi, .bool false, .str 0 0, .str 0 0,v10, .U, .U, .U] st 4 rfl (fun h st=> ?_)))
   refine I.rt ?_
   exact ⟨_,(cT (fb (l:=[.int .i64 1, .int .i64 (a6 p i:Int), .str 0 0,L.str c3,L.str fi, .bool false, .str 0 0, .str 0 0,v10, .U, .U, .U]) rfl (L.e6 (st.aF 4 rfl) rfl rfl rfl)) (fo _ _)), .mk 1 (a6 p i) [] c3 fi false [] [] fN [] [] [],_,_,_,_,_,rfl,rfl,⟨lJ.at_,(Par.adq I3 au.here hC.res gP.res uL.res k7.res il.res lJ.res),by omega⟩,((((st.pick 3 rfl).tail.pick 3 rfl).tail.pick 2 rfl)).fD fun h hx=>nv.of hx (nZ.iW h) (hS.iW h) (hS.iW h)⟩
  ·replace st:ak ((p.cb i d 0 0)::p.toks:: .box s [.int .i64 0, .int .i64 (a6 p i:Int), .str 0 0, .str 0 0, .str 0 0, .bool false, .str 0 0, .str 0 0, .U, .U, .U, .U]:: .box res [.int .i64 0, .int .i64 0, .str 0 0, .str 0 0, .str 0 0, .bool false, .str 0 0, .str 0 0, .U, .U, .U, .U]::fs) h:=cw
   replace I3:Par.is [108,101,116] l=false:=I3
   refine I.aY (WP.af (I.dU rfl (iV (s:=[114,101,115,117,108,116]) D st (XAt.ok au)) ?_))
   rintro _ h (⟨rfl,⟨afR,NU,_,_,hres,Fl⟩,cw⟩|⟨rfl,hres,cw⟩)
   ·cases NU
    replace st:ak ((p.cb (i+1) d 0 0)::p.toks:: .box s [.int .i64 0, .int .i64 (a6 p i:Int), .str 0 0, .str 0 0, .str 0 0, .bool false, .str 0 0, .str 0 0, .U, .U, .U, .U]:: .box res [.int .i64 0, .int .i64 0, .str 0 0, .str 0 0, .str 0 0, .bool false, .str 0 0, .str 0 0, .U, .U, .U, .U]::fs) h:=cw
    have NN:=Fl.lt
    refine I.bh (WP.af (I.f (.ptr s 0) (I.cc [.int .i64 3, .int .i64 (a6 p i:Int), .str 0 0, .str 0 0, .str 0 0, .bool false, .str 0 0, .str 0 0, .U, .U, .U, .U] st 2 rfl (fun h st=> ?_))))
    refine I.af (I.bD rfl (fY (s:=[61]) D st (XAt.ok Fl)) ?_)
    rintro _ h ⟨e2,I4,i13,I5,I6,rfl,o0,st⟩
    have NV:=o0.cL
    have Uf:=o0.at_.lt
    refine I.nil (WP.aG (I.bD rfl (zy D st o0.at_ (fun _=>by omega) (by omega)) ?_))
    rintro jO h ⟨l0,NP,i14,IZ,I0,mK,st⟩
    have NQ:=mK.cL
    have Ua:=mK.at_.lt
    have NR:=(st.aS 0 rfl).cells
    refine I.f (.ptr s 8) (I.fV (row':=[.int .i64 3, .int .i64 (a6 p i:Int), .str 0 0, .str 0 0, .str 0 0, .bool false, .str 0 0, .str 0 0,jO, .U, .U, .U]) st 3 rfl rfl NR rfl rfl rfl rfl (fun h st=> ?_))
    refine I.nil (WP.seq (WP.aG (I.bD rfl (fY (s:=[59]) D ((st.pick 2 rfl).pick 2 rfl) mK.at_) ?_)))
    rintro _ h ⟨l1,zD,i15,Fm,NW,rfl,qR,st⟩
    have Ug:=qR.cL
    have afS:=qR.at_.lt
    refine I.af (I.val (v:= .agg [.int .i64 3, .int .i64 (a6 p i:Int), .str 0 0, .str 0 0, .str 0 0, .bool false, .str 0 0, .str 0 0,jO, .U, .U, .U]) (L.eg rfl (st.aF 3 rfl) rfl rfl rfl) (I.cc [.int .i64 3, .int .i64 (a6 p i:Int), .str 0 0, .str 0 0, .str 0 0, .bool false, .str 0 0, .str 0 0,jO, .U, .U, .U] st 4 rfl (fun h st=> ?_)))
    refine I.rt ?_
    exact ⟨_,(cT (fb (l:=[.int .i64 3, .int .i64 (a6 p i:Int), .str 0 0, .str 0 0, .str 0 0, .bool false, .str 0 0, .str 0 0,jO, .U, .U, .U]) rfl (L.e6 (st.aF 4 rfl) rfl rfl rfl)) (fo _ _)), .mk 3 (a6 p i) [] [] [] false [] [] l0 [] [] [],_,_,_,_,_,rfl,rfl,⟨qR.at_,(Par.adr hres au.here o0.res mK.res qR.res),by omega⟩,((((st.pick 3 rfl).tail.pick 3 rfl).tail.pick 2 rfl)).fD fun h hx=>nv.of hx (nZ.iW h) (hS.iW h) (hS.iW h)⟩
   ·replace st:ak ((p.cb i d 0 0)::p.toks:: .box s [.int .i64 0, .int .i64 (a6 p i:Int), .str 0 0, .str 0 0, .str 0 0, .bool false, .str 0 0, .str 0 0, .U, .U, .U, .U]:: .box res [.int .i64 0, .int .i64 0, .str 0 0, .str 0 0, .str 0 0, .bool false, .str 0 0, .str 0 0, .U, .U, .U, .U]::fs) h:=cw
    replace hres:Par.is [114,101,115,117,108,116] l=false:=hres
    refine I.aY (WP.af (I.dU rfl (iV (s:=[99,97,108,108]) D st (XAt.ok au)) ?_))
    rintro _ h (⟨rfl,⟨aj6,Fj,_,_,yj,zC⟩,cw⟩|⟨rfl,yj,cw⟩)
    ·cases Fj
     replace st:ak ((p.cb (i+1) d 0 0)::p.toks:: .box s [.int .i64 0, .int .i64 (a6 p i:Int), .str 0 0, .str 0 0, .str 0 0, .bool false, .str 0 0, .str 0 0, .U, .U, .U, .U]:: .box res [.int .i64 0, .int .i64 0, .str 0 0, .str 0 0, .str 0 0, .bool false, .str 0 0, .str 0 0, .U, .U, .U, .U]::fs) h:=cw
     have afJ:=zC.lt
     refine I.bh (WP.aG (I.val (v:= .agg [.int .i64 0, .int .i64 (a6 p i:Int), .str 0 0, .str 0 0, .str 0 0, .bool false, .str 0 0, .str 0 0, .U, .U, .U, .U]) (L.eg rfl (st.aF 2 rfl) rfl rfl rfl) (I.bD rfl (afC D st (XAt.ok zC) (by omega)) ?_)))
     rintro _ h ⟨dx,I1,i17,Fk,a17,I7,rfl,aj7,mL,st⟩
     have Uc:=mL.cL
     have Ud:=mL.at_.lt
     refine I.cc [.int .i64 4, .int .i64 (a6 p i:Int),L.str dx.mod,L.str dx.name,L.str [], .bool dx.has,L.str dx.tomod,L.str dx.to, .U,I7, .U, .U] st 3 rfl (fun h st=> ?_)
     refine I.nil (WP.seq (WP.aG (I.bD rfl (fY (s:=[59]) D ((st.pick 2 rfl).pick 2 rfl) mL.at_) ?_)))
     rintro _ h ⟨kc,afK,i18,afL,afM,rfl,vU,st⟩
     have afN:=vU.cL
     have afO:=vU.at_.lt
     refine I.af (I.val (v:= .agg [.int .i64 4, .int .i64 (a6 p i:Int),L.str dx.mod,L.str dx.name,L.str [], .bool dx.has,L.str dx.tomod,L.str dx.to, .U,I7, .U, .U]) (L.eg rfl (st.aF 3 rfl) rfl rfl rfl) (I.cc [.int .i64 4, .int .i64 (a6 p i:Int),L.str dx.mod,L.str dx.name,L.str [], .bool dx.has,L.str dx.tomod,L.str dx.to, .U,I7, .U, .U] st 4 rfl (fun h st=> ?_)))
     refine I.rt ?_
     exact ⟨_,(cT (fb (l:=[.int .i64 4, .int .i64 (a6 p i:Int),L.str dx.mod,L.str dx.name,L.str [], .bool dx.has,L.str dx.tomod,L.str dx.to, .U,I7, .U, .U]) rfl (L.e6 (st.aF 4 rfl) rfl rfl rfl)) (fo _ _)), .mk 4 (a6 p i) dx.mod dx.name [] dx.has dx.tomod dx.to [] dx.args [] [],_,_,_,_,_,rfl,rfl,⟨vU.at_,(Par.ads yj au.here mL.res vU.res),by omega⟩,((((st.pick 3 rfl).tail.pick 3 rfl).tail.pick 2 rfl)).fD fun h hx=>nv.of .nil hx (hS.iW h) (hS.iW h)⟩
    ·replace st:ak ((p.cb i d 0 0)::p.toks:: .box s [.int .i64 0, .int .i64 (a6 p i:Int), .str 0 0, .str 0 0, .str 0 0, .bool false, .str 0 0, .str 0 0, .U, .U, .U, .U]:: .box res [.int .i64 0, .int .i64 0, .str 0 0, .str 0 0, .str 0 0, .bool false, .str 0 0, .str 0 0, .U, .U, .U, .U]::fs) h:=cw
     replace yj:Par.is [99,97,108,108] l=false:=yj
     refine I.aY (WP.af (I.dU rfl (iV (s:=[101,109,105,116]) D st (XAt.ok au)) ?_))
     rintro _ h (⟨rfl,⟨aj8,NY,_,_,I8,Fo⟩,cw⟩|⟨rfl,I8,cw⟩)
     ·cases NY
      replace st:ak ((p.cb (i+1) d 0 0)::p.toks:: .box s [.int .i64 0, .int .i64 (a6 p i:Int), .str 0 0, .str 0 0, .str 0 0, .bool false, .str 0 0, .str 0 0, .U, .U, .U, .U]:: .box res [.int .i64 0, .int .i64 0, .str 0 0, .str 0 0, .str 0 0, .bool false, .str 0 0, .str 0 0, .U, .U, .U, .U]::fs) h:=cw
      have Ue:=Fo.lt
      refine I.bh (WP.af (I.f (.ptr s 0) (I.cc [.int .i64 7, .int .i64 (a6 p i:Int), .str 0 0, .str 0 0, .str 0 0, .bool false, .str 0 0, .str 0 0, .U, .U, .U, .U] st 2 rfl (fun h st=> ?_))))
      refine I.nil (WP.aG (I.bD rfl (nA D st (XAt.ok Fo)) ?_))
      rintro _ h ⟨kz,afT,i20,afU,a20,rfl,vV,st⟩
      have Uh:=vV.cL
      have afV:=vV.at_.lt
      refine I.f (.ptr s 3) (I.cc [.int .i64 7, .int .i64 (a6 p i:Int), .str 0 0,L.str kz, .str 0 0, .bool false, .str 0 0, .str 0 0, .U, .U, .U, .U] st 2 rfl (fun h st=> ?_))
      refine I.nil (WP.seq (WP.aG (I.bD rfl (fY (s:=[59]) D st vV.at_) ?_)))
      rintro _ h ⟨lZ,afW,i21,afX,a21,rfl,vW,st⟩
      have Ui:=vW.cL
      have afY:=vW.at_.lt
      refine I.af (I.val (v:= .agg [.int .i64 7, .int .i64 (a6 p i:Int), .str 0 0,L.str kz, .str 0 0, .bool false, .str 0 0, .str 0 0, .U, .U, .U, .U]) (L.eg rfl (st.aF 2 rfl) rfl rfl rfl) (I.cc [.int .i64 7, .int .i64 (a6 p i:Int), .str 0 0,L.str kz, .str 0 0, .bool false, .str 0 0, .str 0 0, .U, .U, .U, .U] st 3 rfl (fun h st=> ?_)))
      refine I.rt ?_
      exact ⟨_,(cT (fb (l:=[.int .i64 7, .int .i64 (a6 p i:Int), .str 0 0,L.str kz, .str 0 0, .bool false, .str 0 0, .str 0 0, .U, .U, .U, .U]) rfl (L.e6 (st.aF 3 rfl) rfl rfl rfl)) (fo _ _)), .mk 7 (a6 p i) [] kz [] false [] [] [] [] [] [],_,_,_,_,_,rfl,rfl,⟨vW.at_,(Par.adt I8 au.here vV.res vW.res),by omega⟩,(((st.pick 2 rfl).tail.pick 2 rfl).tail).xr fun h=>nv.of .nil (nZ.iW h) (hS.iW h) (hS.iW h)⟩
     ·replace st:ak ((p.cb i d 0 0)::p.toks:: .box s [.int .i64 0, .int .i64 (a6 p i:Int), .str 0 0, .str 0 0, .str 0 0, .bool false, .str 0 0, .str 0 0, .U, .U, .U, .U]:: .box res [.int .i64 0, .int .i64 0, .str 0 0, .str 0 0, .str 0 0, .bool false, .str 0 0, .str 0 0, .U, .U, .U, .U]::fs) h:=cw
      replace I8:Par.is [101,109,105,116] l=false:=I8
      refine I.aY (WP.af (I.dU rfl (iV (s:=[115,107,105,112]) D st (XAt.ok au)) ?_))
      rintro _ h (⟨rfl,⟨aj9,afZ,_,_,I9,Uj⟩,cw⟩|⟨rfl,I9,cw⟩)
      ·cases afZ
       replace st:ak ((p.cb (i+1) d 0 0)::p.toks:: .box s [.int .i64 0, .int .i64 (a6 p i:Int), .str 0 0, .str 0 0, .str 0 0, .bool false, .str 0 0, .str 0 0, .U, .U, .U, .U]:: .box res [.int .i64 0, .int .i64 0, .str 0 0, .str 0 0, .str 0 0, .bool false, .str 0 0, .str 0 0, .U, .U, .U, .U]::fs) h:=cw
       have aka:=Uj.lt
       refine I.bh (WP.aG (I.f (.ptr s 0) (I.cc [.int .i64 8, .int .i64 (a6 p i:Int), .str 0 0, .str 0 0, .str 0 0, .bool false, .str 0 0, .str 0 0, .U, .U, .U, .U] st 2 rfl (fun h st=> ?_))))
       refine I.nil (WP.seq (WP.aG (I.bD rfl (fY (s:=[59]) D st (XAt.ok Uj)) ?_)))
       rintro _ h ⟨mE,akb,i23,akc,a23,rfl,Ja,st⟩
       have akd:=Ja.cL
       have ake:=Ja.at_.lt
       refine I.af (I.val (v:= .agg [.int .i64 8, .int .i64 (a6 p i:Int), .str 0 0, .str 0 0, .str 0 0, .bool false, .str 0 0, .str 0 0, .U, .U, .U, .U]) (L.eg rfl (st.aF 2 rfl) rfl rfl rfl) (I.cc [.int .i64 8, .int .i64 (a6 p i:Int), .str 0 0, .str 0 0, .str 0 0, .bool false, .str 0 0, .str 0 0, .U, .U, .U, .U] st 3 rfl (fun h st=> ?_)))
       refine I.rt ?_
       exact ⟨_,(cT (fb (l:=[.int .i64 8, .int .i64 (a6 p i:Int), .str 0 0, .str 0 0, .str 0 0, .bool false, .str 0 0, .str 0 0, .U, .U, .U, .U]) rfl (L.e6 (st.aF 3 rfl) rfl rfl rfl)) (fo _ _)), .mk 8 (a6 p i) [] [] [] false [] [] [] [] [] [],_,_,_,_,_,rfl,rfl,⟨Ja.at_,(Par.adu I9 au.here Ja.res),by omega⟩,(((st.pick 2 rfl).tail.pick 2 rfl).tail).xr fun h=>nv.of .nil (nZ.iW h) (hS.iW h) (hS.iW h)⟩
      ·replace st:ak ((p.cb i d 0 0)::p.toks:: .box s [.int .i64 0, .int .i64 (a6 p i:Int), .str 0 0, .str 0 0, .str 0 0, .bool false, .str 0 0, .str 0 0, .U, .U, .U, .U]:: .box res [.int .i64 0, .int .i64 0, .str 0 0, .str 0 0, .str 0 0, .bool false, .str 0 0, .str 0 0, .U, .U, .U, .U]::fs) h:=cw
       replace I9:Par.is [115,107,105,112] l=false:=I9
       refine I.aY (WP.af (I.dU rfl (iV (s:=[105,102]) D st (XAt.ok au)) ?_))
       rintro _ h (⟨rfl,⟨akf,af0,_,_,Fp,Uk⟩,cw⟩|⟨rfl,Fp,cw⟩)
       ·cases af0
        replace st:ak ((p.cb (i+1) d 0 0)::p.toks:: .box s [.int .i64 0, .int .i64 (a6 p i:Int), .str 0 0, .str 0 0, .str 0 0, .bool false, .str 0 0, .str 0 0, .U, .U, .U, .U]:: .box res [.int .i64 0, .int .i64 0, .str 0 0, .str 0 0, .str 0 0, .bool false, .str 0 0, .str 0 0, .U, .U, .U, .U]::fs) h:=cw
        have akg:=Uk.lt
        refine I.bh (WP.af (I.f (.ptr s 0) (I.cc [.int .i64 5, .int .i64 (a6 p i:Int), .str 0 0, .str 0 0, .str 0 0, .bool false, .str 0 0, .str 0 0, .U, .U, .U, .U] st 2 rfl (fun h st=> ?_))))
        refine I.af (I.bD rfl (zy D st (XAt.ok Uk) (fun _=>by omega) (by omega)) ?_)
        rintro v25 h ⟨zl,akh,i25,aki,a25,Fq,st⟩
        have akj:=Fq.cL
        have akk:=Fq.at_.lt
        have af1:=(st.aS 0 rfl).cells
        refine I.f (.ptr s 8) (I.fV (row':=[.int .i64 5, .int .i64 (a6 p i:Int), .str 0 0, .str 0 0, .str 0 0, .bool false, .str 0 0, .str 0 0,v25, .U, .U, .U]) st 3 rfl rfl af1 rfl rfl rfl rfl (fun h st=> ?_))
        refine I.af (I.bD rfl (hblk ((st.pick 2 rfl).pick 2 rfl) Fq.at_ (fun h0=>by omega) (by omega)) ?_)
        rintro v26 h ⟨s0,akl,i26,af2,a26,Ce,st⟩
        have akm:=Ce.cL
        have akn:=Ce.at_.lt
        have af3:=hS.vQ (st.aS 0 rfl)
        refine I.f (.ptr s 10) (I.fV (row':=[.int .i64 5, .int .i64 (a6 p i:Int), .str 0 0, .str 0 0, .str 0 0, .bool false, .str 0 0, .str 0 0,v25, .U,v26, .U]) st 4 rfl rfl af3 rfl rfl rfl rfl (fun h st=> ?_))
        refine I.nil (WP.seq (WP.af (I.dU rfl (iV (s:=[101,108,115,101]) D ((st.pick 2 rfl).pick 2 rfl) Ce.at_) ?_)))
        rintro _ h (⟨rfl,⟨ako,af4,af5,af6,tG,Ul⟩,cw⟩|⟨rfl,tG,cw⟩)
        ·subst af4 af5 af6
         replace st:ak ((p.cb (i26+1) d 0 0)::p.toks:: .ay (fun h=>hS h v26 s0):: .ay (fun h=>Rows 7 h v25 (zl.map bS.row)):: .box s [.int .i64 5, .int .i64 (a6 p i:Int), .str 0 0, .str 0 0, .str 0 0, .bool false, .str 0 0, .str 0 0,v25, .U,v26, .U]:: .box res [.int .i64 0, .int .i64 0, .str 0 0, .str 0 0, .str 0 0, .bool false, .str 0 0, .str 0 0, .U, .U, .U, .U]::fs) h:=cw
         have akp:=Ul.lt
         refine I.bh (WP.aG (I.bD rfl (hblk st (XAt.ok Ul) (fun h0=>by omega) (by omega)) ?_))
         rintro v28 h ⟨vN,akq,i28,akr,a28,Jb,st⟩
         have aks:=Jb.cL
         have akt:=Jb.at_.lt
         have af7:=hS.vQ (st.aS 0 rfl)
         refine I.f (.ptr s 11) (I.fV (row':=[.int .i64 5, .int .i64 (a6 p i:Int), .str 0 0, .str 0 0, .str 0 0, .bool false, .str 0 0, .str 0 0,v25, .U,v26,v28]) st 5 rfl rfl af7 rfl rfl rfl rfl (fun h st=> ?_))
         refine I.af (I.val (v:= .agg [.int .i64 5, .int .i64 (a6 p i:Int), .str 0 0, .str 0 0, .str 0 0, .bool false, .str 0 0, .str 0 0,v25, .U,v26,v28]) (L.eg rfl (st.aF 5 rfl) rfl rfl rfl) (I.cc [.int .i64 5, .int .i64 (a6 p i:Int), .str 0 0, .str 0 0, .str 0 0, .bool false, .str 0 0, .str 0 0,v25, .U,v26,v28] st 6 rfl (fun h st=> ?_)))
         refine I.rt ?_
         exact ⟨_,(cT (fb (l:=[.int .i64 5, .int .i64 (a6 p i:Int), .str 0 0, .str 0 0, .str 0 0, .bool false, .str 0 0, .str 0 0,v25, .U,v26,v28]) rfl (L.e6 (st.aF 6 rfl) rfl rfl rfl)) (fo _ _)), .mk 5 (a6 p i) [] [] [] false [] [] zl [] s0 vN,_,_,_,_,_,rfl,rfl,⟨Jb.at_,(Par.adx Fp au.here Fq.res Ce.res tG Jb.res),by omega⟩,(((((((st.pick 5 rfl).tail.pick 5 rfl).tail.pick 3 rfl).pick 4 rfl)).and).and).fD fun h hx=>nv.of hx.1.1 (nZ.iW h) hx.1.2 hx.2⟩
        ·replace st:ak ((p.cb i26 d af2 a26)::p.toks:: .ay (fun h=>hS h v26 s0):: .ay (fun h=>Rows 7 h v25 (zl.map bS.row)):: .box s [.int .i64 5, .int .i64 (a6 p i:Int), .str 0 0, .str 0 0, .str 0 0, .bool false, .str 0 0, .str 0 0,v25, .U,v26, .U]:: .box res [.int .i64 0, .int .i64 0, .str 0 0, .str 0 0, .str 0 0, .bool false, .str 0 0, .str 0 0, .U, .U, .U, .U]::fs) h:=cw
         refine I.aY (WP.skip (WP.af (I.val (v:= .agg [.int .i64 5, .int .i64 (a6 p i:Int), .str 0 0, .str 0 0, .str 0 0, .bool false, .str 0 0, .str 0 0,v25, .U,v26, .U]) (L.eg rfl (st.aF 4 rfl) rfl rfl rfl) (I.cc [.int .i64 5, .int .i64 (a6 p i:Int), .str 0 0, .str 0 0, .str 0 0, .bool false, .str 0 0, .str 0 0,v25, .U,v26, .U] st 5 rfl (fun h st=> ?_)))))
         refine I.rt ?_
         exact ⟨_,(cT (fb (l:=[.int .i64 5, .int .i64 (a6 p i:Int), .str 0 0, .str 0 0, .str 0 0, .bool false, .str 0 0, .str 0 0,v25, .U,v26, .U]) rfl (L.e6 (st.aF 5 rfl) rfl rfl rfl)) (fo _ _)), .mk 5 (a6 p i) [] [] [] false [] [] zl [] s0 [],_,_,_,_,_,rfl,rfl,⟨Ce.at_,(Par.adw Fp au.here Fq.res Ce.res tG),by omega⟩,((((((st.pick 4 rfl).tail.pick 4 rfl).tail.pick 2 rfl).pick 3 rfl)).and).fD fun h hx=>nv.of hx.1 (nZ.iW h) hx.2 (hS.iW h)⟩
       ·replace st:ak ((p.cb i d 0 0)::p.toks:: .box s [.int .i64 0, .int .i64 (a6 p i:Int), .str 0 0, .str 0 0, .str 0 0, .bool false, .str 0 0, .str 0 0, .U, .U, .U, .U]:: .box res [.int .i64 0, .int .i64 0, .str 0 0, .str 0 0, .str 0 0, .bool false, .str 0 0, .str 0 0, .U, .U, .U, .U]::fs) h:=cw
        replace Fp:Par.is [105,102] l=false:=Fp
        refine I.aY (WP.af (I.dU rfl (iV (s:=[119,104,105,108,101]) D st (XAt.ok au)) ?_))
        rintro _ h (⟨rfl,⟨aku,af8,_,_,Jc,Um⟩,cw⟩|⟨rfl,Jc,cw⟩)
        ·cases af8
         replace st:ak ((p.cb (i+1) d 0 0)::p.toks:: .box s [.int .i64 0, .int .i64 (a6 p i:Int), .str 0 0, .str 0 0, .str 0 0, .bool false, .str 0 0, .str 0 0, .U, .U, .U, .U]:: .box res [.int .i64 0, .int .i64 0, .str 0 0, .str 0 0, .str 0 0, .bool false, .str 0 0, .str 0 0, .U, .U, .U, .U]::fs) h:=cw
         have akv:=Um.lt
         refine I.bh (WP.af (I.f (.ptr s 0) (I.cc [.int .i64 6, .int .i64 (a6 p i:Int), .str 0 0, .str 0 0, .str 0 0, .bool false, .str 0 0, .str 0 0, .U, .U, .U, .U] st 2 rfl (fun h st=> ?_))))
         refine I.af (I.bD rfl (zy D st (XAt.ok Um) (fun _=>by omega) (by omega)) ?_)
         rintro v30 h ⟨af9,akw,i30,akx,aky,Jd,st⟩
         have akz:=Jd.cL
         have akA:=Jd.at_.lt
         have aga:=(st.aS 0 rfl).cells
         refine I.f (.ptr s 8) (I.fV (row':=[.int .i64 6, .int .i64 (a6 p i:Int), .str 0 0, .str 0 0, .str 0 0, .bool false, .str 0 0, .str 0 0,v30, .U, .U, .U]) st 3 rfl rfl aga rfl rfl rfl rfl (fun h st=> ?_))
         refine I.af (I.bD rfl (hblk ((st.pick 2 rfl).pick 2 rfl) Jd.at_ (fun h0=>by omega) (by omega)) ?_)
         rintro v31 h ⟨agb,akB,i31,akC,a31,Je,st⟩
         have akD:=Je.cL
         have akE:=Je.at_.lt
         have agc:=hS.vQ (st.aS 0 rfl)
         refine I.f (.ptr s 10) (I.fV (row':=[.int .i64 6, .int .i64 (a6 p i:Int), .str 0 0, .str 0 0, .str 0 0, .bool false, .str 0 0, .str 0 0,v30, .U,v31, .U]) st 4 rfl rfl agc rfl rfl rfl rfl (fun h st=> ?_))
         refine I.af (I.val (v:= .agg [.int .i64 6, .int .i64 (a6 p i:Int), .str 0 0, .str 0 0, .str 0 0, .bool false, .str 0 0, .str 0 0,v30, .U,v31, .U]) (L.eg rfl (st.aF 4 rfl) rfl rfl rfl) (I.cc [.int .i64 6, .int .i64 (a6 p i:Int), .str 0 0, .str 0 0, .str 0 0, .bool false, .str 0 0, .str 0 0,v30, .U,v31, .U] st 5 rfl (fun h st=> ?_)))
         refine I.rt ?_
         exact ⟨_,(cT (fb (l:=[.int .i64 6, .int .i64 (a6 p i:Int), .str 0 0, .str 0 0, .str 0 0, .bool false, .str 0 0, .str 0 0,v30, .U,v31, .U]) rfl (L.e6 (st.aF 5 rfl) rfl rfl rfl)) (fo _ _)), .mk 6 (a6 p i) [] [] [] false [] [] af9 [] agb [],_,_,_,_,_,rfl,rfl,⟨Je.at_,(Par.adv Jc au.here Jd.res Je.res),by omega⟩,(((((st.pick 4 rfl).tail.pick 4 rfl).tail.pick 3 rfl)).and).fD fun h hx=>nv.of hx.1 (nZ.iW h) hx.2 (hS.iW h)⟩
        ·replace st:ak ((p.cb i d 0 0)::p.toks:: .box s [.int .i64 0, .int .i64 (a6 p i:Int), .str 0 0, .str 0 0, .str 0 0, .bool false, .str 0 0, .str 0 0, .U, .U, .U, .U]:: .box res [.int .i64 0, .int .i64 0, .str 0 0, .str 0 0, .str 0 0, .bool false, .str 0 0, .str 0 0, .U, .U, .U, .U]::fs) h:=cw
         replace Jc:Par.is [119,104,105,108,101] l=false:=Jc
         refine I.aY (WP.af (I.bD rfl (uC (k:=11) D st (XAt.ok au) (by decide)) ?_))
         rintro _ h ⟨rfl,uE,uF,pQ,hi,st⟩
         refine I.af (I.val (v:= .agg [.int .i64 0, .int .i64 (a6 p i:Int), .str 0 0, .str 0 0, .str 0 0, .bool false, .str 0 0, .str 0 0, .U, .U, .U, .U]) (L.eg rfl (st.aF 2 rfl) rfl rfl rfl) (I.cc [.int .i64 0, .int .i64 (a6 p i:Int), .str 0 0, .str 0 0, .str 0 0, .bool false, .str 0 0, .str 0 0, .U, .U, .U, .U] st 3 rfl (fun h st=> ?_)))
         refine I.rt ?_
         have hM:=hi.bad pQ
         exact ⟨_,(cT (fb (l:=[.int .i64 0, .int .i64 (a6 p i:Int), .str 0 0, .str 0 0, .str 0 0, .bool false, .str 0 0, .str 0 0, .U, .U, .U, .U]) rfl (L.e6 (st.aF 3 rfl) rfl rfl rfl)) (fo _ _)), .mk 0 (a6 p i) [] [] [] false [] [] [] [] [] [],_,_,_,_,_,rfl,rfl,⟨hi,(Par.ady ik (by intro s aC;simp at aC;rcases aC with rfl|rfl|rfl|rfl|rfl|rfl|rfl<;>assumption)),by omega⟩,(((st.pick 2 rfl).tail.pick 2 rfl).tail).xr fun h=>nv.of .nil (nZ.iW h) (hS.iW h) (hS.iW h)⟩
theorem agd (D:gO c) (N:Nat):T6 c N (Par.stmt N):=by
 induction N with
 |zero=>
  intro fs h p i d l st au fy aX
  have:=au.lt;omega
 |succ N bt=>
  intro fs h p i d l st au fy aX
  have hb:T7 c N (Par.sT (Par.stmt N)):=by
   intro fs h p i d e a S st hx fy aX
   obtain ⟨v,h1,hr,x,b7,cS,bN,bp,q,s⟩:=T8 D bt st hx fy aX
   exact ⟨v,h1,hr,x,b7,cS,bN,bp,q,s⟩
  exact afP D hb st au fy aX
theorem age (D:gO c) {fs:List Fact} {h:ag} {p:eE} {i d e a:Nat} {S:Par.dz} (st:ak (p.cb i d e a::p.toks::fs) h) (hx:XAt p i e a S) (aX:d≤40):
 bU c 84 [.ptr p.aW 0] h fun v h1=>∃(x:List cR) (b7:Par.dz) (cS bN bp:Nat),nx p S i (Par.block d) x b7 cS bN bp∧ak (.ay (fun h=>hS h v x)::p.cb cS d bN bp::p.toks::fs) h1:=by
 obtain ⟨v,h1,hr,x,b7,cS,bN,bp,q,s⟩:=T8 D (agd D S.len) st hx (fun h0=>hx.fuel h0) aX
 exact ⟨v,h1,hr,x,b7,cS,bN,bp,⟨q.at_,Par.aD.len (F:=fun n l=>Par.sT (Par.stmt n) d l) q.res,q.cL⟩,s⟩
end
end Go.Eng.YtmcjcbldmoijiaaGreatDoor
