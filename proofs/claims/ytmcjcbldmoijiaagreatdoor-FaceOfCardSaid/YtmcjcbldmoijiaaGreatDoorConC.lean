/- Part of a proof of a law: rules of an evaluator, contracts, plain laws. No condition of its own. -/
import Derived.Test.YtmcjcbldmoijiaaGreatDoorSymA
import Derived.Test.YtmcjcbldmoijiaaGreatDoorConB
import Derived.Test.YtmcjcbldmoijiaaGreatDoorSymH
import Derived.Test.YtmcjcbldmoijiaaGreatDoorSymD
set_option linter.unusedVariables false
set_option linter.unusedSimpArgs false
namespace Go.Eng.YtmcjcbldmoijiaaGreatDoor
open Go.Eng
noncomputable section
variable {c:Ctx}
structure It (c:Ctx):Prop where
 f9:T.get 9 c.cF=some i9
 f27:T.get 27 c.cF=some i27
 f:zj c
 b:sR c
 TH:∀args h r,pD 28 29 4 28 args h=r→r≠.bad→iL c 28 args h r
 TI:∀args h r,pD 31 32 6 31 args h=r→r≠.bad→iL c 31 args h r
theorem TJ {ev:dM} {x y z w u:A} {a b c d e z0 qE z2 z3 z4 z5:V} (hx:(ev u).dY=some [e]) (h1:(ev x).dY=some [a]:=by rfl) (h2:(ev y).dY=some [b]:=by rfl) (bj:(ev z).dY=some [c]:=by rfl) (cy:(ev w).dY=some [d]:=by rfl):
 fill [(0,1,x),(2,1,y),(3,1,z),(4,1,w),(5,1,u)] ev [z0,qE,z2,z3,z4,z5]=some [a,qE,b,c,d,e]:=by
 show (Option.rec none (fun l=>bif (cZ l).beq 1&&(Nat.add 0 1).ble (cZ [z0,qE,z2,z3,z4,z5]) then fill [(2,1,y),(3,1,z),(4,1,w),(5,1,u)] ev (hX 0 l [z0,qE,z2,z3,z4,z5]) else none) (ev x).dY:Option (List V))=_
 rw [h1]
 show (Option.rec none (fun l=>bif (cZ l).beq 1&&(Nat.add 2 1).ble (cZ [a,qE,z2,z3,z4,z5]) then fill [(3,1,z),(4,1,w),(5,1,u)] ev (hX 2 l [a,qE,z2,z3,z4,z5]) else none) (ev y).dY:Option (List V))=_
 rw [h2]
 show (Option.rec none (fun l=>bif (cZ l).beq 1&&(Nat.add 3 1).ble (cZ [a,qE,b,z3,z4,z5]) then fill [(4,1,w),(5,1,u)] ev (hX 3 l [a,qE,b,z3,z4,z5]) else none) (ev z).dY:Option (List V))=_
 rw [bj]
 show (Option.rec none (fun l=>bif (cZ l).beq 1&&(Nat.add 4 1).ble (cZ [a,qE,b,c,z4,z5]) then fill [(5,1,u)] ev (hX 4 l [a,qE,b,c,z4,z5]) else none) (ev w).dY:Option (List V))=_
 rw [cy]
 show (Option.rec none (fun l=>bif (cZ l).beq 1&&(Nat.add 5 1).ble (cZ [a,qE,b,c,d,z5]) then fill [] ev (hX 5 l [a,qE,b,c,d,z5]) else none) (ev u).dY:Option (List V))=_
 rw [hx];rfl
theorem Rows.vQ {r:Nat} {h:ag} {v:V} {rows:List (List V)} (a:Rows r h v rows):v.dY=some [v]:=by cases a<;>rfl
theorem aet (D:It c) {fs:List Fact} {h:ag} {m:eK} {w:kZ} {i:Nat} {p:eb} {q:n5} (ok:mD m w) (hp:m.procs[i]? =some p) (bC:w.fm[i]? =some q) (st:ak (.ay (fun h=>bG h m w)::fs) h):
 bU c 27 [.agg (BJ p q)] h fun v1 h1=>∃dX hE,v1= .agg (pH (Fc.gV p) (eS.mk dX hE))∧ak (.ay (fun h=>Ey h (Fc.gV p) (eS.mk dX hE)):: .ay (fun h=>bG h m w)::fs) h1:=by
 have pe:=(ok.pa p (List.mem_of_getElem? hp)).1
 have vM:=(ok.pa p (List.mem_of_getElem? hp)).2
 have gT:=ok.nil i p q hp bC
 replace st:ak (.ay (fun h=>cz h q.u p.fU):: .ay (fun h=>bG h m w)::fs) h:=st.imp fun h hx=>(hx.all i p q hp bC).2.af
 refine bU.dR D.f27 rfl (WP.af (I.dq st (L.box (l:=[L.str p.name,q.p, .bool p.has,L.str p.result,L.str p.bI,q.u,q.b, .n p.at_]) rfl rfl) (fun dV h st=> ?_)))
 refine I.dq st L.alloc (fun res h st=> ?_)
 refine I.nil (WP.seq (WP.draw (ae.f (.ptr dV 0) (ae.b (L.str p.name) (st.aF 1 rfl) (ae.f (.ptr dV 2) (ae.b (.bool p.has) (st.aF 1 rfl) (ae.f (.ptr dV 3) (ae.b (L.str p.result) (st.aF 1 rfl) (ae.f (.ptr dV 4) (ae.b (L.str p.bI) (st.aF 1 rfl) (ae.f (.ptr dV 5) (ae.b q.u (st.aF 1 rfl) (ae.dq st L.alloc (fun gj h st=> ?_))))))))))))))
 refine ae.bD rfl (ab2 D.b gT (by omega) (st.pick 3 rfl)) (fun fj h st=> ?_) ?_
 ·exact h3 (ju (L.iM rfl (st.aF 4 rfl) rfl)) (h3 (ju (L.iM rfl (st.aF 4 rfl) rfl)) (h3 (ju (L.iM rfl (st.aF 4 rfl) rfl)) (h3 (ju (L.iM rfl (st.aF 4 rfl) rfl)) (h3 (AX st 2 rfl) (lp _ _)))))
 intro fj h st
 have EM:=Rows.vQ (st.aS 0 rfl)
 refine ae.val (v:= .agg [L.str p.name, .U, .bool p.has,L.str p.result,L.str p.bI,fj]) (L.build (TJ EM)) (ae.fV (row':=[L.str p.name, .U, .bool p.has,L.str p.result,L.str p.bI,fj]) st 2 rfl rfl rfl rfl rfl rfl rfl (fun h st=>rfl) (fun h st=> ?_))
 refine ae.nil (WP.seq (WP.af (I.f (.ptr dV 1) (I.rC q.p (st.aF 4 rfl) (I.bX (v:= .n p.params.length) (L.eB rfl (((bG.all (st.aS 5 rfl)) _ p q hp bC).1) (List.length_map _)) (I.az (.int .i64 0) (I.nil (WP.block ?_))))))))
 replace st:ak (.acc 0 1 .U (SR ((p.params.take 0).map cC.label)):: .ay (fun h=>Rows 1 h fj (SR (jZ p.fU))):: .ay (fun h=>cz h q.u p.fU):: .box gj [L.str p.name, .U, .bool p.has,L.str p.result,L.str p.bI,fj]:: .box res [.str 0 0, .U, .bool false, .str 0 0, .str 0 0, .U]:: .box dV [L.str p.name,q.p, .bool p.has,L.str p.result,L.str p.bI,q.u,q.b, .n p.at_]:: .ay (fun h=>bG h m w)::fs) h:=st.je 1
 refine WP.dr (α:=Nat) (fun k env h=>∃s3 cO eN fi,(k≤p.params.length)∧env=cM [.agg [L.str p.name,q.p, .bool p.has,L.str p.result,L.str p.bI,q.u,q.b, .n p.at_], .ptr res 0, .ptr dV 0, .n k, .n p.params.length,eN,q.p, .ptr gj 0,fi] 0 Env.nil∧ak (.acc s3 1 cO (SR ((p.params.take k).map cC.label)):: .box gj [L.str p.name,cO, .bool p.has,L.str p.result,L.str p.bI,fj]:: .box dV [L.str p.name,q.p, .bool p.has,L.str p.result,L.str p.bI,q.u,q.b, .n p.at_]:: .box res [.str 0 0, .U, .bool false, .str 0 0, .str 0 0, .U]:: .ay (fun h=>Rows 1 h fj (SR (jZ p.fU))):: .ay (fun h=>bG h m w)::fs) h) (fun k=>p.params.length - k) 0 ?_ ?_
 ·exact ⟨0, .U, .bot, .bot,Nat.zero_le _,by kernel_rfl,(((((st.pick 2 rfl).tail.pick 3 rfl).pick 4 rfl).pick 4 rfl).pick 3 rfl)⟩
 rintro k _ h ⟨s3,cO,eN,fi,hk,rfl,st⟩
 refine WP.af (I.bR (L.lss rfl rfl) (fun c2=> ?_) (fun c2=> ?_))
 ·replace c2:k<p.params.length:=by omega
  obtain ⟨y,hy⟩:=fp (l:=p.params) (i:=k) (by omega)
  refine I.nil (WP.seq (WP.cond (t:=true) rfl (WP.skip (WP.seq (WP.block (WP.af (I.val (v:= .ptr (ck q.p) (cu q.p+k * 3)) (L.bQ (Rows.av (((bG.all (st.aS 5 rfl)) _ p q hp bC).1) (by rw [List.length_map];exact c2)) rfl (by rw [List.length_map];exact c2)) (I.val (v:= .agg [L.str y.name,L.str y.label, .n y.at_]) (L.dd rfl (Rows.jY (i:=k) (((bG.all (st.aS 5 rfl)) _ p q hp bC).1) (by rw [List.getElem?_map,hy];rfl))) ?_))))))))
  refine I.dq st L.alloc (fun lD h st=> ?_)
  refine I.cc [L.str y.name,L.str y.label, .n y.at_] st 0 rfl (fun h st=> ?_)
  refine I.nil (WP.aG (I.f (.ptr gj 1) (I.b cO (st.aF 2 rfl) (I.f (.ptr lD 1) (I.b (L.str y.label) (st.aF 0 rfl) (I.eI (rows:=[[L.str y.label]]) st rfl (by decide) rfl (by simp) (fun aeu h st=> ?_)))))))
  refine I.nh st 2 rfl rfl rfl (st.aS 0 rfl) (by decide) (by rw [eM,List.length_map,List.length_take];simp only [List.length_cons,List.length_nil];omega) (fun f1 v1 h st=> ?_)
  rw [show SR ((p.params.take k).map cC.label)++[[L.str y.label]]=SR ((p.params.take (k+1)).map cC.label) from by rw [Fc.n4 _ hy,nV];rfl] at st
  have qb:=(st.et 2 rfl).cells
  refine I.f (.ptr gj 1) (I.fV (row':=[L.str p.name,v1, .bool p.has,L.str p.result,L.str p.bI,fj]) st 3 rfl rfl qb rfl rfl rfl rfl (fun h st=> ?_))
  refine I.nil (WP.aG (I.bX (v:= .n (k+1)) L.cB (I.nil ?_)))
  exact ⟨k+1,(by omega),f1,v1,(.bool true),(.ptr lD 0),by omega,by kernel_rfl,st.tail.tail⟩
 ·replace c2:¬(k<p.params.length):=by omega
  refine I.nil (WP.seq (WP.cond (t:=false) rfl (WP.exit (WP.af (I.val (v:= .agg [L.str p.name,cO, .bool p.has,L.str p.result,L.str p.bI,fj]) (L.eg rfl (st.aF 1 rfl) rfl rfl rfl) (I.cc [L.str p.name,cO, .bool p.has,L.str p.result,L.str p.bI,fj] st 3 rfl (fun h st=> ?_)))))))
  refine I.rt ?_
  rw [List.take_of_length_le (show p.params.length≤k by omega)] at st
  exact ⟨_,(cT (fb (l:=[L.str p.name,cO, .bool p.has,L.str p.result,L.str p.bI,fj]) rfl (L.e6 (st.aF 3 rfl) rfl rfl rfl)) (fo _ _)),cO,fj,rfl,(((((st.pick 1 rfl).tail.pick 1 rfl).tail.pick 1 rfl).tail).shut (by decide)).and⟩
theorem aev (D:It c) {fs:List Fact} {h:ag} {b0 z2 z3 z4 z5 da:V} {m:eK} {w:kZ} {NS:List Fc.aL} (ok:mD m w) (gH:NS.length<4294967296) (st:ak (.ay (fun h=>cz h b0 NS):: .ay (fun h=>bG h m w)::fs) h):
 bU c 9 [.agg (vI m w), .agg [b0,z2,z3,z4,z5,da]] h fun v1 h1=>∃eX mF cf,v1= .dD [.agg [eX,mF],cf]∧ak (.ay (fun h=>pI h eX mF (Fc.vP m NS) (Fc.uv m NS)):: .ay (fun h=>Rows 4 h cf ((Fc.jj m NS).map Fc.b6.row)):: .ay (fun h=>cz h b0 NS):: .ay (fun h=>bG h m w)::fs) h1:=by
 refine bU.dR D.f9 rfl (WP.af (I.dq st (L.box (l:=[L.str m.name, .n m.at_,w.i,w.v,w.p]) rfl rfl) (fun bV h st=> ?_)))
 refine I.dq st (L.box (l:=[b0,z2,z3,z4,z5,da]) rfl rfl) (fun ch h st=> ?_)
 refine I.dq st L.alloc (fun res h st=> ?_)
 refine I.az .U (I.af (I.f (.ptr bV 0) (I.b (L.str m.name) (st.aF 2 rfl) (I.val (v:= .agg [b0,z2,z3,z4,z5,da]) (L.eg rfl (st.aF 1 rfl) rfl rfl rfl) (I.val (v:= .agg [L.str m.name,b0,z2,z3,z4,z5,da, .U]) (L.build rfl) (I.dq st (L.box (l:=[L.str m.name,b0,z2,z3,z4,z5,da, .U]) rfl rfl) (fun cq h st=> ?_)))))))
 refine I.af (I.val (v:= .agg [L.str m.name, .n m.at_,w.i,w.v,w.p]) (L.eg rfl (st.aF 3 rfl) rfl rfl rfl) (I.bD rfl (aef D.f ok ((st.pick 5 rfl).pick 1 rfl)) ?_))
 rintro _ h ⟨Nh,Ni,st⟩
 refine I.af (I.val (v:= .agg [L.str m.name, .n m.at_,w.i,w.v,w.p]) (L.eg rfl (st.aF 5 rfl) rfl rfl rfl) (I.bD rfl (aek D.f ok gH (by have:=Fc.MT ok;omega) (st.pick 6 rfl)) ?_))
 rintro _ h ⟨ih,cf,st⟩
 rw [show Fc.h4 m++Fc.Ia m NS=Fc.jj m NS from rfl] at st
 refine I.nil (WP.seq (WP.af (I.v (.ptr cq 0) (I.f (.ptr cq 7) (I.b cf (st.aF 2 rfl) (I.val (v:= .int .i64 ((Fc.jj m NS).length:Int)) (L.eB rfl (st.rB 1 rfl (by decide)) (List.length_map _)) (I.bR (L.gtr rfl rfl) (fun dj=> ?_) (fun dj=> ?_))))))))
 ·replace dj:Fc.jj m NS≠[]:=fun e=>by rw [e] at dj;simp at dj
  refine I.bh (WP.seq (WP.draw (ae.val (v:= .agg [.U, .U]) (L.build rfl) (ae.v (.ptr cq 0) (ae.v (.ptr cq 0) (ae.f (.ptr cq 7) (ae.b cf (st.aF 2 rfl) (ae.fV (row':=[.U, .U]) st 4 rfl rfl rfl rfl rfl rfl rfl (fun h st=>h3 (ju (L.iM rfl (st.aF 2 rfl) rfl)) (lp _ _)) (fun h st=> ?_)))))))))
  refine ae.az cf (ae.nil (WP.ret (⟨_,(cT (fb (l:=[.U, .U]) rfl (L.e6 (st.aF 4 rfl) rfl rfl rfl)) (ca cf)), .U, .U,cf,rfl, ?_⟩)))
  rw [show Fc.vP m NS=[] from if_neg dj,show Fc.uv m NS=[] from if_neg dj]
  exact ak.nn (P:=fun h=>pI h .U .U [] []) (((((((st.pick 2 rfl).tail.pick 3 rfl).tail.pick 3 rfl).tail.pick 3 rfl).tail.pick 1 rfl)).shut (by decide)) fun h=>pI.none h
 ·replace dj:Fc.jj m NS=[]:=by cases Nj:Fc.jj m NS with|nil=>rfl|cons a l=>rw [Nj] at dj;simp at dj
  obtain ⟨ml,qk,aew⟩:=Fc.TF dj
  have pK:=ok.um
  have EJ:=ok.jq
  refine I.aY (WP.skip (WP.af (I.dq st L.alloc (fun aO h st=> ?_))))
  refine I.nil (WP.seq (WP.af (I.f (.ptr bV 3) (I.rC w.v (st.aF 7 rfl) (I.bX (v:= .n m.vars.length) (L.eB rfl (bG.vars (st.aS 4 rfl)) (List.length_map _)) (I.az (.int .i64 0) (I.nil (WP.block ?_))))))))
  replace st:ak (.cX ([]) 0 4 .U (((m.vars.take 0).map Fc.k4).map Fc.iv):: .box aO [.U, .U]:: .ay (fun h=>cz h b0 NS):: .acc ih 4 cf ((Fc.jj m NS).map Fc.b6.row):: .box cq [L.str m.name,b0,z2,z3,z4,z5,da,cf]:: .ay (fun h=>bG h m w):: .box res [.U, .U]:: .box ch [b0,z2,z3,z4,z5,da]:: .box bV [L.str m.name, .n m.at_,w.i,w.v,w.p]::fs) h:=st.xa 4
  refine WP.dr (α:=Nat) (fun i env h=>∃bs s3 cO fN e2,(i≤m.vars.length)∧env=cM [.agg [L.str m.name, .n m.at_,w.i,w.v,w.p], .agg [b0,z2,z3,z4,z5,da], .ptr res 0, .U, .ptr bV 0, .ptr ch 0, .ptr cq 0, .bool false, .n i, .n m.vars.length,fN,w.v, .ptr aO 0,e2] 0 Env.nil∧ak (.cX bs s3 4 cO (((m.vars.take i).map Fc.k4).map Fc.iv):: .box aO [cO, .U]:: .box res [.U, .U]:: .box bV [L.str m.name, .n m.at_,w.i,w.v,w.p]:: .ay (fun h=>cz h b0 NS):: .acc ih 4 cf ((Fc.jj m NS).map Fc.b6.row):: .ay (fun h=>bG h m w)::fs) h) (fun i=>m.vars.length - i) 0 ?_ ?_
  ·exact ⟨[],0, .U, .bot, .bot,Nat.zero_le _,by kernel_rfl,((((((st.pick 4 rfl).tail.pick 6 rfl).tail.pick 6 rfl).pick 6 rfl).pick 3 rfl).pick 3 rfl)⟩
  rintro i _ h ⟨bs,s3,cO,fN,e2,hk,rfl,st⟩
  refine WP.af (I.bR (L.lss rfl rfl) (fun c1=> ?_) (fun c1=> ?_))
  ·replace c1:i<m.vars.length:=by omega
   obtain ⟨x,hx⟩:=fp (l:=m.vars) (i:=i) (by omega)
   refine I.nil (WP.seq (WP.cond (t:=true) rfl (WP.skip (WP.seq (WP.block (WP.af (I.val (v:= .ptr (ck w.v) (cu w.v+i * 4)) (L.bQ (Rows.av (bG.vars (st.aS 6 rfl)) (by rw [List.length_map];exact c1)) rfl (by rw [List.length_map];exact c1)) (I.val (v:= .agg [L.str x.name,L.str x.label, .int .i64 x.init, .n x.at_]) (L.dd rfl (Rows.jY (i:=i) (bG.vars (st.aS 6 rfl)) (by rw [List.getElem?_map,hx];rfl))) ?_))))))))
   refine I.dq st L.alloc (fun eD h st=> ?_)
   refine I.cc [L.str x.name,L.str x.label, .int .i64 x.init, .n x.at_] st 0 rfl (fun h st=> ?_)
   refine I.nil (WP.aG (I.f (.ptr aO 0) (I.b cO (st.aF 2 rfl) (I.f (.ptr eD 0) (I.b (L.str x.name) (st.aF 0 rfl) (I.f (.ptr eD 1) (I.b (L.str x.label) (st.aF 0 rfl) (I.val (v:= .agg [L.str x.name,L.str x.label, .int .i64 0, .int .i64 0]) (L.build rfl) (I.eI (rows:=[[L.str x.name,L.str x.label, .int .i64 0, .int .i64 0]]) st rfl (by decide) rfl (by simp) (fun TK h st=> ?_))))))))))
   replace st:ak (.cX bs s3 4 cO (((m.vars.take i).map Fc.k4).map Fc.iv):: .ay (fun h=>Rows 4 h (.av TK 0 1 (some 1)) [[L.str x.name,L.str x.label, .int .i64 0, .int .i64 0]]):: .box eD [L.str x.name,L.str x.label, .int .i64 x.init, .n x.at_]:: .box aO [cO, .U]:: .box res [.U, .U]:: .box bV [L.str m.name, .n m.at_,w.i,w.v,w.p]:: .ay (fun h=>cz h b0 NS):: .acc ih 4 cf ((Fc.jj m NS).map Fc.b6.row):: .ay (fun h=>bG h m w)::fs) h:=(st.pick 2 rfl)
   refine I.Mh st rfl rfl (st.aS 1 rfl) (by decide) (by rw [List.length_map,List.length_map,List.length_take];simp only [List.length_cons,List.length_nil];omega) (fun fM aex TL h st=> ?_)
   rw [show (((m.vars.take i).map Fc.k4).map Fc.iv)++[[L.str x.name,L.str x.label,V.int .i64 0,V.int .i64 0]]=((m.vars.take (i+1)).map Fc.k4).map Fc.iv from by rw [Fc.n4 _ hx,List.map_append];rfl] at st
   have qb:=jv.cells (st.w9 0 rfl)
   refine I.f (.ptr aO 0) (I.fV (row':=[TL, .U]) st 3 rfl rfl qb rfl rfl rfl rfl (fun h st=> ?_))
   refine I.nil (WP.aG (I.bX (v:= .n (i+1)) L.cB (I.nil ?_)))
   exact ⟨i+1,(by omega),fM,aex,TL,(.bool true),(.ptr eD 0),by omega,by kernel_rfl,((st.pick 1 rfl).tail.pick 1 rfl).tail⟩
  ·replace c1:¬(i<m.vars.length):=by omega
   rw [List.take_of_length_le (show m.vars.length≤i by omega),←Fc.ael] at st
   refine I.nil (WP.seq (WP.cond (t:=false) rfl (WP.exit (WP.seq (WP.af (I.f (.ptr bV 4) (I.rC w.p (st.aF 3 rfl) (I.bX (v:= .n m.procs.length) (L.eB rfl (bG.procs (st.aS 6 rfl)) (iF ok.len)) (I.az (.int .i64 0) (I.nil (WP.block ?_)))))))))))
   replace st:ak (.cX ([]) 0 6 .U (e1 ([]:List (Fc.gv×eS))):: .cX bs s3 4 cO ((Fc.pL m).map ft.row):: .box aO [cO, .U]:: .box res [.U, .U]:: .box bV [L.str m.name, .n m.at_,w.i,w.v,w.p]:: .ay (fun h=>cz h b0 NS):: .acc ih 4 cf ((Fc.jj m NS).map Fc.b6.row):: .ay (fun h=>bG h m w)::fs) h:=st.xa 6
   replace st:ak (.ay (fun h=>hF h ([]:List (Fc.gv×eS))):: .cX ([]) 0 6 .U (e1 ([]:List (Fc.gv×eS))):: .cX bs s3 4 cO ((Fc.pL m).map ft.row):: .box aO [cO, .U]:: .box res [.U, .U]:: .box bV [L.str m.name, .n m.at_,w.i,w.v,w.p]:: .ay (fun h=>cz h b0 NS):: .acc ih 4 cf ((Fc.jj m NS).map Fc.b6.row):: .ay (fun h=>bG h m w)::fs) h:=ak.nn st fun h x hx=>by cases hx
   refine WP.dr (α:=Nat) (fun j env h=>∃mG Nk qI gs iU kc,(j≤m.procs.length∧gs.map (·.1)=(m.procs.take j).map Fc.gV)∧env=cM [.agg [L.str m.name, .n m.at_,w.i,w.v,w.p], .agg [b0,z2,z3,z4,z5,da], .ptr res 0, .U, .ptr bV 0, .ptr ch 0, .ptr cq 0, .bool false, .n i, .n m.vars.length, .bool false,w.v, .ptr aO 0,e2, .n j, .n m.procs.length,iU,w.p,kc] 0 Env.nil∧ak (.cX mG Nk 6 qI (e1 gs):: .ay (fun h=>hF h gs):: .box aO [cO,qI]:: .cX bs s3 4 cO ((Fc.pL m).map ft.row):: .box res [.U, .U]:: .box bV [L.str m.name, .n m.at_,w.i,w.v,w.p]:: .ay (fun h=>cz h b0 NS):: .acc ih 4 cf ((Fc.jj m NS).map Fc.b6.row):: .ay (fun h=>bG h m w)::fs) h) (fun j=>m.procs.length - j) 0 ?_ ?_
   ·exact ⟨[],0, .U,[], .bot, .bot,⟨Nat.zero_le _,rfl⟩,by kernel_rfl,(((st.pick 3 rfl).pick 1 rfl).pick 2 rfl)⟩
   rintro j _ h ⟨mG,Nk,qI,gs,iU,kc,⟨wv,EN⟩,rfl,st⟩
   have Nl:gs.length=min j m.procs.length:=by have:=congrArg List.length EN;simpa using this
   refine WP.af (I.bR (L.lss rfl rfl) (fun c2=> ?_) (fun c2=> ?_))
   ·replace c2:j<m.procs.length:=by omega
    obtain ⟨p,hp⟩:=fp (l:=m.procs) (i:=j) (by omega)
    obtain ⟨q,bC,pe,vM,gT⟩:=ok.pv hp
    refine I.nil (WP.seq (WP.cond (t:=true) rfl (WP.skip (WP.seq (WP.block (WP.af (I.val (v:= .ptr (ck w.p) (cu w.p+j * 8)) (L.bQ (Rows.av (bG.procs (st.aS 8 rfl)) (by rw [iF ok.len];exact c2)) rfl (by rw [iF ok.len];exact c2)) (I.val (v:= .agg [L.str p.name,q.p, .bool p.has,L.str p.result,L.str p.bI,q.u,q.b, .n p.at_]) (L.dd rfl (Rows.jY (i:=j) (bG.procs (st.aS 8 rfl)) (show _=some [L.str p.name,q.p, .bool p.has,L.str p.result,L.str p.bI,q.u,q.b, .n p.at_] from sW hp bC))) (I.dq st L.alloc (fun dV h st=> ?_))))))))))
    refine I.cc [L.str p.name,q.p, .bool p.has,L.str p.result,L.str p.bI,q.u,q.b, .n p.at_] st 0 rfl (fun h st=> ?_)
    refine I.nil (WP.draw (ae.f (.ptr aO 1) (ae.b qI (st.aF 3 rfl) (ae.val (v:= .agg [L.str p.name,q.p, .bool p.has,L.str p.result,L.str p.bI,q.u,q.b, .n p.at_]) (L.eg rfl (st.aF 0 rfl) rfl rfl rfl) (ae.bD rfl (aet D ok hp bC (st.pick 9 rfl)) (fun v2 h vR=> ?_) ?_)))))
    ·obtain ⟨dX,hE,rfl,st⟩:=vR
     exact h3 (ju (L.iM rfl (st.aF 5 rfl) rfl)) (lp _ _)
    rintro _ h ⟨dX,hE,rfl,st⟩
    have ajh:=Rows.vQ (st.aS 0 rfl).1
    have aji:=Rows.vQ (st.aS 0 rfl).2
    refine ae.eI (rows:=[pH (Fc.gV p) (eS.mk dX hE)]) st (H5 rfl rfl) (by decide) rfl (by simp [pH]) (fun Iu h _ st=> ?_)
    replace st:ak (.cX mG Nk 6 qI (e1 gs):: .ay (fun h=>Rows 6 h (.av Iu 0 1 (some 1)) [pH (Fc.gV p) (eS.mk dX hE)]):: .ay (fun h=>Ey h (Fc.gV p) (eS.mk dX hE)):: .ay (fun h=>bG h m w):: .box dV [L.str p.name,q.p, .bool p.has,L.str p.result,L.str p.bI,q.u,q.b, .n p.at_]:: .ay (fun h=>hF h gs):: .box aO [cO,qI]:: .cX bs s3 4 cO ((Fc.pL m).map ft.row):: .box res [.U, .U]:: .box bV [L.str m.name, .n m.at_,w.i,w.v,w.p]:: .ay (fun h=>cz h b0 NS):: .acc ih 4 cf ((Fc.jj m NS).map Fc.b6.row)::fs) h:=(st.pick 4 rfl)
    refine ae.Mh st rfl rfl (st.aS 1 rfl) (by decide) (by unfold e1;rw [List.length_map];simp only [List.length_cons,List.length_nil];omega) (fun _ _ _ h st=>rfl) (fun mG TM Nn h st=> ?_)
    rw [show (e1 gs)++[pH (Fc.gV p) (eS.mk dX hE)]=e1 (gs++[(Fc.gV p,(eS.mk dX hE))]) from by unfold e1;rw [List.map_append];rfl] at st
    have lU:=jv.cells (st.w9 0 rfl)
    replace st:ak (.ay (fun h=>hF h (gs++[(Fc.gV p,(eS.mk dX hE))])):: .cX mG TM 6 Nn (e1 (gs++[(Fc.gV p,(eS.mk dX hE))])):: .ay (fun h=>Rows 6 h (.av Iu 0 1 (some 1)) [pH (Fc.gV p) (eS.mk dX hE)]):: .ay (fun h=>bG h m w):: .box dV [L.str p.name,q.p, .bool p.has,L.str p.result,L.str p.bI,q.u,q.b, .n p.at_]:: .box aO [cO,qI]:: .cX bs s3 4 cO ((Fc.pL m).map ft.row):: .box res [.U, .U]:: .box bV [L.str m.name, .n m.at_,w.i,w.v,w.p]:: .ay (fun h=>cz h b0 NS):: .acc ih 4 cf ((Fc.jj m NS).map Fc.b6.row)::fs) h:=(ak.and ((st.pick 2 rfl).pick 5 rfl)).fD fun h hx=>hF.snoc hx.1 hx.2
    refine ae.f (.ptr aO 1) (ae.fV (row':=[cO,Nn]) st 5 rfl rfl lU rfl rfl rfl rfl (fun h st=>rfl) (fun h st=> ?_))
    refine ae.nil (WP.aG (I.bX (v:= .n (j+1)) L.cB (I.nil ?_)))
    exact ⟨j+1,(by omega),mG,TM,Nn,(gs++[(Fc.gV p,(eS.mk dX hE))]),(.bool true),(.ptr dV 0),⟨by omega,by rw [List.map_append,EN,Fc.n4 _ hp];rfl⟩,by kernel_rfl,((((((((((st.pick 2 rfl).tail.pick 3 rfl).tail.pick 8 rfl).pick 8 rfl).pick 8 rfl).pick 8 rfl).pick 8 rfl).pick 8 rfl).pick 6 rfl).pick 7 rfl)⟩
   ·replace c2:¬(j<m.procs.length):=by omega
    rw [List.take_of_length_le (show m.procs.length≤j by omega)] at EN
    rw [←Fc.aeo] at st
    refine I.nil (WP.seq (WP.cond (t:=false) rfl (WP.exit (WP.af (I.f (.ptr aO 0) (I.b cO (st.aF 2 rfl) (I.bD rfl (Sr (by decide) D.TH (T:=Fc.pL m) (by unfold Fc.pL;rw [List.length_map];omega) (fun t ht=>by obtain ⟨x,_,rfl⟩:=List.mem_map.1 ht;rfl) (by rw [Fc.aen];exact ml) (st.pick 3 rfl)) ?_)))))))
    intro _ h st
    rw [Fc.aem] at st
    refine I.af (I.f (.ptr aO 1) (I.b qI (st.aF 3 rfl) (I.bD rfl (Sr (by decide) D.TI (T:=Fc.uu gs) (by unfold Fc.uu;rw [List.length_map];omega) (fun t ht=>by obtain ⟨x,_,rfl⟩:=List.mem_map.1 ht;rfl) (by rw [Fc.aes EN];exact qk) (st.pick 1 rfl)) ?_)))
    intro _ h st
    rw [Fc.aep] at st
    refine I.af (I.val (v:= .agg [cO,qI]) (L.eg rfl (st.aF 3 rfl) rfl rfl rfl) (I.cc [cO,qI] st 4 rfl (fun h st=> ?_)))
    refine I.az .U (I.rt (⟨_,(cT (fb (l:=[cO,qI]) rfl (L.e6 (st.aF 4 rfl) rfl rfl rfl)) (ca .U)),cO,qI, .U,rfl, ?_⟩))
    rw [show Fc.vP m NS=Fc.uk m from if_pos dj,show Fc.uv m NS=Fc.qD m from if_pos dj,dj]
    have s1:=((((((((st.pick 3 rfl).tail.pick 3 rfl).tail.pick 3 rfl).tail.pick 4 rfl).pick 3 rfl).pick 2 rfl).pick 3 rfl)).Bj (by decide)
    have s2:=((s1.pick 1 rfl).Bj (by decide))
    have gb:=((s2.pick 2 rfl).and.and).fD (Q:=fun h=>pI h cO qI (Fc.uk m) (Fc.qD m)) fun h hx=>⟨hx.2,Fc.zm gs,Fc.aer EN,hx.1.2,Fc.aeq hx.1.1⟩
    exact (ak.nn (P:=fun h=>Rows 4 h .U (([]:List Fc.b6).map Fc.b6.row)) (gb.pick 1 rfl).tail fun _=> .nil).pick 1 rfl
end
end Go.Eng.YtmcjcbldmoijiaaGreatDoor
namespace Go.Eng.YtmcjcbldmoijiaaGreatDoor
open Go.Eng
noncomputable section
variable {c:Ctx}
structure EO (c:Ctx):Prop where
 f11:T.get 11 c.cF=some i11
 f12:T.get 12 c.cF=some i12
 f13:T.get 13 c.cF=some i13
 f34:T.get 34 c.cF=some i34
 f35:T.get 35 c.cF=some i35
 f36:T.get 36 c.cF=some i36
 f70:T.get 70 c.cF=some i70
 a:sP c
theorem aey (D:EO c) {fs:List Fact} {h:ag} {v w1 iq zf EF EG:V} {NS:List Lab.aL} {x:Lab.aL} (hn:NS.length<4294967296) (st:ak (.ay (fun h=>cz h v NS)::fs) h):
 bU c 70 [.agg [v,w1,iq,zf,EF,EG],L.str x] h fun v1 h1=>v1= .int .i64 (j0 NS x)∧ak (.ay (fun h=>cz h v NS)::fs) h1:=by
 refine bU.dR D.f70 rfl (WP.af (I.dq st (L.box (l:=[v,w1,iq,zf,EF,EG]) rfl rfl) (fun ch h st=> ?_)))
 refine I.az (.int .i64 0) (I.af (I.f (.ptr ch 0) (I.b v (st.aF 0 rfl) (I.dU rfl (xi D.a hn (st.aS 1 rfl)) ?_))))
 rintro _ _ ⟨rfl,rfl⟩
 refine I.rt ?_
 exact ⟨_,(ca (.int .i64 (j0 NS x))),rfl,st.tail⟩
theorem EP (D:EO c) {fs:List Fact} {h:ag} {n:Fc.aL} {b0 z2 z3 z4 z5 da:V} {m:eK} {w:kZ} {NS:List Fc.aL} {a:Nat} (hn:NS.length<4294967296) (st:ak (.ay (fun h=>cz h b0 NS)::fs) h):
 bU c 35 [.agg (vI m w), .agg [b0,z2,z3,z4,z5,da],L.str n, .n a] h fun v1 h1=>ak (.ay (fun h=>Rows 4 h v1 ((Fc.unk m.name NS (n,a)).map Fc.b6.row)):: .ay (fun h=>cz h b0 NS)::fs) h1:=by
 refine bU.dR D.f35 rfl (WP.af (I.dq st (L.box (l:=[L.str m.name, .n m.at_,w.i,w.v,w.p]) rfl rfl) (fun bV h st=> ?_)))
 refine I.dq st (L.box (l:=[b0,z2,z3,z4,z5,da]) rfl rfl) (fun ch h st=> ?_)
 refine I.az .U (I.nil (WP.seq (WP.af (I.val (v:= .agg [b0,z2,z3,z4,z5,da]) (L.eg rfl (st.aF 0 rfl) rfl rfl rfl) (I.bD rfl (aey D hn (st.pick 2 rfl)) ?_)))))
 rintro _ h ⟨rfl,st⟩
 refine I.bR (L.lss rfl rfl) (fun c1=> ?_) (fun c1=> ?_)
 ·refine I.bh (WP.af (I.f (.ptr bV 0) (I.b (L.str m.name) (st.aF 2 rfl) (I.val (v:= .agg [L.str m.name, .n a, .int .i64 7,L.str n]) (L.build rfl) (I.QV (rows:=[[L.str m.name, .n a, .int .i64 7,L.str n]]) st rfl (by decide) rfl (by simp) (fun EH h st=> ?_))))))
  refine I.rt ?_
  rw [show Fc.unk m.name NS (n,a)=[⟨m.name,a,7,n⟩] from if_neg (y3 (show ¬0≤j0 NS n by omega))]
  exact ⟨_,(ca (.av EH 0 1 (some 1))),((st.pick 2 rfl).tail.pick 2 rfl).tail⟩
 ·refine I.aY (WP.skip (WP.af (I.az .U (I.rt ?_))))
  rw [show Fc.unk m.name NS (n,a)=[] from if_pos (y2 (show 0≤j0 NS n by omega))]
  exact ⟨_,(ca .U),ak.nn (P:=fun h=>Rows 4 h .U (([]:List Fc.b6).map Fc.b6.row)) (((st.pick 1 rfl).tail.pick 1 rfl).tail) fun _=> .nil⟩
theorem aez (D:EO c) {fs:List Fact} {h:ag} {m:eK} {w:kZ} (ok:mD m w) (st:ak (.ay (fun h=>bG h m w)::fs) h):
 bU c 34 [.agg (vI m w)] h fun cf h1=>∃dQ,ak (.acc dQ 4 cf ((Fc.h4 m).map Fc.b6.row):: .ay (fun h=>bG h m w)::fs) h1:=by
 have oH:=ok.MS
 have pK:=ok.um
 have EJ:=ok.jq
 have yu:∀p∈m.procs,(Fc.a7 m.name [] (Fc.dB p)).length≤8193:=fun p hp=>Nat.le_trans (Fc.lB _ _ _) (by unfold Fc.dB;rw [List.length_map];exact (ok.pa p hp).1)
 have aeg:(Fc.cN m).length=m.imports.length:=List.length_map _
 have Nb:(Fc.bY m).length=m.vars.length:=List.length_map _
 have aeh:(Fc.dO m).length=m.procs.length:=List.length_map _
 have zk:=Fc.lB m.name (Fc.cN m) [m.name]
 have p2:=Fc.lB m.name (Fc.bY m) []
 have EK:=Fc.lB m.name (Fc.dO m) ([]++(Fc.bY m).map (·.1))
 replace st:=(st.je 4).je 1
 refine bU.dR D.f34 rfl (WP.af (I.dq st (L.box (l:=[L.str m.name, .n m.at_,w.i,w.v,w.p]) rfl rfl) (fun bV h st=> ?_)))
 refine I.az .U (I.af (I.az .U (I.af (I.az .U (I.af (I.f (.ptr bV 0) (I.b (L.str m.name) (st.aF 0 rfl) (I.eI (rows:=[[L.str m.name]]) st rfl (by decide) rfl (by simp) (fun HY h st=> ?_)))))))))
 refine I.gJ st 2 rfl rfl rfl (st.aS 0 rfl) (by decide) (by simp) (fun BU xu h st=> ?_)
 rw [show ([])++[[L.str m.name]]=SR [m.name] from rfl] at st
 have zk:=(st.et 2 rfl).cells
 refine I.nil (WP.seq (WP.af (I.az (.int .i64 0) (I.nil (WP.block (WP.dr (α:=Nat) (fun i env h=>∃BV rV s4 pM eN c3 dc,(i≤m.imports.length)∧env=cM [.agg [L.str m.name, .n m.at_,w.i,w.v,w.p], .U, .ptr bV 0,rV, .n i,eN,c3,dc,pM] 0 Env.nil∧ak (.acc BV 1 rV (SR ([m.name]++((Fc.cN m).take i).map Prod.fst)):: .acc s4 4 pM ((Fc.a7 m.name ([m.name]) ((Fc.cN m).take i)).map Fc.b6.row):: .box bV [L.str m.name, .n m.at_,w.i,w.v,w.p]:: .ay (fun h=>bG h m w)::fs) h) (fun i=>m.imports.length - i) 0 ?_ ?_))))))
 ·exact ⟨BU,xu,0, .U, .bot, .bot, .bot,Nat.zero_le _,by kernel_rfl,((st.tail.pick 2 rfl).pick 2 rfl)⟩
 rintro i _ h ⟨BV,rV,s4,pM,eN,c3,dc,wR,rfl,st⟩
 refine WP.seq (WP.af (I.f (.ptr bV 2) (I.b w.i (st.aF 2 rfl) (I.val (v:= .n m.imports.length) (L.eB rfl (bG.BK (st.aS 3 rfl)) (List.length_map _)) (I.bR (L.lss rfl rfl) (fun c1=> ?_) (fun c1=> ?_))))))
 ·replace c1:i<m.imports.length:=by omega
  obtain ⟨x,hx⟩:=fp (l:=m.imports) (i:=i) (by omega)
  refine I.bh (WP.skip (WP.seq (WP.block (WP.af (I.f (.ptr bV 2) (I.b w.i (st.aF 2 rfl) (I.val (v:= .ptr (ck w.i) (cu w.i+i * 2)) (L.bQ (Rows.av (bG.BK (st.aS 3 rfl)) (by rw [List.length_map];exact c1)) rfl (by rw [List.length_map];exact c1)) (I.val (v:= .agg [L.str x.name, .n x.at_]) (L.dd rfl (Rows.jY (i:=i) (bG.BK (st.aS 3 rfl)) (by rw [List.getElem?_map,hx];rfl))) ?_))))))))
  refine I.dq st L.alloc (fun eD h st=> ?_)
  refine I.cc [L.str x.name, .n x.at_] st 0 rfl (fun h st=> ?_)
  refine I.nil (WP.seq (WP.af (I.f (.ptr eD 0) (I.b (L.str x.name) (st.aF 0 rfl) ?_))))
  have hT:(Fc.cN m)[i]? =some (x.name,x.at_):=by unfold Fc.cN;rw [List.getElem?_map,hx];rfl
  have oT:=Fc.lB m.name ((Fc.cN m).take i) ([m.name])
  rw [List.length_take] at oT
  refine I.bD rfl (xi D.a (by simp only [List.length_append,List.length_map,List.length_take,List.length_cons,List.length_nil];omega) (Rows.af (st.rB 1 rfl (by decide)))) ?_
  rintro _ h ⟨rfl,rfl⟩
  refine I.bR (L.geq rfl rfl) (fun dS=> ?_) (fun dS=> ?_)
  ·replace dS:=y2 dS
   have jH:Fc.a7 m.name ([m.name]) ((Fc.cN m).take (i+1))=Fc.a7 m.name ([m.name]) ((Fc.cN m).take i)++[⟨m.name,x.at_,6,x.name⟩]:=by rw [Fc.rN _ _ hT,if_pos dS]
   refine I.bh (WP.aG (I.f (.ptr bV 0) (I.b (L.str m.name) (st.aF 3 rfl) (I.f (.ptr eD 1) (I.b (.n x.at_) (st.aF 0 rfl) (I.f (.ptr eD 0) (I.b (L.str x.name) (st.aF 0 rfl) (I.val (v:= .agg [L.str m.name, .n x.at_, .int .i64 6,L.str x.name]) (L.build rfl) (I.eI (rows:=[[L.str m.name, .n x.at_, .int .i64 6,L.str x.name]]) st rfl (by decide) rfl (by simp) (fun EH h st=> ?_))))))))))
   refine I.gJ st 3 rfl rfl rfl (st.aS 0 rfl) (by decide) (by simp only [List.length_append,List.length_map,List.length_cons,List.length_nil];omega) (fun BW xv h st=> ?_)
   rw [show ((Fc.a7 m.name ([m.name]) ((Fc.cN m).take i)).map Fc.b6.row)++[[L.str m.name,V.n x.at_,V.int .i64 6,L.str x.name]]=(Fc.a7 m.name ([m.name]) ((Fc.cN m).take (i+1))).map Fc.b6.row from by rw [jH];simp only [List.map_append,List.map_cons,List.map_nil];rfl] at st
   have p2:=(st.et 3 rfl).cells
   refine I.nil (WP.aG (I.f (.ptr eD 0) (I.b (L.str x.name) (st.aF 1 rfl) (I.eI (rows:=[[L.str x.name]]) st rfl (by decide) rfl (by simp) (fun HZ h st=> ?_)))))
   refine I.gJ st 3 rfl rfl rfl (st.aS 0 rfl) (by decide) (by simp only [eM,List.length_append,List.length_map,List.length_take,List.length_cons,List.length_nil];omega) (fun zn xw h st=> ?_)
   rw [show (SR ([m.name]++((Fc.cN m).take i).map Prod.fst))++[[L.str x.name]]=SR ([m.name]++((Fc.cN m).take (i+1)).map Prod.fst) from by rw [Fc.n4 _ hT,←List.append_assoc];exact (nV _ [_]).symm] at st
   have EK:=(st.et 3 rfl).cells
   refine I.nil (WP.aG (I.bX (v:= .n (i+1)) L.cB (I.nil ?_)))
   exact ⟨i+1,(by omega),zn,xw,BW,xv,(.bool true),(.ptr eD 0),(.bool true),by omega,by kernel_rfl,st.tail.tail.tail⟩
  ·replace dS:=y3 dS
   have jH:Fc.a7 m.name ([m.name]) ((Fc.cN m).take (i+1))=Fc.a7 m.name ([m.name]) ((Fc.cN m).take i)++[]:=by rw [Fc.rN _ _ hT,if_neg dS]
   rw [List.append_nil] at jH
   rw [←jH] at st
   refine I.aY (WP.skip (WP.aG (I.f (.ptr eD 0) (I.b (L.str x.name) (st.aF 0 rfl) (I.eI (rows:=[[L.str x.name]]) st rfl (by decide) rfl (by simp) (fun ajj h st=> ?_))))))
   refine I.gJ st 2 rfl rfl rfl (st.aS 0 rfl) (by decide) (by simp only [eM,List.length_append,List.length_map,List.length_take,List.length_cons,List.length_nil];omega) (fun Np Nq h st=> ?_)
   rw [show (SR ([m.name]++((Fc.cN m).take i).map Prod.fst))++[[L.str x.name]]=SR ([m.name]++((Fc.cN m).take (i+1)).map Prod.fst) from by rw [Fc.n4 _ hT,←List.append_assoc];exact (nV _ [_]).symm] at st
   have Nr:=(st.et 2 rfl).cells
   refine I.nil (WP.aG (I.bX (v:= .n (i+1)) L.cB (I.nil ?_)))
   exact ⟨i+1,(by omega),Np,Nq,s4,pM,(.bool true),(.ptr eD 0),(.bool false),by omega,by kernel_rfl,st.tail.tail⟩
 ·replace c1:¬(i<m.imports.length):=by omega
  rw [List.take_of_length_le (by omega)] at st
  refine I.aY (WP.exit (WP.af (I.az .U (I.nil (WP.seq (WP.af (I.az (.int .i64 0) (I.nil (WP.block ?_)))))))))
  replace st:ak (.acc 0 1 .U (SR ([]++((Fc.bY m).take 0).map Prod.fst)):: .acc s4 4 pM ((Fc.a7 m.name ([m.name]) (Fc.cN m)).map Fc.b6.row):: .box bV [L.str m.name, .n m.at_,w.i,w.v,w.p]:: .ay (fun h=>bG h m w)::fs) h:=(st.tail).je 1
  replace st:ak (.acc 0 1 .U (SR ([]++((Fc.bY m).take 0).map Prod.fst)):: .acc s4 4 pM ((Fc.a7 m.name ([m.name]) (Fc.cN m)++Fc.a7 m.name ([]) ((Fc.bY m).take 0)).map Fc.b6.row):: .box bV [L.str m.name, .n m.at_,w.i,w.v,w.p]:: .ay (fun h=>bG h m w)::fs) h:=by rw [List.take_zero,show Fc.a7 m.name ([]) []=[] from rfl,List.append_nil];exact st
  refine WP.dr (α:=Nat) (fun j env h=>∃xx gN s5 oa fN gX e2,(j≤m.vars.length)∧env=cM [.agg [L.str m.name, .n m.at_,w.i,w.v,w.p], .U, .ptr bV 0,rV, .n i, .bool false,c3,dc,oa, .n j,fN,gX,gN,e2] 0 Env.nil∧ak (.acc xx 1 gN (SR ([]++((Fc.bY m).take j).map Prod.fst)):: .acc s5 4 oa ((Fc.a7 m.name ([m.name]) (Fc.cN m)++Fc.a7 m.name ([]) ((Fc.bY m).take j)).map Fc.b6.row):: .box bV [L.str m.name, .n m.at_,w.i,w.v,w.p]:: .ay (fun h=>bG h m w)::fs) h) (fun j=>m.vars.length - j) 0 ?_ ?_
  ·exact ⟨0, .U,s4,pM, .bot, .bot, .bot,Nat.zero_le _,by kernel_rfl,st⟩
  rintro j _ h ⟨xx,gN,s5,oa,fN,gX,e2,Nc,rfl,st⟩
  refine WP.seq (WP.af (I.f (.ptr bV 3) (I.b w.v (st.aF 2 rfl) (I.val (v:= .n m.vars.length) (L.eB rfl (bG.vars (st.aS 3 rfl)) (List.length_map _)) (I.bR (L.lss rfl rfl) (fun c1=> ?_) (fun c1=> ?_))))))
  ·replace c1:j<m.vars.length:=by omega
   obtain ⟨x,hx⟩:=fp (l:=m.vars) (i:=j) (by omega)
   refine I.bh (WP.skip (WP.seq (WP.block (WP.af (I.f (.ptr bV 3) (I.b w.v (st.aF 2 rfl) (I.val (v:= .ptr (ck w.v) (cu w.v+j * 4)) (L.bQ (Rows.av (bG.vars (st.aS 3 rfl)) (by rw [List.length_map];exact c1)) rfl (by rw [List.length_map];exact c1)) (I.val (v:= .agg [L.str x.name,L.str x.label, .int .i64 x.init, .n x.at_]) (L.dd rfl (Rows.jY (i:=j) (bG.vars (st.aS 3 rfl)) (by rw [List.getElem?_map,hx];rfl))) ?_))))))))
   refine I.dq st L.alloc (fun eD h st=> ?_)
   refine I.cc [L.str x.name,L.str x.label, .int .i64 x.init, .n x.at_] st 0 rfl (fun h st=> ?_)
   refine I.nil (WP.seq (WP.af (I.f (.ptr eD 0) (I.b (L.str x.name) (st.aF 0 rfl) ?_))))
   have hT:(Fc.bY m)[j]? =some (x.name,x.at_):=by unfold Fc.bY;rw [List.getElem?_map,hx];rfl
   have oT:=Fc.lB m.name ((Fc.bY m).take j) ([])
   rw [List.length_take] at oT
   refine I.bD rfl (xi D.a (by simp only [List.length_append,List.length_map,List.length_take,List.length_cons,List.length_nil];omega) (Rows.af (st.rB 1 rfl (by decide)))) ?_
   rintro _ h ⟨rfl,rfl⟩
   refine I.bR (L.geq rfl rfl) (fun dS=> ?_) (fun dS=> ?_)
   ·replace dS:=y2 dS
    have jH:Fc.a7 m.name ([m.name]) (Fc.cN m)++Fc.a7 m.name ([]) ((Fc.bY m).take (j+1))=Fc.a7 m.name ([m.name]) (Fc.cN m)++Fc.a7 m.name ([]) ((Fc.bY m).take j)++[⟨m.name,x.at_,6,x.name⟩]:=by rw [Fc.rN _ _ hT,if_pos dS];simp only [List.append_assoc]
    refine I.bh (WP.aG (I.f (.ptr bV 0) (I.b (L.str m.name) (st.aF 3 rfl) (I.f (.ptr eD 3) (I.b (.n x.at_) (st.aF 0 rfl) (I.f (.ptr eD 0) (I.b (L.str x.name) (st.aF 0 rfl) (I.val (v:= .agg [L.str m.name, .n x.at_, .int .i64 6,L.str x.name]) (L.build rfl) (I.eI (rows:=[[L.str m.name, .n x.at_, .int .i64 6,L.str x.name]]) st rfl (by decide) rfl (by simp) (fun ajk h st=> ?_))))))))))
    refine I.gJ st 3 rfl rfl rfl (st.aS 0 rfl) (by decide) (by simp only [List.length_append,List.length_map,List.length_cons,List.length_nil];omega) (fun Iv Iw h st=> ?_)
    rw [show ((Fc.a7 m.name ([m.name]) (Fc.cN m)++Fc.a7 m.name ([]) ((Fc.bY m).take j)).map Fc.b6.row)++[[L.str m.name,V.n x.at_,V.int .i64 6,L.str x.name]]=(Fc.a7 m.name ([m.name]) (Fc.cN m)++Fc.a7 m.name ([]) ((Fc.bY m).take (j+1))).map Fc.b6.row from by rw [jH];simp only [List.map_append,List.map_cons,List.map_nil];rfl] at st
    have aeA:=(st.et 3 rfl).cells
    refine I.nil (WP.aG (I.f (.ptr eD 0) (I.b (L.str x.name) (st.aF 1 rfl) (I.eI (rows:=[[L.str x.name]]) st rfl (by decide) rfl (by simp) (fun ajl h st=> ?_)))))
    refine I.gJ st 3 rfl rfl rfl (st.aS 0 rfl) (by decide) (by simp only [eM,List.length_append,List.length_map,List.length_take,List.length_cons,List.length_nil];omega) (fun aeB aeC h st=> ?_)
    rw [show (SR ([]++((Fc.bY m).take j).map Prod.fst))++[[L.str x.name]]=SR ([]++((Fc.bY m).take (j+1)).map Prod.fst) from by rw [Fc.n4 _ hT,←List.append_assoc];exact (nV _ [_]).symm] at st
    have ajm:=(st.et 3 rfl).cells
    refine I.nil (WP.aG (I.bX (v:= .n (j+1)) L.cB (I.nil ?_)))
    exact ⟨j+1,(by omega),aeB,aeC,Iv,Iw,(.bool true),(.ptr eD 0),(.bool true),by omega,by kernel_rfl,st.tail.tail.tail⟩
   ·replace dS:=y3 dS
    have jH:Fc.a7 m.name ([m.name]) (Fc.cN m)++Fc.a7 m.name ([]) ((Fc.bY m).take (j+1))=Fc.a7 m.name ([m.name]) (Fc.cN m)++Fc.a7 m.name ([]) ((Fc.bY m).take j)++[]:=by rw [Fc.rN _ _ hT,if_neg dS];simp only [List.append_assoc]
    rw [List.append_nil] at jH
    rw [←jH] at st
    refine I.aY (WP.skip (WP.aG (I.f (.ptr eD 0) (I.b (L.str x.name) (st.aF 0 rfl) (I.eI (rows:=[[L.str x.name]]) st rfl (by decide) rfl (by simp) (fun ajn h st=> ?_))))))
    refine I.gJ st 2 rfl rfl rfl (st.aS 0 rfl) (by decide) (by simp only [eM,List.length_append,List.length_map,List.length_take,List.length_cons,List.length_nil];omega) (fun aeD aeE h st=> ?_)
    rw [show (SR ([]++((Fc.bY m).take j).map Prod.fst))++[[L.str x.name]]=SR ([]++((Fc.bY m).take (j+1)).map Prod.fst) from by rw [Fc.n4 _ hT,←List.append_assoc];exact (nV _ [_]).symm] at st
    have TN:=(st.et 2 rfl).cells
    refine I.nil (WP.aG (I.bX (v:= .n (j+1)) L.cB (I.nil ?_)))
    exact ⟨j+1,(by omega),aeD,aeE,s5,oa,(.bool true),(.ptr eD 0),(.bool false),by omega,by kernel_rfl,st.tail.tail⟩
  ·replace c1:¬(j<m.vars.length):=by omega
   rw [List.take_of_length_le (by omega)] at st
   refine I.aY (WP.exit (WP.seq (WP.af (I.az (.int .i64 0) (I.nil (WP.block ?_))))))
   replace st:ak (.acc xx 1 gN (SR ([]++(Fc.bY m).map (·.1)++((Fc.dO m).take 0).map Prod.fst)):: .acc s5 4 oa ((Fc.a7 m.name ([m.name]) (Fc.cN m)++Fc.a7 m.name ([]) (Fc.bY m)).map Fc.b6.row):: .box bV [L.str m.name, .n m.at_,w.i,w.v,w.p]:: .ay (fun h=>bG h m w)::fs) h:=by rw [show ([]++(Fc.bY m).map (·.1))++((Fc.dO m).take 0).map Prod.fst=[]++(Fc.bY m).map (·.1) from List.append_nil _];exact st
   replace st:ak (.acc xx 1 gN (SR ([]++(Fc.bY m).map (·.1)++((Fc.dO m).take 0).map Prod.fst)):: .acc s5 4 oa ((Fc.a7 m.name ([m.name]) (Fc.cN m)++Fc.a7 m.name ([]) (Fc.bY m)++Fc.a7 m.name ([]++(Fc.bY m).map (·.1)) ((Fc.dO m).take 0)).map Fc.b6.row):: .box bV [L.str m.name, .n m.at_,w.i,w.v,w.p]:: .ay (fun h=>bG h m w)::fs) h:=by rw [List.take_zero,show Fc.a7 m.name ([]++(Fc.bY m).map (·.1)) []=[] from rfl,List.append_nil];exact st
   refine WP.dr (α:=Nat) (fun r env h=>∃TP var BX zo l1 iU dx,(r≤m.procs.length)∧env=cM [.agg [L.str m.name, .n m.at_,w.i,w.v,w.p], .U, .ptr bV 0,rV, .n i, .bool false,c3,dc,zo, .n j, .bool false,gX,var,e2, .n r,l1,iU,dx] 0 Env.nil∧ak (.acc TP 1 var (SR ([]++(Fc.bY m).map (·.1)++((Fc.dO m).take r).map Prod.fst)):: .acc BX 4 zo ((Fc.a7 m.name ([m.name]) (Fc.cN m)++Fc.a7 m.name ([]) (Fc.bY m)++Fc.a7 m.name ([]++(Fc.bY m).map (·.1)) ((Fc.dO m).take r)).map Fc.b6.row):: .box bV [L.str m.name, .n m.at_,w.i,w.v,w.p]:: .ay (fun h=>bG h m w)::fs) h) (fun r=>m.procs.length - r) 0 ?_ ?_
   ·exact ⟨xx,gN,s5,oa, .bot, .bot, .bot,Nat.zero_le _,by kernel_rfl,st⟩
   rintro r _ h ⟨TP,var,BX,zo,l1,iU,dx,aei,rfl,st⟩
   refine WP.seq (WP.af (I.f (.ptr bV 4) (I.b w.p (st.aF 2 rfl) (I.val (v:= .n m.procs.length) (L.eB rfl (bG.procs (st.aS 3 rfl)) (iF ok.len)) (I.bR (L.lss rfl rfl) (fun c1=> ?_) (fun c1=> ?_))))))
   ·replace c1:r<m.procs.length:=by omega
    obtain ⟨p,hp⟩:=fp (l:=m.procs) (i:=r) (by omega)
    obtain ⟨q,bC,pe,vM,gT⟩:=ok.pv hp
    refine I.bh (WP.skip (WP.seq (WP.block (WP.af (I.f (.ptr bV 4) (I.b w.p (st.aF 2 rfl) (I.val (v:= .ptr (ck w.p) (cu w.p+r * 8)) (L.bQ (Rows.av (bG.procs (st.aS 3 rfl)) (by rw [iF ok.len];exact c1)) rfl (by rw [iF ok.len];exact c1)) (I.val (v:= .agg [L.str p.name,q.p, .bool p.has,L.str p.result,L.str p.bI,q.u,q.b, .n p.at_]) (L.dd rfl (Rows.jY (i:=r) (bG.procs (st.aS 3 rfl)) (show _=some [L.str p.name,q.p, .bool p.has,L.str p.result,L.str p.bI,q.u,q.b, .n p.at_] from sW hp bC))) (I.dq st L.alloc (fun eD h st=> ?_))))))))))
    refine I.cc [L.str p.name,q.p, .bool p.has,L.str p.result,L.str p.bI,q.u,q.b, .n p.at_] st 0 rfl (fun h st=> ?_)
    refine I.nil (WP.seq (WP.af (I.f (.ptr eD 0) (I.b (L.str p.name) (st.aF 0 rfl) ?_))))
    have hT:(Fc.dO m)[r]? =some (p.name,p.at_):=by unfold Fc.dO;rw [List.getElem?_map,hp];rfl
    have oT:=Fc.lB m.name ((Fc.dO m).take r) ([]++(Fc.bY m).map (·.1))
    rw [List.length_take] at oT
    refine I.bD rfl (xi D.a (by simp only [List.length_append,List.length_map,List.length_take,List.length_cons,List.length_nil];omega) (Rows.af (st.rB 1 rfl (by decide)))) ?_
    rintro _ h ⟨rfl,rfl⟩
    refine I.bR (L.geq rfl rfl) (fun dS=> ?_) (fun dS=> ?_)
    ·replace dS:=y2 dS
     have jH:Fc.a7 m.name ([m.name]) (Fc.cN m)++Fc.a7 m.name ([]) (Fc.bY m)++Fc.a7 m.name ([]++(Fc.bY m).map (·.1)) ((Fc.dO m).take (r+1))=Fc.a7 m.name ([m.name]) (Fc.cN m)++Fc.a7 m.name ([]) (Fc.bY m)++Fc.a7 m.name ([]++(Fc.bY m).map (·.1)) ((Fc.dO m).take r)++[⟨m.name,p.at_,6,p.name⟩]:=by rw [Fc.rN _ _ hT,if_pos dS];simp only [List.append_assoc]
     refine I.bh (WP.aG (I.f (.ptr bV 0) (I.b (L.str m.name) (st.aF 3 rfl) (I.f (.ptr eD 7) (I.b (.n p.at_) (st.aF 0 rfl) (I.f (.ptr eD 0) (I.b (L.str p.name) (st.aF 0 rfl) (I.val (v:= .agg [L.str m.name, .n p.at_, .int .i64 6,L.str p.name]) (L.build rfl) (I.eI (rows:=[[L.str m.name, .n p.at_, .int .i64 6,L.str p.name]]) st rfl (by decide) rfl (by simp) (fun ajo h st=> ?_))))))))))
     refine I.gJ st 3 rfl rfl rfl (st.aS 0 rfl) (by decide) (by simp only [List.length_append,List.length_map,List.length_cons,List.length_nil];omega) (fun aeF aeG h st=> ?_)
     rw [show ((Fc.a7 m.name ([m.name]) (Fc.cN m)++Fc.a7 m.name ([]) (Fc.bY m)++Fc.a7 m.name ([]++(Fc.bY m).map (·.1)) ((Fc.dO m).take r)).map Fc.b6.row)++[[L.str m.name,V.n p.at_,V.int .i64 6,L.str p.name]]=(Fc.a7 m.name ([m.name]) (Fc.cN m)++Fc.a7 m.name ([]) (Fc.bY m)++Fc.a7 m.name ([]++(Fc.bY m).map (·.1)) ((Fc.dO m).take (r+1))).map Fc.b6.row from by rw [jH];simp only [List.map_append,List.map_cons,List.map_nil];rfl] at st
     have ajp:=(st.et 3 rfl).cells
     refine I.nil (WP.aG (I.f (.ptr eD 0) (I.b (L.str p.name) (st.aF 1 rfl) (I.eI (rows:=[[L.str p.name]]) st rfl (by decide) rfl (by simp) (fun ajq h st=> ?_)))))
     refine I.gJ st 3 rfl rfl rfl (st.aS 0 rfl) (by decide) (by simp only [eM,List.length_append,List.length_map,List.length_take,List.length_cons,List.length_nil];omega) (fun aeH aeI h st=> ?_)
     rw [show (SR ([]++(Fc.bY m).map (·.1)++((Fc.dO m).take r).map Prod.fst))++[[L.str p.name]]=SR ([]++(Fc.bY m).map (·.1)++((Fc.dO m).take (r+1)).map Prod.fst) from by rw [Fc.n4 _ hT,←List.append_assoc];exact (nV _ [_]).symm] at st
     have ajr:=(st.et 3 rfl).cells
     refine I.nil (WP.aG (I.bX (v:= .n (r+1)) L.cB (I.nil ?_)))
     exact ⟨r+1,(by omega),aeH,aeI,aeF,aeG,(.bool true),(.ptr eD 0),(.bool true),by omega,by kernel_rfl,st.tail.tail.tail⟩
    ·replace dS:=y3 dS
     have jH:Fc.a7 m.name ([m.name]) (Fc.cN m)++Fc.a7 m.name ([]) (Fc.bY m)++Fc.a7 m.name ([]++(Fc.bY m).map (·.1)) ((Fc.dO m).take (r+1))=Fc.a7 m.name ([m.name]) (Fc.cN m)++Fc.a7 m.name ([]) (Fc.bY m)++Fc.a7 m.name ([]++(Fc.bY m).map (·.1)) ((Fc.dO m).take r)++[]:=by rw [Fc.rN _ _ hT,if_neg dS];simp only [List.append_assoc]
     rw [List.append_nil] at jH
     rw [←jH] at st
     refine I.aY (WP.skip (WP.aG (I.f (.ptr eD 0) (I.b (L.str p.name) (st.aF 0 rfl) (I.eI (rows:=[[L.str p.name]]) st rfl (by decide) rfl (by simp) (fun ajs h st=> ?_))))))
     refine I.gJ st 2 rfl rfl rfl (st.aS 0 rfl) (by decide) (by simp only [eM,List.length_append,List.length_map,List.length_take,List.length_cons,List.length_nil];omega) (fun aeJ aeK h st=> ?_)
     rw [show (SR ([]++(Fc.bY m).map (·.1)++((Fc.dO m).take r).map Prod.fst))++[[L.str p.name]]=SR ([]++(Fc.bY m).map (·.1)++((Fc.dO m).take (r+1)).map Prod.fst) from by rw [Fc.n4 _ hT,←List.append_assoc];exact (nV _ [_]).symm] at st
     have TQ:=(st.et 2 rfl).cells
     refine I.nil (WP.aG (I.bX (v:= .n (r+1)) L.cB (I.nil ?_)))
     exact ⟨r+1,(by omega),aeJ,aeK,BX,zo,(.bool true),(.ptr eD 0),(.bool false),by omega,by kernel_rfl,st.tail.tail⟩
   ·replace c1:¬(r<m.procs.length):=by omega
    rw [List.take_of_length_le (by omega)] at st
    refine I.aY (WP.exit (WP.seq (WP.af (I.az (.int .i64 0) (I.nil (WP.block ?_))))))
    replace st:ak (.acc BX 4 zo ((Fc.a7 m.name ([m.name]) (Fc.cN m)++Fc.a7 m.name ([]) (Fc.bY m)++Fc.a7 m.name ([]++(Fc.bY m).map (·.1)) (Fc.dO m)).map Fc.b6.row):: .box bV [L.str m.name, .n m.at_,w.i,w.v,w.p]:: .ay (fun h=>bG h m w)::fs) h:=(st).tail
    replace st:ak (.acc BX 4 zo ((Fc.a7 m.name ([m.name]) (Fc.cN m)++Fc.a7 m.name ([]) (Fc.bY m)++Fc.a7 m.name ([]++(Fc.bY m).map (·.1)) (Fc.dO m)++(m.procs.take 0).flatMap fun p=>Fc.a7 m.name [] (Fc.dB p)).map Fc.b6.row):: .box bV [L.str m.name, .n m.at_,w.i,w.v,w.p]:: .ay (fun h=>bG h m w)::fs) h:=by rw [List.take_zero,List.flatMap_nil,List.append_nil];exact st
    refine WP.dr (α:=Nat) (fun s env h=>∃ER xy lE kz lZ oU mE ur,(s≤m.procs.length)∧env=cM [.agg [L.str m.name, .n m.at_,w.i,w.v,w.p], .U, .ptr bV 0,rV, .n i, .bool false,c3,dc,xy, .n j, .bool false,gX,var,e2, .n r, .bool false,iU,dx, .n s,lE,kz,lZ,oU,mE,ur] 0 Env.nil∧ak (.acc ER 4 xy ((Fc.a7 m.name ([m.name]) (Fc.cN m)++Fc.a7 m.name ([]) (Fc.bY m)++Fc.a7 m.name ([]++(Fc.bY m).map (·.1)) (Fc.dO m)++(m.procs.take s).flatMap fun p=>Fc.a7 m.name [] (Fc.dB p)).map Fc.b6.row):: .box bV [L.str m.name, .n m.at_,w.i,w.v,w.p]:: .ay (fun h=>bG h m w)::fs) h) (fun s=>m.procs.length - s) 0 ?_ ?_
    ·exact ⟨BX,zo, .bot, .bot, .bot, .bot, .bot, .bot,Nat.zero_le _,by kernel_rfl,st⟩
    rintro s _ h ⟨ER,xy,lE,kz,lZ,oU,mE,ur,aej,rfl,st⟩
    refine WP.seq (WP.af (I.f (.ptr bV 4) (I.b w.p (st.aF 1 rfl) (I.val (v:= .n m.procs.length) (L.eB rfl (bG.procs (st.aS 2 rfl)) (iF ok.len)) (I.bR (L.lss rfl rfl) (fun c1=> ?_) (fun c1=> ?_))))))
    ·replace c1:s<m.procs.length:=by omega
     obtain ⟨p,hp⟩:=fp (l:=m.procs) (i:=s) (by omega)
     obtain ⟨q,bC,pe,vM,gT⟩:=ok.pv hp
     refine I.bh (WP.skip (WP.seq (WP.block (WP.af (I.az .U (I.af (I.az (.int .i64 0) (I.nil (WP.block ?_)))))))))
     replace st:ak (.acc 0 1 .U (SR ([]++((Fc.dB p).take 0).map Prod.fst)):: .acc ER 4 xy ((Fc.a7 m.name ([m.name]) (Fc.cN m)++Fc.a7 m.name ([]) (Fc.bY m)++Fc.a7 m.name ([]++(Fc.bY m).map (·.1)) (Fc.dO m)++(m.procs.take s).flatMap fun p=>Fc.a7 m.name [] (Fc.dB p)).map Fc.b6.row):: .box bV [L.str m.name, .n m.at_,w.i,w.v,w.p]:: .ay (fun h=>bG h m w)::fs) h:=st.je 1
     have rj:=Fc.rP (f:=fun p=>Fc.a7 m.name [] (Fc.dB p)) yu s
     have Nd:(Fc.dB p).length=p.params.length:=List.length_map _
     replace st:ak (.acc 0 1 .U (SR ([]++((Fc.dB p).take 0).map Prod.fst)):: .acc ER 4 xy ((Fc.a7 m.name ([m.name]) (Fc.cN m)++Fc.a7 m.name ([]) (Fc.bY m)++Fc.a7 m.name ([]++(Fc.bY m).map (·.1)) (Fc.dO m)++((m.procs.take s).flatMap fun p=>Fc.a7 m.name [] (Fc.dB p))++Fc.a7 m.name ([]) ((Fc.dB p).take 0)).map Fc.b6.row):: .box bV [L.str m.name, .n m.at_,w.i,w.v,w.p]:: .ay (fun h=>bG h m w)::fs) h:=by rw [List.take_zero,show Fc.a7 m.name ([]) []=[] from rfl,List.append_nil];exact st
     refine WP.dr (α:=Nat) (fun k env h=>∃ES lF xA s6 lZ oU ur,(k≤p.params.length)∧env=cM [.agg [L.str m.name, .n m.at_,w.i,w.v,w.p], .U, .ptr bV 0,rV, .n i, .bool false,c3,dc,s6, .n j, .bool false,gX,var,e2, .n r, .bool false,iU,dx, .n s, .bool true, .n k,lZ,oU,lF,ur] 0 Env.nil∧ak (.acc ES 1 lF (SR ([]++((Fc.dB p).take k).map Prod.fst)):: .acc xA 4 s6 ((Fc.a7 m.name ([m.name]) (Fc.cN m)++Fc.a7 m.name ([]) (Fc.bY m)++Fc.a7 m.name ([]++(Fc.bY m).map (·.1)) (Fc.dO m)++((m.procs.take s).flatMap fun p=>Fc.a7 m.name [] (Fc.dB p))++Fc.a7 m.name ([]) ((Fc.dB p).take k)).map Fc.b6.row):: .box bV [L.str m.name, .n m.at_,w.i,w.v,w.p]:: .ay (fun h=>bG h m w)::fs) h) (fun k=>p.params.length - k) 0 ?_ ?_
     ·exact ⟨0, .U,ER,xy,lZ,oU,ur,Nat.zero_le _,by kernel_rfl,st⟩
     rintro k _ h ⟨ES,lF,xA,s6,lZ,oU,ur,u1,rfl,st⟩
     refine WP.seq (WP.af (I.f (.ptr bV 4) (I.b w.p (st.aF 2 rfl) (I.val (v:= .ptr (ck w.p) (cu w.p+s * 8)) (L.bQ (Rows.av (bG.procs (st.aS 3 rfl)) (by rw [iF ok.len];exact c1)) rfl (by rw [iF ok.len];exact c1)) (I.f (.ptr (ck w.p) (cu w.p+s * 8+1)) (I.val (v:=q.p) (L.load rfl (Rows.kH (i:=s) (j:=1) (bG.procs (st.aS 3 rfl)) (sW hp bC) rfl)) (I.val (v:= .n p.params.length) (L.eB rfl (((bG.all (st.aS 3 rfl)) _ p q hp bC).1) (List.length_map _)) (I.bR (L.lss rfl rfl) (fun c2=> ?_) (fun c2=> ?_)))))))))
     ·replace c2:k<p.params.length:=by omega
      obtain ⟨y,hy⟩:=fp (l:=p.params) (i:=k) (by omega)
      refine I.bh (WP.skip (WP.seq (WP.block (WP.af (I.f (.ptr bV 4) (I.b w.p (st.aF 2 rfl) (I.val (v:= .ptr (ck w.p) (cu w.p+s * 8)) (L.bQ (Rows.av (bG.procs (st.aS 3 rfl)) (by rw [iF ok.len];exact c1)) rfl (by rw [iF ok.len];exact c1)) (I.f (.ptr (ck w.p) (cu w.p+s * 8+1)) (I.val (v:=q.p) (L.load rfl (Rows.kH (i:=s) (j:=1) (bG.procs (st.aS 3 rfl)) (sW hp bC) rfl)) (I.val (v:= .ptr (ck q.p) (cu q.p+k * 3)) (L.bQ (Rows.av (((bG.all (st.aS 3 rfl)) _ p q hp bC).1) (by rw [List.length_map];exact c2)) rfl (by rw [List.length_map];exact c2)) (I.val (v:= .agg [L.str y.name,L.str y.label, .n y.at_]) (L.dd rfl (Rows.jY (i:=k) (((bG.all (st.aS 3 rfl)) _ p q hp bC).1) (by rw [List.getElem?_map,hy];rfl))) ?_)))))))))))
      refine I.dq st L.alloc (fun lD h st=> ?_)
      refine I.cc [L.str y.name,L.str y.label, .n y.at_] st 0 rfl (fun h st=> ?_)
      refine I.nil (WP.seq (WP.af (I.f (.ptr lD 0) (I.b (L.str y.name) (st.aF 0 rfl) ?_))))
      have hT:(Fc.dB p)[k]? =some (y.name,y.at_):=by unfold Fc.dB;rw [List.getElem?_map,hy];rfl
      have oT:=Fc.lB m.name ((Fc.dB p).take k) ([])
      rw [List.length_take] at oT
      refine I.bD rfl (xi D.a (by simp only [List.length_append,List.length_map,List.length_take,List.length_cons,List.length_nil];omega) (Rows.af (st.rB 1 rfl (by decide)))) ?_
      rintro _ h ⟨rfl,rfl⟩
      refine I.bR (L.geq rfl rfl) (fun dS=> ?_) (fun dS=> ?_)
      ·replace dS:=y2 dS
       have jH:Fc.a7 m.name ([m.name]) (Fc.cN m)++Fc.a7 m.name ([]) (Fc.bY m)++Fc.a7 m.name ([]++(Fc.bY m).map (·.1)) (Fc.dO m)++((m.procs.take s).flatMap fun p=>Fc.a7 m.name [] (Fc.dB p))++Fc.a7 m.name ([]) ((Fc.dB p).take (k+1))=Fc.a7 m.name ([m.name]) (Fc.cN m)++Fc.a7 m.name ([]) (Fc.bY m)++Fc.a7 m.name ([]++(Fc.bY m).map (·.1)) (Fc.dO m)++((m.procs.take s).flatMap fun p=>Fc.a7 m.name [] (Fc.dB p))++Fc.a7 m.name ([]) ((Fc.dB p).take k)++[⟨m.name,y.at_,6,y.name⟩]:=by rw [Fc.rN _ _ hT,if_pos dS];simp only [List.append_assoc]
       refine I.bh (WP.aG (I.f (.ptr bV 0) (I.b (L.str m.name) (st.aF 3 rfl) (I.f (.ptr lD 2) (I.b (.n y.at_) (st.aF 0 rfl) (I.f (.ptr lD 0) (I.b (L.str y.name) (st.aF 0 rfl) (I.val (v:= .agg [L.str m.name, .n y.at_, .int .i64 6,L.str y.name]) (L.build rfl) (I.eI (rows:=[[L.str m.name, .n y.at_, .int .i64 6,L.str y.name]]) st rfl (by decide) rfl (by simp) (fun ajt h st=> ?_))))))))))
       refine I.gJ st 3 rfl rfl rfl (st.aS 0 rfl) (by decide) (by simp only [List.length_append,List.length_map,List.length_cons,List.length_nil];omega) (fun aeL aeM h st=> ?_)
       rw [show ((Fc.a7 m.name ([m.name]) (Fc.cN m)++Fc.a7 m.name ([]) (Fc.bY m)++Fc.a7 m.name ([]++(Fc.bY m).map (·.1)) (Fc.dO m)++((m.procs.take s).flatMap fun p=>Fc.a7 m.name [] (Fc.dB p))++Fc.a7 m.name ([]) ((Fc.dB p).take k)).map Fc.b6.row)++[[L.str m.name,V.n y.at_,V.int .i64 6,L.str y.name]]=(Fc.a7 m.name ([m.name]) (Fc.cN m)++Fc.a7 m.name ([]) (Fc.bY m)++Fc.a7 m.name ([]++(Fc.bY m).map (·.1)) (Fc.dO m)++((m.procs.take s).flatMap fun p=>Fc.a7 m.name [] (Fc.dB p))++Fc.a7 m.name ([]) ((Fc.dB p).take (k+1))).map Fc.b6.row from by rw [jH];simp only [List.map_append,List.map_cons,List.map_nil];rfl] at st
       have aju:=(st.et 3 rfl).cells
       refine I.nil (WP.aG (I.f (.ptr lD 0) (I.b (L.str y.name) (st.aF 1 rfl) (I.eI (rows:=[[L.str y.name]]) st rfl (by decide) rfl (by simp) (fun ajv h st=> ?_)))))
       refine I.gJ st 3 rfl rfl rfl (st.aS 0 rfl) (by decide) (by simp only [eM,List.length_append,List.length_map,List.length_take,List.length_cons,List.length_nil];omega) (fun aeN aeO h st=> ?_)
       rw [show (SR ([]++((Fc.dB p).take k).map Prod.fst))++[[L.str y.name]]=SR ([]++((Fc.dB p).take (k+1)).map Prod.fst) from by rw [Fc.n4 _ hT,←List.append_assoc];exact (nV _ [_]).symm] at st
       have ajw:=(st.et 3 rfl).cells
       refine I.nil (WP.aG (I.bX (v:= .n (k+1)) L.cB (I.nil ?_)))
       exact ⟨k+1,(by omega),aeN,aeO,aeL,aeM,(.bool true),(.ptr lD 0),(.bool true),by omega,by kernel_rfl,st.tail.tail.tail⟩
      ·replace dS:=y3 dS
       have jH:Fc.a7 m.name ([m.name]) (Fc.cN m)++Fc.a7 m.name ([]) (Fc.bY m)++Fc.a7 m.name ([]++(Fc.bY m).map (·.1)) (Fc.dO m)++((m.procs.take s).flatMap fun p=>Fc.a7 m.name [] (Fc.dB p))++Fc.a7 m.name ([]) ((Fc.dB p).take (k+1))=Fc.a7 m.name ([m.name]) (Fc.cN m)++Fc.a7 m.name ([]) (Fc.bY m)++Fc.a7 m.name ([]++(Fc.bY m).map (·.1)) (Fc.dO m)++((m.procs.take s).flatMap fun p=>Fc.a7 m.name [] (Fc.dB p))++Fc.a7 m.name ([]) ((Fc.dB p).take k)++[]:=by rw [Fc.rN _ _ hT,if_neg dS];simp only [List.append_assoc]
       rw [List.append_nil] at jH
       rw [←jH] at st
       refine I.aY (WP.skip (WP.aG (I.f (.ptr lD 0) (I.b (L.str y.name) (st.aF 0 rfl) (I.eI (rows:=[[L.str y.name]]) st rfl (by decide) rfl (by simp) (fun ajx h st=> ?_))))))
       refine I.gJ st 2 rfl rfl rfl (st.aS 0 rfl) (by decide) (by simp only [eM,List.length_append,List.length_map,List.length_take,List.length_cons,List.length_nil];omega) (fun aeP aeQ h st=> ?_)
       rw [show (SR ([]++((Fc.dB p).take k).map Prod.fst))++[[L.str y.name]]=SR ([]++((Fc.dB p).take (k+1)).map Prod.fst) from by rw [Fc.n4 _ hT,←List.append_assoc];exact (nV _ [_]).symm] at st
       have ajy:=(st.et 2 rfl).cells
       refine I.nil (WP.aG (I.bX (v:= .n (k+1)) L.cB (I.nil ?_)))
       exact ⟨k+1,(by omega),aeP,aeQ,xA,s6,(.bool true),(.ptr lD 0),(.bool false),by omega,by kernel_rfl,st.tail.tail⟩
     ·replace c2:¬(k<p.params.length):=by omega
      rw [List.take_of_length_le (show (Fc.dB p).length≤k by omega),List.append_assoc,←Fc.rO (fun p=>Fc.a7 m.name [] (Fc.dB p)) hp] at st
      replace st:ak (.acc xA 4 s6 ((Fc.a7 m.name ([m.name]) (Fc.cN m)++Fc.a7 m.name ([]) (Fc.bY m)++Fc.a7 m.name ([]++(Fc.bY m).map (·.1)) (Fc.dO m)++(m.procs.take (s+1)).flatMap fun p=>Fc.a7 m.name [] (Fc.dB p)).map Fc.b6.row):: .box bV [L.str m.name, .n m.at_,w.i,w.v,w.p]:: .ay (fun h=>bG h m w)::fs) h:=by
       have st:=st.tail
       simpa only [List.append_assoc] using st
      refine I.aY (WP.exit (WP.aG (I.bX (v:= .n (s+1)) L.cB (I.nil ?_))))
      exact ⟨s+1,(by omega),xA,s6,(.bool true),(.n k),(.bool false),oU,lF,ur,by omega,by kernel_rfl,st⟩
    ·replace c1:¬(s<m.procs.length):=by omega
     rw [List.take_of_length_le (show m.procs.length≤s by omega)] at st
     rw [show Fc.a7 m.name ([m.name]) (Fc.cN m)++Fc.a7 m.name ([]) (Fc.bY m)++Fc.a7 m.name ([]++(Fc.bY m).map (·.1)) (Fc.dO m)++(m.procs.flatMap fun p=>Fc.a7 m.name [] (Fc.dB p))=Fc.h4 m from by unfold Fc.h4;rw [Fc.H9];simp only [List.append_assoc]] at st
     refine I.aY (WP.exit (WP.af (I.az xy (I.rt ?_))))
     exact ⟨_,(ca xy),_,(st.pick 1 rfl).tail⟩
end
end Go.Eng.YtmcjcbldmoijiaaGreatDoor
