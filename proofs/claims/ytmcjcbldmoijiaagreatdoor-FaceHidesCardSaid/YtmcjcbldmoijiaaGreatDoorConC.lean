/- Part of a proof of a law: rules of an evaluator, contracts, plain laws. No condition of its own. -/
import Derived.Test.YtmcjcbldmoijiaaGreatDoorSymA
import Derived.Test.YtmcjcbldmoijiaaGreatDoorConB
import Derived.Test.YtmcjcbldmoijiaaGreatDoorSymH
import Derived.Test.YtmcjcbldmoijiaaGreatDoorSymD
set_option linter.unusedVariables false
set_option linter.unusedSimpArgs false
namespace Go.Eng.YtmcjcbldmoijiaaGreatDoor
open Go.Eng
noncomputable section
variable {c:Ctx}
structure GG (c:Ctx):Prop where
 f9:T.get 9 c.cE=some i9
 f27:T.get 27 c.cE=some i27
 f:x8 c
 b:rM c
 RU:∀args h r,oD 28 29 4 28 args h=r→r≠.bad→h9 c 28 args h r
 RV:∀args h r,oD 31 32 6 31 args h=r→r≠.bad→h9 c 31 args h r
theorem acW {ev:dr} {x y z w u:A} {a b c d e z0 pH z2 z3 z4 z5:V} (hx:(ev u).dA=some [e]) (h1:(ev x).dA=some [a]:=by rfl) (h2:(ev y).dA=some [b]:=by rfl) (a6:(ev z).dA=some [c]:=by rfl) (cc:(ev w).dA=some [d]:=by rfl):
 fill [(0,1,x),(2,1,y),(3,1,z),(4,1,w),(5,1,u)] ev [z0,pH,z2,z3,z4,z5]=some [a,pH,b,c,d,e]:=by
 show (Option.rec none (fun l=>bif (cI l).beq 1&&(Nat.add 0 1).ble (cI [z0,pH,z2,z3,z4,z5]) then fill [(2,1,y),(3,1,z),(4,1,w),(5,1,u)] ev (gL 0 l [z0,pH,z2,z3,z4,z5]) else none) (ev x).dA:Option (List V))=_
 rw [h1]
 show (Option.rec none (fun l=>bif (cI l).beq 1&&(Nat.add 2 1).ble (cI [a,pH,z2,z3,z4,z5]) then fill [(3,1,z),(4,1,w),(5,1,u)] ev (gL 2 l [a,pH,z2,z3,z4,z5]) else none) (ev y).dA:Option (List V))=_
 rw [h2]
 show (Option.rec none (fun l=>bif (cI l).beq 1&&(Nat.add 3 1).ble (cI [a,pH,b,z3,z4,z5]) then fill [(4,1,w),(5,1,u)] ev (gL 3 l [a,pH,b,z3,z4,z5]) else none) (ev z).dA:Option (List V))=_
 rw [a6]
 show (Option.rec none (fun l=>bif (cI l).beq 1&&(Nat.add 4 1).ble (cI [a,pH,b,c,z4,z5]) then fill [(5,1,u)] ev (gL 4 l [a,pH,b,c,z4,z5]) else none) (ev w).dA:Option (List V))=_
 rw [cc]
 show (Option.rec none (fun l=>bif (cI l).beq 1&&(Nat.add 5 1).ble (cI [a,pH,b,c,d,z5]) then fill [] ev (gL 5 l [a,pH,b,c,d,z5]) else none) (ev u).dA:Option (List V))=_
 rw [hx];rfl
theorem Rows.wk {r:Nat} {h:ae} {v:V} {rows:List (List V)} (a:Rows r h v rows):v.dA=some [v]:=by cases a<;>rfl
theorem acX (D:GG c) {fs:List Fact} {h:ae} {m:e0} {w:lO} {i:Nat} {p:dO} {q:jc} (ok:lP m w) (hp:m.procs[i]? =some p) (bB:w.dP[i]? =some q) (st:aq (.aE (fun h=>cA h m w)::fs) h):
 bT c 27 [.agg (x2 p q)] h fun v1 h1=>∃dv iB,v1= .agg (uI (Fc.k8 p) (fp.mk dv iB))∧aq (.aE (fun h=>Gj h (Fc.k8 p) (fp.mk dv iB)):: .aE (fun h=>cA h m w)::fs) h1:=by
 have tP:=(ok.pa p (List.mem_of_getElem? hp)).1
 have GD:=(ok.pa p (List.mem_of_getElem? hp)).2
 have hM:=ok.nil i p q hp bB
 replace st:aq (.aE (fun h=>dU h q.u p.gp):: .aE (fun h=>cA h m w)::fs) h:=st.imp fun h hx=>(hx.all i p q hp bB).2.ak
 refine bT.dN D.f27 rfl (WP.ak (I.dI st (L.box (l:=[L.str p.name,q.p, .bool p.has,L.str p.result,L.str p.bO,q.u,q.b, .n p.at_]) rfl rfl) (fun fc h st=> ?_)))
 refine I.dI st L.alloc (fun res h st=> ?_)
 refine I.nil (WP.seq (WP.draw (af.f (.ptr fc 0) (af.b (L.str p.name) (st.aN 1 rfl) (af.f (.ptr fc 2) (af.b (.bool p.has) (st.aN 1 rfl) (af.f (.ptr fc 3) (af.b (L.str p.result) (st.aN 1 rfl) (af.f (.ptr fc 4) (af.b (L.str p.bO) (st.aN 1 rfl) (af.f (.ptr fc 5) (af.b q.u (st.aN 1 rfl) (af.dI st L.alloc (fun hR h st=> ?_))))))))))))))
 refine af.bx rfl (aao D.b hM (by omega) (st.pick 3 rfl)) (fun iC h st=> ?_) ?_
 ·exact hN (jz (L.fM rfl (st.aN 4 rfl) rfl)) (hN (jz (L.fM rfl (st.aN 4 rfl) rfl)) (hN (jz (L.fM rfl (st.aN 4 rfl) rfl)) (hN (jz (L.fM rfl (st.aN 4 rfl) rfl)) (hN (xp st 2 rfl) (j6 _ _)))))
 intro iC h st
 have Li:=Rows.wk (st.bt 0 rfl)
 refine af.val (v:= .agg [L.str p.name, .U, .bool p.has,L.str p.result,L.str p.bO,iC]) (L.build (acW Li)) (af.bM (row':=[L.str p.name, .U, .bool p.has,L.str p.result,L.str p.bO,iC]) st 2 rfl rfl rfl rfl rfl rfl rfl (fun h st=>rfl) (fun h st=> ?_))
 refine af.nil (WP.seq (WP.ak (I.f (.ptr fc 1) (I.pw q.p (st.aN 4 rfl) (I.bS (v:= .n p.params.length) (L.fD rfl (((cA.all (st.bt 5 rfl)) _ p q hp bB).1) (List.length_map _)) (I.aC (.int .i64 0) (I.nil (WP.block ?_))))))))
 replace st:aq (.acc 0 1 .U (SR ((p.params.take 0).map ck.label)):: .aE (fun h=>Rows 1 h iC (SR (mY p.gp))):: .aE (fun h=>dU h q.u p.gp):: .box hR [L.str p.name, .U, .bool p.has,L.str p.result,L.str p.bO,iC]:: .box res [.str 0 0, .U, .bool false, .str 0 0, .str 0 0, .U]:: .box fc [L.str p.name,q.p, .bool p.has,L.str p.result,L.str p.bO,q.u,q.b, .n p.at_]:: .aE (fun h=>cA h m w)::fs) h:=st.kE 1
 refine WP.dS (α:=Nat) (fun k env h=>∃rY cR eO eo,(k≤p.params.length)∧env=c6 [.agg [L.str p.name,q.p, .bool p.has,L.str p.result,L.str p.bO,q.u,q.b, .n p.at_], .ptr res 0, .ptr fc 0, .n k, .n p.params.length,eO,q.p, .ptr hR 0,eo] 0 Env.nil∧aq (.acc rY 1 cR (SR ((p.params.take k).map ck.label)):: .box hR [L.str p.name,cR, .bool p.has,L.str p.result,L.str p.bO,iC]:: .box fc [L.str p.name,q.p, .bool p.has,L.str p.result,L.str p.bO,q.u,q.b, .n p.at_]:: .box res [.str 0 0, .U, .bool false, .str 0 0, .str 0 0, .U]:: .aE (fun h=>Rows 1 h iC (SR (mY p.gp))):: .aE (fun h=>cA h m w)::fs) h) (fun k=>p.params.length - k) 0 ?_ ?_
 ·exact ⟨0, .U, .bot, .bot,Nat.zero_le _,by kernel_rfl,(((((st.pick 2 rfl).tail.pick 3 rfl).pick 4 rfl).pick 4 rfl).pick 3 rfl)⟩
 rintro k _ h ⟨rY,cR,eO,eo,hk,rfl,st⟩
 refine WP.ak (I.bV (L.lss rfl rfl) (fun c2=> ?_) (fun c2=> ?_))
 ·replace c2:k<p.params.length:=by omega
  obtain ⟨y,hy⟩:∃y,p.params[k]? =some y:=⟨p.params[k]'(by omega),List.getElem?_eq_getElem (by omega)⟩
  refine I.nil (WP.seq (WP.cond (t:=true) rfl (WP.skip (WP.seq (WP.block (WP.ak (I.val (v:= .ptr (cY q.p) (db q.p+k * 3)) (L.bY (Rows.au (((cA.all (st.bt 5 rfl)) _ p q hp bB).1) (by rw [List.length_map];exact c2)) rfl (by rw [List.length_map];exact c2)) (I.val (v:= .agg [L.str y.name,L.str y.label, .n y.at_]) (L.da rfl (Rows.lD (i:=k) (((cA.all (st.bt 5 rfl)) _ p q hp bB).1) (by rw [List.getElem?_map,hy];rfl))) ?_))))))))
  refine I.dI st L.alloc (fun qQ h st=> ?_)
  refine I.bM (row':=[L.str y.name,L.str y.label, .n y.at_]) st 0 rfl rfl rfl rfl rfl rfl rfl (fun h st=> ?_)
  refine I.nil (WP.ad (I.f (.ptr hR 1) (I.b cR (st.aN 2 rfl) (I.f (.ptr qQ 1) (I.b (L.str y.label) (st.aN 0 rfl) (I.fS (rows:=[[L.str y.label]]) st rfl (by decide) rfl (by simp) (fun ahk h st=> ?_)))))))
  refine I.qv st 2 rfl rfl rfl (st.bt 0 rfl) (by decide) (by rw [gQ,List.length_map,List.length_take];simp only [List.length_cons,List.length_nil];omega) (fun f1 v1 h st=> ?_)
  rw [show SR ((p.params.take k).map ck.label)++[[L.str y.label]]=SR ((p.params.take (k+1)).map ck.label) from by rw [Fc.x0 _ hy,CL];rfl] at st
  have pd:=(st.gh 2 rfl).cells
  refine I.f (.ptr hR 1) (I.bM (row':=[L.str p.name,v1, .bool p.has,L.str p.result,L.str p.bO,iC]) st 3 rfl rfl pd rfl rfl rfl rfl (fun h st=> ?_))
  refine I.nil (WP.ad (I.bS (v:= .int .i64 ((k+1:Nat):Int)) (L.cX rfl rfl (by omega) (And.intro (by omega) (by omega))) (I.nil ?_)))
  exact ⟨k+1,(by omega),f1,v1,(.bool true),(.ptr qQ 0),by omega,by kernel_rfl,st.tail.tail⟩
 ·replace c2:¬(k<p.params.length):=by omega
  refine I.nil (WP.seq (WP.cond (t:=false) rfl (WP.exit (WP.ak (I.val (v:= .agg [L.str p.name,cR, .bool p.has,L.str p.result,L.str p.bO,iC]) (L.ey rfl (st.aN 1 rfl) rfl rfl rfl) (I.bM (row':=[L.str p.name,cR, .bool p.has,L.str p.result,L.str p.bO,iC]) st 3 rfl rfl rfl rfl rfl rfl rfl (fun h st=> ?_)))))))
  refine I.nil (WP.ret ?_)
  rw [List.take_of_length_le (show p.params.length≤k by omega)] at st
  exact ⟨_,(cH (eY (l:=[L.str p.name,cR, .bool p.has,L.str p.result,L.str p.bO,iC]) rfl (L.eN (st.aN 3 rfl) rfl rfl rfl)) (eX _ _)),cR,iC,rfl,(((((st.pick 1 rfl).tail.pick 1 rfl).tail.pick 1 rfl).tail).shut (by decide)).and⟩
theorem Lj (D:GG c) {fs:List Fact} {h:ae} {cg z2 z3 z4 z5 dZ:V} {m:e0} {w:lO} {az:List Fc.aL} (ok:lP m w) (hj:az.length<4294967296) (st:aq (.aE (fun h=>dU h cg az):: .aE (fun h=>cA h m w)::fs) h):
 bT c 9 [.agg (CY m w), .agg [cg,z2,z3,z4,z5,dZ]] h fun v1 h1=>∃fm oK b2,v1= .dh [.agg [fm,oK],b2]∧aq (.aE (fun h=>nQ h fm oK (Fc.rX m az) (Fc.qR m az)):: .aE (fun h=>Rows 4 h b2 ((Fc.iS m az).map Fc.cM.row)):: .aE (fun h=>dU h cg az):: .aE (fun h=>cA h m w)::fs) h1:=by
 refine bT.dN D.f9 rfl (WP.ak (I.dI st (L.box (l:=[L.str m.name, .n m.at_,w.i,w.v,w.p]) rfl rfl) (fun dz h st=> ?_)))
 refine I.dI st (L.box (l:=[cg,z2,z3,z4,z5,dZ]) rfl rfl) (fun cr h st=> ?_)
 refine I.dI st L.alloc (fun res h st=> ?_)
 refine I.aC .U (I.ak (I.f (.ptr dz 0) (I.b (L.str m.name) (st.aN 2 rfl) (I.val (v:= .agg [cg,z2,z3,z4,z5,dZ]) (L.ey rfl (st.aN 1 rfl) rfl rfl rfl) (I.val (v:= .agg [L.str m.name,cg,z2,z3,z4,z5,dZ, .U]) (L.build rfl) (I.dI st (L.box (l:=[L.str m.name,cg,z2,z3,z4,z5,dZ, .U]) rfl rfl) (fun cQ h st=> ?_)))))))
 refine I.ak (I.val (v:= .agg [L.str m.name, .n m.at_,w.i,w.v,w.p]) (L.ey rfl (st.aN 3 rfl) rfl rfl rfl) (I.bx rfl (acG D.f ok ((st.pick 5 rfl).pick 1 rfl)) ?_))
 rintro _ h ⟨ahl,ahm,st⟩
 refine I.ak (I.val (v:= .agg [L.str m.name, .n m.at_,w.i,w.v,w.p]) (L.ey rfl (st.aN 5 rfl) rfl rfl rfl) (I.bx rfl (acK D.f ok hj (by have:=Fc.QO ok;omega) (st.pick 6 rfl)) ?_))
 rintro _ h ⟨hD,b2,st⟩
 rw [show Fc.v8 m++Fc.Gh m az=Fc.iS m az from rfl] at st
 refine I.nil (WP.seq (WP.ak (I.v (.ptr cQ 0) (I.f (.ptr cQ 7) (I.b b2 (st.aN 2 rfl) (I.val (v:= .int .i64 ((Fc.iS m az).length:Int)) (L.fD rfl (st.xn 1 rfl (by decide)) (List.length_map _)) (I.bV (L.gtr rfl rfl) (fun ed=> ?_) (fun ed=> ?_))))))))
 ·replace ed:Fc.iS m az≠[]:=fun e=>by rw [e] at ed;simp at ed
  refine I.bI (WP.seq (WP.draw (af.val (v:= .agg [.U, .U]) (L.build rfl) (af.v (.ptr cQ 0) (af.v (.ptr cQ 0) (af.f (.ptr cQ 7) (af.b b2 (st.aN 2 rfl) (af.bM (row':=[.U, .U]) st 4 rfl rfl rfl rfl rfl rfl rfl (fun h st=>hN (jz (L.fM rfl (st.aN 2 rfl) rfl)) (j6 _ _)) (fun h st=> ?_)))))))))
  refine af.aC b2 (af.nil (WP.ret (⟨_,(cH (eY (l:=[.U, .U]) rfl (L.eN (st.aN 4 rfl) rfl rfl rfl)) (b0 b2)), .U, .U,b2,rfl, ?_⟩)))
  rw [show Fc.rX m az=[] from if_neg ed,show Fc.qR m az=[] from if_neg ed]
  exact aq.qB (P:=fun h=>nQ h .U .U [] []) (((((((st.pick 2 rfl).tail.pick 3 rfl).tail.pick 3 rfl).tail.pick 3 rfl).tail.pick 1 rfl)).shut (by decide)) fun h=>nQ.none h
 ·replace ed:Fc.iS m az=[]:=by cases acY:Fc.iS m az with|nil=>rfl|cons a l=>rw [acY] at ed;simp at ed
  obtain ⟨mL,uf,acZ⟩:=Fc.acN ed
  have rU:=ok.x3
  have RN:=ok.jh
  refine I.bw (WP.skip (WP.ak (I.dI st L.alloc (fun aG h st=> ?_))))
  refine I.nil (WP.seq (WP.ak (I.f (.ptr dz 3) (I.pw w.v (st.aN 7 rfl) (I.bS (v:= .n m.vars.length) (L.fD rfl (cA.vars (st.bt 4 rfl)) (List.length_map _)) (I.aC (.int .i64 0) (I.nil (WP.block ?_))))))))
  replace st:aq (.cS ([]) 0 4 .U (((m.vars.take 0).map Fc.Ar).map Fc.ng):: .box aG [.U, .U]:: .aE (fun h=>dU h cg az):: .acc hD 4 b2 ((Fc.iS m az).map Fc.cM.row):: .box cQ [L.str m.name,cg,z2,z3,z4,z5,dZ,b2]:: .aE (fun h=>cA h m w):: .box res [.U, .U]:: .box cr [cg,z2,z3,z4,z5,dZ]:: .box dz [L.str m.name, .n m.at_,w.i,w.v,w.p]::fs) h:=st.xN 4
  refine WP.dS (α:=Nat) (fun i env h=>∃bs rY cR gw fX,(i≤m.vars.length)∧env=c6 [.agg [L.str m.name, .n m.at_,w.i,w.v,w.p], .agg [cg,z2,z3,z4,z5,dZ], .ptr res 0, .U, .ptr dz 0, .ptr cr 0, .ptr cQ 0, .bool false, .n i, .n m.vars.length,gw,w.v, .ptr aG 0,fX] 0 Env.nil∧aq (.cS bs rY 4 cR (((m.vars.take i).map Fc.Ar).map Fc.ng):: .box aG [cR, .U]:: .box res [.U, .U]:: .box dz [L.str m.name, .n m.at_,w.i,w.v,w.p]:: .aE (fun h=>dU h cg az):: .acc hD 4 b2 ((Fc.iS m az).map Fc.cM.row):: .aE (fun h=>cA h m w)::fs) h) (fun i=>m.vars.length - i) 0 ?_ ?_
  ·exact ⟨[],0, .U, .bot, .bot,Nat.zero_le _,by kernel_rfl,((((((st.pick 4 rfl).tail.pick 6 rfl).tail.pick 6 rfl).pick 6 rfl).pick 3 rfl).pick 3 rfl)⟩
  rintro i _ h ⟨bs,rY,cR,gw,fX,hk,rfl,st⟩
  refine WP.ak (I.bV (L.lss rfl rfl) (fun c1=> ?_) (fun c1=> ?_))
  ·replace c1:i<m.vars.length:=by omega
   obtain ⟨x,hx⟩:∃y,m.vars[i]? =some y:=⟨m.vars[i]'(by omega),List.getElem?_eq_getElem (by omega)⟩
   refine I.nil (WP.seq (WP.cond (t:=true) rfl (WP.skip (WP.seq (WP.block (WP.ak (I.val (v:= .ptr (cY w.v) (db w.v+i * 4)) (L.bY (Rows.au (cA.vars (st.bt 6 rfl)) (by rw [List.length_map];exact c1)) rfl (by rw [List.length_map];exact c1)) (I.val (v:= .agg [L.str x.name,L.str x.label, .int .i64 x.init, .n x.at_]) (L.da rfl (Rows.lD (i:=i) (cA.vars (st.bt 6 rfl)) (by rw [List.getElem?_map,hx];rfl))) ?_))))))))
   refine I.dI st L.alloc (fun gU h st=> ?_)
   refine I.bM (row':=[L.str x.name,L.str x.label, .int .i64 x.init, .n x.at_]) st 0 rfl rfl rfl rfl rfl rfl rfl (fun h st=> ?_)
   refine I.nil (WP.ad (I.f (.ptr aG 0) (I.b cR (st.aN 2 rfl) (I.f (.ptr gU 0) (I.b (L.str x.name) (st.aN 0 rfl) (I.f (.ptr gU 1) (I.b (L.str x.label) (st.aN 0 rfl) (I.val (v:= .agg [L.str x.name,L.str x.label, .int .i64 0, .int .i64 0]) (L.build rfl) (I.fS (rows:=[[L.str x.name,L.str x.label, .int .i64 0, .int .i64 0]]) st rfl (by decide) rfl (by simp) (fun ac0 h st=> ?_))))))))))
   replace st:aq (.cS bs rY 4 cR (((m.vars.take i).map Fc.Ar).map Fc.ng):: .aE (fun h=>Rows 4 h (.au ac0 0 1 (some 1)) [[L.str x.name,L.str x.label, .int .i64 0, .int .i64 0]]):: .box gU [L.str x.name,L.str x.label, .int .i64 x.init, .n x.at_]:: .box aG [cR, .U]:: .box res [.U, .U]:: .box dz [L.str m.name, .n m.at_,w.i,w.v,w.p]:: .aE (fun h=>dU h cg az):: .acc hD 4 b2 ((Fc.iS m az).map Fc.cM.row):: .aE (fun h=>cA h m w)::fs) h:=(st.pick 2 rfl)
   refine I.Kj st rfl rfl (st.bt 1 rfl) (by decide) (by rw [List.length_map,List.length_map,List.length_take];simp only [List.length_cons,List.length_nil];omega) (fun iT ac1 RW h st=> ?_)
   rw [show (((m.vars.take i).map Fc.Ar).map Fc.ng)++[[L.str x.name,L.str x.label,V.int .i64 0,V.int .i64 0]]=((m.vars.take (i+1)).map Fc.Ar).map Fc.ng from by rw [Fc.x0 _ hx,List.map_append];rfl] at st
   have pd:=ia.cells (st.xM 0 rfl)
   refine I.f (.ptr aG 0) (I.bM (row':=[RW, .U]) st 3 rfl rfl pd rfl rfl rfl rfl (fun h st=> ?_))
   refine I.nil (WP.ad (I.bS (v:= .int .i64 ((i+1:Nat):Int)) (L.cX rfl rfl (by omega) (And.intro (by omega) (by omega))) (I.nil ?_)))
   exact ⟨i+1,(by omega),iT,ac1,RW,(.bool true),(.ptr gU 0),by omega,by kernel_rfl,((st.pick 1 rfl).tail.pick 1 rfl).tail⟩
  ·replace c1:¬(i<m.vars.length):=by omega
   rw [List.take_of_length_le (show m.vars.length≤i by omega),←Fc.acO] at st
   refine I.nil (WP.seq (WP.cond (t:=false) rfl (WP.exit (WP.seq (WP.ak (I.f (.ptr dz 4) (I.pw w.p (st.aN 3 rfl) (I.bS (v:= .n m.procs.length) (L.fD rfl (cA.procs (st.bt 6 rfl)) (nP ok.len)) (I.aC (.int .i64 0) (I.nil (WP.block ?_)))))))))))
   replace st:aq (.cS ([]) 0 6 .U (gu ([]:List (Fc.gi×fp))):: .cS bs rY 4 cR ((Fc.oJ m).map eR.row):: .box aG [cR, .U]:: .box res [.U, .U]:: .box dz [L.str m.name, .n m.at_,w.i,w.v,w.p]:: .aE (fun h=>dU h cg az):: .acc hD 4 b2 ((Fc.iS m az).map Fc.cM.row):: .aE (fun h=>cA h m w)::fs) h:=st.xN 6
   replace st:aq (.aE (fun h=>kL h ([]:List (Fc.gi×fp))):: .cS ([]) 0 6 .U (gu ([]:List (Fc.gi×fp))):: .cS bs rY 4 cR ((Fc.oJ m).map eR.row):: .box aG [cR, .U]:: .box res [.U, .U]:: .box dz [L.str m.name, .n m.at_,w.i,w.v,w.p]:: .aE (fun h=>dU h cg az):: .acc hD 4 b2 ((Fc.iS m az).map Fc.cM.row):: .aE (fun h=>cA h m w)::fs) h:=aq.qB st fun h x hx=>by cases hx
   refine WP.dS (α:=Nat) (fun j env h=>∃lR Lk pN gs oI pL,(j≤m.procs.length∧gs.map (·.1)=(m.procs.take j).map Fc.k8)∧env=c6 [.agg [L.str m.name, .n m.at_,w.i,w.v,w.p], .agg [cg,z2,z3,z4,z5,dZ], .ptr res 0, .U, .ptr dz 0, .ptr cr 0, .ptr cQ 0, .bool false, .n i, .n m.vars.length, .bool false,w.v, .ptr aG 0,fX, .n j, .n m.procs.length,oI,w.p,pL] 0 Env.nil∧aq (.cS lR Lk 6 pN (gu gs):: .aE (fun h=>kL h gs):: .box aG [cR,pN]:: .cS bs rY 4 cR ((Fc.oJ m).map eR.row):: .box res [.U, .U]:: .box dz [L.str m.name, .n m.at_,w.i,w.v,w.p]:: .aE (fun h=>dU h cg az):: .acc hD 4 b2 ((Fc.iS m az).map Fc.cM.row):: .aE (fun h=>cA h m w)::fs) h) (fun j=>m.procs.length - j) 0 ?_ ?_
   ·exact ⟨[],0, .U,[], .bot, .bot,⟨Nat.zero_le _,rfl⟩,by kernel_rfl,(((st.pick 3 rfl).pick 1 rfl).pick 2 rfl)⟩
   rintro j _ h ⟨lR,Lk,pN,gs,oI,pL,⟨vd,C6⟩,rfl,st⟩
   have RX:gs.length=min j m.procs.length:=by have:=congrArg List.length C6;simpa using this
   refine WP.ak (I.bV (L.lss rfl rfl) (fun c2=> ?_) (fun c2=> ?_))
   ·replace c2:j<m.procs.length:=by omega
    obtain ⟨p,hp⟩:∃p,m.procs[j]? =some p:=⟨m.procs[j]'(by omega),List.getElem?_eq_getElem (by omega)⟩
    obtain ⟨q,bB,tP,GD,hM⟩:=ok.pv hp
    refine I.nil (WP.seq (WP.cond (t:=true) rfl (WP.skip (WP.seq (WP.block (WP.ak (I.val (v:= .ptr (cY w.p) (db w.p+j * 8)) (L.bY (Rows.au (cA.procs (st.bt 8 rfl)) (by rw [nP ok.len];exact c2)) rfl (by rw [nP ok.len];exact c2)) (I.val (v:= .agg [L.str p.name,q.p, .bool p.has,L.str p.result,L.str p.bO,q.u,q.b, .n p.at_]) (L.da rfl (Rows.lD (i:=j) (cA.procs (st.bt 8 rfl)) (show _=some [L.str p.name,q.p, .bool p.has,L.str p.result,L.str p.bO,q.u,q.b, .n p.at_] from wc hp bB))) (I.dI st L.alloc (fun fc h st=> ?_))))))))))
    refine I.bM (row':=[L.str p.name,q.p, .bool p.has,L.str p.result,L.str p.bO,q.u,q.b, .n p.at_]) st 0 rfl rfl rfl rfl rfl rfl rfl (fun h st=> ?_)
    refine I.nil (WP.draw (af.f (.ptr aG 1) (af.b pN (st.aN 3 rfl) (af.val (v:= .agg [L.str p.name,q.p, .bool p.has,L.str p.result,L.str p.bO,q.u,q.b, .n p.at_]) (L.ey rfl (st.aN 0 rfl) rfl rfl rfl) (af.bx rfl (acX D ok hp bB (st.pick 9 rfl)) (fun v2 h yd=> ?_) ?_)))))
    ·obtain ⟨dv,iB,rfl,st⟩:=yd
     exact hN (jz (L.fM rfl (st.aN 5 rfl) rfl)) (j6 _ _)
    rintro _ h ⟨dv,iB,rfl,st⟩
    have ahn:=Rows.wk (st.bt 0 rfl).1
    have aho:=Rows.wk (st.bt 0 rfl).2
    refine af.fS (rows:=[uI (Fc.k8 p) (fp.mk dv iB)]) st (KW rfl rfl) (by decide) rfl (by simp [uI]) (fun RY h _ st=> ?_)
    replace st:aq (.cS lR Lk 6 pN (gu gs):: .aE (fun h=>Rows 6 h (.au RY 0 1 (some 1)) [uI (Fc.k8 p) (fp.mk dv iB)]):: .aE (fun h=>Gj h (Fc.k8 p) (fp.mk dv iB)):: .aE (fun h=>cA h m w):: .box fc [L.str p.name,q.p, .bool p.has,L.str p.result,L.str p.bO,q.u,q.b, .n p.at_]:: .aE (fun h=>kL h gs):: .box aG [cR,pN]:: .cS bs rY 4 cR ((Fc.oJ m).map eR.row):: .box res [.U, .U]:: .box dz [L.str m.name, .n m.at_,w.i,w.v,w.p]:: .aE (fun h=>dU h cg az):: .acc hD 4 b2 ((Fc.iS m az).map Fc.cM.row)::fs) h:=(st.pick 4 rfl)
    refine af.Kj st rfl rfl (st.bt 1 rfl) (by decide) (by unfold gu;rw [List.length_map];simp only [List.length_cons,List.length_nil];omega) (fun _ _ _ h st=>rfl) (fun lR RZ Ll h st=> ?_)
    rw [show (gu gs)++[uI (Fc.k8 p) (fp.mk dv iB)]=gu (gs++[(Fc.k8 p,(fp.mk dv iB))]) from by unfold gu;rw [List.map_append];rfl] at st
    have k1:=ia.cells (st.xM 0 rfl)
    replace st:aq (.aE (fun h=>kL h (gs++[(Fc.k8 p,(fp.mk dv iB))])):: .cS lR RZ 6 Ll (gu (gs++[(Fc.k8 p,(fp.mk dv iB))])):: .aE (fun h=>Rows 6 h (.au RY 0 1 (some 1)) [uI (Fc.k8 p) (fp.mk dv iB)]):: .aE (fun h=>cA h m w):: .box fc [L.str p.name,q.p, .bool p.has,L.str p.result,L.str p.bO,q.u,q.b, .n p.at_]:: .box aG [cR,pN]:: .cS bs rY 4 cR ((Fc.oJ m).map eR.row):: .box res [.U, .U]:: .box dz [L.str m.name, .n m.at_,w.i,w.v,w.p]:: .aE (fun h=>dU h cg az):: .acc hD 4 b2 ((Fc.iS m az).map Fc.cM.row)::fs) h:=(aq.and ((st.pick 2 rfl).pick 5 rfl)).e4 fun h hx=>kL.snoc hx.1 hx.2
    refine af.f (.ptr aG 1) (af.bM (row':=[cR,Ll]) st 5 rfl rfl k1 rfl rfl rfl rfl (fun h st=>rfl) (fun h st=> ?_))
    refine af.nil (WP.ad (I.bS (v:= .int .i64 ((j+1:Nat):Int)) (L.cX rfl rfl (by omega) (And.intro (by omega) (by omega))) (I.nil ?_)))
    exact ⟨j+1,(by omega),lR,RZ,Ll,(gs++[(Fc.k8 p,(fp.mk dv iB))]),(.bool true),(.ptr fc 0),⟨by omega,by rw [List.map_append,C6,Fc.x0 _ hp];rfl⟩,by kernel_rfl,((((((((((st.pick 2 rfl).tail.pick 3 rfl).tail.pick 8 rfl).pick 8 rfl).pick 8 rfl).pick 8 rfl).pick 8 rfl).pick 8 rfl).pick 6 rfl).pick 7 rfl)⟩
   ·replace c2:¬(j<m.procs.length):=by omega
    rw [List.take_of_length_le (show m.procs.length≤j by omega)] at C6
    rw [←Fc.acR] at st
    refine I.nil (WP.seq (WP.cond (t:=false) rfl (WP.exit (WP.ak (I.f (.ptr aG 0) (I.b cR (st.aN 2 rfl) (I.bx rfl (Qx (by decide) D.RU (T:=Fc.oJ m) (by unfold Fc.oJ;rw [List.length_map];omega) (fun t ht=>by obtain ⟨x,_,rfl⟩:=List.mem_map.1 ht;rfl) (by rw [Fc.acQ];exact mL) (st.pick 3 rfl)) ?_)))))))
    intro _ h st
    rw [Fc.acP] at st
    refine I.ak (I.f (.ptr aG 1) (I.b pN (st.aN 3 rfl) (I.bx rfl (Qx (by decide) D.RV (T:=Fc.td gs) (by unfold Fc.td;rw [List.length_map];omega) (fun t ht=>by obtain ⟨x,_,rfl⟩:=List.mem_map.1 ht;rfl) (by rw [Fc.acV C6];exact uf) (st.pick 1 rfl)) ?_)))
    intro _ h st
    rw [Fc.acS] at st
    refine I.ak (I.val (v:= .agg [cR,pN]) (L.ey rfl (st.aN 3 rfl) rfl rfl rfl) (I.bM (row':=[cR,pN]) st 4 rfl rfl rfl rfl rfl rfl rfl (fun h st=> ?_)))
    refine I.aC .U (I.nil (WP.ret (⟨_,(cH (eY (l:=[cR,pN]) rfl (L.eN (st.aN 4 rfl) rfl rfl rfl)) (b0 .U)),cR,pN, .U,rfl, ?_⟩)))
    rw [show Fc.rX m az=Fc.Aj m from if_pos ed,show Fc.qR m az=Fc.uH m from if_pos ed,ed]
    have s1:=((((((((st.pick 3 rfl).tail.pick 3 rfl).tail.pick 3 rfl).tail.pick 4 rfl).pick 3 rfl).pick 2 rfl).pick 3 rfl)).CC (by decide)
    have s2:=((s1.pick 1 rfl).CC (by decide))
    have fw:=((s2.pick 2 rfl).and.and).e4 (Q:=fun h=>nQ h cR pN (Fc.Aj m) (Fc.uH m)) fun h hx=>⟨hx.2,Fc.yc gs,Fc.acU C6,hx.1.2,Fc.acT hx.1.1⟩
    exact (aq.qB (P:=fun h=>Rows 4 h .U (([]:List Fc.cM).map Fc.cM.row)) (fw.pick 1 rfl).tail fun _=> .nil).pick 1 rfl
end
end Go.Eng.YtmcjcbldmoijiaaGreatDoor
