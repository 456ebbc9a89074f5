/- Part of a proof of a law: rules of an evaluator, contracts, plain laws. No condition of its own. -/
import Derived.Test.YtmcjcbldmoijiaaGreatDoorSymA
import Derived.Test.YtmcjcbldmoijiaaGreatDoorConA
import Derived.Test.YtmcjcbldmoijiaaGreatDoorSymF
import Derived.Test.YtmcjcbldmoijiaaGreatDoorSymC
import Derived.Test.YtmcjcbldmoijiaaGreatDoorSymG
set_option linter.unusedVariables false
set_option linter.unusedSimpArgs false
namespace Go.Eng.YtmcjcbldmoijiaaGreatDoor
open Go.Eng
noncomputable section
variable {c:Ctx}
structure zj (c:Ctx):Prop where
 f9:T.get 9 c.cF=some i9
 f25:T.get 25 c.cF=some i25
 f26:T.get 26 c.cF=some i26
 f27:T.get 27 c.cF=some i27
 f62:T.get 62 c.cF=some i62
 f63:T.get 63 c.cF=some i63
 f85:T.get 85 c.cF=some i85
 a:sP c
 b:sR c
theorem aed (D:zj c) {fs:List Fact} {h:ag} {v w1 iq zf EF EG:V} {NS:List Lab.aL} {x:Lab.aL} (hn:NS.length<4294967296) (st:ak (.ay (fun h=>cz h v NS)::fs) h):
 bU c 85 [.agg [v,w1,iq,zf,EF,EG],L.str x] h fun v1 h1=>v1= .int .i64 (j0 NS x)∧ak (.ay (fun h=>cz h v NS)::fs) h1:=by
 refine bU.dR D.f85 rfl (WP.af (I.dq st (L.box (l:=[v,w1,iq,zf,EF,EG]) rfl rfl) (fun ch h st=> ?_)))
 refine I.az (.int .i64 0) (I.af (I.f (.ptr ch 0) (I.b v (st.aF 0 rfl) (I.dU rfl (R2 D.a hn (st.aS 1 rfl)) ?_))))
 rintro _ _ ⟨rfl,rfl⟩
 refine I.rt ?_
 exact ⟨_,(ca (.int .i64 (j0 NS x))),rfl,st.tail⟩
theorem Ir (D:zj c) {F:Fact} {fs:List Fact} {h:ag} {dQ cq:Nat} {mod n:Fc.aL} {cO cf b0 z2 z3 z4 z5 da:V} {A:List Fc.aL} {DS:List Fc.b6} {a:Nat} (cj:qx F 1 cO (SR A)) (hn:A.length<2147483648) (aX:DS.length<2147483648) (st:ak (F:: .acc dQ 4 cf (DS.map Fc.b6.row):: .box cq [L.str mod,b0,z2,z3,z4,z5,da,cf]::fs) h):
 bU c 62 [.ptr cq 0,cO,L.str n, .n a] h fun v1 h1=>∃f1 ih h5,ak (.acc f1 1 v1 (SR (A++[n])):: .acc ih 4 h5 ((DS++Fc.zb mod A (n,a)).map Fc.b6.row):: .box cq [L.str mod,b0,z2,z3,z4,z5,da,h5]::fs) h1:=by
 refine bU.dR D.f62 rfl (WP.af (I.az .U (I.nil (WP.ss (WP.aG ?_)))))
 have cA:cz _ cO A:=((qx.shut cj st (by decide)).aS 0 rfl:Rows 1 _ cO (SR A)).af
 refine I.dU rfl (abQ D.a (by omega) cA) ?_
 rintro _ _ ⟨rfl,rfl⟩
 rcases Classical.em (n∈A) with hm|hm
 ·rw [decide_eq_true hm]
  refine I.bh (WP.draw (ae.v (.ptr cq 0) (ae.v (.ptr cq 0) (ae.v (.ptr cq 0) (ae.f (.ptr cq 7) (ae.b cf (st.aF 2 rfl) (ae.v (.ptr cq 0) (ae.v (.ptr cq 0) (ae.f (.ptr cq 0) (ae.b (L.str mod) (st.aF 2 rfl) (ae.v (.n a) (ae.v (L.str n) (ae.val (v:= .agg [L.str mod, .n a, .int .i64 6,L.str n]) (L.build rfl) (ae.eI (rows:=[[L.str mod, .n a, .int .i64 6,L.str n]]) st rfl (by decide) rfl (by simp) (fun EH h _ st=> ?_)))))))))))))))
  refine ae.nh st 2 rfl rfl rfl (st.aS 0 rfl) (by decide) (by simp;omega) (fun _ _ h st=>rfl) (fun f1 v1 h st=> ?_)
  rw [show (DS.map Fc.b6.row)++[[L.str mod,V.n a,V.int .i64 6,L.str n]]=(DS++[Fc.b6.mk mod a 6 n]).map Fc.b6.row from by simp [Fc.b6.row]] at st
  obtain ⟨rU,rfl⟩:=(st.et 2 rfl).ne (by simp)
  refine ae.v (.ptr cq 0) (ae.f (.ptr cq 7) (ae.fV (row':=[L.str mod,b0,z2,z3,z4,z5,da, .av rU 0 (((DS++[Fc.b6.mk mod a 6 n]).map Fc.b6.row).length) none]) st 3 rfl rfl rfl rfl rfl rfl rfl (fun h st=>rfl) (fun h st=> ?_)))
  refine ae.af (I.eI (rows:=[[L.str n]]) st rfl (by decide) rfl (by simp) (fun HY h st=> ?_))
  replace st:ak (F:: .ay (fun h=>Rows 1 h (.av HY 0 1 (some 1)) [[L.str n]]):: .ay (fun h=>Rows 4 h (.av EH 0 1 (some 1)) [[L.str mod, .n a, .int .i64 6,L.str n]]):: .acc f1 4 (.av rU 0 ((DS++[Fc.b6.mk mod a 6 n]).map Fc.b6.row).length none) ((DS++[Fc.b6.mk mod a 6 n]).map Fc.b6.row):: .box cq [L.str mod,b0,z2,z3,z4,z5,da, .av rU 0 (((DS++[Fc.b6.mk mod a 6 n]).map Fc.b6.row).length) none]::fs) h:=(st.pick 2 rfl)
  refine I.Rg cj st rfl rfl (st.aS 1 rfl) (by decide) (Nat.succ_pos _) (by simp [eM];omega) (fun aee qG h st=> ?_)
  rw [show SR A++[[L.str n]]=SR (A++[n]) from (nV A [n]).symm] at st
  refine I.rt ?_
  rw [show Fc.zb mod A (n,a)=[⟨mod,a,6,n⟩] from if_pos hm]
  exact ⟨_,(ca qG),_,_,_,((st.pick 1 rfl).tail.pick 1 rfl).tail⟩
 ·rw [decide_eq_false hm]
  refine I.aY (WP.skip (WP.af (I.eI (rows:=[[L.str n]]) st rfl (by decide) rfl (by simp) (fun HZ h st=> ?_))))
  replace st:ak (F:: .ay (fun h=>Rows 1 h (.av HZ 0 1 (some 1)) [[L.str n]]):: .acc dQ 4 cf (DS.map Fc.b6.row):: .box cq [L.str mod,b0,z2,z3,z4,z5,da,cf]::fs) h:=(st.pick 1 rfl)
  refine I.Rg cj st rfl rfl (st.aS 1 rfl) (by decide) (Nat.succ_pos _) (by simp [eM];omega) (fun aee qG h st=> ?_)
  rw [show SR A++[[L.str n]]=SR (A++[n]) from (nV A [n]).symm] at st
  refine I.rt ?_
  rw [show Fc.zb mod A (n,a)=[] from if_neg hm]
  rw [List.append_nil]
  exact ⟨_,(ca qG),_,_,_,(st.pick 1 rfl).tail⟩
theorem EI (D:zj c) {fs:List Fact} {h:ag} {dQ cq:Nat} {mod n:Fc.aL} {cf b0 z2 z3 z4 z5 da:V} {NS:List Fc.aL} {DS:List Fc.b6} {a:Nat} (hn:NS.length<4294967296) (aX:DS.length<2147483648) (st:ak (.ay (fun h=>cz h b0 NS):: .acc dQ 4 cf (DS.map Fc.b6.row):: .box cq [L.str mod,b0,z2,z3,z4,z5,da,cf]::fs) h):
 bU c 63 [.ptr cq 0,L.str n, .n a] h fun _ h1=>∃ih h5,ak (.ay (fun h=>cz h b0 NS):: .acc ih 4 h5 ((DS++Fc.unk mod NS (n,a)).map Fc.b6.row):: .box cq [L.str mod,b0,z2,z3,z4,z5,da,h5]::fs) h1:=by
 refine bU.dR D.f63 rfl (WP.af (I.v (.ptr cq 0) (I.f (.ptr cq 1) (I.val (v:= .agg [b0,z2,z3,z4,z5,da]) (L.eg rfl (st.aF 2 rfl) rfl rfl rfl) (I.bD rfl (aed D hn st) ?_)))))
 rintro _ h ⟨rfl,st⟩
 refine I.bR (L.lss rfl rfl) (fun c1=> ?_) (fun c1=> ?_)
 ·refine I.bh (WP.draw (ae.v (.ptr cq 0) (ae.v (.ptr cq 0) (ae.v (.ptr cq 0) (ae.f (.ptr cq 7) (ae.b cf (st.aF 2 rfl) (ae.v (.ptr cq 0) (ae.v (.ptr cq 0) (ae.f (.ptr cq 0) (ae.b (L.str mod) (st.aF 2 rfl) (ae.v (.n a) (ae.v (L.str n) (ae.val (v:= .agg [L.str mod, .n a, .int .i64 7,L.str n]) (L.build rfl) (ae.eI (rows:=[[L.str mod, .n a, .int .i64 7,L.str n]]) st rfl (by decide) rfl (by simp) (fun EH h _ st=> ?_)))))))))))))))
  refine ae.nh st 2 rfl rfl rfl (st.aS 0 rfl) (by decide) (by simp;omega) (fun _ _ h st=>rfl) (fun f1 v1 h st=> ?_)
  rw [show (DS.map Fc.b6.row)++[[L.str mod,V.n a,V.int .i64 7,L.str n]]=(DS++[Fc.b6.mk mod a 7 n]).map Fc.b6.row from by simp [Fc.b6.row]] at st
  obtain ⟨rU,rfl⟩:=(st.et 2 rfl).ne (by simp)
  refine ae.v (.ptr cq 0) (ae.f (.ptr cq 7) (ae.fV (row':=[L.str mod,b0,z2,z3,z4,z5,da, .av rU 0 (((DS++[Fc.b6.mk mod a 7 n]).map Fc.b6.row).length) none]) st 3 rfl rfl rfl rfl rfl rfl rfl (fun h st=>rfl) (fun h st=> ?_)))
  refine ae.nil ?_
  rw [show Fc.unk mod NS (n,a)=[⟨mod,a,7,n⟩] from if_neg (y3 (show ¬0≤j0 NS n by omega))]
  exact ⟨_,(fo _ _),_,_,st.tail⟩
 ·refine I.aY (WP.skip ?_)
  rw [show Fc.unk mod NS (n,a)=[] from if_pos (y2 (show 0≤j0 NS n by omega))]
  rw [List.append_nil]
  exact ⟨_,(fo _ _),_,_,st⟩
theorem aef (D:zj c) {fs:List Fact} {h:ag} {cq:Nat} {b0 z2 z3 z4 z5 da:V} {m:eK} {w:kZ} (ok:mD m w) (st:ak (.box cq [L.str m.name,b0,z2,z3,z4,z5,da, .U]:: .ay (fun h=>bG h m w)::fs) h):
 bU c 25 [.ptr cq 0, .agg (vI m w)] h fun _ h1=>∃dQ cf,ak (.acc dQ 4 cf ((Fc.h4 m).map Fc.b6.row):: .box cq [L.str m.name,b0,z2,z3,z4,z5,da,cf]:: .ay (fun h=>bG h m w)::fs) h1:=by
 have oH:=ok.MS
 have pK:=ok.um
 have EJ:=ok.jq
 have yu:∀p∈m.procs,(Fc.a7 m.name [] (Fc.dB p)).length≤8193:=fun p hp=>Nat.le_trans (Fc.lB _ _ _) (by unfold Fc.dB;rw [List.length_map];exact (ok.pa p hp).1)
 have aeg:(Fc.cN m).length=m.imports.length:=List.length_map _
 have Nb:(Fc.bY m).length=m.vars.length:=List.length_map _
 have aeh:(Fc.dO m).length=m.procs.length:=List.length_map _
 have zk:=Fc.lB m.name (Fc.cN m) [m.name]
 have p2:=Fc.lB m.name (Fc.bY m) []
 have EK:=Fc.lB m.name (Fc.dO m) ([]++(Fc.bY m).map (·.1))
 replace st:=st.je 4
 refine bU.dR D.f25 rfl (WP.af (I.dq st (L.box (l:=[L.str m.name, .n m.at_,w.i,w.v,w.p]) rfl rfl) (fun bV h st=> ?_)))
 refine I.af (I.f (.ptr bV 0) (I.b (L.str m.name) (st.aF 0 rfl) (I.aao (rows:=[[L.str m.name]]) st rfl (by decide) rfl (by simp) (fun cU h Mc st=> ?_))))
 refine I.nil (WP.seq (WP.af (I.f (.ptr bV 2) (I.rC w.i (st.aF 1 rfl) (I.bX (v:= .n m.imports.length) (L.eB rfl (bG.BK (st.aS 4 rfl)) (List.length_map _)) (I.az (.int .i64 0) (I.nil (WP.block ?_))))))))
 have km:qx (.ay (fun h=>Rows 1 h (.av cU 0 1 (some 1)) (SR [m.name]))) 1 (.av cU 0 1 (some 1)) (SR ([m.name]++((Fc.cN m).take 0).map (·.1))):= .inl ⟨rfl,cU,rfl,Mc⟩
 refine WP.dr (α:=Nat) (fun i env h=>∃F cO dQ cf eN dc,(i≤m.imports.length∧qx F 1 cO (SR ([m.name]++((Fc.cN m).take i).map (·.1))))∧env=cM [.ptr cq 0, .agg [L.str m.name, .n m.at_,w.i,w.v,w.p], .ptr bV 0, .n i, .n m.imports.length,eN,w.i,dc,cO] 0 Env.nil∧ak (F:: .acc dQ 4 cf ((Fc.a7 m.name ([m.name]) ((Fc.cN m).take i)).map Fc.b6.row):: .box cq [L.str m.name,b0,z2,z3,z4,z5,da,cf]:: .box bV [L.str m.name, .n m.at_,w.i,w.v,w.p]:: .ay (fun h=>bG h m w)::fs) h) (fun i=>m.imports.length - i) 0 ?_ ?_
 ·exact ⟨_,(.av cU 0 1 (some 1)),0, .U, .bot, .bot,⟨Nat.zero_le _,km⟩,by kernel_rfl,(((st.pick 3 rfl).pick 3 rfl).pick 2 rfl)⟩
 rintro i _ h ⟨F,cO,dQ,cf,eN,dc,⟨wR,cj⟩,rfl,st⟩
 refine WP.af (I.bR (L.lss rfl rfl) (fun c1=> ?_) (fun c1=> ?_))
 ·replace c1:i<m.imports.length:=by omega
  obtain ⟨x,hx⟩:=fp (l:=m.imports) (i:=i) (by omega)
  refine I.nil (WP.seq (WP.cond (t:=true) rfl (WP.skip (WP.seq (WP.block (WP.af (I.val (v:= .ptr (ck w.i) (cu w.i+i * 2)) (L.bQ (Rows.av (bG.BK (st.aS 4 rfl)) (by rw [List.length_map];exact c1)) rfl (by rw [List.length_map];exact c1)) (I.val (v:= .agg [L.str x.name, .n x.at_]) (L.dd rfl (Rows.jY (i:=i) (bG.BK (st.aS 4 rfl)) (by rw [List.getElem?_map,hx];rfl))) ?_))))))))
  refine I.dq st L.alloc (fun eD h st=> ?_)
  refine I.cc [L.str x.name, .n x.at_] st 0 rfl (fun h st=> ?_)
  refine I.nil (WP.aG (I.f (.ptr eD 0) (I.b (L.str x.name) (st.aF 0 rfl) (I.f (.ptr eD 1) (I.b (.n x.at_) (st.aF 0 rfl) ?_)))))
  have hT:(Fc.cN m)[i]? =some (x.name,x.at_):=by unfold Fc.cN;rw [List.getElem?_map,hx];rfl
  have oT:=Fc.lB m.name ((Fc.cN m).take i) ([m.name])
  rw [List.length_take] at oT
  refine I.dU rfl (Ir D (A:=[m.name]++((Fc.cN m).take i).map (·.1)) (DS:=Fc.a7 m.name ([m.name]) ((Fc.cN m).take i)) cj (by simp only [List.length_append,List.length_map,List.length_take,List.length_cons,List.length_nil];omega) (by omega) ((((st.pick 3 rfl).pick 3 rfl).pick 3 rfl):ak (F:: .acc dQ 4 cf ((Fc.a7 m.name ([m.name]) ((Fc.cN m).take i)).map Fc.b6.row):: .box cq [L.str m.name,b0,z2,z3,z4,z5,da,cf]:: .box eD [L.str x.name, .n x.at_]:: .box bV [L.str m.name, .n m.at_,w.i,w.v,w.p]:: .ay (fun h=>bG h m w)::fs) _)) ?_
  rintro qG h ⟨f1,ih,h5,st⟩
  rw [show ([m.name]++((Fc.cN m).take i).map (·.1))++[x.name]=[m.name]++((Fc.cN m).take (i+1)).map (·.1) from by rw [Fc.n4 _ hT,List.append_assoc],show (Fc.a7 m.name ([m.name]) ((Fc.cN m).take i))++Fc.zb m.name ([m.name]++((Fc.cN m).take i).map (·.1)) (x.name,x.at_)=Fc.a7 m.name ([m.name]) ((Fc.cN m).take (i+1)) from by rw [Fc.rN _ _ hT];rfl] at st
  refine I.nil (WP.aG (I.bX (v:= .n (i+1)) L.cB (I.nil ?_)))
  exact ⟨i+1,(by omega),_,qG,ih,h5,(.bool true),(.ptr eD 0),⟨by omega, .inr ⟨f1,rfl⟩⟩,by kernel_rfl,(st.pick 3 rfl).tail⟩
 ·replace c1:¬(i<m.imports.length):=by omega
  rw [List.take_of_length_le (by omega)] at cj st
  refine I.nil (WP.seq (WP.cond (t:=false) rfl (WP.exit (WP.af (I.az .U (I.nil (WP.seq (WP.af (I.f (.ptr bV 3) (I.rC w.v (st.aF 3 rfl) (I.bX (v:= .n m.vars.length) (L.eB rfl (bG.vars (st.aS 4 rfl)) (List.length_map _)) (I.az (.int .i64 0) (I.nil (WP.block ?_))))))))))))))
  replace st:ak (.acc 0 1 .U []:: .acc dQ 4 cf ((Fc.a7 m.name ([m.name]) (Fc.cN m)).map Fc.b6.row):: .box cq [L.str m.name,b0,z2,z3,z4,z5,da,cf]:: .box bV [L.str m.name, .n m.at_,w.i,w.v,w.p]:: .ay (fun h=>bG h m w)::fs) h:=(st.tail).je 1
  have km:qx (.acc 0 1 .U []) 1 .U (SR ([]++((Fc.bY m).take 0).map (·.1))):= .inr ⟨0,rfl⟩
  replace st:ak (.acc 0 1 .U []:: .acc dQ 4 cf ((Fc.a7 m.name ([m.name]) (Fc.cN m)++Fc.a7 m.name ([]) ((Fc.bY m).take 0)).map Fc.b6.row):: .box cq [L.str m.name,b0,z2,z3,z4,z5,da,cf]:: .box bV [L.str m.name, .n m.at_,w.i,w.v,w.p]:: .ay (fun h=>bG h m w)::fs) h:=by rw [List.take_zero,show Fc.a7 m.name ([]) []=[] from rfl,List.append_nil];exact st
  refine WP.dr (α:=Nat) (fun j env h=>∃F cO dQ cf gX e2,(j≤m.vars.length∧qx F 1 cO (SR ([]++((Fc.bY m).take j).map (·.1))))∧env=cM [.ptr cq 0, .agg [L.str m.name, .n m.at_,w.i,w.v,w.p], .ptr bV 0, .n i, .n m.imports.length, .bool false,w.i,dc,cO, .n j, .n m.vars.length,gX,w.v,e2] 0 Env.nil∧ak (F:: .acc dQ 4 cf ((Fc.a7 m.name ([m.name]) (Fc.cN m)++Fc.a7 m.name ([]) ((Fc.bY m).take j)).map Fc.b6.row):: .box cq [L.str m.name,b0,z2,z3,z4,z5,da,cf]:: .box bV [L.str m.name, .n m.at_,w.i,w.v,w.p]:: .ay (fun h=>bG h m w)::fs) h) (fun j=>m.vars.length - j) 0 ?_ ?_
  ·exact ⟨_, .U,dQ,cf, .bot, .bot,⟨Nat.zero_le _,km⟩,by kernel_rfl,st⟩
  rintro j _ h ⟨F,cO,dQ,cf,gX,e2,⟨Nc,cj⟩,rfl,st⟩
  refine WP.af (I.bR (L.lss rfl rfl) (fun c1=> ?_) (fun c1=> ?_))
  ·replace c1:j<m.vars.length:=by omega
   obtain ⟨x,hx⟩:=fp (l:=m.vars) (i:=j) (by omega)
   refine I.nil (WP.seq (WP.cond (t:=true) rfl (WP.skip (WP.seq (WP.block (WP.af (I.val (v:= .ptr (ck w.v) (cu w.v+j * 4)) (L.bQ (Rows.av (bG.vars (st.aS 4 rfl)) (by rw [List.length_map];exact c1)) rfl (by rw [List.length_map];exact c1)) (I.val (v:= .agg [L.str x.name,L.str x.label, .int .i64 x.init, .n x.at_]) (L.dd rfl (Rows.jY (i:=j) (bG.vars (st.aS 4 rfl)) (by rw [List.getElem?_map,hx];rfl))) ?_))))))))
   refine I.dq st L.alloc (fun eD h st=> ?_)
   refine I.cc [L.str x.name,L.str x.label, .int .i64 x.init, .n x.at_] st 0 rfl (fun h st=> ?_)
   refine I.nil (WP.aG (I.f (.ptr eD 0) (I.b (L.str x.name) (st.aF 0 rfl) (I.f (.ptr eD 3) (I.b (.n x.at_) (st.aF 0 rfl) ?_)))))
   have hT:(Fc.bY m)[j]? =some (x.name,x.at_):=by unfold Fc.bY;rw [List.getElem?_map,hx];rfl
   have oT:=Fc.lB m.name ((Fc.bY m).take j) ([])
   rw [List.length_take] at oT
   refine I.dU rfl (Ir D (A:=[]++((Fc.bY m).take j).map (·.1)) (DS:=Fc.a7 m.name ([m.name]) (Fc.cN m)++Fc.a7 m.name ([]) ((Fc.bY m).take j)) cj (by simp only [List.length_append,List.length_map,List.length_take,List.length_cons,List.length_nil];omega) (by simp only [List.length_append];omega) ((((st.pick 3 rfl).pick 3 rfl).pick 3 rfl):ak (F:: .acc dQ 4 cf ((Fc.a7 m.name ([m.name]) (Fc.cN m)++Fc.a7 m.name ([]) ((Fc.bY m).take j)).map Fc.b6.row):: .box cq [L.str m.name,b0,z2,z3,z4,z5,da,cf]:: .box eD [L.str x.name,L.str x.label, .int .i64 x.init, .n x.at_]:: .box bV [L.str m.name, .n m.at_,w.i,w.v,w.p]:: .ay (fun h=>bG h m w)::fs) _)) ?_
   rintro qG h ⟨f1,ih,h5,st⟩
   rw [show ([]++((Fc.bY m).take j).map (·.1))++[x.name]=[]++((Fc.bY m).take (j+1)).map (·.1) from by rw [Fc.n4 _ hT,List.append_assoc],show (Fc.a7 m.name ([m.name]) (Fc.cN m)++Fc.a7 m.name ([]) ((Fc.bY m).take j))++Fc.zb m.name ([]++((Fc.bY m).take j).map (·.1)) (x.name,x.at_)=Fc.a7 m.name ([m.name]) (Fc.cN m)++Fc.a7 m.name ([]) ((Fc.bY m).take (j+1)) from by rw [Fc.rN _ _ hT];rw [List.append_assoc];rfl] at st
   refine I.nil (WP.aG (I.bX (v:= .n (j+1)) L.cB (I.nil ?_)))
   exact ⟨j+1,(by omega),_,qG,ih,h5,(.bool true),(.ptr eD 0),⟨by omega, .inr ⟨f1,rfl⟩⟩,by kernel_rfl,(st.pick 3 rfl).tail⟩
  ·replace c1:¬(j<m.vars.length):=by omega
   rw [List.take_of_length_le (by omega)] at cj st
   refine I.nil (WP.seq (WP.cond (t:=false) rfl (WP.exit (WP.seq (WP.af (I.f (.ptr bV 4) (I.rC w.p (st.aF 3 rfl) (I.bX (v:= .n m.procs.length) (L.eB rfl (bG.procs (st.aS 4 rfl)) (iF ok.len)) (I.az (.int .i64 0) (I.nil (WP.block ?_)))))))))))
   have km:qx F 1 cO (SR (([]++(Fc.bY m).map (·.1))++((Fc.dO m).take 0).map (·.1))):=by rw [List.take_zero,List.map_nil,List.append_nil];exact cj
   replace st:ak (F:: .acc dQ 4 cf ((Fc.a7 m.name ([m.name]) (Fc.cN m)++Fc.a7 m.name ([]) (Fc.bY m)++Fc.a7 m.name ([]++(Fc.bY m).map (·.1)) ((Fc.dO m).take 0)).map Fc.b6.row):: .box cq [L.str m.name,b0,z2,z3,z4,z5,da,cf]:: .box bV [L.str m.name, .n m.at_,w.i,w.v,w.p]:: .ay (fun h=>bG h m w)::fs) h:=by rw [List.take_zero,show Fc.a7 m.name ([]++(Fc.bY m).map (·.1)) []=[] from rfl,List.append_nil];exact st
   refine WP.dr (α:=Nat) (fun r env h=>∃F cO dQ cf iU kc,(r≤m.procs.length∧qx F 1 cO (SR ([]++(Fc.bY m).map (·.1)++((Fc.dO m).take r).map (·.1))))∧env=cM [.ptr cq 0, .agg [L.str m.name, .n m.at_,w.i,w.v,w.p], .ptr bV 0, .n i, .n m.imports.length, .bool false,w.i,dc,cO, .n j, .n m.vars.length, .bool false,w.v,e2, .n r, .n m.procs.length,iU,w.p,kc] 0 Env.nil∧ak (F:: .acc dQ 4 cf ((Fc.a7 m.name ([m.name]) (Fc.cN m)++Fc.a7 m.name ([]) (Fc.bY m)++Fc.a7 m.name ([]++(Fc.bY m).map (·.1)) ((Fc.dO m).take r)).map Fc.b6.row):: .box cq [L.str m.name,b0,z2,z3,z4,z5,da,cf]:: .box bV [L.str m.name, .n m.at_,w.i,w.v,w.p]:: .ay (fun h=>bG h m w)::fs) h) (fun r=>m.procs.length - r) 0 ?_ ?_
   ·exact ⟨_,cO,dQ,cf, .bot, .bot,⟨Nat.zero_le _,km⟩,by kernel_rfl,st⟩
   rintro r _ h ⟨F,cO,dQ,cf,iU,kc,⟨aei,cj⟩,rfl,st⟩
   refine WP.af (I.bR (L.lss rfl rfl) (fun c1=> ?_) (fun c1=> ?_))
   ·replace c1:r<m.procs.length:=by omega
    obtain ⟨p,hp⟩:=fp (l:=m.procs) (i:=r) (by omega)
    obtain ⟨q,bC,pe,vM,gT⟩:=ok.pv hp
    refine I.nil (WP.seq (WP.cond (t:=true) rfl (WP.skip (WP.seq (WP.block (WP.af (I.val (v:= .ptr (ck w.p) (cu w.p+r * 8)) (L.bQ (Rows.av (bG.procs (st.aS 4 rfl)) (by rw [iF ok.len];exact c1)) rfl (by rw [iF ok.len];exact c1)) (I.val (v:= .agg [L.str p.name,q.p, .bool p.has,L.str p.result,L.str p.bI,q.u,q.b, .n p.at_]) (L.dd rfl (Rows.jY (i:=r) (bG.procs (st.aS 4 rfl)) (show _=some [L.str p.name,q.p, .bool p.has,L.str p.result,L.str p.bI,q.u,q.b, .n p.at_] from sW hp bC))) (I.dq st L.alloc (fun eD h st=> ?_))))))))))
    refine I.cc [L.str p.name,q.p, .bool p.has,L.str p.result,L.str p.bI,q.u,q.b, .n p.at_] st 0 rfl (fun h st=> ?_)
    refine I.nil (WP.aG (I.f (.ptr eD 0) (I.b (L.str p.name) (st.aF 0 rfl) (I.f (.ptr eD 7) (I.b (.n p.at_) (st.aF 0 rfl) ?_)))))
    have hT:(Fc.dO m)[r]? =some (p.name,p.at_):=by unfold Fc.dO;rw [List.getElem?_map,hp];rfl
    have oT:=Fc.lB m.name ((Fc.dO m).take r) ([]++(Fc.bY m).map (·.1))
    rw [List.length_take] at oT
    refine I.dU rfl (Ir D (A:=[]++(Fc.bY m).map (·.1)++((Fc.dO m).take r).map (·.1)) (DS:=Fc.a7 m.name ([m.name]) (Fc.cN m)++Fc.a7 m.name ([]) (Fc.bY m)++Fc.a7 m.name ([]++(Fc.bY m).map (·.1)) ((Fc.dO m).take r)) cj (by simp only [List.length_append,List.length_map,List.length_take,List.length_cons,List.length_nil];omega) (by simp only [List.length_append];omega) ((((st.pick 3 rfl).pick 3 rfl).pick 3 rfl):ak (F:: .acc dQ 4 cf ((Fc.a7 m.name ([m.name]) (Fc.cN m)++Fc.a7 m.name ([]) (Fc.bY m)++Fc.a7 m.name ([]++(Fc.bY m).map (·.1)) ((Fc.dO m).take r)).map Fc.b6.row):: .box cq [L.str m.name,b0,z2,z3,z4,z5,da,cf]:: .box eD [L.str p.name,q.p, .bool p.has,L.str p.result,L.str p.bI,q.u,q.b, .n p.at_]:: .box bV [L.str m.name, .n m.at_,w.i,w.v,w.p]:: .ay (fun h=>bG h m w)::fs) _)) ?_
    rintro qG h ⟨f1,ih,h5,st⟩
    rw [show ([]++(Fc.bY m).map (·.1)++((Fc.dO m).take r).map (·.1))++[p.name]=[]++(Fc.bY m).map (·.1)++((Fc.dO m).take (r+1)).map (·.1) from by rw [Fc.n4 _ hT,List.append_assoc],show (Fc.a7 m.name ([m.name]) (Fc.cN m)++Fc.a7 m.name ([]) (Fc.bY m)++Fc.a7 m.name ([]++(Fc.bY m).map (·.1)) ((Fc.dO m).take r))++Fc.zb m.name ([]++(Fc.bY m).map (·.1)++((Fc.dO m).take r).map (·.1)) (p.name,p.at_)=Fc.a7 m.name ([m.name]) (Fc.cN m)++Fc.a7 m.name ([]) (Fc.bY m)++Fc.a7 m.name ([]++(Fc.bY m).map (·.1)) ((Fc.dO m).take (r+1)) from by rw [Fc.rN _ _ hT];rw [List.append_assoc];rfl] at st
    refine I.nil (WP.aG (I.bX (v:= .n (r+1)) L.cB (I.nil ?_)))
    exact ⟨r+1,(by omega),_,qG,ih,h5,(.bool true),(.ptr eD 0),⟨by omega, .inr ⟨f1,rfl⟩⟩,by kernel_rfl,(st.pick 3 rfl).tail⟩
   ·replace c1:¬(r<m.procs.length):=by omega
    rw [List.take_of_length_le (by omega)] at cj st
    refine I.nil (WP.seq (WP.cond (t:=false) rfl (WP.exit (WP.af (I.f (.ptr bV 4) (I.rC w.p (st.aF 3 rfl) (I.bX (v:= .n m.procs.length) (L.eB rfl (bG.procs (st.aS 4 rfl)) (iF ok.len)) (I.az (.int .i64 0) (I.nil (WP.block ?_))))))))))
    replace st:ak (.acc dQ 4 cf ((Fc.a7 m.name ([m.name]) (Fc.cN m)++Fc.a7 m.name ([]) (Fc.bY m)++Fc.a7 m.name ([]++(Fc.bY m).map (·.1)) (Fc.dO m)).map Fc.b6.row):: .box cq [L.str m.name,b0,z2,z3,z4,z5,da,cf]:: .box bV [L.str m.name, .n m.at_,w.i,w.v,w.p]:: .ay (fun h=>bG h m w)::fs) h:=(st).tail
    replace st:ak (.acc dQ 4 cf ((Fc.a7 m.name ([m.name]) (Fc.cN m)++Fc.a7 m.name ([]) (Fc.bY m)++Fc.a7 m.name ([]++(Fc.bY m).map (·.1)) (Fc.dO m)++(m.procs.take 0).flatMap fun p=>Fc.a7 m.name [] (Fc.dB p)).map Fc.b6.row):: .box cq [L.str m.name,b0,z2,z3,z4,z5,da,cf]:: .box bV [L.str m.name, .n m.at_,w.i,w.v,w.p]:: .ay (fun h=>bG h m w)::fs) h:=by rw [List.take_zero,List.flatMap_nil,List.append_nil];exact st
    refine WP.dr (α:=Nat) (fun s env h=>∃dQ cf fi lZ mE ur zl s0 TD vN,(s≤m.procs.length)∧env=cM [.ptr cq 0, .agg [L.str m.name, .n m.at_,w.i,w.v,w.p], .ptr bV 0, .n i, .n m.imports.length, .bool false,w.i,dc,fi, .n j, .n m.vars.length, .bool false,w.v,e2, .n r, .n m.procs.length, .bool false,w.p,kc, .n s, .n m.procs.length,lZ,w.p,mE,ur,zl,s0,TD,vN] 0 Env.nil∧ak (.acc dQ 4 cf ((Fc.a7 m.name ([m.name]) (Fc.cN m)++Fc.a7 m.name ([]) (Fc.bY m)++Fc.a7 m.name ([]++(Fc.bY m).map (·.1)) (Fc.dO m)++(m.procs.take s).flatMap fun p=>Fc.a7 m.name [] (Fc.dB p)).map Fc.b6.row):: .box cq [L.str m.name,b0,z2,z3,z4,z5,da,cf]:: .box bV [L.str m.name, .n m.at_,w.i,w.v,w.p]:: .ay (fun h=>bG h m w)::fs) h) (fun s=>m.procs.length - s) 0 ?_ ?_
    ·exact ⟨dQ,cf,cO, .bot, .bot, .bot, .bot, .bot, .bot, .bot,Nat.zero_le _,by kernel_rfl,st⟩
    rintro s _ h ⟨dQ,cf,fi,lZ,mE,ur,zl,s0,TD,vN,aej,rfl,st⟩
    refine WP.af (I.bR (L.lss rfl rfl) (fun c1=> ?_) (fun c1=> ?_))
    ·replace c1:s<m.procs.length:=by omega
     obtain ⟨p,hp⟩:=fp (l:=m.procs) (i:=s) (by omega)
     obtain ⟨q,bC,pe,vM,gT⟩:=ok.pv hp
     refine I.nil (WP.seq (WP.cond (t:=true) rfl (WP.skip (WP.seq (WP.block (WP.af (I.val (v:= .ptr (ck w.p) (cu w.p+s * 8)) (L.bQ (Rows.av (bG.procs (st.aS 3 rfl)) (by rw [iF ok.len];exact c1)) rfl (by rw [iF ok.len];exact c1)) (I.val (v:= .agg [L.str p.name,q.p, .bool p.has,L.str p.result,L.str p.bI,q.u,q.b, .n p.at_]) (L.dd rfl (Rows.jY (i:=s) (bG.procs (st.aS 3 rfl)) (show _=some [L.str p.name,q.p, .bool p.has,L.str p.result,L.str p.bI,q.u,q.b, .n p.at_] from sW hp bC))) (I.dq st L.alloc (fun eD h st=> ?_))))))))))
     refine I.cc [L.str p.name,q.p, .bool p.has,L.str p.result,L.str p.bI,q.u,q.b, .n p.at_] st 0 rfl (fun h st=> ?_)
     refine I.af (I.az .U (I.af (I.f (.ptr eD 1) (I.rC q.p (st.aF 0 rfl) (I.bX (v:= .n p.params.length) (L.eB rfl (((bG.all (st.aS 4 rfl)) _ p q hp bC).1) (List.length_map _)) (I.az (.int .i64 0) (I.nil (WP.block ?_))))))))
     replace st:ak (.acc 0 1 .U []:: .box eD [L.str p.name,q.p, .bool p.has,L.str p.result,L.str p.bI,q.u,q.b, .n p.at_]:: .acc dQ 4 cf ((Fc.a7 m.name ([m.name]) (Fc.cN m)++Fc.a7 m.name ([]) (Fc.bY m)++Fc.a7 m.name ([]++(Fc.bY m).map (·.1)) (Fc.dO m)++(m.procs.take s).flatMap fun p=>Fc.a7 m.name [] (Fc.dB p)).map Fc.b6.row):: .box cq [L.str m.name,b0,z2,z3,z4,z5,da,cf]:: .box bV [L.str m.name, .n m.at_,w.i,w.v,w.p]:: .ay (fun h=>bG h m w)::fs) h:=st.je 1
     have km:qx (.acc 0 1 .U []) 1 .U (SR ([]++((Fc.dB p).take 0).map (·.1))):= .inr ⟨0,rfl⟩
     have rj:=Fc.rP (f:=fun p=>Fc.a7 m.name [] (Fc.dB p)) yu s
     have Nd:(Fc.dB p).length=p.params.length:=List.length_map _
     replace st:ak (.acc 0 1 .U []:: .box eD [L.str p.name,q.p, .bool p.has,L.str p.result,L.str p.bI,q.u,q.b, .n p.at_]:: .acc dQ 4 cf ((Fc.a7 m.name ([m.name]) (Fc.cN m)++Fc.a7 m.name ([]) (Fc.bY m)++Fc.a7 m.name ([]++(Fc.bY m).map (·.1)) (Fc.dO m)++((m.procs.take s).flatMap fun p=>Fc.a7 m.name [] (Fc.dB p))++Fc.a7 m.name ([]) ((Fc.dB p).take 0)).map Fc.b6.row):: .box cq [L.str m.name,b0,z2,z3,z4,z5,da,cf]:: .box bV [L.str m.name, .n m.at_,w.i,w.v,w.p]:: .ay (fun h=>bG h m w)::fs) h:=by rw [List.take_zero,show Fc.a7 m.name ([]) []=[] from rfl,List.append_nil];exact st
     refine WP.dr (α:=Nat) (fun k env h=>∃F cO dQ cf s0 vN,(k≤p.params.length∧qx F 1 cO (SR ([]++((Fc.dB p).take k).map (·.1))))∧env=cM [.ptr cq 0, .agg [L.str m.name, .n m.at_,w.i,w.v,w.p], .ptr bV 0, .n i, .n m.imports.length, .bool false,w.i,dc,cO, .n j, .n m.vars.length, .bool false,w.v,e2, .n r, .n m.procs.length, .bool false,w.p,kc, .n s, .n m.procs.length, .bool true,w.p, .ptr eD 0, .n k, .n p.params.length,s0,q.p,vN] 0 Env.nil∧ak (F:: .acc dQ 4 cf ((Fc.a7 m.name ([m.name]) (Fc.cN m)++Fc.a7 m.name ([]) (Fc.bY m)++Fc.a7 m.name ([]++(Fc.bY m).map (·.1)) (Fc.dO m)++((m.procs.take s).flatMap fun p=>Fc.a7 m.name [] (Fc.dB p))++Fc.a7 m.name ([]) ((Fc.dB p).take k)).map Fc.b6.row):: .box cq [L.str m.name,b0,z2,z3,z4,z5,da,cf]:: .box bV [L.str m.name, .n m.at_,w.i,w.v,w.p]:: .ay (fun h=>bG h m w):: .box eD [L.str p.name,q.p, .bool p.has,L.str p.result,L.str p.bI,q.u,q.b, .n p.at_]::fs) h) (fun k=>p.params.length - k) 0 ?_ ?_
     ·exact ⟨_, .U,dQ,cf,s0,vN,⟨Nat.zero_le _,km⟩,by kernel_rfl,(((((st.pick 5 rfl).pick 5 rfl).pick 5 rfl).pick 5 rfl).pick 4 rfl)⟩
     rintro k _ h ⟨F,cO,dQ,cf,s0,vN,⟨u1,cj⟩,rfl,st⟩
     refine WP.af (I.bR (L.lss rfl rfl) (fun c2=> ?_) (fun c2=> ?_))
     ·replace c2:k<p.params.length:=by omega
      obtain ⟨y,hy⟩:=fp (l:=p.params) (i:=k) (by omega)
      refine I.nil (WP.seq (WP.cond (t:=true) rfl (WP.skip (WP.seq (WP.block (WP.af (I.val (v:= .ptr (ck q.p) (cu q.p+k * 3)) (L.bQ (Rows.av (((bG.all (st.aS 4 rfl)) _ p q hp bC).1) (by rw [List.length_map];exact c2)) rfl (by rw [List.length_map];exact c2)) (I.val (v:= .agg [L.str y.name,L.str y.label, .n y.at_]) (L.dd rfl (Rows.jY (i:=k) (((bG.all (st.aS 4 rfl)) _ p q hp bC).1) (by rw [List.getElem?_map,hy];rfl))) ?_))))))))
      refine I.dq st L.alloc (fun lD h st=> ?_)
      refine I.cc [L.str y.name,L.str y.label, .n y.at_] st 0 rfl (fun h st=> ?_)
      refine I.nil (WP.aG (I.f (.ptr lD 0) (I.b (L.str y.name) (st.aF 0 rfl) (I.f (.ptr lD 2) (I.b (.n y.at_) (st.aF 0 rfl) ?_)))))
      have hT:(Fc.dB p)[k]? =some (y.name,y.at_):=by unfold Fc.dB;rw [List.getElem?_map,hy];rfl
      have oT:=Fc.lB m.name ((Fc.dB p).take k) ([])
      rw [List.length_take] at oT
      refine I.dU rfl (Ir D (A:=[]++((Fc.dB p).take k).map (·.1)) (DS:=Fc.a7 m.name ([m.name]) (Fc.cN m)++Fc.a7 m.name ([]) (Fc.bY m)++Fc.a7 m.name ([]++(Fc.bY m).map (·.1)) (Fc.dO m)++((m.procs.take s).flatMap fun p=>Fc.a7 m.name [] (Fc.dB p))++Fc.a7 m.name ([]) ((Fc.dB p).take k)) cj (by simp only [List.length_append,List.length_map,List.length_take,List.length_cons,List.length_nil];omega) (by simp only [List.length_append];omega) ((((st.pick 3 rfl).pick 3 rfl).pick 3 rfl):ak (F:: .acc dQ 4 cf ((Fc.a7 m.name ([m.name]) (Fc.cN m)++Fc.a7 m.name ([]) (Fc.bY m)++Fc.a7 m.name ([]++(Fc.bY m).map (·.1)) (Fc.dO m)++((m.procs.take s).flatMap fun p=>Fc.a7 m.name [] (Fc.dB p))++Fc.a7 m.name ([]) ((Fc.dB p).take k)).map Fc.b6.row):: .box cq [L.str m.name,b0,z2,z3,z4,z5,da,cf]:: .box lD [L.str y.name,L.str y.label, .n y.at_]:: .box bV [L.str m.name, .n m.at_,w.i,w.v,w.p]:: .ay (fun h=>bG h m w):: .box eD [L.str p.name,q.p, .bool p.has,L.str p.result,L.str p.bI,q.u,q.b, .n p.at_]::fs) _)) ?_
      rintro qG h ⟨f1,ih,h5,st⟩
      rw [show ([]++((Fc.dB p).take k).map (·.1))++[y.name]=[]++((Fc.dB p).take (k+1)).map (·.1) from by rw [Fc.n4 _ hT,List.append_assoc],show (Fc.a7 m.name ([m.name]) (Fc.cN m)++Fc.a7 m.name ([]) (Fc.bY m)++Fc.a7 m.name ([]++(Fc.bY m).map (·.1)) (Fc.dO m)++((m.procs.take s).flatMap fun p=>Fc.a7 m.name [] (Fc.dB p))++Fc.a7 m.name ([]) ((Fc.dB p).take k))++Fc.zb m.name ([]++((Fc.dB p).take k).map (·.1)) (y.name,y.at_)=Fc.a7 m.name ([m.name]) (Fc.cN m)++Fc.a7 m.name ([]) (Fc.bY m)++Fc.a7 m.name ([]++(Fc.bY m).map (·.1)) (Fc.dO m)++((m.procs.take s).flatMap fun p=>Fc.a7 m.name [] (Fc.dB p))++Fc.a7 m.name ([]) ((Fc.dB p).take (k+1)) from by rw [Fc.rN _ _ hT];rw [List.append_assoc];rfl] at st
      refine I.nil (WP.aG (I.bX (v:= .n (k+1)) L.cB (I.nil ?_)))
      exact ⟨k+1,(by omega),_,qG,ih,h5,(.bool true),(.ptr lD 0),⟨by omega, .inr ⟨f1,rfl⟩⟩,by kernel_rfl,(st.pick 3 rfl).tail⟩
     ·replace c2:¬(k<p.params.length):=by omega
      rw [List.take_of_length_le (show (Fc.dB p).length≤k by omega),List.append_assoc,←Fc.rO (fun p=>Fc.a7 m.name [] (Fc.dB p)) hp] at st
      replace st:ak (F:: .acc dQ 4 cf ((Fc.a7 m.name ([m.name]) (Fc.cN m)++Fc.a7 m.name ([]) (Fc.bY m)++Fc.a7 m.name ([]++(Fc.bY m).map (·.1)) (Fc.dO m)++(m.procs.take (s+1)).flatMap fun p=>Fc.a7 m.name [] (Fc.dB p)).map Fc.b6.row):: .box cq [L.str m.name,b0,z2,z3,z4,z5,da,cf]:: .box bV [L.str m.name, .n m.at_,w.i,w.v,w.p]:: .ay (fun h=>bG h m w):: .box eD [L.str p.name,q.p, .bool p.has,L.str p.result,L.str p.bI,q.u,q.b, .n p.at_]::fs) h:=by simpa only [List.append_assoc] using st
      refine I.nil (WP.seq (WP.cond (t:=false) rfl (WP.exit (WP.aG (I.bX (v:= .n (s+1)) L.cB (I.nil ?_))))))
      exact ⟨s+1,(by omega),dQ,cf,cO,(.bool true),(.ptr eD 0),(.n k),(.n p.params.length),(.bool false),q.p,vN,by omega,by kernel_rfl,(st.tail.pick 4 rfl).tail⟩
    ·replace c1:¬(s<m.procs.length):=by omega
     rw [List.take_of_length_le (show m.procs.length≤s by omega)] at st
     rw [show Fc.a7 m.name ([m.name]) (Fc.cN m)++Fc.a7 m.name ([]) (Fc.bY m)++Fc.a7 m.name ([]++(Fc.bY m).map (·.1)) (Fc.dO m)++(m.procs.flatMap fun p=>Fc.a7 m.name [] (Fc.dB p))=Fc.h4 m from by unfold Fc.h4;rw [Fc.H9];simp only [List.append_assoc]] at st
     refine I.nil (WP.seq (WP.cond (t:=false) rfl (WP.exit ?_)))
     exact ⟨_,(fo _ _),_,_,(st.pick 2 rfl).tail⟩
theorem aek (D:zj c) {fs:List Fact} {h:ag} {dQ cq:Nat} {cf b0 z2 z3 z4 z5 da:V} {m:eK} {w:kZ} {NS:List Fc.aL} {DS:List Fc.b6} (ok:mD m w) (gH:NS.length<4294967296) (aX:DS.length<1073741824) (st:ak (.ay (fun h=>cz h b0 NS):: .acc dQ 4 cf (DS.map Fc.b6.row):: .box cq [L.str m.name,b0,z2,z3,z4,z5,da,cf]:: .ay (fun h=>bG h m w)::fs) h):
 bU c 26 [.ptr cq 0, .agg (vI m w)] h fun _ h1=>∃ih h5,ak (.ay (fun h=>cz h b0 NS):: .acc ih 4 h5 ((DS++Fc.Ia m NS).map Fc.b6.row):: .box cq [L.str m.name,b0,z2,z3,z4,z5,da,h5]:: .ay (fun h=>bG h m w)::fs) h1:=by
 have pK:=ok.um
 have EJ:=ok.jq
 have Nb:(Fc.eh m).length=m.vars.length:=List.length_map _
 have vO:∀p∈m.procs,(Fc.fE m.name NS p).length≤8195:=fun p hp=>Fc.MR _ _ (ok.pa p hp).1
 have Nf:=Fc.rP (f:=(Fc.unk m.name NS)) (l:=Fc.eh m) (n:=1) (fun x _=>Fc.nw _ _ x) (Fc.eh m).length
 rw [List.take_length] at Nf
 refine bU.dR D.f26 rfl (WP.af (I.dq st (L.box (l:=[L.str m.name, .n m.at_,w.i,w.v,w.p]) rfl rfl) (fun bV h st=> ?_)))
 refine I.nil (WP.seq (WP.af (I.f (.ptr bV 3) (I.rC w.v (st.aF 0 rfl) (I.bX (v:= .n m.vars.length) (L.eB rfl (bG.vars (st.aS 4 rfl)) (List.length_map _)) (I.az (.int .i64 0) (I.nil (WP.block ?_))))))))
 replace st:ak (.box bV [L.str m.name, .n m.at_,w.i,w.v,w.p]:: .ay (fun h=>cz h b0 NS):: .acc dQ 4 cf ((DS++((Fc.eh m).take 0).flatMap (Fc.unk m.name NS)).map Fc.b6.row):: .box cq [L.str m.name,b0,z2,z3,z4,z5,da,cf]:: .ay (fun h=>bG h m w)::fs) h:=by rw [List.take_zero,List.flatMap_nil,List.append_nil];exact st
 refine WP.dr (α:=Nat) (fun i env h=>∃dQ cf eN dc,(i≤m.vars.length)∧env=cM [.ptr cq 0, .agg [L.str m.name, .n m.at_,w.i,w.v,w.p], .ptr bV 0, .n i, .n m.vars.length,eN,w.v,dc] 0 Env.nil∧ak (.ay (fun h=>cz h b0 NS):: .acc dQ 4 cf ((DS++((Fc.eh m).take i).flatMap (Fc.unk m.name NS)).map Fc.b6.row):: .box cq [L.str m.name,b0,z2,z3,z4,z5,da,cf]:: .box bV [L.str m.name, .n m.at_,w.i,w.v,w.p]:: .ay (fun h=>bG h m w)::fs) h) (fun i=>m.vars.length - i) 0 ?_ ?_
 ·exact ⟨dQ,cf, .bot, .bot,Nat.zero_le _,by kernel_rfl,(((st.pick 3 rfl).pick 3 rfl).pick 3 rfl)⟩
 rintro i _ h ⟨dQ,cf,eN,dc,wR,rfl,st⟩
 have EL:=Fc.rP (f:=(Fc.unk m.name NS)) (l:=Fc.eh m) (n:=1) (fun x _=>Fc.nw _ _ x) i
 refine WP.af (I.bR (L.lss rfl rfl) (fun c1=> ?_) (fun c1=> ?_))
 ·replace c1:i<m.vars.length:=by omega
  obtain ⟨x,hx⟩:=fp (l:=m.vars) (i:=i) (by omega)
  refine I.nil (WP.seq (WP.cond (t:=true) rfl (WP.skip (WP.seq (WP.block (WP.af (I.val (v:= .ptr (ck w.v) (cu w.v+i * 4)) (L.bQ (Rows.av (bG.vars (st.aS 4 rfl)) (by rw [List.length_map];exact c1)) rfl (by rw [List.length_map];exact c1)) (I.val (v:= .agg [L.str x.name,L.str x.label, .int .i64 x.init, .n x.at_]) (L.dd rfl (Rows.jY (i:=i) (bG.vars (st.aS 4 rfl)) (by rw [List.getElem?_map,hx];rfl))) ?_))))))))
  refine I.dq st L.alloc (fun eD h st=> ?_)
  refine I.cc [L.str x.name,L.str x.label, .int .i64 x.init, .n x.at_] st 0 rfl (fun h st=> ?_)
  refine I.nil (WP.aG (I.f (.ptr eD 1) (I.b (L.str x.label) (st.aF 0 rfl) (I.f (.ptr eD 3) (I.b (.n x.at_) (st.aF 0 rfl) (I.bD rfl (EI D (DS:=DS++((Fc.eh m).take i).flatMap (Fc.unk m.name NS)) gH (by simp only [List.length_append];omega) ((((st.pick 3 rfl).pick 3 rfl).pick 3 rfl):ak (.ay (fun h=>cz h b0 NS):: .acc dQ 4 cf ((DS++((Fc.eh m).take i).flatMap (Fc.unk m.name NS)).map Fc.b6.row):: .box cq [L.str m.name,b0,z2,z3,z4,z5,da,cf]:: .box eD [L.str x.name,L.str x.label, .int .i64 x.init, .n x.at_]:: .box bV [L.str m.name, .n m.at_,w.i,w.v,w.p]:: .ay (fun h=>bG h m w)::fs) _)) ?_))))))
  rintro _ h ⟨ih,h5,st⟩
  rw [show (DS++((Fc.eh m).take i).flatMap (Fc.unk m.name NS))++Fc.unk m.name NS (x.label,x.at_)=DS++((Fc.eh m).take (i+1)).flatMap (Fc.unk m.name NS) from (by rw [List.append_assoc,←Fc.rO (Fc.unk m.name NS) (show (Fc.eh m)[i]? =some (x.label,x.at_) from by unfold Fc.eh;rw [List.getElem?_map,hx];rfl)])] at st
  refine I.nil (WP.aG (I.bX (v:= .n (i+1)) L.cB (I.nil ?_)))
  exact ⟨i+1,(by omega),ih,h5,(.bool true),(.ptr eD 0),by omega,by kernel_rfl,(st.pick 3 rfl).tail⟩
 ·replace c1:¬(i<m.vars.length):=by omega
  rw [List.take_of_length_le (show (Fc.eh m).length≤i by omega)] at st EL
  refine I.nil (WP.seq (WP.cond (t:=false) rfl (WP.exit (WP.af (I.f (.ptr bV 4) (I.rC w.p (st.aF 3 rfl) (I.bX (v:= .n m.procs.length) (L.eB rfl (bG.procs (st.aS 4 rfl)) (iF ok.len)) (I.az (.int .i64 0) (I.nil (WP.block ?_))))))))))
  replace st:ak (.ay (fun h=>cz h b0 NS):: .acc dQ 4 cf ((DS++(Fc.eh m).flatMap (Fc.unk m.name NS)++(m.procs.take 0).flatMap (Fc.fE m.name NS)).map Fc.b6.row):: .box cq [L.str m.name,b0,z2,z3,z4,z5,da,cf]:: .box bV [L.str m.name, .n m.at_,w.i,w.v,w.p]:: .ay (fun h=>bG h m w)::fs) h:=by rw [List.take_zero,List.flatMap_nil,List.append_nil];exact st
  refine WP.dr (α:=Nat) (fun j env h=>∃dQ cf fN jF e2 l0 l1 iU dx kc,(j≤m.procs.length)∧env=cM [.ptr cq 0, .agg [L.str m.name, .n m.at_,w.i,w.v,w.p], .ptr bV 0, .n i, .n m.vars.length, .bool false,w.v,dc, .n j, .n m.procs.length,fN,w.p,jF,e2,l0,l1,iU,dx,kc] 0 Env.nil∧ak (.ay (fun h=>cz h b0 NS):: .acc dQ 4 cf ((DS++(Fc.eh m).flatMap (Fc.unk m.name NS)++(m.procs.take j).flatMap (Fc.fE m.name NS)).map Fc.b6.row):: .box cq [L.str m.name,b0,z2,z3,z4,z5,da,cf]:: .box bV [L.str m.name, .n m.at_,w.i,w.v,w.p]:: .ay (fun h=>bG h m w)::fs) h) (fun j=>m.procs.length - j) 0 ?_ ?_
  ·exact ⟨dQ,cf, .bot, .bot, .bot, .bot, .bot, .bot, .bot, .bot,Nat.zero_le _,by kernel_rfl,st⟩
  rintro j _ h ⟨dQ,cf,fN,jF,e2,l0,l1,iU,dx,kc,Nc,rfl,st⟩
  have ky:=Fc.rP (f:=Fc.fE m.name NS) (l:=m.procs) (n:=8195) (vO) j
  refine WP.af (I.bR (L.lss rfl rfl) (fun c1=> ?_) (fun c1=> ?_))
  ·replace c1:j<m.procs.length:=by omega
   obtain ⟨p,hp⟩:=fp (l:=m.procs) (i:=j) (by omega)
   obtain ⟨q,bC,pe,vM,gT⟩:=ok.pv hp
   refine I.nil (WP.seq (WP.cond (t:=true) rfl (WP.skip (WP.seq (WP.block (WP.af (I.val (v:= .ptr (ck w.p) (cu w.p+j * 8)) (L.bQ (Rows.av (bG.procs (st.aS 4 rfl)) (by rw [iF ok.len];exact c1)) rfl (by rw [iF ok.len];exact c1)) (I.val (v:= .agg [L.str p.name,q.p, .bool p.has,L.str p.result,L.str p.bI,q.u,q.b, .n p.at_]) (L.dd rfl (Rows.jY (i:=j) (bG.procs (st.aS 4 rfl)) (show _=some [L.str p.name,q.p, .bool p.has,L.str p.result,L.str p.bI,q.u,q.b, .n p.at_] from sW hp bC))) (I.dq st L.alloc (fun dV h st=> ?_))))))))))
   refine I.cc [L.str p.name,q.p, .bool p.has,L.str p.result,L.str p.bI,q.u,q.b, .n p.at_] st 0 rfl (fun h st=> ?_)
   refine I.nil (WP.seq (WP.af (I.f (.ptr dV 1) (I.rC q.p (st.aF 0 rfl) (I.bX (v:= .n p.params.length) (L.eB rfl (((bG.all (st.aS 5 rfl)) _ p q hp bC).1) (List.length_map _)) (I.az (.int .i64 0) (I.nil (WP.block ?_))))))))
   replace st:ak (.box dV [L.str p.name,q.p, .bool p.has,L.str p.result,L.str p.bI,q.u,q.b, .n p.at_]:: .ay (fun h=>cz h b0 NS):: .acc dQ 4 cf ((DS++(Fc.eh m).flatMap (Fc.unk m.name NS)++(m.procs.take j).flatMap (Fc.fE m.name NS)++((Fc.gM p).take 0).flatMap (Fc.unk m.name NS)).map Fc.b6.row):: .box cq [L.str m.name,b0,z2,z3,z4,z5,da,cf]:: .box bV [L.str m.name, .n m.at_,w.i,w.v,w.p]:: .ay (fun h=>bG h m w)::fs) h:=by rw [List.take_zero,List.flatMap_nil,List.append_nil];exact st
   have Nd:(Fc.gM p).length=p.params.length:=List.length_map _
   refine WP.dr (α:=Nat) (fun k env h=>∃dQ cf l1 dx,(k≤p.params.length)∧env=cM [.ptr cq 0, .agg [L.str m.name, .n m.at_,w.i,w.v,w.p], .ptr bV 0, .n i, .n m.vars.length, .bool false,w.v,dc, .n j, .n m.procs.length, .bool true,w.p, .ptr dV 0, .n k, .n p.params.length,l1,q.p,dx,kc] 0 Env.nil∧ak (.ay (fun h=>cz h b0 NS):: .acc dQ 4 cf ((DS++(Fc.eh m).flatMap (Fc.unk m.name NS)++(m.procs.take j).flatMap (Fc.fE m.name NS)++((Fc.gM p).take k).flatMap (Fc.unk m.name NS)).map Fc.b6.row):: .box cq [L.str m.name,b0,z2,z3,z4,z5,da,cf]:: .box bV [L.str m.name, .n m.at_,w.i,w.v,w.p]:: .ay (fun h=>bG h m w):: .box dV [L.str p.name,q.p, .bool p.has,L.str p.result,L.str p.bI,q.u,q.b, .n p.at_]::fs) h) (fun k=>p.params.length - k) 0 ?_ ?_
   ·exact ⟨dQ,cf,l1,dx,Nat.zero_le _,by kernel_rfl,(((((st.pick 5 rfl).pick 5 rfl).pick 5 rfl).pick 5 rfl).pick 5 rfl)⟩
   rintro k _ h ⟨dQ,cf,l1,dx,u1,rfl,st⟩
   have Ng:=Fc.rP (f:=(Fc.unk m.name NS)) (l:=Fc.gM p) (n:=1) (fun x _=>Fc.nw _ _ x) k
   refine WP.af (I.bR (L.lss rfl rfl) (fun c2=> ?_) (fun c2=> ?_))
   ·replace c2:k<p.params.length:=by omega
    obtain ⟨y,hy⟩:=fp (l:=p.params) (i:=k) (by omega)
    refine I.nil (WP.seq (WP.cond (t:=true) rfl (WP.skip (WP.seq (WP.block (WP.af (I.val (v:= .ptr (ck q.p) (cu q.p+k * 3)) (L.bQ (Rows.av (((bG.all (st.aS 4 rfl)) _ p q hp bC).1) (by rw [List.length_map];exact c2)) rfl (by rw [List.length_map];exact c2)) (I.val (v:= .agg [L.str y.name,L.str y.label, .n y.at_]) (L.dd rfl (Rows.jY (i:=k) (((bG.all (st.aS 4 rfl)) _ p q hp bC).1) (by rw [List.getElem?_map,hy];rfl))) ?_))))))))
    refine I.dq st L.alloc (fun lD h st=> ?_)
    refine I.cc [L.str y.name,L.str y.label, .n y.at_] st 0 rfl (fun h st=> ?_)
    refine I.nil (WP.aG (I.f (.ptr lD 1) (I.b (L.str y.label) (st.aF 0 rfl) (I.f (.ptr lD 2) (I.b (.n y.at_) (st.aF 0 rfl) (I.bD rfl (EI D (DS:=DS++(Fc.eh m).flatMap (Fc.unk m.name NS)++(m.procs.take j).flatMap (Fc.fE m.name NS)++((Fc.gM p).take k).flatMap (Fc.unk m.name NS)) gH (by simp only [List.length_append];omega) ((((st.pick 3 rfl).pick 3 rfl).pick 3 rfl):ak (.ay (fun h=>cz h b0 NS):: .acc dQ 4 cf ((DS++(Fc.eh m).flatMap (Fc.unk m.name NS)++(m.procs.take j).flatMap (Fc.fE m.name NS)++((Fc.gM p).take k).flatMap (Fc.unk m.name NS)).map Fc.b6.row):: .box cq [L.str m.name,b0,z2,z3,z4,z5,da,cf]:: .box lD [L.str y.name,L.str y.label, .n y.at_]:: .box bV [L.str m.name, .n m.at_,w.i,w.v,w.p]:: .ay (fun h=>bG h m w):: .box dV [L.str p.name,q.p, .bool p.has,L.str p.result,L.str p.bI,q.u,q.b, .n p.at_]::fs) _)) ?_))))))
    rintro _ h ⟨ih,h5,st⟩
    rw [show (DS++(Fc.eh m).flatMap (Fc.unk m.name NS)++(m.procs.take j).flatMap (Fc.fE m.name NS)++((Fc.gM p).take k).flatMap (Fc.unk m.name NS))++Fc.unk m.name NS (y.label,y.at_)=DS++(Fc.eh m).flatMap (Fc.unk m.name NS)++(m.procs.take j).flatMap (Fc.fE m.name NS)++((Fc.gM p).take (k+1)).flatMap (Fc.unk m.name NS) from (by rw [List.append_assoc,←Fc.rO (Fc.unk m.name NS) (show (Fc.gM p)[k]? =some (y.label,y.at_) from by unfold Fc.gM;rw [List.getElem?_map,hy];rfl)])] at st
    refine I.nil (WP.aG (I.bX (v:= .n (k+1)) L.cB (I.nil ?_)))
    exact ⟨k+1,(by omega),ih,h5,(.bool true),(.ptr lD 0),by omega,by kernel_rfl,(st.pick 3 rfl).tail⟩
   ·replace c2:¬(k<p.params.length):=by omega
    rw [List.take_of_length_le (show (Fc.gM p).length≤k by omega)] at st Ng
    refine I.nil (WP.seq (WP.cond (t:=false) rfl (WP.exit (WP.seq (WP.af (I.f (.ptr dV 2) ?_))))))
    have jb:=Fc.nw m.name NS (p.result,p.at_)
    rcases ug p.has with hb|hb
    ·refine I.bX (v:= .bool false) ((L.iM rfl (st.aF 5 rfl) rfl).trans (by rw [hb])) (I.aY (WP.skip (WP.aG (I.f (.ptr dV 4) (I.b (L.str p.bI) (st.aF 5 rfl) (I.f (.ptr dV 7) (I.b (.n p.at_) (st.aF 5 rfl) (I.bD rfl (EI D (DS:=DS++(Fc.eh m).flatMap (Fc.unk m.name NS)++(m.procs.take j).flatMap (Fc.fE m.name NS)++(Fc.gM p).flatMap (Fc.unk m.name NS)) gH (by simp only [List.length_append];omega) st) ?_))))))))
     rintro _ h ⟨ih,h5,st⟩
     rw [show (DS++(Fc.eh m).flatMap (Fc.unk m.name NS)++(m.procs.take j).flatMap (Fc.fE m.name NS)++(Fc.gM p).flatMap (Fc.unk m.name NS))++Fc.unk m.name NS (p.bI,p.at_)=DS++(Fc.eh m).flatMap (Fc.unk m.name NS)++(m.procs.take (j+1)).flatMap (Fc.fE m.name NS) from (by rw [Fc.rO _ hp,Fc.fE,hb];simp only [if_true,List.append_nil,List.append_assoc,Bool.false_eq_true,if_false,reduceIte])] at st
     refine I.nil (WP.aG (I.bX (v:= .n (j+1)) L.cB (I.nil ?_)))
     exact ⟨j+1,(by omega),ih,h5,(.bool true),(.ptr dV 0),(.n k),(.n p.params.length),(.bool false),q.p,dx,(.bool false),by omega,by kernel_rfl,(st.pick 5 rfl).tail⟩
    ·refine I.bX (v:= .bool true) ((L.iM rfl (st.aF 5 rfl) rfl).trans (by rw [hb])) (I.bh (WP.aG (I.f (.ptr dV 3) (I.b (L.str p.result) (st.aF 5 rfl) (I.f (.ptr dV 7) (I.b (.n p.at_) (st.aF 5 rfl) (I.bD rfl (EI D (DS:=DS++(Fc.eh m).flatMap (Fc.unk m.name NS)++(m.procs.take j).flatMap (Fc.fE m.name NS)++(Fc.gM p).flatMap (Fc.unk m.name NS)) gH (by simp only [List.length_append];omega) st) ?_)))))))
     rintro _ h ⟨ih,h5,st⟩
     rw [show (DS++(Fc.eh m).flatMap (Fc.unk m.name NS)++(m.procs.take j).flatMap (Fc.fE m.name NS)++(Fc.gM p).flatMap (Fc.unk m.name NS))++Fc.unk m.name NS (p.result,p.at_)=DS++(Fc.eh m).flatMap (Fc.unk m.name NS)++(m.procs.take j).flatMap (Fc.fE m.name NS)++(Fc.gM p).flatMap (Fc.unk m.name NS)++Fc.unk m.name NS (p.result,p.at_) from rfl] at st
     refine I.nil (WP.aG (I.f (.ptr dV 4) (I.b (L.str p.bI) (st.aF 5 rfl) (I.f (.ptr dV 7) (I.b (.n p.at_) (st.aF 5 rfl) (I.bD rfl (EI D (DS:=DS++(Fc.eh m).flatMap (Fc.unk m.name NS)++(m.procs.take j).flatMap (Fc.fE m.name NS)++(Fc.gM p).flatMap (Fc.unk m.name NS)++Fc.unk m.name NS (p.result,p.at_)) gH (by simp only [List.length_append];omega) st) ?_))))))
     rintro _ h ⟨ih,h5,st⟩
     rw [show (DS++(Fc.eh m).flatMap (Fc.unk m.name NS)++(m.procs.take j).flatMap (Fc.fE m.name NS)++(Fc.gM p).flatMap (Fc.unk m.name NS)++Fc.unk m.name NS (p.result,p.at_))++Fc.unk m.name NS (p.bI,p.at_)=DS++(Fc.eh m).flatMap (Fc.unk m.name NS)++(m.procs.take (j+1)).flatMap (Fc.fE m.name NS) from (by rw [Fc.rO _ hp,Fc.fE,hb];simp only [if_true,List.append_nil,List.append_assoc,Bool.false_eq_true,if_false,reduceIte])] at st
     refine I.nil (WP.aG (I.bX (v:= .n (j+1)) L.cB (I.nil ?_)))
     exact ⟨j+1,(by omega),ih,h5,(.bool true),(.ptr dV 0),(.n k),(.n p.params.length),(.bool false),q.p,dx,(.bool true),by omega,by kernel_rfl,(st.pick 5 rfl).tail⟩
  ·replace c1:¬(j<m.procs.length):=by omega
   rw [List.take_of_length_le (show m.procs.length≤j by omega),List.append_assoc] at st
   refine I.nil (WP.seq (WP.cond (t:=false) rfl (WP.exit ?_)))
   exact ⟨_,(fo _ _),_,_,(st.pick 3 rfl).tail⟩
end
end Go.Eng.YtmcjcbldmoijiaaGreatDoor
