/- Part of a proof of a law: rules of an evaluator, contracts, plain laws. No condition of its own. -/
import Derived.Test.YtmcjcbldmoijiaaGreatDoorSymA
import Derived.Test.YtmcjcbldmoijiaaGreatDoorConA
import Derived.Test.YtmcjcbldmoijiaaGreatDoorSymF
import Derived.Test.YtmcjcbldmoijiaaGreatDoorSymC
import Derived.Test.YtmcjcbldmoijiaaGreatDoorSymG
set_option linter.unusedVariables false
set_option linter.unusedSimpArgs false
namespace Go.Eng.YtmcjcbldmoijiaaGreatDoor
open Go.Eng
noncomputable section
variable {c:Ctx}
structure x8 (c:Ctx):Prop where
 f9:T.get 9 c.cE=some i9
 f25:T.get 25 c.cE=some i25
 f26:T.get 26 c.cE=some i26
 f27:T.get 27 c.cE=some i27
 f62:T.get 62 c.cE=some i62
 f63:T.get 63 c.cE=some i63
 f85:T.get 85 c.cE=some i85
 a:zY c
 b:rM c
theorem acE (D:x8 c) {fs:List Fact} {h:ae} {v w1 iw Gt RH RI:V} {az:List Lab.aL} {x:Lab.aL} (hn:az.length<4294967296) (st:aq (.aE (fun h=>dU h v az)::fs) h):
 bT c 85 [.agg [v,w1,iw,Gt,RH,RI],L.str x] h fun v1 h1=>v1= .int .i64 (k5 az x)∧aq (.aE (fun h=>dU h v az)::fs) h1:=by
 refine bT.dN D.f85 rfl (WP.ak (I.dI st (L.box (l:=[v,w1,iw,Gt,RH,RI]) rfl rfl) (fun cr h st=> ?_)))
 refine I.aC (.int .i64 0) (I.ak (I.f (.ptr cr 0) (I.b v (st.aN 0 rfl) (I.dK rfl (Qb D.a hn (st.bt 1 rfl)) ?_))))
 rintro _ _ ⟨rfl,rfl⟩
 refine I.nil (WP.ret ?_)
 exact ⟨_,(b0 (.int .i64 (k5 az x))),rfl,st.tail⟩
theorem GC (D:x8 c) {F:Fact} {fs:List Fact} {h:ae} {dD cQ:Nat} {mod n:Fc.aL} {cR b2 cg z2 z3 z4 z5 dZ:V} {A:List Fc.aL} {DS:List Fc.cM} {a:Nat} (b1:pB F 1 cR (SR A)) (hn:A.length<2147483648) (aQ:DS.length<2147483648) (st:aq (F:: .acc dD 4 b2 (DS.map Fc.cM.row):: .box cQ [L.str mod,cg,z2,z3,z4,z5,dZ,b2]::fs) h):
 bT c 62 [.ptr cQ 0,cR,L.str n, .n a] h fun v1 h1=>∃f1 hD fG,aq (.acc f1 1 v1 (SR (A++[n])):: .acc hD 4 fG ((DS++Fc.xZ mod A (n,a)).map Fc.cM.row):: .box cQ [L.str mod,cg,z2,z3,z4,z5,dZ,fG]::fs) h1:=by
 refine bT.dN D.f62 rfl (WP.ak (I.aC .U (I.nil (WP.ss (WP.ad ?_)))))
 have cz:dU _ cR A:=((pB.shut b1 st (by decide)).bt 0 rfl:Rows 1 _ cR (SR A)).ak
 refine I.dK rfl (aae D.a (by omega) cz) ?_
 rintro _ _ ⟨rfl,rfl⟩
 rcases Classical.em (n∈A) with hm|hm
 ·rw [decide_eq_true hm]
  refine I.bI (WP.draw (af.v (.ptr cQ 0) (af.v (.ptr cQ 0) (af.v (.ptr cQ 0) (af.f (.ptr cQ 7) (af.b b2 (st.aN 2 rfl) (af.v (.ptr cQ 0) (af.v (.ptr cQ 0) (af.f (.ptr cQ 0) (af.b (L.str mod) (st.aN 2 rfl) (af.v (.n a) (af.v (L.str n) (af.val (v:= .agg [L.str mod, .n a, .int .i64 6,L.str n]) (L.build rfl) (af.fS (rows:=[[L.str mod, .n a, .int .i64 6,L.str n]]) st rfl (by decide) rfl (by simp) (fun RJ h _ st=> ?_)))))))))))))))
  refine af.qv st 2 rfl rfl rfl (st.bt 0 rfl) (by decide) (by simp;omega) (fun _ _ h st=>rfl) (fun f1 v1 h st=> ?_)
  rw [show (DS.map Fc.cM.row)++[[L.str mod,V.n a,V.int .i64 6,L.str n]]=(DS++[Fc.cM.mk mod a 6 n]).map Fc.cM.row from by simp [Fc.cM.row]] at st
  obtain ⟨qO,rfl⟩:=(st.gh 2 rfl).ne (by simp)
  refine af.v (.ptr cQ 0) (af.f (.ptr cQ 7) (af.bM (row':=[L.str mod,cg,z2,z3,z4,z5,dZ, .au qO 0 (((DS++[Fc.cM.mk mod a 6 n]).map Fc.cM.row).length) none]) st 3 rfl rfl rfl rfl rfl rfl rfl (fun h st=>rfl) (fun h st=> ?_)))
  refine af.ak (I.fS (rows:=[[L.str n]]) st rfl (by decide) rfl (by simp) (fun RL h st=> ?_))
  replace st:aq (F:: .aE (fun h=>Rows 1 h (.au RL 0 1 (some 1)) [[L.str n]]):: .aE (fun h=>Rows 4 h (.au RJ 0 1 (some 1)) [[L.str mod, .n a, .int .i64 6,L.str n]]):: .acc f1 4 (.au qO 0 ((DS++[Fc.cM.mk mod a 6 n]).map Fc.cM.row).length none) ((DS++[Fc.cM.mk mod a 6 n]).map Fc.cM.row):: .box cQ [L.str mod,cg,z2,z3,z4,z5,dZ, .au qO 0 (((DS++[Fc.cM.mk mod a 6 n]).map Fc.cM.row).length) none]::fs) h:=(st.pick 2 rfl)
  refine I.Ph b1 st rfl rfl (st.bt 1 rfl) (by decide) (Nat.succ_pos _) (by simp [gQ];omega) (fun acF pJ h st=> ?_)
  rw [show SR A++[[L.str n]]=SR (A++[n]) from (CL A [n]).symm] at st
  refine I.nil (WP.ret ?_)
  rw [show Fc.xZ mod A (n,a)=[⟨mod,a,6,n⟩] from if_pos hm]
  exact ⟨_,(b0 pJ),_,_,_,((st.pick 1 rfl).tail.pick 1 rfl).tail⟩
 ·rw [decide_eq_false hm]
  refine I.bw (WP.skip (WP.ak (I.fS (rows:=[[L.str n]]) st rfl (by decide) rfl (by simp) (fun RM h st=> ?_))))
  replace st:aq (F:: .aE (fun h=>Rows 1 h (.au RM 0 1 (some 1)) [[L.str n]]):: .acc dD 4 b2 (DS.map Fc.cM.row):: .box cQ [L.str mod,cg,z2,z3,z4,z5,dZ,b2]::fs) h:=(st.pick 1 rfl)
  refine I.Ph b1 st rfl rfl (st.bt 1 rfl) (by decide) (Nat.succ_pos _) (by simp [gQ];omega) (fun acF pJ h st=> ?_)
  rw [show SR A++[[L.str n]]=SR (A++[n]) from (CL A [n]).symm] at st
  refine I.nil (WP.ret ?_)
  rw [show Fc.xZ mod A (n,a)=[] from if_neg hm]
  rw [List.append_nil]
  exact ⟨_,(b0 pJ),_,_,_,(st.pick 1 rfl).tail⟩
theorem C5 (D:x8 c) {fs:List Fact} {h:ae} {dD cQ:Nat} {mod n:Fc.aL} {b2 cg z2 z3 z4 z5 dZ:V} {az:List Fc.aL} {DS:List Fc.cM} {a:Nat} (hn:az.length<4294967296) (aQ:DS.length<2147483648) (st:aq (.aE (fun h=>dU h cg az):: .acc dD 4 b2 (DS.map Fc.cM.row):: .box cQ [L.str mod,cg,z2,z3,z4,z5,dZ,b2]::fs) h):
 bT c 63 [.ptr cQ 0,L.str n, .n a] h fun _ h1=>∃hD fG,aq (.aE (fun h=>dU h cg az):: .acc hD 4 fG ((DS++Fc.unk mod az (n,a)).map Fc.cM.row):: .box cQ [L.str mod,cg,z2,z3,z4,z5,dZ,fG]::fs) h1:=by
 refine bT.dN D.f63 rfl (WP.ak (I.v (.ptr cQ 0) (I.f (.ptr cQ 1) (I.val (v:= .agg [cg,z2,z3,z4,z5,dZ]) (L.ey rfl (st.aN 2 rfl) rfl rfl rfl) (I.bx rfl (acE D hn st) ?_)))))
 rintro _ h ⟨rfl,st⟩
 refine I.bV (L.lss rfl rfl) (fun c1=> ?_) (fun c1=> ?_)
 ·refine I.bI (WP.draw (af.v (.ptr cQ 0) (af.v (.ptr cQ 0) (af.v (.ptr cQ 0) (af.f (.ptr cQ 7) (af.b b2 (st.aN 2 rfl) (af.v (.ptr cQ 0) (af.v (.ptr cQ 0) (af.f (.ptr cQ 0) (af.b (L.str mod) (st.aN 2 rfl) (af.v (.n a) (af.v (L.str n) (af.val (v:= .agg [L.str mod, .n a, .int .i64 7,L.str n]) (L.build rfl) (af.fS (rows:=[[L.str mod, .n a, .int .i64 7,L.str n]]) st rfl (by decide) rfl (by simp) (fun RJ h _ st=> ?_)))))))))))))))
  refine af.qv st 2 rfl rfl rfl (st.bt 0 rfl) (by decide) (by simp;omega) (fun _ _ h st=>rfl) (fun f1 v1 h st=> ?_)
  rw [show (DS.map Fc.cM.row)++[[L.str mod,V.n a,V.int .i64 7,L.str n]]=(DS++[Fc.cM.mk mod a 7 n]).map Fc.cM.row from by simp [Fc.cM.row]] at st
  obtain ⟨qO,rfl⟩:=(st.gh 2 rfl).ne (by simp)
  refine af.v (.ptr cQ 0) (af.f (.ptr cQ 7) (af.bM (row':=[L.str mod,cg,z2,z3,z4,z5,dZ, .au qO 0 (((DS++[Fc.cM.mk mod a 7 n]).map Fc.cM.row).length) none]) st 3 rfl rfl rfl rfl rfl rfl rfl (fun h st=>rfl) (fun h st=> ?_)))
  refine af.nil ?_
  rw [show Fc.unk mod az (n,a)=[⟨mod,a,7,n⟩] from if_neg (Qa (show ¬0≤k5 az n by omega))]
  exact ⟨_,(eX _ _),_,_,st.tail⟩
 ·refine I.bw (WP.skip ?_)
  rw [show Fc.unk mod az (n,a)=[] from if_pos (P9 (show 0≤k5 az n by omega))]
  rw [List.append_nil]
  exact ⟨_,(eX _ _),_,_,st⟩
theorem acG (D:x8 c) {fs:List Fact} {h:ae} {cQ:Nat} {cg z2 z3 z4 z5 dZ:V} {m:e0} {w:lO} (ok:lP m w) (st:aq (.box cQ [L.str m.name,cg,z2,z3,z4,z5,dZ, .U]:: .aE (fun h=>cA h m w)::fs) h):
 bT c 25 [.ptr cQ 0, .agg (CY m w)] h fun _ h1=>∃dD b2,aq (.acc dD 4 b2 ((Fc.v8 m).map Fc.cM.row):: .box cQ [L.str m.name,cg,z2,z3,z4,z5,dZ,b2]:: .aE (fun h=>cA h m w)::fs) h1:=by
 have ot:=ok.KZ
 have rU:=ok.x3
 have RN:=ok.jh
 have B2:∀p∈m.procs,(Fc.b4 m.name [] (Fc.gq p)).length≤8193:=fun p hp=>Nat.le_trans (Fc.qI _ _ _) (by unfold Fc.gq;rw [List.length_map];exact (ok.pa p hp).1)
 have ahf:(Fc.fb m).length=m.imports.length:=List.length_map _
 have acH:(Fc.dy m).length=m.vars.length:=List.length_map _
 have ahg:(Fc.gS m).length=m.procs.length:=List.length_map _
 have RO:=Fc.qI m.name (Fc.fb m) [m.name]
 have vc:=Fc.qI m.name (Fc.dy m) []
 have ahh:=Fc.qI m.name (Fc.gS m) ([]++(Fc.dy m).map (·.1))
 replace st:=st.kE 4
 refine bT.dN D.f25 rfl (WP.ak (I.dI st (L.box (l:=[L.str m.name, .n m.at_,w.i,w.v,w.p]) rfl rfl) (fun dz h st=> ?_)))
 refine I.ak (I.f (.ptr dz 0) (I.b (L.str m.name) (st.aN 0 rfl) (I.YL (rows:=[[L.str m.name]]) st rfl (by decide) rfl (by simp) (fun cq h Ke st=> ?_))))
 refine I.nil (WP.seq (WP.ak (I.f (.ptr dz 2) (I.pw w.i (st.aN 1 rfl) (I.bS (v:= .n m.imports.length) (L.fD rfl (cA.Gi (st.bt 4 rfl)) (List.length_map _)) (I.aC (.int .i64 0) (I.nil (WP.block ?_))))))))
 have jJ:pB (.aE (fun h=>Rows 1 h (.au cq 0 1 (some 1)) (SR [m.name]))) 1 (.au cq 0 1 (some 1)) (SR ([m.name]++((Fc.fb m).take 0).map (·.1))):= .inl ⟨rfl,cq,rfl,Ke⟩
 refine WP.dS (α:=Nat) (fun i env h=>∃F cR dD b2 eO dH,(i≤m.imports.length∧pB F 1 cR (SR ([m.name]++((Fc.fb m).take i).map (·.1))))∧env=c6 [.ptr cQ 0, .agg [L.str m.name, .n m.at_,w.i,w.v,w.p], .ptr dz 0, .n i, .n m.imports.length,eO,w.i,dH,cR] 0 Env.nil∧aq (F:: .acc dD 4 b2 ((Fc.b4 m.name ([m.name]) ((Fc.fb m).take i)).map Fc.cM.row):: .box cQ [L.str m.name,cg,z2,z3,z4,z5,dZ,b2]:: .box dz [L.str m.name, .n m.at_,w.i,w.v,w.p]:: .aE (fun h=>cA h m w)::fs) h) (fun i=>m.imports.length - i) 0 ?_ ?_
 ·exact ⟨_,(.au cq 0 1 (some 1)),0, .U, .bot, .bot,⟨Nat.zero_le _,jJ⟩,by kernel_rfl,(((st.pick 3 rfl).pick 3 rfl).pick 2 rfl)⟩
 rintro i _ h ⟨F,cR,dD,b2,eO,dH,⟨zj,b1⟩,rfl,st⟩
 refine WP.ak (I.bV (L.lss rfl rfl) (fun c1=> ?_) (fun c1=> ?_))
 ·replace c1:i<m.imports.length:=by omega
  obtain ⟨x,hx⟩:∃y,m.imports[i]? =some y:=⟨m.imports[i]'(by omega),List.getElem?_eq_getElem (by omega)⟩
  refine I.nil (WP.seq (WP.cond (t:=true) rfl (WP.skip (WP.seq (WP.block (WP.ak (I.val (v:= .ptr (cY w.i) (db w.i+i * 2)) (L.bY (Rows.au (cA.Gi (st.bt 4 rfl)) (by rw [List.length_map];exact c1)) rfl (by rw [List.length_map];exact c1)) (I.val (v:= .agg [L.str x.name, .n x.at_]) (L.da rfl (Rows.lD (i:=i) (cA.Gi (st.bt 4 rfl)) (by rw [List.getElem?_map,hx];rfl))) ?_))))))))
  refine I.dI st L.alloc (fun gU h st=> ?_)
  refine I.bM (row':=[L.str x.name, .n x.at_]) st 0 rfl rfl rfl rfl rfl rfl rfl (fun h st=> ?_)
  refine I.nil (WP.ad (I.f (.ptr gU 0) (I.b (L.str x.name) (st.aN 0 rfl) (I.f (.ptr gU 1) (I.b (.n x.at_) (st.aN 0 rfl) ?_)))))
  have pK:(Fc.fb m)[i]? =some (x.name,x.at_):=by unfold Fc.fb;rw [List.getElem?_map,hx];rfl
  have x9:=Fc.qI m.name ((Fc.fb m).take i) ([m.name])
  rw [List.length_take] at x9
  refine I.dK rfl (GC D (A:=[m.name]++((Fc.fb m).take i).map (·.1)) (DS:=Fc.b4 m.name ([m.name]) ((Fc.fb m).take i)) b1 (by simp only [List.length_append,List.length_map,List.length_take,List.length_cons,List.length_nil];omega) (by omega) ((((st.pick 3 rfl).pick 3 rfl).pick 3 rfl):aq (F:: .acc dD 4 b2 ((Fc.b4 m.name ([m.name]) ((Fc.fb m).take i)).map Fc.cM.row):: .box cQ [L.str m.name,cg,z2,z3,z4,z5,dZ,b2]:: .box gU [L.str x.name, .n x.at_]:: .box dz [L.str m.name, .n m.at_,w.i,w.v,w.p]:: .aE (fun h=>cA h m w)::fs) _)) ?_
  rintro pJ h ⟨f1,hD,fG,st⟩
  rw [show ([m.name]++((Fc.fb m).take i).map (·.1))++[x.name]=[m.name]++((Fc.fb m).take (i+1)).map (·.1) from by rw [Fc.x0 _ pK,List.append_assoc],show (Fc.b4 m.name ([m.name]) ((Fc.fb m).take i))++Fc.xZ m.name ([m.name]++((Fc.fb m).take i).map (·.1)) (x.name,x.at_)=Fc.b4 m.name ([m.name]) ((Fc.fb m).take (i+1)) from by rw [Fc.Gg _ _ pK];rfl] at st
  refine I.nil (WP.ad (I.bS (v:= .int .i64 ((i+1:Nat):Int)) (L.cX rfl rfl (by omega) (And.intro (by omega) (by omega))) (I.nil ?_)))
  exact ⟨i+1,(by omega),_,pJ,hD,fG,(.bool true),(.ptr gU 0),⟨by omega, .inr ⟨f1,rfl⟩⟩,by kernel_rfl,(st.pick 3 rfl).tail⟩
 ·replace c1:¬(i<m.imports.length):=by omega
  rw [List.take_of_length_le (by omega)] at b1 st
  refine I.nil (WP.seq (WP.cond (t:=false) rfl (WP.exit (WP.ak (I.aC .U (I.nil (WP.seq (WP.ak (I.f (.ptr dz 3) (I.pw w.v (st.aN 3 rfl) (I.bS (v:= .n m.vars.length) (L.fD rfl (cA.vars (st.bt 4 rfl)) (List.length_map _)) (I.aC (.int .i64 0) (I.nil (WP.block ?_))))))))))))))
  replace st:aq (.acc 0 1 .U []:: .acc dD 4 b2 ((Fc.b4 m.name ([m.name]) (Fc.fb m)).map Fc.cM.row):: .box cQ [L.str m.name,cg,z2,z3,z4,z5,dZ,b2]:: .box dz [L.str m.name, .n m.at_,w.i,w.v,w.p]:: .aE (fun h=>cA h m w)::fs) h:=(st.tail).kE 1
  have jJ:pB (.acc 0 1 .U []) 1 .U (SR ([]++((Fc.dy m).take 0).map (·.1))):= .inr ⟨0,rfl⟩
  replace st:aq (.acc 0 1 .U []:: .acc dD 4 b2 ((Fc.b4 m.name ([m.name]) (Fc.fb m)++Fc.b4 m.name ([]) ((Fc.dy m).take 0)).map Fc.cM.row):: .box cQ [L.str m.name,cg,z2,z3,z4,z5,dZ,b2]:: .box dz [L.str m.name, .n m.at_,w.i,w.v,w.p]:: .aE (fun h=>cA h m w)::fs) h:=by rw [List.take_zero,show Fc.b4 m.name ([]) []=[] from rfl,List.append_nil];exact st
  refine WP.dS (α:=Nat) (fun j env h=>∃F cR dD b2 k9 fX,(j≤m.vars.length∧pB F 1 cR (SR ([]++((Fc.dy m).take j).map (·.1))))∧env=c6 [.ptr cQ 0, .agg [L.str m.name, .n m.at_,w.i,w.v,w.p], .ptr dz 0, .n i, .n m.imports.length, .bool false,w.i,dH,cR, .n j, .n m.vars.length,k9,w.v,fX] 0 Env.nil∧aq (F:: .acc dD 4 b2 ((Fc.b4 m.name ([m.name]) (Fc.fb m)++Fc.b4 m.name ([]) ((Fc.dy m).take j)).map Fc.cM.row):: .box cQ [L.str m.name,cg,z2,z3,z4,z5,dZ,b2]:: .box dz [L.str m.name, .n m.at_,w.i,w.v,w.p]:: .aE (fun h=>cA h m w)::fs) h) (fun j=>m.vars.length - j) 0 ?_ ?_
  ·exact ⟨_, .U,dD,b2, .bot, .bot,⟨Nat.zero_le _,jJ⟩,by kernel_rfl,st⟩
  rintro j _ h ⟨F,cR,dD,b2,k9,fX,⟨acI,b1⟩,rfl,st⟩
  refine WP.ak (I.bV (L.lss rfl rfl) (fun c1=> ?_) (fun c1=> ?_))
  ·replace c1:j<m.vars.length:=by omega
   obtain ⟨x,hx⟩:∃y,m.vars[j]? =some y:=⟨m.vars[j]'(by omega),List.getElem?_eq_getElem (by omega)⟩
   refine I.nil (WP.seq (WP.cond (t:=true) rfl (WP.skip (WP.seq (WP.block (WP.ak (I.val (v:= .ptr (cY w.v) (db w.v+j * 4)) (L.bY (Rows.au (cA.vars (st.bt 4 rfl)) (by rw [List.length_map];exact c1)) rfl (by rw [List.length_map];exact c1)) (I.val (v:= .agg [L.str x.name,L.str x.label, .int .i64 x.init, .n x.at_]) (L.da rfl (Rows.lD (i:=j) (cA.vars (st.bt 4 rfl)) (by rw [List.getElem?_map,hx];rfl))) ?_))))))))
   refine I.dI st L.alloc (fun gU h st=> ?_)
   refine I.bM (row':=[L.str x.name,L.str x.label, .int .i64 x.init, .n x.at_]) st 0 rfl rfl rfl rfl rfl rfl rfl (fun h st=> ?_)
   refine I.nil (WP.ad (I.f (.ptr gU 0) (I.b (L.str x.name) (st.aN 0 rfl) (I.f (.ptr gU 3) (I.b (.n x.at_) (st.aN 0 rfl) ?_)))))
   have pK:(Fc.dy m)[j]? =some (x.name,x.at_):=by unfold Fc.dy;rw [List.getElem?_map,hx];rfl
   have x9:=Fc.qI m.name ((Fc.dy m).take j) ([])
   rw [List.length_take] at x9
   refine I.dK rfl (GC D (A:=[]++((Fc.dy m).take j).map (·.1)) (DS:=Fc.b4 m.name ([m.name]) (Fc.fb m)++Fc.b4 m.name ([]) ((Fc.dy m).take j)) b1 (by simp only [List.length_append,List.length_map,List.length_take,List.length_cons,List.length_nil];omega) (by simp only [List.length_append];omega) ((((st.pick 3 rfl).pick 3 rfl).pick 3 rfl):aq (F:: .acc dD 4 b2 ((Fc.b4 m.name ([m.name]) (Fc.fb m)++Fc.b4 m.name ([]) ((Fc.dy m).take j)).map Fc.cM.row):: .box cQ [L.str m.name,cg,z2,z3,z4,z5,dZ,b2]:: .box gU [L.str x.name,L.str x.label, .int .i64 x.init, .n x.at_]:: .box dz [L.str m.name, .n m.at_,w.i,w.v,w.p]:: .aE (fun h=>cA h m w)::fs) _)) ?_
   rintro pJ h ⟨f1,hD,fG,st⟩
   rw [show ([]++((Fc.dy m).take j).map (·.1))++[x.name]=[]++((Fc.dy m).take (j+1)).map (·.1) from by rw [Fc.x0 _ pK,List.append_assoc],show (Fc.b4 m.name ([m.name]) (Fc.fb m)++Fc.b4 m.name ([]) ((Fc.dy m).take j))++Fc.xZ m.name ([]++((Fc.dy m).take j).map (·.1)) (x.name,x.at_)=Fc.b4 m.name ([m.name]) (Fc.fb m)++Fc.b4 m.name ([]) ((Fc.dy m).take (j+1)) from by rw [Fc.Gg _ _ pK];rw [List.append_assoc];rfl] at st
   refine I.nil (WP.ad (I.bS (v:= .int .i64 ((j+1:Nat):Int)) (L.cX rfl rfl (by omega) (And.intro (by omega) (by omega))) (I.nil ?_)))
   exact ⟨j+1,(by omega),_,pJ,hD,fG,(.bool true),(.ptr gU 0),⟨by omega, .inr ⟨f1,rfl⟩⟩,by kernel_rfl,(st.pick 3 rfl).tail⟩
  ·replace c1:¬(j<m.vars.length):=by omega
   rw [List.take_of_length_le (by omega)] at b1 st
   refine I.nil (WP.seq (WP.cond (t:=false) rfl (WP.exit (WP.seq (WP.ak (I.f (.ptr dz 4) (I.pw w.p (st.aN 3 rfl) (I.bS (v:= .n m.procs.length) (L.fD rfl (cA.procs (st.bt 4 rfl)) (nP ok.len)) (I.aC (.int .i64 0) (I.nil (WP.block ?_)))))))))))
   have jJ:pB F 1 cR (SR (([]++(Fc.dy m).map (·.1))++((Fc.gS m).take 0).map (·.1))):=by rw [List.take_zero,List.map_nil,List.append_nil];exact b1
   replace st:aq (F:: .acc dD 4 b2 ((Fc.b4 m.name ([m.name]) (Fc.fb m)++Fc.b4 m.name ([]) (Fc.dy m)++Fc.b4 m.name ([]++(Fc.dy m).map (·.1)) ((Fc.gS m).take 0)).map Fc.cM.row):: .box cQ [L.str m.name,cg,z2,z3,z4,z5,dZ,b2]:: .box dz [L.str m.name, .n m.at_,w.i,w.v,w.p]:: .aE (fun h=>cA h m w)::fs) h:=by rw [List.take_zero,show Fc.b4 m.name ([]++(Fc.dy m).map (·.1)) []=[] from rfl,List.append_nil];exact st
   refine WP.dS (α:=Nat) (fun r env h=>∃F cR dD b2 oI pL,(r≤m.procs.length∧pB F 1 cR (SR ([]++(Fc.dy m).map (·.1)++((Fc.gS m).take r).map (·.1))))∧env=c6 [.ptr cQ 0, .agg [L.str m.name, .n m.at_,w.i,w.v,w.p], .ptr dz 0, .n i, .n m.imports.length, .bool false,w.i,dH,cR, .n j, .n m.vars.length, .bool false,w.v,fX, .n r, .n m.procs.length,oI,w.p,pL] 0 Env.nil∧aq (F:: .acc dD 4 b2 ((Fc.b4 m.name ([m.name]) (Fc.fb m)++Fc.b4 m.name ([]) (Fc.dy m)++Fc.b4 m.name ([]++(Fc.dy m).map (·.1)) ((Fc.gS m).take r)).map Fc.cM.row):: .box cQ [L.str m.name,cg,z2,z3,z4,z5,dZ,b2]:: .box dz [L.str m.name, .n m.at_,w.i,w.v,w.p]:: .aE (fun h=>cA h m w)::fs) h) (fun r=>m.procs.length - r) 0 ?_ ?_
   ·exact ⟨_,cR,dD,b2, .bot, .bot,⟨Nat.zero_le _,jJ⟩,by kernel_rfl,st⟩
   rintro r _ h ⟨F,cR,dD,b2,oI,pL,⟨ahi,b1⟩,rfl,st⟩
   refine WP.ak (I.bV (L.lss rfl rfl) (fun c1=> ?_) (fun c1=> ?_))
   ·replace c1:r<m.procs.length:=by omega
    obtain ⟨p,hp⟩:∃p,m.procs[r]? =some p:=⟨m.procs[r]'(by omega),List.getElem?_eq_getElem (by omega)⟩
    obtain ⟨q,bB,tP,GD,hM⟩:=ok.pv hp
    refine I.nil (WP.seq (WP.cond (t:=true) rfl (WP.skip (WP.seq (WP.block (WP.ak (I.val (v:= .ptr (cY w.p) (db w.p+r * 8)) (L.bY (Rows.au (cA.procs (st.bt 4 rfl)) (by rw [nP ok.len];exact c1)) rfl (by rw [nP ok.len];exact c1)) (I.val (v:= .agg [L.str p.name,q.p, .bool p.has,L.str p.result,L.str p.bO,q.u,q.b, .n p.at_]) (L.da rfl (Rows.lD (i:=r) (cA.procs (st.bt 4 rfl)) (show _=some [L.str p.name,q.p, .bool p.has,L.str p.result,L.str p.bO,q.u,q.b, .n p.at_] from wc hp bB))) (I.dI st L.alloc (fun gU h st=> ?_))))))))))
    refine I.bM (row':=[L.str p.name,q.p, .bool p.has,L.str p.result,L.str p.bO,q.u,q.b, .n p.at_]) st 0 rfl rfl rfl rfl rfl rfl rfl (fun h st=> ?_)
    refine I.nil (WP.ad (I.f (.ptr gU 0) (I.b (L.str p.name) (st.aN 0 rfl) (I.f (.ptr gU 7) (I.b (.n p.at_) (st.aN 0 rfl) ?_)))))
    have pK:(Fc.gS m)[r]? =some (p.name,p.at_):=by unfold Fc.gS;rw [List.getElem?_map,hp];rfl
    have x9:=Fc.qI m.name ((Fc.gS m).take r) ([]++(Fc.dy m).map (·.1))
    rw [List.length_take] at x9
    refine I.dK rfl (GC D (A:=[]++(Fc.dy m).map (·.1)++((Fc.gS m).take r).map (·.1)) (DS:=Fc.b4 m.name ([m.name]) (Fc.fb m)++Fc.b4 m.name ([]) (Fc.dy m)++Fc.b4 m.name ([]++(Fc.dy m).map (·.1)) ((Fc.gS m).take r)) b1 (by simp only [List.length_append,List.length_map,List.length_take,List.length_cons,List.length_nil];omega) (by simp only [List.length_append];omega) ((((st.pick 3 rfl).pick 3 rfl).pick 3 rfl):aq (F:: .acc dD 4 b2 ((Fc.b4 m.name ([m.name]) (Fc.fb m)++Fc.b4 m.name ([]) (Fc.dy m)++Fc.b4 m.name ([]++(Fc.dy m).map (·.1)) ((Fc.gS m).take r)).map Fc.cM.row):: .box cQ [L.str m.name,cg,z2,z3,z4,z5,dZ,b2]:: .box gU [L.str p.name,q.p, .bool p.has,L.str p.result,L.str p.bO,q.u,q.b, .n p.at_]:: .box dz [L.str m.name, .n m.at_,w.i,w.v,w.p]:: .aE (fun h=>cA h m w)::fs) _)) ?_
    rintro pJ h ⟨f1,hD,fG,st⟩
    rw [show ([]++(Fc.dy m).map (·.1)++((Fc.gS m).take r).map (·.1))++[p.name]=[]++(Fc.dy m).map (·.1)++((Fc.gS m).take (r+1)).map (·.1) from by rw [Fc.x0 _ pK,List.append_assoc],show (Fc.b4 m.name ([m.name]) (Fc.fb m)++Fc.b4 m.name ([]) (Fc.dy m)++Fc.b4 m.name ([]++(Fc.dy m).map (·.1)) ((Fc.gS m).take r))++Fc.xZ m.name ([]++(Fc.dy m).map (·.1)++((Fc.gS m).take r).map (·.1)) (p.name,p.at_)=Fc.b4 m.name ([m.name]) (Fc.fb m)++Fc.b4 m.name ([]) (Fc.dy m)++Fc.b4 m.name ([]++(Fc.dy m).map (·.1)) ((Fc.gS m).take (r+1)) from by rw [Fc.Gg _ _ pK];rw [List.append_assoc];rfl] at st
    refine I.nil (WP.ad (I.bS (v:= .int .i64 ((r+1:Nat):Int)) (L.cX rfl rfl (by omega) (And.intro (by omega) (by omega))) (I.nil ?_)))
    exact ⟨r+1,(by omega),_,pJ,hD,fG,(.bool true),(.ptr gU 0),⟨by omega, .inr ⟨f1,rfl⟩⟩,by kernel_rfl,(st.pick 3 rfl).tail⟩
   ·replace c1:¬(r<m.procs.length):=by omega
    rw [List.take_of_length_le (by omega)] at b1 st
    refine I.nil (WP.seq (WP.cond (t:=false) rfl (WP.exit (WP.ak (I.f (.ptr dz 4) (I.pw w.p (st.aN 3 rfl) (I.bS (v:= .n m.procs.length) (L.fD rfl (cA.procs (st.bt 4 rfl)) (nP ok.len)) (I.aC (.int .i64 0) (I.nil (WP.block ?_))))))))))
    replace st:aq (.acc dD 4 b2 ((Fc.b4 m.name ([m.name]) (Fc.fb m)++Fc.b4 m.name ([]) (Fc.dy m)++Fc.b4 m.name ([]++(Fc.dy m).map (·.1)) (Fc.gS m)).map Fc.cM.row):: .box cQ [L.str m.name,cg,z2,z3,z4,z5,dZ,b2]:: .box dz [L.str m.name, .n m.at_,w.i,w.v,w.p]:: .aE (fun h=>cA h m w)::fs) h:=(st).tail
    replace st:aq (.acc dD 4 b2 ((Fc.b4 m.name ([m.name]) (Fc.fb m)++Fc.b4 m.name ([]) (Fc.dy m)++Fc.b4 m.name ([]++(Fc.dy m).map (·.1)) (Fc.gS m)++(m.procs.take 0).flatMap fun p=>Fc.b4 m.name [] (Fc.gq p)).map Fc.cM.row):: .box cQ [L.str m.name,cg,z2,z3,z4,z5,dZ,b2]:: .box dz [L.str m.name, .n m.at_,w.i,w.v,w.p]:: .aE (fun h=>cA h m w)::fs) h:=by rw [List.take_zero,List.flatMap_nil,List.append_nil];exact st
    refine WP.dS (α:=Nat) (fun s env h=>∃dD b2 eo qP nT RP ya rV RQ uN,(s≤m.procs.length)∧env=c6 [.ptr cQ 0, .agg [L.str m.name, .n m.at_,w.i,w.v,w.p], .ptr dz 0, .n i, .n m.imports.length, .bool false,w.i,dH,eo, .n j, .n m.vars.length, .bool false,w.v,fX, .n r, .n m.procs.length, .bool false,w.p,pL, .n s, .n m.procs.length,qP,w.p,nT,RP,ya,rV,RQ,uN] 0 Env.nil∧aq (.acc dD 4 b2 ((Fc.b4 m.name ([m.name]) (Fc.fb m)++Fc.b4 m.name ([]) (Fc.dy m)++Fc.b4 m.name ([]++(Fc.dy m).map (·.1)) (Fc.gS m)++(m.procs.take s).flatMap fun p=>Fc.b4 m.name [] (Fc.gq p)).map Fc.cM.row):: .box cQ [L.str m.name,cg,z2,z3,z4,z5,dZ,b2]:: .box dz [L.str m.name, .n m.at_,w.i,w.v,w.p]:: .aE (fun h=>cA h m w)::fs) h) (fun s=>m.procs.length - s) 0 ?_ ?_
    ·exact ⟨dD,b2,cR, .bot, .bot, .bot, .bot, .bot, .bot, .bot,Nat.zero_le _,by kernel_rfl,st⟩
    rintro s _ h ⟨dD,b2,eo,qP,nT,RP,ya,rV,RQ,uN,ahj,rfl,st⟩
    refine WP.ak (I.bV (L.lss rfl rfl) (fun c1=> ?_) (fun c1=> ?_))
    ·replace c1:s<m.procs.length:=by omega
     obtain ⟨p,hp⟩:∃p,m.procs[s]? =some p:=⟨m.procs[s]'(by omega),List.getElem?_eq_getElem (by omega)⟩
     obtain ⟨q,bB,tP,GD,hM⟩:=ok.pv hp
     refine I.nil (WP.seq (WP.cond (t:=true) rfl (WP.skip (WP.seq (WP.block (WP.ak (I.val (v:= .ptr (cY w.p) (db w.p+s * 8)) (L.bY (Rows.au (cA.procs (st.bt 3 rfl)) (by rw [nP ok.len];exact c1)) rfl (by rw [nP ok.len];exact c1)) (I.val (v:= .agg [L.str p.name,q.p, .bool p.has,L.str p.result,L.str p.bO,q.u,q.b, .n p.at_]) (L.da rfl (Rows.lD (i:=s) (cA.procs (st.bt 3 rfl)) (show _=some [L.str p.name,q.p, .bool p.has,L.str p.result,L.str p.bO,q.u,q.b, .n p.at_] from wc hp bB))) (I.dI st L.alloc (fun gU h st=> ?_))))))))))
     refine I.bM (row':=[L.str p.name,q.p, .bool p.has,L.str p.result,L.str p.bO,q.u,q.b, .n p.at_]) st 0 rfl rfl rfl rfl rfl rfl rfl (fun h st=> ?_)
     refine I.ak (I.aC .U (I.ak (I.f (.ptr gU 1) (I.pw q.p (st.aN 0 rfl) (I.bS (v:= .n p.params.length) (L.fD rfl (((cA.all (st.bt 4 rfl)) _ p q hp bB).1) (List.length_map _)) (I.aC (.int .i64 0) (I.nil (WP.block ?_))))))))
     replace st:aq (.acc 0 1 .U []:: .box gU [L.str p.name,q.p, .bool p.has,L.str p.result,L.str p.bO,q.u,q.b, .n p.at_]:: .acc dD 4 b2 ((Fc.b4 m.name ([m.name]) (Fc.fb m)++Fc.b4 m.name ([]) (Fc.dy m)++Fc.b4 m.name ([]++(Fc.dy m).map (·.1)) (Fc.gS m)++(m.procs.take s).flatMap fun p=>Fc.b4 m.name [] (Fc.gq p)).map Fc.cM.row):: .box cQ [L.str m.name,cg,z2,z3,z4,z5,dZ,b2]:: .box dz [L.str m.name, .n m.at_,w.i,w.v,w.p]:: .aE (fun h=>cA h m w)::fs) h:=st.kE 1
     have jJ:pB (.acc 0 1 .U []) 1 .U (SR ([]++((Fc.gq p).take 0).map (·.1))):= .inr ⟨0,rfl⟩
     have k2:=Fc.CX (f:=fun p=>Fc.b4 m.name [] (Fc.gq p)) B2 s
     have acJ:(Fc.gq p).length=p.params.length:=List.length_map _
     replace st:aq (.acc 0 1 .U []:: .box gU [L.str p.name,q.p, .bool p.has,L.str p.result,L.str p.bO,q.u,q.b, .n p.at_]:: .acc dD 4 b2 ((Fc.b4 m.name ([m.name]) (Fc.fb m)++Fc.b4 m.name ([]) (Fc.dy m)++Fc.b4 m.name ([]++(Fc.dy m).map (·.1)) (Fc.gS m)++((m.procs.take s).flatMap fun p=>Fc.b4 m.name [] (Fc.gq p))++Fc.b4 m.name ([]) ((Fc.gq p).take 0)).map Fc.cM.row):: .box cQ [L.str m.name,cg,z2,z3,z4,z5,dZ,b2]:: .box dz [L.str m.name, .n m.at_,w.i,w.v,w.p]:: .aE (fun h=>cA h m w)::fs) h:=by rw [List.take_zero,show Fc.b4 m.name ([]) []=[] from rfl,List.append_nil];exact st
     refine WP.dS (α:=Nat) (fun k env h=>∃F cR dD b2 rV uN,(k≤p.params.length∧pB F 1 cR (SR ([]++((Fc.gq p).take k).map (·.1))))∧env=c6 [.ptr cQ 0, .agg [L.str m.name, .n m.at_,w.i,w.v,w.p], .ptr dz 0, .n i, .n m.imports.length, .bool false,w.i,dH,cR, .n j, .n m.vars.length, .bool false,w.v,fX, .n r, .n m.procs.length, .bool false,w.p,pL, .n s, .n m.procs.length, .bool true,w.p, .ptr gU 0, .n k, .n p.params.length,rV,q.p,uN] 0 Env.nil∧aq (F:: .acc dD 4 b2 ((Fc.b4 m.name ([m.name]) (Fc.fb m)++Fc.b4 m.name ([]) (Fc.dy m)++Fc.b4 m.name ([]++(Fc.dy m).map (·.1)) (Fc.gS m)++((m.procs.take s).flatMap fun p=>Fc.b4 m.name [] (Fc.gq p))++Fc.b4 m.name ([]) ((Fc.gq p).take k)).map Fc.cM.row):: .box cQ [L.str m.name,cg,z2,z3,z4,z5,dZ,b2]:: .box dz [L.str m.name, .n m.at_,w.i,w.v,w.p]:: .aE (fun h=>cA h m w):: .box gU [L.str p.name,q.p, .bool p.has,L.str p.result,L.str p.bO,q.u,q.b, .n p.at_]::fs) h) (fun k=>p.params.length - k) 0 ?_ ?_
     ·exact ⟨_, .U,dD,b2,rV,uN,⟨Nat.zero_le _,jJ⟩,by kernel_rfl,(((((st.pick 5 rfl).pick 5 rfl).pick 5 rfl).pick 5 rfl).pick 4 rfl)⟩
     rintro k _ h ⟨F,cR,dD,b2,rV,uN,⟨wQ,b1⟩,rfl,st⟩
     refine WP.ak (I.bV (L.lss rfl rfl) (fun c2=> ?_) (fun c2=> ?_))
     ·replace c2:k<p.params.length:=by omega
      obtain ⟨y,hy⟩:∃y,p.params[k]? =some y:=⟨p.params[k]'(by omega),List.getElem?_eq_getElem (by omega)⟩
      refine I.nil (WP.seq (WP.cond (t:=true) rfl (WP.skip (WP.seq (WP.block (WP.ak (I.val (v:= .ptr (cY q.p) (db q.p+k * 3)) (L.bY (Rows.au (((cA.all (st.bt 4 rfl)) _ p q hp bB).1) (by rw [List.length_map];exact c2)) rfl (by rw [List.length_map];exact c2)) (I.val (v:= .agg [L.str y.name,L.str y.label, .n y.at_]) (L.da rfl (Rows.lD (i:=k) (((cA.all (st.bt 4 rfl)) _ p q hp bB).1) (by rw [List.getElem?_map,hy];rfl))) ?_))))))))
      refine I.dI st L.alloc (fun qQ h st=> ?_)
      refine I.bM (row':=[L.str y.name,L.str y.label, .n y.at_]) st 0 rfl rfl rfl rfl rfl rfl rfl (fun h st=> ?_)
      refine I.nil (WP.ad (I.f (.ptr qQ 0) (I.b (L.str y.name) (st.aN 0 rfl) (I.f (.ptr qQ 2) (I.b (.n y.at_) (st.aN 0 rfl) ?_)))))
      have pK:(Fc.gq p)[k]? =some (y.name,y.at_):=by unfold Fc.gq;rw [List.getElem?_map,hy];rfl
      have x9:=Fc.qI m.name ((Fc.gq p).take k) ([])
      rw [List.length_take] at x9
      refine I.dK rfl (GC D (A:=[]++((Fc.gq p).take k).map (·.1)) (DS:=Fc.b4 m.name ([m.name]) (Fc.fb m)++Fc.b4 m.name ([]) (Fc.dy m)++Fc.b4 m.name ([]++(Fc.dy m).map (·.1)) (Fc.gS m)++((m.procs.take s).flatMap fun p=>Fc.b4 m.name [] (Fc.gq p))++Fc.b4 m.name ([]) ((Fc.gq p).take k)) b1 (by simp only [List.length_append,List.length_map,List.length_take,List.length_cons,List.length_nil];omega) (by simp only [List.length_append];omega) ((((st.pick 3 rfl).pick 3 rfl).pick 3 rfl):aq (F:: .acc dD 4 b2 ((Fc.b4 m.name ([m.name]) (Fc.fb m)++Fc.b4 m.name ([]) (Fc.dy m)++Fc.b4 m.name ([]++(Fc.dy m).map (·.1)) (Fc.gS m)++((m.procs.take s).flatMap fun p=>Fc.b4 m.name [] (Fc.gq p))++Fc.b4 m.name ([]) ((Fc.gq p).take k)).map Fc.cM.row):: .box cQ [L.str m.name,cg,z2,z3,z4,z5,dZ,b2]:: .box qQ [L.str y.name,L.str y.label, .n y.at_]:: .box dz [L.str m.name, .n m.at_,w.i,w.v,w.p]:: .aE (fun h=>cA h m w):: .box gU [L.str p.name,q.p, .bool p.has,L.str p.result,L.str p.bO,q.u,q.b, .n p.at_]::fs) _)) ?_
      rintro pJ h ⟨f1,hD,fG,st⟩
      rw [show ([]++((Fc.gq p).take k).map (·.1))++[y.name]=[]++((Fc.gq p).take (k+1)).map (·.1) from by rw [Fc.x0 _ pK,List.append_assoc],show (Fc.b4 m.name ([m.name]) (Fc.fb m)++Fc.b4 m.name ([]) (Fc.dy m)++Fc.b4 m.name ([]++(Fc.dy m).map (·.1)) (Fc.gS m)++((m.procs.take s).flatMap fun p=>Fc.b4 m.name [] (Fc.gq p))++Fc.b4 m.name ([]) ((Fc.gq p).take k))++Fc.xZ m.name ([]++((Fc.gq p).take k).map (·.1)) (y.name,y.at_)=Fc.b4 m.name ([m.name]) (Fc.fb m)++Fc.b4 m.name ([]) (Fc.dy m)++Fc.b4 m.name ([]++(Fc.dy m).map (·.1)) (Fc.gS m)++((m.procs.take s).flatMap fun p=>Fc.b4 m.name [] (Fc.gq p))++Fc.b4 m.name ([]) ((Fc.gq p).take (k+1)) from by rw [Fc.Gg _ _ pK];rw [List.append_assoc];rfl] at st
      refine I.nil (WP.ad (I.bS (v:= .int .i64 ((k+1:Nat):Int)) (L.cX rfl rfl (by omega) (And.intro (by omega) (by omega))) (I.nil ?_)))
      exact ⟨k+1,(by omega),_,pJ,hD,fG,(.bool true),(.ptr qQ 0),⟨by omega, .inr ⟨f1,rfl⟩⟩,by kernel_rfl,(st.pick 3 rfl).tail⟩
     ·replace c2:¬(k<p.params.length):=by omega
      rw [List.take_of_length_le (show (Fc.gq p).length≤k by omega),List.append_assoc,←Fc.CW (fun p=>Fc.b4 m.name [] (Fc.gq p)) hp] at st
      replace st:aq (F:: .acc dD 4 b2 ((Fc.b4 m.name ([m.name]) (Fc.fb m)++Fc.b4 m.name ([]) (Fc.dy m)++Fc.b4 m.name ([]++(Fc.dy m).map (·.1)) (Fc.gS m)++(m.procs.take (s+1)).flatMap fun p=>Fc.b4 m.name [] (Fc.gq p)).map Fc.cM.row):: .box cQ [L.str m.name,cg,z2,z3,z4,z5,dZ,b2]:: .box dz [L.str m.name, .n m.at_,w.i,w.v,w.p]:: .aE (fun h=>cA h m w):: .box gU [L.str p.name,q.p, .bool p.has,L.str p.result,L.str p.bO,q.u,q.b, .n p.at_]::fs) h:=by simpa only [List.append_assoc] using st
      refine I.nil (WP.seq (WP.cond (t:=false) rfl (WP.exit (WP.ad (I.bS (v:= .int .i64 ((s+1:Nat):Int)) (L.cX rfl rfl (by omega) (And.intro (by omega) (by omega))) (I.nil ?_))))))
      exact ⟨s+1,(by omega),dD,b2,cR,(.bool true),(.ptr gU 0),(.n k),(.n p.params.length),(.bool false),q.p,uN,by omega,by kernel_rfl,(st.tail.pick 4 rfl).tail⟩
    ·replace c1:¬(s<m.procs.length):=by omega
     rw [List.take_of_length_le (show m.procs.length≤s by omega)] at st
     rw [show Fc.b4 m.name ([m.name]) (Fc.fb m)++Fc.b4 m.name ([]) (Fc.dy m)++Fc.b4 m.name ([]++(Fc.dy m).map (·.1)) (Fc.gS m)++(m.procs.flatMap fun p=>Fc.b4 m.name [] (Fc.gq p))=Fc.v8 m from by unfold Fc.v8;rw [Fc.KY];simp only [List.append_assoc]] at st
     refine I.nil (WP.seq (WP.cond (t:=false) rfl (WP.exit ?_)))
     exact ⟨_,(eX _ _),_,_,(st.pick 2 rfl).tail⟩
theorem acK (D:x8 c) {fs:List Fact} {h:ae} {dD cQ:Nat} {b2 cg z2 z3 z4 z5 dZ:V} {m:e0} {w:lO} {az:List Fc.aL} {DS:List Fc.cM} (ok:lP m w) (hj:az.length<4294967296) (aQ:DS.length<1073741824) (st:aq (.aE (fun h=>dU h cg az):: .acc dD 4 b2 (DS.map Fc.cM.row):: .box cQ [L.str m.name,cg,z2,z3,z4,z5,dZ,b2]:: .aE (fun h=>cA h m w)::fs) h):
 bT c 26 [.ptr cQ 0, .agg (CY m w)] h fun _ h1=>∃hD fG,aq (.aE (fun h=>dU h cg az):: .acc hD 4 fG ((DS++Fc.Gh m az).map Fc.cM.row):: .box cQ [L.str m.name,cg,z2,z3,z4,z5,dZ,fG]:: .aE (fun h=>cA h m w)::fs) h1:=by
 have rU:=ok.x3
 have RN:=ok.jh
 have acH:(Fc.gT m).length=m.vars.length:=List.length_map _
 have yb:∀p∈m.procs,(Fc.jb m.name az p).length≤8195:=fun p hp=>Fc.QM _ _ (ok.pa p hp).1
 have acL:=Fc.CX (f:=(Fc.unk m.name az)) (l:=Fc.gT m) (n:=1) (fun x _=>Fc.v7 _ _ x) (Fc.gT m).length
 rw [List.take_length] at acL
 refine bT.dN D.f26 rfl (WP.ak (I.dI st (L.box (l:=[L.str m.name, .n m.at_,w.i,w.v,w.p]) rfl rfl) (fun dz h st=> ?_)))
 refine I.nil (WP.seq (WP.ak (I.f (.ptr dz 3) (I.pw w.v (st.aN 0 rfl) (I.bS (v:= .n m.vars.length) (L.fD rfl (cA.vars (st.bt 4 rfl)) (List.length_map _)) (I.aC (.int .i64 0) (I.nil (WP.block ?_))))))))
 replace st:aq (.box dz [L.str m.name, .n m.at_,w.i,w.v,w.p]:: .aE (fun h=>dU h cg az):: .acc dD 4 b2 ((DS++((Fc.gT m).take 0).flatMap (Fc.unk m.name az)).map Fc.cM.row):: .box cQ [L.str m.name,cg,z2,z3,z4,z5,dZ,b2]:: .aE (fun h=>cA h m w)::fs) h:=by rw [List.take_zero,List.flatMap_nil,List.append_nil];exact st
 refine WP.dS (α:=Nat) (fun i env h=>∃dD b2 eO dH,(i≤m.vars.length)∧env=c6 [.ptr cQ 0, .agg [L.str m.name, .n m.at_,w.i,w.v,w.p], .ptr dz 0, .n i, .n m.vars.length,eO,w.v,dH] 0 Env.nil∧aq (.aE (fun h=>dU h cg az):: .acc dD 4 b2 ((DS++((Fc.gT m).take i).flatMap (Fc.unk m.name az)).map Fc.cM.row):: .box cQ [L.str m.name,cg,z2,z3,z4,z5,dZ,b2]:: .box dz [L.str m.name, .n m.at_,w.i,w.v,w.p]:: .aE (fun h=>cA h m w)::fs) h) (fun i=>m.vars.length - i) 0 ?_ ?_
 ·exact ⟨dD,b2, .bot, .bot,Nat.zero_le _,by kernel_rfl,(((st.pick 3 rfl).pick 3 rfl).pick 3 rfl)⟩
 rintro i _ h ⟨dD,b2,eO,dH,zj,rfl,st⟩
 have RR:=Fc.CX (f:=(Fc.unk m.name az)) (l:=Fc.gT m) (n:=1) (fun x _=>Fc.v7 _ _ x) i
 refine WP.ak (I.bV (L.lss rfl rfl) (fun c1=> ?_) (fun c1=> ?_))
 ·replace c1:i<m.vars.length:=by omega
  obtain ⟨x,hx⟩:∃y,m.vars[i]? =some y:=⟨m.vars[i]'(by omega),List.getElem?_eq_getElem (by omega)⟩
  refine I.nil (WP.seq (WP.cond (t:=true) rfl (WP.skip (WP.seq (WP.block (WP.ak (I.val (v:= .ptr (cY w.v) (db w.v+i * 4)) (L.bY (Rows.au (cA.vars (st.bt 4 rfl)) (by rw [List.length_map];exact c1)) rfl (by rw [List.length_map];exact c1)) (I.val (v:= .agg [L.str x.name,L.str x.label, .int .i64 x.init, .n x.at_]) (L.da rfl (Rows.lD (i:=i) (cA.vars (st.bt 4 rfl)) (by rw [List.getElem?_map,hx];rfl))) ?_))))))))
  refine I.dI st L.alloc (fun gU h st=> ?_)
  refine I.bM (row':=[L.str x.name,L.str x.label, .int .i64 x.init, .n x.at_]) st 0 rfl rfl rfl rfl rfl rfl rfl (fun h st=> ?_)
  refine I.nil (WP.ad (I.f (.ptr gU 1) (I.b (L.str x.label) (st.aN 0 rfl) (I.f (.ptr gU 3) (I.b (.n x.at_) (st.aN 0 rfl) (I.bx rfl (C5 D (DS:=DS++((Fc.gT m).take i).flatMap (Fc.unk m.name az)) hj (by simp only [List.length_append];omega) ((((st.pick 3 rfl).pick 3 rfl).pick 3 rfl):aq (.aE (fun h=>dU h cg az):: .acc dD 4 b2 ((DS++((Fc.gT m).take i).flatMap (Fc.unk m.name az)).map Fc.cM.row):: .box cQ [L.str m.name,cg,z2,z3,z4,z5,dZ,b2]:: .box gU [L.str x.name,L.str x.label, .int .i64 x.init, .n x.at_]:: .box dz [L.str m.name, .n m.at_,w.i,w.v,w.p]:: .aE (fun h=>cA h m w)::fs) _)) ?_))))))
  rintro _ h ⟨hD,fG,st⟩
  rw [show (DS++((Fc.gT m).take i).flatMap (Fc.unk m.name az))++Fc.unk m.name az (x.label,x.at_)=DS++((Fc.gT m).take (i+1)).flatMap (Fc.unk m.name az) from (by rw [List.append_assoc,←Fc.CW (Fc.unk m.name az) (show (Fc.gT m)[i]? =some (x.label,x.at_) from by unfold Fc.gT;rw [List.getElem?_map,hx];rfl)])] at st
  refine I.nil (WP.ad (I.bS (v:= .int .i64 ((i+1:Nat):Int)) (L.cX rfl rfl (by omega) (And.intro (by omega) (by omega))) (I.nil ?_)))
  exact ⟨i+1,(by omega),hD,fG,(.bool true),(.ptr gU 0),by omega,by kernel_rfl,(st.pick 3 rfl).tail⟩
 ·replace c1:¬(i<m.vars.length):=by omega
  rw [List.take_of_length_le (show (Fc.gT m).length≤i by omega)] at st RR
  refine I.nil (WP.seq (WP.cond (t:=false) rfl (WP.exit (WP.ak (I.f (.ptr dz 4) (I.pw w.p (st.aN 3 rfl) (I.bS (v:= .n m.procs.length) (L.fD rfl (cA.procs (st.bt 4 rfl)) (nP ok.len)) (I.aC (.int .i64 0) (I.nil (WP.block ?_))))))))))
  replace st:aq (.aE (fun h=>dU h cg az):: .acc dD 4 b2 ((DS++(Fc.gT m).flatMap (Fc.unk m.name az)++(m.procs.take 0).flatMap (Fc.jb m.name az)).map Fc.cM.row):: .box cQ [L.str m.name,cg,z2,z3,z4,z5,dZ,b2]:: .box dz [L.str m.name, .n m.at_,w.i,w.v,w.p]:: .aE (fun h=>cA h m w)::fs) h:=by rw [List.take_zero,List.flatMap_nil,List.append_nil];exact st
  refine WP.dS (α:=Nat) (fun j env h=>∃dD b2 gw pM fX rW wj oI dL pL,(j≤m.procs.length)∧env=c6 [.ptr cQ 0, .agg [L.str m.name, .n m.at_,w.i,w.v,w.p], .ptr dz 0, .n i, .n m.vars.length, .bool false,w.v,dH, .n j, .n m.procs.length,gw,w.p,pM,fX,rW,wj,oI,dL,pL] 0 Env.nil∧aq (.aE (fun h=>dU h cg az):: .acc dD 4 b2 ((DS++(Fc.gT m).flatMap (Fc.unk m.name az)++(m.procs.take j).flatMap (Fc.jb m.name az)).map Fc.cM.row):: .box cQ [L.str m.name,cg,z2,z3,z4,z5,dZ,b2]:: .box dz [L.str m.name, .n m.at_,w.i,w.v,w.p]:: .aE (fun h=>cA h m w)::fs) h) (fun j=>m.procs.length - j) 0 ?_ ?_
  ·exact ⟨dD,b2, .bot, .bot, .bot, .bot, .bot, .bot, .bot, .bot,Nat.zero_le _,by kernel_rfl,st⟩
  rintro j _ h ⟨dD,b2,gw,pM,fX,rW,wj,oI,dL,pL,acI,rfl,st⟩
  have kk:=Fc.CX (f:=Fc.jb m.name az) (l:=m.procs) (n:=8195) (yb) j
  refine WP.ak (I.bV (L.lss rfl rfl) (fun c1=> ?_) (fun c1=> ?_))
  ·replace c1:j<m.procs.length:=by omega
   obtain ⟨p,hp⟩:∃p,m.procs[j]? =some p:=⟨m.procs[j]'(by omega),List.getElem?_eq_getElem (by omega)⟩
   obtain ⟨q,bB,tP,GD,hM⟩:=ok.pv hp
   refine I.nil (WP.seq (WP.cond (t:=true) rfl (WP.skip (WP.seq (WP.block (WP.ak (I.val (v:= .ptr (cY w.p) (db w.p+j * 8)) (L.bY (Rows.au (cA.procs (st.bt 4 rfl)) (by rw [nP ok.len];exact c1)) rfl (by rw [nP ok.len];exact c1)) (I.val (v:= .agg [L.str p.name,q.p, .bool p.has,L.str p.result,L.str p.bO,q.u,q.b, .n p.at_]) (L.da rfl (Rows.lD (i:=j) (cA.procs (st.bt 4 rfl)) (show _=some [L.str p.name,q.p, .bool p.has,L.str p.result,L.str p.bO,q.u,q.b, .n p.at_] from wc hp bB))) (I.dI st L.alloc (fun fc h st=> ?_))))))))))
   refine I.bM (row':=[L.str p.name,q.p, .bool p.has,L.str p.result,L.str p.bO,q.u,q.b, .n p.at_]) st 0 rfl rfl rfl rfl rfl rfl rfl (fun h st=> ?_)
   refine I.nil (WP.seq (WP.ak (I.f (.ptr fc 1) (I.pw q.p (st.aN 0 rfl) (I.bS (v:= .n p.params.length) (L.fD rfl (((cA.all (st.bt 5 rfl)) _ p q hp bB).1) (List.length_map _)) (I.aC (.int .i64 0) (I.nil (WP.block ?_))))))))
   replace st:aq (.box fc [L.str p.name,q.p, .bool p.has,L.str p.result,L.str p.bO,q.u,q.b, .n p.at_]:: .aE (fun h=>dU h cg az):: .acc dD 4 b2 ((DS++(Fc.gT m).flatMap (Fc.unk m.name az)++(m.procs.take j).flatMap (Fc.jb m.name az)++((Fc.kf p).take 0).flatMap (Fc.unk m.name az)).map Fc.cM.row):: .box cQ [L.str m.name,cg,z2,z3,z4,z5,dZ,b2]:: .box dz [L.str m.name, .n m.at_,w.i,w.v,w.p]:: .aE (fun h=>cA h m w)::fs) h:=by rw [List.take_zero,List.flatMap_nil,List.append_nil];exact st
   have acJ:(Fc.kf p).length=p.params.length:=List.length_map _
   refine WP.dS (α:=Nat) (fun k env h=>∃dD b2 wj dL,(k≤p.params.length)∧env=c6 [.ptr cQ 0, .agg [L.str m.name, .n m.at_,w.i,w.v,w.p], .ptr dz 0, .n i, .n m.vars.length, .bool false,w.v,dH, .n j, .n m.procs.length, .bool true,w.p, .ptr fc 0, .n k, .n p.params.length,wj,q.p,dL,pL] 0 Env.nil∧aq (.aE (fun h=>dU h cg az):: .acc dD 4 b2 ((DS++(Fc.gT m).flatMap (Fc.unk m.name az)++(m.procs.take j).flatMap (Fc.jb m.name az)++((Fc.kf p).take k).flatMap (Fc.unk m.name az)).map Fc.cM.row):: .box cQ [L.str m.name,cg,z2,z3,z4,z5,dZ,b2]:: .box dz [L.str m.name, .n m.at_,w.i,w.v,w.p]:: .aE (fun h=>cA h m w):: .box fc [L.str p.name,q.p, .bool p.has,L.str p.result,L.str p.bO,q.u,q.b, .n p.at_]::fs) h) (fun k=>p.params.length - k) 0 ?_ ?_
   ·exact ⟨dD,b2,wj,dL,Nat.zero_le _,by kernel_rfl,(((((st.pick 5 rfl).pick 5 rfl).pick 5 rfl).pick 5 rfl).pick 5 rfl)⟩
   rintro k _ h ⟨dD,b2,wj,dL,wQ,rfl,st⟩
   have acM:=Fc.CX (f:=(Fc.unk m.name az)) (l:=Fc.kf p) (n:=1) (fun x _=>Fc.v7 _ _ x) k
   refine WP.ak (I.bV (L.lss rfl rfl) (fun c2=> ?_) (fun c2=> ?_))
   ·replace c2:k<p.params.length:=by omega
    obtain ⟨y,hy⟩:∃y,p.params[k]? =some y:=⟨p.params[k]'(by omega),List.getElem?_eq_getElem (by omega)⟩
    refine I.nil (WP.seq (WP.cond (t:=true) rfl (WP.skip (WP.seq (WP.block (WP.ak (I.val (v:= .ptr (cY q.p) (db q.p+k * 3)) (L.bY (Rows.au (((cA.all (st.bt 4 rfl)) _ p q hp bB).1) (by rw [List.length_map];exact c2)) rfl (by rw [List.length_map];exact c2)) (I.val (v:= .agg [L.str y.name,L.str y.label, .n y.at_]) (L.da rfl (Rows.lD (i:=k) (((cA.all (st.bt 4 rfl)) _ p q hp bB).1) (by rw [List.getElem?_map,hy];rfl))) ?_))))))))
    refine I.dI st L.alloc (fun qQ h st=> ?_)
    refine I.bM (row':=[L.str y.name,L.str y.label, .n y.at_]) st 0 rfl rfl rfl rfl rfl rfl rfl (fun h st=> ?_)
    refine I.nil (WP.ad (I.f (.ptr qQ 1) (I.b (L.str y.label) (st.aN 0 rfl) (I.f (.ptr qQ 2) (I.b (.n y.at_) (st.aN 0 rfl) (I.bx rfl (C5 D (DS:=DS++(Fc.gT m).flatMap (Fc.unk m.name az)++(m.procs.take j).flatMap (Fc.jb m.name az)++((Fc.kf p).take k).flatMap (Fc.unk m.name az)) hj (by simp only [List.length_append];omega) ((((st.pick 3 rfl).pick 3 rfl).pick 3 rfl):aq (.aE (fun h=>dU h cg az):: .acc dD 4 b2 ((DS++(Fc.gT m).flatMap (Fc.unk m.name az)++(m.procs.take j).flatMap (Fc.jb m.name az)++((Fc.kf p).take k).flatMap (Fc.unk m.name az)).map Fc.cM.row):: .box cQ [L.str m.name,cg,z2,z3,z4,z5,dZ,b2]:: .box qQ [L.str y.name,L.str y.label, .n y.at_]:: .box dz [L.str m.name, .n m.at_,w.i,w.v,w.p]:: .aE (fun h=>cA h m w):: .box fc [L.str p.name,q.p, .bool p.has,L.str p.result,L.str p.bO,q.u,q.b, .n p.at_]::fs) _)) ?_))))))
    rintro _ h ⟨hD,fG,st⟩
    rw [show (DS++(Fc.gT m).flatMap (Fc.unk m.name az)++(m.procs.take j).flatMap (Fc.jb m.name az)++((Fc.kf p).take k).flatMap (Fc.unk m.name az))++Fc.unk m.name az (y.label,y.at_)=DS++(Fc.gT m).flatMap (Fc.unk m.name az)++(m.procs.take j).flatMap (Fc.jb m.name az)++((Fc.kf p).take (k+1)).flatMap (Fc.unk m.name az) from (by rw [List.append_assoc,←Fc.CW (Fc.unk m.name az) (show (Fc.kf p)[k]? =some (y.label,y.at_) from by unfold Fc.kf;rw [List.getElem?_map,hy];rfl)])] at st
    refine I.nil (WP.ad (I.bS (v:= .int .i64 ((k+1:Nat):Int)) (L.cX rfl rfl (by omega) (And.intro (by omega) (by omega))) (I.nil ?_)))
    exact ⟨k+1,(by omega),hD,fG,(.bool true),(.ptr qQ 0),by omega,by kernel_rfl,(st.pick 3 rfl).tail⟩
   ·replace c2:¬(k<p.params.length):=by omega
    rw [List.take_of_length_le (show (Fc.kf p).length≤k by omega)] at st acM
    refine I.nil (WP.seq (WP.cond (t:=false) rfl (WP.exit (WP.seq (WP.ak (I.f (.ptr fc 2) ?_))))))
    have iJ:=Fc.v7 m.name az (p.result,p.at_)
    rcases uz p.has with hb|hb
    ·refine I.bS (v:= .bool false) ((L.fM rfl (st.aN 5 rfl) rfl).trans (by rw [hb])) (I.bw (WP.skip (WP.ad (I.f (.ptr fc 4) (I.b (L.str p.bO) (st.aN 5 rfl) (I.f (.ptr fc 7) (I.b (.n p.at_) (st.aN 5 rfl) (I.bx rfl (C5 D (DS:=DS++(Fc.gT m).flatMap (Fc.unk m.name az)++(m.procs.take j).flatMap (Fc.jb m.name az)++(Fc.kf p).flatMap (Fc.unk m.name az)) hj (by simp only [List.length_append];omega) st) ?_))))))))
     rintro _ h ⟨hD,fG,st⟩
     rw [show (DS++(Fc.gT m).flatMap (Fc.unk m.name az)++(m.procs.take j).flatMap (Fc.jb m.name az)++(Fc.kf p).flatMap (Fc.unk m.name az))++Fc.unk m.name az (p.bO,p.at_)=DS++(Fc.gT m).flatMap (Fc.unk m.name az)++(m.procs.take (j+1)).flatMap (Fc.jb m.name az) from (by rw [Fc.CW _ hp,Fc.jb,hb];simp only [if_true,List.append_nil,List.append_assoc,Bool.false_eq_true,if_false,reduceIte])] at st
     refine I.nil (WP.ad (I.bS (v:= .int .i64 ((j+1:Nat):Int)) (L.cX rfl rfl (by omega) (And.intro (by omega) (by omega))) (I.nil ?_)))
     exact ⟨j+1,(by omega),hD,fG,(.bool true),(.ptr fc 0),(.n k),(.n p.params.length),(.bool false),q.p,dL,(.bool false),by omega,by kernel_rfl,(st.pick 5 rfl).tail⟩
    ·refine I.bS (v:= .bool true) ((L.fM rfl (st.aN 5 rfl) rfl).trans (by rw [hb])) (I.bI (WP.ad (I.f (.ptr fc 3) (I.b (L.str p.result) (st.aN 5 rfl) (I.f (.ptr fc 7) (I.b (.n p.at_) (st.aN 5 rfl) (I.bx rfl (C5 D (DS:=DS++(Fc.gT m).flatMap (Fc.unk m.name az)++(m.procs.take j).flatMap (Fc.jb m.name az)++(Fc.kf p).flatMap (Fc.unk m.name az)) hj (by simp only [List.length_append];omega) st) ?_)))))))
     rintro _ h ⟨hD,fG,st⟩
     rw [show (DS++(Fc.gT m).flatMap (Fc.unk m.name az)++(m.procs.take j).flatMap (Fc.jb m.name az)++(Fc.kf p).flatMap (Fc.unk m.name az))++Fc.unk m.name az (p.result,p.at_)=DS++(Fc.gT m).flatMap (Fc.unk m.name az)++(m.procs.take j).flatMap (Fc.jb m.name az)++(Fc.kf p).flatMap (Fc.unk m.name az)++Fc.unk m.name az (p.result,p.at_) from rfl] at st
     refine I.nil (WP.ad (I.f (.ptr fc 4) (I.b (L.str p.bO) (st.aN 5 rfl) (I.f (.ptr fc 7) (I.b (.n p.at_) (st.aN 5 rfl) (I.bx rfl (C5 D (DS:=DS++(Fc.gT m).flatMap (Fc.unk m.name az)++(m.procs.take j).flatMap (Fc.jb m.name az)++(Fc.kf p).flatMap (Fc.unk m.name az)++Fc.unk m.name az (p.result,p.at_)) hj (by simp only [List.length_append];omega) st) ?_))))))
     rintro _ h ⟨hD,fG,st⟩
     rw [show (DS++(Fc.gT m).flatMap (Fc.unk m.name az)++(m.procs.take j).flatMap (Fc.jb m.name az)++(Fc.kf p).flatMap (Fc.unk m.name az)++Fc.unk m.name az (p.result,p.at_))++Fc.unk m.name az (p.bO,p.at_)=DS++(Fc.gT m).flatMap (Fc.unk m.name az)++(m.procs.take (j+1)).flatMap (Fc.jb m.name az) from (by rw [Fc.CW _ hp,Fc.jb,hb];simp only [if_true,List.append_nil,List.append_assoc,Bool.false_eq_true,if_false,reduceIte])] at st
     refine I.nil (WP.ad (I.bS (v:= .int .i64 ((j+1:Nat):Int)) (L.cX rfl rfl (by omega) (And.intro (by omega) (by omega))) (I.nil ?_)))
     exact ⟨j+1,(by omega),hD,fG,(.bool true),(.ptr fc 0),(.n k),(.n p.params.length),(.bool false),q.p,dL,(.bool true),by omega,by kernel_rfl,(st.pick 5 rfl).tail⟩
  ·replace c1:¬(j<m.procs.length):=by omega
   rw [List.take_of_length_le (show m.procs.length≤j by omega),List.append_assoc] at st
   refine I.nil (WP.seq (WP.cond (t:=false) rfl (WP.exit ?_)))
   exact ⟨_,(eX _ _),_,_,(st.pick 3 rfl).tail⟩
end
end Go.Eng.YtmcjcbldmoijiaaGreatDoor
