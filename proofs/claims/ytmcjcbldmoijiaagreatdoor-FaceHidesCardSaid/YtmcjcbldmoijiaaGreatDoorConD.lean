/- Part of a proof of a law: rules of an evaluator, contracts, plain laws. No condition of its own. -/
import Derived.Test.YtmcjcbldmoijiaaGreatDoorSymA
import Derived.Test.YtmcjcbldmoijiaaGreatDoorConC
import Derived.Test.YtmcjcbldmoijiaaGreatDoorSymI
import Derived.Test.YtmcjcbldmoijiaaGreatDoorSymG
import Derived.Test.YtmcjcbldmoijiaaGreatDoorCodeA
set_option linter.unusedVariables false
set_option linter.unusedSimpArgs false
namespace Go.Eng.YtmcjcbldmoijiaaGreatDoor
open Go.Eng
noncomputable section
variable {c:Ctx}
structure uO (c:Ctx):Prop where
 f12:T.get 12 c.cE=some i12
 f13:T.get 13 c.cE=some i13
 a:zY c
theorem ac2 (x:Fc.cM):cK.eqs [(0, .str),(1, .int),(2, .int),(3, .str)] [L.str x.mod, .n x.at_, .n x.code,L.str x.name] [L.str x.mod, .n x.at_, .n x.code,L.str x.name]=some true:=
 cK.vB rfl (cK.Fg _) (cK.vB rfl (cK.Ff _) (cK.vB rfl (cK.Ff _) (cK.vB rfl (cK.Fg _) (by simp [cK.eqs]))))
theorem ac3 (x:Fc.aL×Fc.aL):cK.eqs [(0, .str),(1, .str),(2, .int),(3, .int)] [L.str x.1,L.str x.2, .int .i64 0, .int .i64 0] [L.str x.1,L.str x.2, .int .i64 0, .int .i64 0]=some true:=
 cK.vB rfl (cK.Fg _) (cK.vB rfl (cK.Fg _) (cK.vB rfl (cK.Ff _) (cK.vB rfl (cK.Ff _) (by simp [cK.eqs]))))
theorem R0 (D:uO c) {h0:ae} {v1 v2:V} {DS:List Fc.cM} (hn:DS.length<4294967296) (R:Rows 4 h0 v1 (DS.map Fc.cM.row)) (xV:Rows 4 h0 v2 (DS.map Fc.cM.row)):
 bT c 13 [v1,v2] h0 fun v h1=>v= .bool true∧h1=h0:=by
 refine bT.dN D.f13 rfl (WP.ak (I.aC (.bool false) (I.nil (WP.seq (WP.ak (I.val (v:= .n DS.length) (L.fD rfl R (List.length_map _)) (I.val (v:= .n DS.length) (L.fD rfl xV (List.length_map _)) (I.bV (L.neq rfl rfl) (fun c1=>by exfalso;omega) (fun c1=> ?_)))))))))
 refine I.bw (WP.skip (WP.seq (WP.ak (I.aC (.int .i64 0) (I.nil (WP.block (WP.dS (α:=Nat) (fun k env rK=>∃bR eO c4,(k≤DS.length)∧env=c6 [v1,v2,bR, .bool false, .n k,eO,c4] 0 Env.nil∧rK=h0) (fun k=>DS.length - k) 0 ?_ ?_)))))))
 ·exact ⟨(.bool false), .bot, .bot,Nat.zero_le _,by kernel_rfl,rfl⟩
 rintro k _ h ⟨bR,eO,c4,hk,rfl,rfl⟩
 refine WP.seq (WP.ak (I.val (v:= .n DS.length) (L.fD rfl R (List.length_map _)) (I.bV (L.lss rfl rfl) (fun c1=> ?_) (fun c1=> ?_))))
 ·replace c1:k<DS.length:=by omega
  obtain ⟨x,hx⟩:∃y,DS[k]? =some y:=⟨DS[k]'(by omega),List.getElem?_eq_getElem (by omega)⟩
  refine I.bI (WP.skip (WP.seq (WP.block (WP.seq (WP.draw (af.v v1 (af.v (.n k) (af.val (v:= .ptr (cY v1) (db v1+k * 4)) (L.bY (Rows.au R (by rw [List.length_map];exact c1)) rfl (by rw [List.length_map];exact c1)) (af.val (v:= .agg [L.str x.mod, .n x.at_, .n x.code,L.str x.name]) (L.da rfl (Rows.lD (i:=k) R (by rw [List.getElem?_map,hx];rfl))) ?_)))))))))
  refine af.v v2 (af.v (.n k) (af.val (v:= .ptr (cY v2) (db v2+k * 4)) (L.bY (Rows.au xV (by rw [List.length_map];exact c1)) rfl (by rw [List.length_map];exact c1)) (af.val (v:= .agg [L.str x.mod, .n x.at_, .n x.code,L.str x.name]) (L.da rfl (Rows.lD (i:=k) xV (by rw [List.getElem?_map,hx];rfl))) ?_)))
  refine af.bS (v:= .bool false) (L.OZ rfl rfl (ac2 x)) (af.nil (WP.cond (t:=false) rfl (WP.skip (WP.ad (I.bS (v:= .int .i64 ((k+1:Nat):Int)) (L.cX rfl rfl (by omega) (And.intro (by omega) (by omega))) (I.nil ?_))))))
  exact ⟨k+1,(by omega),bR,(.bool true),(.bool false),by omega,by kernel_rfl,rfl⟩
 ·replace c1:¬(k<DS.length):=by omega
  refine I.bw (WP.exit (WP.ak (I.aC (.bool true) (I.nil (WP.ret ?_)))))
  exact ⟨_,(b0 (.bool true)),rfl,rfl⟩
theorem ac4 {gs gt:List (Fc.gi×fp)} (h:gt.map (·.1)=gs.map (·.1)) {j:Nat} {g:Fc.gi} {q:fp} (aR:gs[j]? =some (g,q)):∃c0,gt[j]? =some (g,c0):=by
 have:=congrArg (fun l=>l[j]?) h
 simp only [List.getElem?_map,aR,Option.map_some] at this
 cases e:gt[j]? with
 |none=>rw [e] at this;cases this
 |some y=>rw [e] at this;obtain ⟨g2,c0⟩:=y;cases this;exact ⟨c0,rfl⟩
theorem ac5 (D:uO c) {fs:List Fact} {h:ae} {a1 ff a2 eQ:V} {vs:List (Fc.aL×Fc.aL)} {gs gt:List (Fc.gi×fp)} (hn:vs.length<4294967296) (hm:gs.length<4294967296) (CR:gt.map (·.1)=gs.map (·.1)) (ni:∀g∈gs.map (·.1),g.params.length<4294967296∧g.gp.length<4294967296) (st:aq (.aE (fun h=>Rows 4 h a1 (vs.map Fc.ng)):: .aE (fun h=>Rows 4 h a2 (vs.map Fc.ng)):: .aE (fun h=>Rows 6 h ff (gu gs)):: .aE (fun h=>Rows 6 h eQ (gu gt)):: .aE (fun h=>kL h gs):: .aE (fun h=>kL h gt)::fs) h):
 bT c 12 [.agg [a1,ff], .agg [a2,eQ]] h fun v h1=>v= .bool true∧aq fs h1:=by
 have RX:gt.length=gs.length:=by simpa using congrArg List.length CR
 refine bT.dN D.f12 rfl (WP.ak (I.dI st (L.box (l:=[a1,ff]) rfl rfl) (fun tf h st=> ?_)))
 refine I.dI st (L.box (l:=[a2,eQ]) rfl rfl) (fun wm h st=> ?_)
 refine I.aC (.bool false) (I.nil (WP.seq (WP.ak (I.f (.ptr tf 0) (I.b a1 (st.aN 1 rfl) (I.val (v:= .n vs.length) (L.fD rfl (st.bt 2 rfl) (List.length_map _)) (I.f (.ptr wm 0) (I.b a2 (st.aN 0 rfl) (I.val (v:= .n vs.length) (L.fD rfl (st.bt 3 rfl) (List.length_map _)) (I.ej (L.neq rfl rfl) (fun c1=>by exfalso;exact c1 rfl) (fun c1=> ?_)))))))))))
 refine I.yes rfl (I.f (.ptr tf 1) (I.yes rfl (I.b ff (st.aN 1 rfl) (I.yes rfl (I.val (v:= .n gs.length) (L.fD rfl (st.bt 4 rfl) (by unfold gu;rw [List.length_map])) (I.yes rfl (I.f (.ptr wm 1) (I.yes rfl (I.b eQ (st.aN 0 rfl) (I.yes rfl (I.val (v:= .n gs.length) (L.fD rfl (st.bt 5 rfl) (by unfold gu;rw [List.length_map];exact RX)) (I.yes rfl (I.ej (L.neq rfl rfl) (fun c2=>by exfalso;exact c2 rfl) (fun c2=> ?_))))))))))))))
 refine I.aC (.bool false) (I.bw (WP.skip (WP.seq (WP.ak (I.aC (.int .i64 0) (I.nil (WP.block (WP.dS (α:=Nat) (fun i env h=>∃bR dH eo,(i≤vs.length)∧env=c6 [.agg [a1,ff], .agg [a2,eQ],bR, .ptr tf 0, .ptr wm 0, .bool false, .n i,dH,eo] 0 Env.nil∧aq (.box tf [a1,ff]:: .box wm [a2,eQ]:: .aE (fun h=>Rows 4 h a1 (vs.map Fc.ng)):: .aE (fun h=>Rows 4 h a2 (vs.map Fc.ng)):: .aE (fun h=>Rows 6 h ff (gu gs)):: .aE (fun h=>Rows 6 h eQ (gu gt)):: .aE (fun h=>kL h gs):: .aE (fun h=>kL h gt)::fs) h) (fun i=>vs.length - i) 0 ?_ ?_))))))))
 ·exact ⟨(.bool false), .bot, .bot,Nat.zero_le _,by kernel_rfl,(st.pick 1 rfl)⟩
 rintro i _ h ⟨bR,dH,eo,ag,rfl,st⟩
 refine WP.seq (WP.ak (I.f (.ptr tf 0) (I.b a1 (st.aN 0 rfl) (I.val (v:= .n vs.length) (L.fD rfl (st.bt 2 rfl) (List.length_map _)) (I.bV (L.lss rfl rfl) (fun c1=> ?_) (fun c1=> ?_))))))
 ·replace c1:i<vs.length:=by omega
  obtain ⟨x,hx⟩:∃y,vs[i]? =some y:=⟨vs[i]'(by omega),List.getElem?_eq_getElem (by omega)⟩
  refine I.bI (WP.skip (WP.seq (WP.block (WP.seq (WP.draw (af.f (.ptr tf 0) (af.b a1 (st.aN 0 rfl) (af.v (.n i) (af.val (v:= .ptr (cY a1) (db a1+i * 4)) (L.bY (Rows.au (i:=i) (st.bt 2 rfl) (by rw [List.length_map];exact c1)) rfl (by rw [List.length_map];exact c1)) (af.val (v:= .agg [L.str x.1,L.str x.2, .int .i64 0, .int .i64 0]) (L.da rfl (Rows.lD (i:=i) (st.bt 2 rfl) (by rw [List.getElem?_map,hx];rfl))) ?_))))))))))
  refine af.f (.ptr wm 0) (af.b a2 (st.aN 1 rfl) (af.v (.n i) (af.val (v:= .ptr (cY a2) (db a2+i * 4)) (L.bY (Rows.au (i:=i) (st.bt 3 rfl) (by rw [List.length_map];exact c1)) rfl (by rw [List.length_map];exact c1)) (af.val (v:= .agg [L.str x.1,L.str x.2, .int .i64 0, .int .i64 0]) (L.da rfl (Rows.lD (i:=i) (st.bt 3 rfl) (by rw [List.getElem?_map,hx];rfl))) ?_))))
  refine af.bS (v:= .bool false) (L.OZ rfl rfl (ac3 x)) (af.nil (WP.cond (t:=false) rfl (WP.skip (WP.ad (I.bS (v:= .int .i64 ((i+1:Nat):Int)) (L.cX rfl rfl (by omega) (And.intro (by omega) (by omega))) (I.nil ?_))))))
  exact ⟨i+1,(by omega),bR,(.bool true),(.bool false),by omega,by kernel_rfl,st⟩
 ·replace c1:¬(i<vs.length):=by omega
  refine I.bw (WP.exit (WP.seq (WP.ak (I.aC (.int .i64 0) (I.nil (WP.block (WP.dS (α:=Nat) (fun j env h=>∃bR gw k9 pM fX,(j≤gs.length)∧env=c6 [.agg [a1,ff], .agg [a2,eQ],bR, .ptr tf 0, .ptr wm 0, .bool false, .n i, .bool false,eo, .n j,gw,k9,pM,fX] 0 Env.nil∧aq (.box tf [a1,ff]:: .box wm [a2,eQ]:: .aE (fun h=>Rows 4 h a1 (vs.map Fc.ng)):: .aE (fun h=>Rows 4 h a2 (vs.map Fc.ng)):: .aE (fun h=>Rows 6 h ff (gu gs)):: .aE (fun h=>Rows 6 h eQ (gu gt)):: .aE (fun h=>kL h gs):: .aE (fun h=>kL h gt)::fs) h) (fun j=>gs.length - j) 0 ?_ ?_)))))))
  ·exact ⟨bR, .bot, .bot, .bot, .bot,Nat.zero_le _,by kernel_rfl,st⟩
  rintro j _ h ⟨bR,gw,k9,pM,fX,aR,rfl,st⟩
  refine WP.seq (WP.ak (I.f (.ptr tf 1) (I.b ff (st.aN 0 rfl) (I.val (v:= .n gs.length) (L.fD rfl (st.bt 4 rfl) (by unfold gu;rw [List.length_map])) (I.bV (L.lss rfl rfl) (fun c1=> ?_) (fun c1=> ?_))))))
  ·replace c1:j<gs.length:=by omega
   obtain ⟨⟨g,q1⟩,pO⟩:∃y,gs[j]? =some y:=⟨gs[j]'(by omega),List.getElem?_eq_getElem (by omega)⟩
   obtain ⟨c0,GH⟩:∃c0,gt[j]? =some (g,c0):=ac4 CR pO
   have ac6:=(ni g (List.mem_map.2 ⟨_,List.mem_of_getElem? pO,rfl⟩)).1
   have ac7:=(ni g (List.mem_map.2 ⟨_,List.mem_of_getElem? pO,rfl⟩)).2
   refine I.bI (WP.skip (WP.seq (WP.block (WP.seq (WP.draw (af.f (.ptr tf 1) (af.b ff (st.aN 0 rfl) (af.v (.n j) (af.val (v:= .ptr (cY ff) (db ff+j * 6)) (L.bY (Rows.au (i:=j) (st.bt 4 rfl) (by unfold gu;rw [List.length_map];omega)) rfl (by unfold gu;rw [List.length_map];omega)) (af.val (v:= .agg [L.str g.name,q1.p, .bool g.has,L.str g.result,L.str g.bO,q1.u]) (L.da rfl (Rows.lD (i:=j) (st.bt 4 rfl) (show _=some [L.str g.name,q1.p, .bool g.has,L.str g.result,L.str g.bO,q1.u] from by unfold gu;rw [List.getElem?_map,pO];rfl))) ?_))))))))))
   refine af.f (.ptr wm 1) (af.b eQ (st.aN 1 rfl) (af.v (.n j) (af.val (v:= .ptr (cY eQ) (db eQ+j * 6)) (L.bY (Rows.au (i:=j) (st.bt 5 rfl) (by unfold gu;rw [List.length_map];omega)) rfl (by unfold gu;rw [List.length_map];omega)) (af.val (v:= .agg [L.str g.name,c0.p, .bool g.has,L.str g.result,L.str g.bO,c0.u]) (L.da rfl (Rows.lD (i:=j) (st.bt 5 rfl) (show _=some [L.str g.name,c0.p, .bool g.has,L.str g.result,L.str g.bO,c0.u] from by unfold gu;rw [List.getElem?_map,GH];rfl))) ?_))))
   refine af.dI st L.alloc (fun ye h st=> ?_)
   refine af.dI st L.alloc (fun yf h st=> ?_)
   refine af.bM (row':=[L.str g.name,q1.p, .bool g.has,L.str g.result,L.str g.bO,q1.u]) st 1 rfl rfl rfl rfl rfl rfl rfl (fun h st=>hN (jz (L.fM rfl (st.aN 3 rfl) rfl)) (hN (jz (L.da rfl (Rows.lD (i:=j) (st.bt 7 rfl) (show _=some [L.str g.name,c0.p, .bool g.has,L.str g.result,L.str g.bO,c0.u] from by unfold gu;rw [List.getElem?_map,GH];rfl)))) (j6 _ _))) (fun h st=> ?_)
   refine af.bM (row':=[L.str g.name,c0.p, .bool g.has,L.str g.result,L.str g.bO,c0.u]) st 0 rfl rfl rfl rfl rfl rfl rfl (fun h st=>rfl) (fun h st=> ?_)
   refine af.ak (I.f (.ptr ye 0) (I.b (L.str g.name) (st.aN 1 rfl) (I.f (.ptr yf 0) (I.b (L.str g.name) (st.aN 0 rfl) (I.ej (L.xk rfl rfl) (fun cG=>by exfalso;exact cG rfl) (fun cG=> ?_))))))
   refine I.yes rfl (I.f (.ptr ye 1) (I.yes rfl (I.b q1.p (st.aN 1 rfl) (I.yes rfl (I.f (.ptr yf 1) (I.yes rfl (I.b c0.p (st.aN 0 rfl) (I.yes rfl (I.bx rfl (Qc D.a (ns:=g.params) (ac6) (Rows.ak ((st.bt 8 rfl) (g,q1) (List.mem_of_getElem? pO)).1) (Rows.ak ((st.bt 9 rfl) (g,c0) (List.mem_of_getElem? GH)).1)) ?_)))))))))
   rintro _ h ⟨rfl,rfl⟩
   refine I.yes rfl (I.v (.bool false) (I.v (.bool false) (I.yes rfl (I.f (.ptr ye 2) (I.yes rfl (I.b (.bool g.has) (st.aN 1 rfl) (I.yes rfl (I.f (.ptr yf 2) (I.yes rfl (I.b (.bool g.has) (st.aN 0 rfl) (I.yes rfl (I.val (v:= .bool false) (L.Yw rfl rfl) (I.v (.bool false) (I.yes rfl (I.f (.ptr ye 3) (I.yes rfl (I.b (L.str g.result) (st.aN 1 rfl) (I.yes rfl (I.f (.ptr yf 3) (I.yes rfl (I.b (L.str g.result) (st.aN 0 rfl) (I.yes rfl (I.ej (L.xk rfl rfl) (fun dm=>by exfalso;exact dm rfl) (fun dm=> ?_))))))))))))))))))))))))
   refine I.v (.bool false) (I.yes rfl (I.f (.ptr ye 4) (I.yes rfl (I.b (L.str g.bO) (st.aN 1 rfl) (I.yes rfl (I.f (.ptr yf 4) (I.yes rfl (I.b (L.str g.bO) (st.aN 0 rfl) (I.yes rfl (I.ej (L.xk rfl rfl) (fun dR=>by exfalso;exact dR rfl) (fun dR=> ?_)))))))))))
   refine I.v (.bool false) (I.yes rfl (I.f (.ptr ye 5) (I.yes rfl (I.b q1.u (st.aN 1 rfl) (I.yes rfl (I.f (.ptr yf 5) (I.yes rfl (I.b c0.u (st.aN 0 rfl) (I.yes rfl (I.bx rfl (Qc D.a (ns:=g.gp) (ac7) (Rows.ak ((st.bt 8 rfl) (g,q1) (List.mem_of_getElem? pO)).2) (Rows.ak ((st.bt 9 rfl) (g,c0) (List.mem_of_getElem? GH)).2)) ?_))))))))))
   rintro _ h ⟨rfl,rfl⟩
   refine I.yes rfl (I.val (v:= .bool false) rfl (I.bS (v:= .bool false) rfl (I.nil (WP.cond (t:=false) rfl (WP.skip (WP.ad (I.bS (v:= .int .i64 ((j+1:Nat):Int)) (L.cX rfl rfl (by omega) (And.intro (by omega) (by omega))) (I.nil ?_))))))))
   exact ⟨j+1,(by omega),bR,(.bool true),(.ptr ye 0),(.ptr yf 0),(.bool false),by omega,by kernel_rfl,st.tail.tail⟩
  ·replace c1:¬(j<gs.length):=by omega
   refine I.bw (WP.exit (WP.ak (I.aC (.bool true) (I.nil (WP.ret ?_)))))
   exact ⟨_,(b0 (.bool true)),rfl,st.tail.tail.tail.tail.tail.tail.tail.tail⟩
end
end Go.Eng.YtmcjcbldmoijiaaGreatDoor
namespace Go.Eng.YtmcjcbldmoijiaaGreatDoor
open Go.Eng
noncomputable section
variable {c:Ctx}
structure gj (c:Ctx):Prop where
 f7:T.get 7 c.cE=some i7
 f23:T.get 23 c.cE=some i23
 f24:T.get 24 c.cE=some i24
 f51:T.get 51 c.cE=some i51
 f52:T.get 52 c.cE=some i52
 f53:T.get 53 c.cE=some i53
 f54:T.get 54 c.cE=some i54
 f55:T.get 55 c.cE=some i55
 f56:T.get 56 c.cE=some i56
 f57:T.get 57 c.cE=some i57
 f58:T.get 58 c.cE=some i58
 f59:T.get 59 c.cE=some i59
 f60:T.get 60 c.cE=some i60
 f61:T.get 61 c.cE=some i61
 f68:T.get 68 c.cE=some i68
 f82:T.get 82 c.cE=some i82
 f83:T.get 83 c.cE=some i83
 f84:T.get 84 c.cE=some i84
 f110:T.get 110 c.cE=some i110
 f111:T.get 111 c.cE=some i111
 f140:T.get 140 c.cE=some i140
 f141:T.get 141 c.cE=some i141
 f142:T.get 142 c.cE=some i142
 f157:T.get 157 c.cE=some i157
 f158:T.get 158 c.cE=some i158
 f164:T.get 164 c.cE=some i164
 f165:T.get 165 c.cE=some i165
theorem GI (D:gj c) {fs:List Fact} {h:ae} {b:UInt8} (st:aq fs h):
 bT c 51 [.int .u8 (b.toNat:Int)] h fun v h1=>v= .bool (Lex.small b)∧aq fs h1:=by
 refine bT.dN D.f51 rfl (WP.ak (I.aC (.bool false) (I.ak (I.ej (L.geq rfl rfl) (fun c1=> ?_) (fun c1=> ?_)))))
 ·replace c1:b.toNat≥97:=by omega
  refine I.yes rfl (I.v (.int .u8 (b.toNat:Int)) (I.yes rfl (I.ej (L.leq rfl rfl) (fun c2=> ?_) (fun c2=> ?_))))
  ·replace c2:b.toNat≤122:=by omega
   refine I.aC (.bool true) (I.nil (WP.ret ?_))
   exact ⟨_,(b0 (.bool true)),(by simp [Lex.small,one, *]<;>omega),st⟩
  ·replace c2:¬(b.toNat≤122):=by omega
   refine I.aC (.bool false) (I.nil (WP.ret ?_))
   exact ⟨_,(b0 (.bool false)),(by simp [Lex.small,one, *]<;>omega),st⟩
 ·replace c1:¬(b.toNat≥97):=by omega
  refine I.no rfl (I.no rfl (I.aC (.bool false) (I.nil (WP.ret ?_))))
  exact ⟨_,(b0 (.bool false)),(by simp [Lex.small,one, *]<;>omega),st⟩
theorem Lm (D:gj c) {fs:List Fact} {h:ae} {b:UInt8} (st:aq fs h):
 bT c 52 [.int .u8 (b.toNat:Int)] h fun v h1=>v= .bool (Lex.digit b)∧aq fs h1:=by
 refine bT.dN D.f52 rfl (WP.ak (I.aC (.bool false) (I.ak (I.ej (L.geq rfl rfl) (fun c1=> ?_) (fun c1=> ?_)))))
 ·replace c1:b.toNat≥48:=by omega
  refine I.yes rfl (I.v (.int .u8 (b.toNat:Int)) (I.yes rfl (I.ej (L.leq rfl rfl) (fun c2=> ?_) (fun c2=> ?_))))
  ·replace c2:b.toNat≤57:=by omega
   refine I.aC (.bool true) (I.nil (WP.ret ?_))
   exact ⟨_,(b0 (.bool true)),(by simp [Lex.digit,one, *]<;>omega),st⟩
  ·replace c2:¬(b.toNat≤57):=by omega
   refine I.aC (.bool false) (I.nil (WP.ret ?_))
   exact ⟨_,(b0 (.bool false)),(by simp [Lex.digit,one, *]<;>omega),st⟩
 ·replace c1:¬(b.toNat≥48):=by omega
  refine I.no rfl (I.no rfl (I.aC (.bool false) (I.nil (WP.ret ?_))))
  exact ⟨_,(b0 (.bool false)),(by simp [Lex.digit,one, *]<;>omega),st⟩
theorem ac8 (D:gj c) {fs:List Fact} {h:ae} {x:List UInt8} (st:aq fs h):
 bT c 53 [L.str x] h fun v h1=>v= .bool (decide (x∈Lex.keys))∧aq fs h1:=by
 refine bT.dN D.f53 rfl (WP.ak (I.aC (.bool false) (I.nil (WP.seq (WP.ak (I.aC (L.str x) (I.nil (WP.block (WP.seq (WP.ak (I.bV (L.seq (m:=[109,111,100,117,108,101]) rfl rfl) (fun c1=> ?_) (fun c1=> ?_))))))))))))
 ·refine I.bI (WP.skip (WP.cond (t:=true) rfl (WP.ak (I.aC (.bool true) (I.nil (WP.ret ?_))))))
  exact ⟨_,(b0 (.bool true)),(by simp [Lex.keys,one, *]),st⟩
 ·refine I.bw (WP.ak (I.bV (L.seq (m:=[105,109,112,111,114,116]) rfl rfl) (fun c2=> ?_) (fun c2=> ?_)))
  ·refine I.bI (WP.skip (WP.cond (t:=true) rfl (WP.ak (I.aC (.bool true) (I.nil (WP.ret ?_))))))
   exact ⟨_,(b0 (.bool true)),(by simp [Lex.keys,one, *]),st⟩
  ·refine I.bw (WP.ak (I.bV (L.seq (m:=[118,97,114]) rfl rfl) (fun cG=> ?_) (fun cG=> ?_)))
   ·refine I.bI (WP.skip (WP.cond (t:=true) rfl (WP.ak (I.aC (.bool true) (I.nil (WP.ret ?_))))))
    exact ⟨_,(b0 (.bool true)),(by simp [Lex.keys,one, *]),st⟩
   ·refine I.bw (WP.ak (I.bV (L.seq (m:=[112,114,111,99]) rfl rfl) (fun dm=> ?_) (fun dm=> ?_)))
    ·refine I.bI (WP.skip (WP.cond (t:=true) rfl (WP.ak (I.aC (.bool true) (I.nil (WP.ret ?_))))))
     exact ⟨_,(b0 (.bool true)),(by simp [Lex.keys,one, *]),st⟩
    ·refine I.bw (WP.ak (I.bV (L.seq (m:=[112,99]) rfl rfl) (fun dR=> ?_) (fun dR=> ?_)))
     ·refine I.bI (WP.skip (WP.cond (t:=true) rfl (WP.ak (I.aC (.bool true) (I.nil (WP.ret ?_))))))
      exact ⟨_,(b0 (.bool true)),(by simp [Lex.keys,one, *]),st⟩
     ·refine I.bw (WP.ak (I.bV (L.seq (m:=[117,115,101,115]) rfl rfl) (fun e6=> ?_) (fun e6=> ?_)))
      ·refine I.bI (WP.skip (WP.cond (t:=true) rfl (WP.ak (I.aC (.bool true) (I.nil (WP.ret ?_))))))
       exact ⟨_,(b0 (.bool true)),(by simp [Lex.keys,one, *]),st⟩
      ·refine I.bw (WP.ak (I.bV (L.seq (m:=[108,101,116]) rfl rfl) (fun jd=> ?_) (fun jd=> ?_)))
       ·refine I.bI (WP.skip (WP.cond (t:=true) rfl (WP.ak (I.aC (.bool true) (I.nil (WP.ret ?_))))))
        exact ⟨_,(b0 (.bool true)),(by simp [Lex.keys,one, *]),st⟩
       ·refine I.bw (WP.ak (I.bV (L.seq (m:=[99,97,108,108]) rfl rfl) (fun iD=> ?_) (fun iD=> ?_)))
        ·refine I.bI (WP.skip (WP.cond (t:=true) rfl (WP.ak (I.aC (.bool true) (I.nil (WP.ret ?_))))))
         exact ⟨_,(b0 (.bool true)),(by simp [Lex.keys,one, *]),st⟩
        ·refine I.bw (WP.ak (I.bV (L.seq (m:=[105,102]) rfl rfl) (fun hv=> ?_) (fun hv=> ?_)))
         ·refine I.bI (WP.skip (WP.cond (t:=true) rfl (WP.ak (I.aC (.bool true) (I.nil (WP.ret ?_))))))
          exact ⟨_,(b0 (.bool true)),(by simp [Lex.keys,one, *]),st⟩
         ·refine I.bw (WP.ak (I.bV (L.seq (m:=[101,108,115,101]) rfl rfl) (fun jQ=> ?_) (fun jQ=> ?_)))
          ·refine I.bI (WP.skip (WP.cond (t:=true) rfl (WP.ak (I.aC (.bool true) (I.nil (WP.ret ?_))))))
           exact ⟨_,(b0 (.bool true)),(by simp [Lex.keys,one, *]),st⟩
          ·refine I.bw (WP.ak (I.bV (L.seq (m:=[119,104,105,108,101]) rfl rfl) (fun kl=> ?_) (fun kl=> ?_)))
           ·refine I.bI (WP.skip (WP.cond (t:=true) rfl (WP.ak (I.aC (.bool true) (I.nil (WP.ret ?_))))))
            exact ⟨_,(b0 (.bool true)),(by simp [Lex.keys,one, *]),st⟩
           ·refine I.bw (WP.ak (I.bV (L.seq (m:=[101,109,105,116]) rfl rfl) (fun oL=> ?_) (fun oL=> ?_)))
            ·refine I.bI (WP.skip (WP.cond (t:=true) rfl (WP.ak (I.aC (.bool true) (I.nil (WP.ret ?_))))))
             exact ⟨_,(b0 (.bool true)),(by simp [Lex.keys,one, *]),st⟩
            ·refine I.bw (WP.ak (I.bV (L.seq (m:=[114,101,115,117,108,116]) rfl rfl) (fun pP=> ?_) (fun pP=> ?_)))
             ·refine I.bI (WP.skip (WP.cond (t:=true) rfl (WP.ak (I.aC (.bool true) (I.nil (WP.ret ?_))))))
              exact ⟨_,(b0 (.bool true)),(by simp [Lex.keys,one, *]),st⟩
             ·refine I.bw (WP.ak (I.bV (L.seq (m:=[115,107,105,112]) rfl rfl) (fun qT=> ?_) (fun qT=> ?_)))
              ·refine I.bI (WP.skip (WP.cond (t:=true) rfl (WP.ak (I.aC (.bool true) (I.nil (WP.ret ?_))))))
               exact ⟨_,(b0 (.bool true)),(by simp [Lex.keys,one, *]),st⟩
              ·refine I.bw (WP.ad (I.bV (L.seq (m:=[108,97,98,101,108,115]) rfl rfl) (fun rZ=> ?_) (fun rZ=> ?_)))
               ·refine I.bI (WP.ak (I.aC (.bool true) (I.nil (WP.ret ?_))))
                exact ⟨_,(b0 (.bool true)),(by simp [Lex.keys,one, *]),st⟩
               ·refine I.bw (WP.skip (WP.ak (I.aC (.bool false) (I.nil (WP.ret ?_)))))
                exact ⟨_,(b0 (.bool false)),(by simp [Lex.keys,one, *]),st⟩
theorem ac9 (D:gj c) {fs:List Fact} {h:ae} {s:List UInt8} {i:Nat} (st:aq fs h) (ag:i<s.length) (ay:s.length<4294967296):
 bT c 54 [L.str s, .n i] h fun v h1=>v=L.str (Lex.sign (s.drop i))∧aq fs h1:=by
 obtain ⟨b,hb⟩:∃b,s[i]? =some b:=⟨_,List.getElem?_eq_getElem ag⟩
 obtain ⟨r,aQ⟩:∃r,s.drop i=b::r:=⟨_,by obtain ⟨_,rfl⟩:=List.getElem?_eq_some_iff.1 hb;exact List.drop_eq_getElem_cons ag⟩
 refine bT.dN D.f54 rfl (WP.ak (I.aC (.str 0 0) (I.nil (WP.xo (fun env h=>∃z2 z3 z4 z5,((b::r).take 2∉Lex.lM)∧env=c6 [L.str s, .n i,z2,z3,z4,z5] 0 Env.nil∧aq (fs) h) ?_ ?_))))
 ·refine WP.seq (WP.ad (I.val (v:= .int .i64 ((i+1:Nat):Int)) (L.cX rfl rfl (by omega) (And.intro (by omega) (by omega))) (I.val (v:= .n s.length) (L.pq rfl) (I.bV (L.lss rfl rfl) (fun c1=> ?_) (fun c1=> ?_)))))
  ·replace c1:i+2≤s.length:=by omega
   refine I.nil (WP.cond (t:=true) rfl (WP.seq (WP.ad (I.val (v:= .int .i64 ((i+2:Nat):Int)) (L.cX rfl rfl (by omega) (And.intro (by omega) (by omega))) (I.bS (v:=L.str ((s.drop i).take 2)) (L.qK rfl rfl rfl (by omega) (by omega) (by rw [show i+2 - i=2 by omega])) ?_)))))
   refine I.nil (WP.block (WP.seq (WP.ak (I.bV (L.seq (m:=[61,61]) rfl rfl) (fun c1=> ?_) (fun c1=> ?_)))))
   ·refine I.nil (WP.cond (t:=true) rfl (WP.skip (WP.cond (t:=true) rfl (WP.seq (WP.ad (I.val (v:= .int .i64 ((i+2:Nat):Int)) (L.cX rfl rfl (by omega) (And.intro (by omega) (by omega))) (I.bS (v:=L.str ((s.drop i).take 2)) (L.qK rfl rfl rfl (by omega) (by omega) (by rw [show i+2 - i=2 by omega])) ?_)))))))
    refine I.nil (WP.ret ?_)
    have cp:Lex.sign (s.drop i)=(s.drop i).take 2:=K2 (by rw [c1];decide) rfl
    rw [cp]
    exact ⟨_,(b0 (L.str ((s.drop i).take 2))),rfl,st⟩
   ·refine I.bw (WP.ak (I.bV (L.seq (m:=[60,61]) rfl rfl) (fun c2=> ?_) (fun c2=> ?_)))
    ·refine I.nil (WP.cond (t:=true) rfl (WP.skip (WP.cond (t:=true) rfl (WP.seq (WP.ad (I.val (v:= .int .i64 ((i+2:Nat):Int)) (L.cX rfl rfl (by omega) (And.intro (by omega) (by omega))) (I.bS (v:=L.str ((s.drop i).take 2)) (L.qK rfl rfl rfl (by omega) (by omega) (by rw [show i+2 - i=2 by omega])) ?_)))))))
     refine I.nil (WP.ret ?_)
     have cp:Lex.sign (s.drop i)=(s.drop i).take 2:=K2 (by rw [c2];decide) rfl
     rw [cp]
     exact ⟨_,(b0 (L.str ((s.drop i).take 2))),rfl,st⟩
    ·refine I.bw (WP.ad (I.bV (L.seq (m:=[45,62]) rfl rfl) (fun cG=> ?_) (fun cG=> ?_)))
     ·refine I.nil (WP.cond (t:=true) rfl (WP.seq (WP.ad (I.val (v:= .int .i64 ((i+2:Nat):Int)) (L.cX rfl rfl (by omega) (And.intro (by omega) (by omega))) (I.bS (v:=L.str ((s.drop i).take 2)) (L.qK rfl rfl rfl (by omega) (by omega) (by rw [show i+2 - i=2 by omega])) ?_)))))
      refine I.nil (WP.ret ?_)
      have cp:Lex.sign (s.drop i)=(s.drop i).take 2:=K2 (by rw [cG];decide) rfl
      rw [cp]
      exact ⟨_,(b0 (L.str ((s.drop i).take 2))),rfl,st⟩
     ·refine I.bw (WP.skip ?_)
      exact ⟨(.str 0 0),(.bool true),(L.str ((s.drop i).take 2)),(.bool false),(by rw [←aQ];simp [Lex.lM,c1,c2,cG]),by kernel_rfl,st⟩
  ·replace c1:¬i+2≤s.length:=by omega
   refine I.bw (WP.skip ?_)
   exact ⟨(.str 0 0),(.bool false), .bot, .bot,(by intro hm;have h2:=abi hm;rw [←aQ,List.length_drop] at h2;omega),by kernel_rfl,st⟩
 ·rintro _ h ⟨z2,z3,z4,z5,Oq,rfl,st⟩
  have jk:=sign_one Oq
  refine WP.seq (WP.ak (I.bS (v:= .int .u8 (b.toNat:Int)) (L.qu (b:=b) rfl rfl hb) (I.nil (WP.block (WP.xo (fun env h=>env=c6 [L.str s, .n i,z2,z3,z4,z5, .int .u8 (b.toNat:Int), .bool (decide (b∈Lex.fW))] 0 Env.nil∧aq (fs) h) ?_ ?_)))))
  ·refine WP.ak (I.bV (L.eql rfl rfl) (fun dm=> ?_) (fun dm=> ?_))
   ·replace dm:b.toNat=40:=by omega
    refine I.bI (WP.skip ?_)
    have aD:decide (b∈Lex.fW)=true:=by simp [Lex.fW,←UInt8.toNat_inj,dm]
    rw [aD]
    exact ⟨by kernel_rfl,st⟩
   ·replace dm:¬(b.toNat=40):=by omega
    refine I.bw (WP.ak (I.bV (L.eql rfl rfl) (fun dR=> ?_) (fun dR=> ?_)))
    ·replace dR:b.toNat=41:=by omega
     refine I.bI (WP.skip ?_)
     have aD:decide (b∈Lex.fW)=true:=by simp [Lex.fW,←UInt8.toNat_inj,dm,dR]
     rw [aD]
     exact ⟨by kernel_rfl,st⟩
    ·replace dR:¬(b.toNat=41):=by omega
     refine I.bw (WP.ak (I.bV (L.eql rfl rfl) (fun e6=> ?_) (fun e6=> ?_)))
     ·replace e6:b.toNat=123:=by omega
      refine I.bI (WP.skip ?_)
      have aD:decide (b∈Lex.fW)=true:=by simp [Lex.fW,←UInt8.toNat_inj,dm,dR,e6]
      rw [aD]
      exact ⟨by kernel_rfl,st⟩
     ·replace e6:¬(b.toNat=123):=by omega
      refine I.bw (WP.ak (I.bV (L.eql rfl rfl) (fun jd=> ?_) (fun jd=> ?_)))
      ·replace jd:b.toNat=125:=by omega
       refine I.bI (WP.skip ?_)
       have aD:decide (b∈Lex.fW)=true:=by simp [Lex.fW,←UInt8.toNat_inj,dm,dR,e6,jd]
       rw [aD]
       exact ⟨by kernel_rfl,st⟩
      ·replace jd:¬(b.toNat=125):=by omega
       refine I.bw (WP.ak (I.bV (L.eql rfl rfl) (fun iD=> ?_) (fun iD=> ?_)))
       ·replace iD:b.toNat=44:=by omega
        refine I.bI (WP.skip ?_)
        have aD:decide (b∈Lex.fW)=true:=by simp [Lex.fW,←UInt8.toNat_inj,dm,dR,e6,jd,iD]
        rw [aD]
        exact ⟨by kernel_rfl,st⟩
       ·replace iD:¬(b.toNat=44):=by omega
        refine I.bw (WP.ak (I.bV (L.eql rfl rfl) (fun hv=> ?_) (fun hv=> ?_)))
        ·replace hv:b.toNat=59:=by omega
         refine I.bI (WP.skip ?_)
         have aD:decide (b∈Lex.fW)=true:=by simp [Lex.fW,←UInt8.toNat_inj,dm,dR,e6,jd,iD,hv]
         rw [aD]
         exact ⟨by kernel_rfl,st⟩
        ·replace hv:¬(b.toNat=59):=by omega
         refine I.bw (WP.ak (I.bV (L.eql rfl rfl) (fun jQ=> ?_) (fun jQ=> ?_)))
         ·replace jQ:b.toNat=58:=by omega
          refine I.bI (WP.skip ?_)
          have aD:decide (b∈Lex.fW)=true:=by simp [Lex.fW,←UInt8.toNat_inj,dm,dR,e6,jd,iD,hv,jQ]
          rw [aD]
          exact ⟨by kernel_rfl,st⟩
         ·replace jQ:¬(b.toNat=58):=by omega
          refine I.bw (WP.ak (I.bV (L.eql rfl rfl) (fun kl=> ?_) (fun kl=> ?_)))
          ·replace kl:b.toNat=46:=by omega
           refine I.bI (WP.skip ?_)
           have aD:decide (b∈Lex.fW)=true:=by simp [Lex.fW,←UInt8.toNat_inj,dm,dR,e6,jd,iD,hv,jQ,kl]
           rw [aD]
           exact ⟨by kernel_rfl,st⟩
          ·replace kl:¬(b.toNat=46):=by omega
           refine I.bw (WP.ak (I.bV (L.eql rfl rfl) (fun oL=> ?_) (fun oL=> ?_)))
           ·replace oL:b.toNat=61:=by omega
            refine I.bI (WP.skip ?_)
            have aD:decide (b∈Lex.fW)=true:=by simp [Lex.fW,←UInt8.toNat_inj,dm,dR,e6,jd,iD,hv,jQ,kl,oL]
            rw [aD]
            exact ⟨by kernel_rfl,st⟩
           ·replace oL:¬(b.toNat=61):=by omega
            refine I.bw (WP.ak (I.bV (L.eql rfl rfl) (fun pP=> ?_) (fun pP=> ?_)))
            ·replace pP:b.toNat=60:=by omega
             refine I.bI (WP.skip ?_)
             have aD:decide (b∈Lex.fW)=true:=by simp [Lex.fW,←UInt8.toNat_inj,dm,dR,e6,jd,iD,hv,jQ,kl,oL,pP]
             rw [aD]
             exact ⟨by kernel_rfl,st⟩
            ·replace pP:¬(b.toNat=60):=by omega
             refine I.bw (WP.ak (I.bV (L.eql rfl rfl) (fun qT=> ?_) (fun qT=> ?_)))
             ·replace qT:b.toNat=43:=by omega
              refine I.bI (WP.skip ?_)
              have aD:decide (b∈Lex.fW)=true:=by simp [Lex.fW,←UInt8.toNat_inj,dm,dR,e6,jd,iD,hv,jQ,kl,oL,pP,qT]
              rw [aD]
              exact ⟨by kernel_rfl,st⟩
             ·replace qT:¬(b.toNat=43):=by omega
              refine I.bw (WP.ak (I.bV (L.eql rfl rfl) (fun rZ=> ?_) (fun rZ=> ?_)))
              ·replace rZ:b.toNat=45:=by omega
               refine I.bI (WP.skip ?_)
               have aD:decide (b∈Lex.fW)=true:=by simp [Lex.fW,←UInt8.toNat_inj,dm,dR,e6,jd,iD,hv,jQ,kl,oL,pP,qT,rZ]
               rw [aD]
               exact ⟨by kernel_rfl,st⟩
              ·replace rZ:¬(b.toNat=45):=by omega
               refine I.bw (WP.ak (I.bV (L.eql rfl rfl) (fun wo=> ?_) (fun wo=> ?_)))
               ·replace wo:b.toNat=42:=by omega
                refine I.bI (WP.skip ?_)
                have aD:decide (b∈Lex.fW)=true:=by simp [Lex.fW,←UInt8.toNat_inj,dm,dR,e6,jd,iD,hv,jQ,kl,oL,pP,qT,rZ,wo]
                rw [aD]
                exact ⟨by kernel_rfl,st⟩
               ·replace wo:¬(b.toNat=42):=by omega
                refine I.bw (WP.ak (I.bV (L.eql rfl rfl) (fun yg=> ?_) (fun yg=> ?_)))
                ·replace yg:b.toNat=47:=by omega
                 refine I.bI (WP.skip ?_)
                 have aD:decide (b∈Lex.fW)=true:=by simp [Lex.fW,←UInt8.toNat_inj,dm,dR,e6,jd,iD,hv,jQ,kl,oL,pP,qT,rZ,wo,yg]
                 rw [aD]
                 exact ⟨by kernel_rfl,st⟩
                ·replace yg:¬(b.toNat=47):=by omega
                 refine I.bw (WP.ak (I.bV (L.eql rfl rfl) (fun Au=> ?_) (fun Au=> ?_)))
                 ·replace Au:b.toNat=37:=by omega
                  refine I.bI (WP.skip ?_)
                  have aD:decide (b∈Lex.fW)=true:=by simp [Lex.fW,←UInt8.toNat_inj,dm,dR,e6,jd,iD,hv,jQ,kl,oL,pP,qT,rZ,wo,yg,Au]
                  rw [aD]
                  exact ⟨by kernel_rfl,st⟩
                 ·replace Au:¬(b.toNat=37):=by omega
                  refine I.bw (WP.ad (I.bV (L.eql rfl rfl) (fun C7=> ?_) (fun C7=> ?_)))
                  ·replace C7:b.toNat=33:=by omega
                   refine I.nil ?_
                   have aD:decide (b∈Lex.fW)=true:=by simp [Lex.fW,←UInt8.toNat_inj,dm,dR,e6,jd,iD,hv,jQ,kl,oL,pP,qT,rZ,wo,yg,Au,C7]
                   rw [aD]
                   exact ⟨by kernel_rfl,st⟩
                  ·replace C7:¬(b.toNat=33):=by omega
                   refine I.nil ?_
                   have aD:decide (b∈Lex.fW)=false:=by simp [Lex.fW,←UInt8.toNat_inj,dm,dR,e6,jd,iD,hv,jQ,kl,oL,pP,qT,rZ,wo,yg,Au,C7]
                   rw [aD]
                   exact ⟨by kernel_rfl,st⟩
  ·rintro _ h ⟨rfl,st⟩
   by_cases GJ:b∈Lex.fW
   ·rw [decide_eq_true GJ]
    rw [if_pos GJ] at jk
    refine WP.cond (t:=true) rfl (WP.seq (WP.ad (I.val (v:= .int .i64 ((i+1:Nat):Int)) (L.cX rfl rfl (by omega) (And.intro (by omega) (by omega))) (I.bS (v:=L.str [b]) (L.qK rfl rfl rfl (by omega) (by omega) (by rw [show i+1 - i=1 by omega,aQ];rfl)) ?_))))
    refine I.nil (WP.ret ?_)
    rw [aQ,jk]
    exact ⟨_,(b0 (L.str [b])),rfl,st⟩
   ·rw [decide_eq_false GJ]
    rw [if_neg GJ] at jk
    refine WP.cond (t:=false) rfl (WP.skip (WP.ak (I.aC (.str 0 0) (I.nil (WP.ret ?_)))))
    rw [aQ,jk]
    exact ⟨_,(b0 (.str 0 0)),rfl,st⟩
theorem R1 (D:gj c) {fs:List Fact} {h:ae} {s:List UInt8} (st:aq fs h):
 bT c 23 [L.str s] h fun v h1=>match Lex.lex s with
  | .ok aP=>∃x,v= .dh [x, .int .i64 0, .int .i64 0]∧aq (.aE (fun h=>Rows 3 h x (aP.map Tok.row))::fs) h1
  | .error (e,a)=>v= .dh [.U, .n e, .n a]∧aq fs h1:=by
 refine bT.dN D.f23 rfl (WP.ak (I.aC .U (I.aC (.int .i64 0) (I.aC (.int .i64 0) (I.nil (WP.seq (WP.ak (I.val (v:= .n s.length) (L.pq rfl) (I.bV (L.gtr rfl rfl) (fun ed=> ?_) (fun ed=> ?_))))))))))
 ·replace ed:8192<s.length:=by omega
  refine I.bI (WP.ak (I.aC .U (I.aC (.int .i64 9) (I.aC (.int .i64 8192) (I.nil (WP.ret ?_))))))
  have cp:Lex.lex s= .error (9,8192):=by unfold Lex.lex;rw [if_pos ed]
  rw [cp]
  exact ⟨_,(cH (fl (v:= .U) rfl) (cH (fl (v:= .int .i64 9) rfl) (b0 (.int .i64 8192)))),rfl,st⟩
 ·replace ed:¬(8192<s.length):=by omega
  have ada:Lex.lex s=Lex.all (s.length+1) 0 s []:=by unfold Lex.lex;rw [if_neg ed]
  rw [ada]
  have dC:s.length<4294967296:=by omega
  refine I.bw (WP.skip (WP.ak (I.aC .U (I.nil (WP.seq (WP.ak (I.aC (.int .i64 0) (I.nil (WP.block ?_)))))))))
  replace st:aq (.acc 0 3 .U (([]:List Tok).map Tok.row)::fs) h:=st.kE 3
  refine WP.dS (α:=Nat) (fun g env h=>∃k aP pQ la kN fq hc lb pR tg qU gJ lS jC kO hZ hE lT pS oM lU nj nk lf lg,(Lex.all (s.length+1) 0 s []=Lex.all g k (s.drop k) aP∧s.length - k<g∧k≤s.length∧aP.length≤k)∧env=c6 [L.str s,kN,fq,hc, .bool false, .n k,lb,pR,tg,qU,gJ,lS,jC,kO,hZ,hE,lT,la,pS,oM,lU,nj,nk,lf,lg] 0 Env.nil∧aq (.acc pQ 3 la (aP.map Tok.row)::fs) h) (fun g=>g) (s.length+1) ?_ ?_
  ·exact ⟨0,[],0, .U, .U,(.int .i64 0),(.int .i64 0), .bot, .bot, .bot, .bot, .bot, .bot, .bot, .bot, .bot, .bot, .bot, .bot, .bot, .bot, .bot, .bot, .bot, .bot,⟨rfl,by omega,Nat.zero_le _,Nat.le_refl _⟩,by kernel_rfl,st⟩
  rintro g _ h ⟨k,aP,pQ,la,kN,fq,hc,lb,pR,tg,qU,gJ,lS,jC,kO,hZ,hE,lT,pS,oM,lU,nj,nk,lf,lg,⟨ay,hg,hk,ahp⟩,rfl,st⟩
  obtain ⟨g,rfl⟩:∃m,g=m+1:=⟨g - 1,by omega⟩
  refine WP.seq (WP.ak (I.val (v:= .n s.length) (L.pq rfl) (I.bV (L.lss rfl rfl) (fun c1=> ?_) (fun c1=> ?_))))
  ·replace c1:k<s.length:=by omega
   refine I.bI (WP.skip (WP.block (WP.seq (WP.ad ?_))))
   obtain ⟨b,hb⟩:∃b,s[k]? =some b:=⟨_,List.getElem?_eq_getElem (by omega)⟩
   refine I.bS (v:= .int .u8 (b.toNat:Int)) (L.qu rfl rfl hb) (I.nil (WP.block (WP.ak (I.ej (L.eql rfl rfl) (fun c2=> ?_) (fun c2=> ?_)))))
   ·replace c2:b.toNat=32:=by omega
    refine I.no rfl (I.no rfl (I.val (v:= .bool true) rfl (I.no rfl (I.no rfl (I.val (v:= .bool true) rfl (I.no rfl (I.no rfl (I.bS (v:= .bool true) rfl (I.nil (WP.cond (t:=true) rfl (WP.ad (I.bS (v:= .int .i64 ((k+1:Nat):Int)) (L.cX rfl rfl (by omega) (And.intro (by omega) (by omega))) (I.nil ?_)))))))))))))
    exact ⟨g,(Nat.lt_succ_self _),k+1,aP,pQ,la,kN,fq,hc,(.bool true),(.int .u8 (b.toNat:Int)),(.bool true),qU,gJ,lS,jC,kO,hZ,hE,lT,pS,oM,lU,nj,nk,lf,lg,⟨by rw [ay,kg hb];simp [Lex.blank,one,Lex.put,ed,c1,c2],(by omega),(by omega),(by first|omega|(simp;omega))⟩,by kernel_rfl,st⟩
   ·replace c2:¬(b.toNat=32):=by omega
    refine I.yes rfl (I.v (.int .u8 (b.toNat:Int)) (I.yes rfl (I.ej (L.eql rfl rfl) (fun cG=> ?_) (fun cG=> ?_))))
    ·replace cG:b.toNat=9:=by omega
     refine I.val (v:= .bool true) rfl (I.no rfl (I.no rfl (I.val (v:= .bool true) rfl (I.no rfl (I.no rfl (I.bS (v:= .bool true) rfl (I.nil (WP.cond (t:=true) rfl (WP.ad (I.bS (v:= .int .i64 ((k+1:Nat):Int)) (L.cX rfl rfl (by omega) (And.intro (by omega) (by omega))) (I.nil ?_)))))))))))
     exact ⟨g,(Nat.lt_succ_self _),k+1,aP,pQ,la,kN,fq,hc,(.bool true),(.int .u8 (b.toNat:Int)),(.bool true),qU,gJ,lS,jC,kO,hZ,hE,lT,pS,oM,lU,nj,nk,lf,lg,⟨by rw [ay,kg hb];simp [Lex.blank,one,Lex.put,ed,c1,c2,cG],(by omega),(by omega),(by first|omega|(simp;omega))⟩,by kernel_rfl,st⟩
    ·replace cG:¬(b.toNat=9):=by omega
     refine I.v (.bool false) (I.yes rfl (I.v (.int .u8 (b.toNat:Int)) (I.yes rfl (I.ej (L.eql rfl rfl) (fun dm=> ?_) (fun dm=> ?_)))))
     ·replace dm:b.toNat=10:=by omega
      refine I.val (v:= .bool true) rfl (I.no rfl (I.no rfl (I.bS (v:= .bool true) rfl (I.nil (WP.cond (t:=true) rfl (WP.ad (I.bS (v:= .int .i64 ((k+1:Nat):Int)) (L.cX rfl rfl (by omega) (And.intro (by omega) (by omega))) (I.nil ?_))))))))
      exact ⟨g,(Nat.lt_succ_self _),k+1,aP,pQ,la,kN,fq,hc,(.bool true),(.int .u8 (b.toNat:Int)),(.bool true),qU,gJ,lS,jC,kO,hZ,hE,lT,pS,oM,lU,nj,nk,lf,lg,⟨by rw [ay,kg hb];simp [Lex.blank,one,Lex.put,ed,c1,c2,cG,dm],(by omega),(by omega),(by first|omega|(simp;omega))⟩,by kernel_rfl,st⟩
     ·replace dm:¬(b.toNat=10):=by omega
      refine I.v (.bool false) (I.yes rfl (I.v (.int .u8 (b.toNat:Int)) (I.yes rfl (I.ej (L.eql rfl rfl) (fun dR=> ?_) (fun dR=> ?_)))))
      ·replace dR:b.toNat=13:=by omega
       refine I.bS (v:= .bool true) rfl (I.nil (WP.cond (t:=true) rfl (WP.ad (I.bS (v:= .int .i64 ((k+1:Nat):Int)) (L.cX rfl rfl (by omega) (And.intro (by omega) (by omega))) (I.nil ?_)))))
       exact ⟨g,(Nat.lt_succ_self _),k+1,aP,pQ,la,kN,fq,hc,(.bool true),(.int .u8 (b.toNat:Int)),(.bool true),qU,gJ,lS,jC,kO,hZ,hE,lT,pS,oM,lU,nj,nk,lf,lg,⟨by rw [ay,kg hb];simp [Lex.blank,one,Lex.put,ed,c1,c2,cG,dm,dR],(by omega),(by omega),(by first|omega|(simp;omega))⟩,by kernel_rfl,st⟩
      ·replace dR:¬(b.toNat=13):=by omega
       refine I.aC (.bool false) (I.bw (WP.ak (I.bV (L.eql rfl rfl) (fun e6=> ?_) (fun e6=> ?_))))
       ·replace e6:b.toNat=35:=by omega
        refine I.bI (WP.block (WP.dS (α:=Nat) (fun j env h=>∃gJ,(k+j≤s.length∧(s.drop k).takeWhile Lex.jt=(s.drop k).take j++(s.drop (k+j)).takeWhile Lex.jt)∧env=c6 [L.str s,kN,fq,hc, .bool false, .int .i64 ((k+j:Nat):Int), .bool true, .int .u8 (b.toNat:Int), .bool false, .bool true,gJ,lS,jC,kO,hZ,hE,lT,la,pS,oM,lU,nj,nk,lf,lg] 0 Env.nil∧aq (.acc pQ 3 la (aP.map Tok.row)::fs) h) (fun j=>s.length - (k+j)) 0 ?_ ?_))
        ·exact ⟨gJ,⟨by omega,by simp⟩,by kernel_rfl,st⟩
        rintro j _ h ⟨gJ,⟨Be,mG⟩,rfl,st⟩
        refine WP.seq (WP.ak (I.val (v:= .n s.length) (L.pq rfl) (I.ej (L.lss rfl rfl) (fun C8=> ?_) (fun C8=> ?_))))
        ·obtain ⟨oO,kk⟩:∃b,s[k+j]? =some b:=⟨_,List.getElem?_eq_getElem (by omega)⟩
         refine I.yes rfl (I.v (L.str s) (I.yes rfl (I.v (.int .i64 ((k+j:Nat):Int)) (I.yes rfl (I.val (v:= .int .u8 (oO.toNat:Int)) (L.qu rfl rfl kk) (I.yes rfl (I.ej (L.neq rfl rfl) (fun jd=> ?_) (fun jd=> ?_))))))))
         ·replace jd:oO.toNat≠10:=by omega
          refine I.bS (v:= .bool true) rfl (I.nil (WP.cond (t:=true) rfl (WP.skip (WP.block (WP.ad (I.bS (v:= .int .i64 ((k+(j+1):Nat):Int)) (L.cX rfl rfl (by omega) (And.intro (by omega) (by omega))) (I.nil ?_)))))))
          have o5:(s.drop k).takeWhile Lex.jt=(s.drop k).take (j+1)++(s.drop (k+(j+1))).takeWhile Lex.jt:=by
           rw [mG,Ad kk (by first|assumption|simp [Lex.jt,jd]),List.take_add_one,List.getElem?_drop,kk];simp [Nat.add_assoc]
          exact ⟨j+1,(by omega),(.bool true),⟨by omega,o5⟩,by kernel_rfl,st⟩
         ·replace jd:¬(oO.toNat≠10):=by omega
          refine I.aC (.bool false) (I.bw (WP.exit ?_))
          have hz:(s.drop (k+j)).takeWhile Lex.jt=[]:=(KX kk (by first|assumption|simp [Lex.jt,jd]))
          have r2:(s.drop k).takeWhile Lex.jt=(s.drop k).take j:=by rw [mG,hz,List.append_nil]
          obtain rfl:((s.drop k).takeWhile Lex.jt).length=j:=by rw [r2];simp;omega
          obtain ⟨mg,th,pT⟩:=x4 (f:=Lex.jt) hb (by first|assumption|simp [Lex.jt,one,ed,c1,c2,cG,dm,dR,e6])
          exact ⟨g,(Nat.lt_succ_self _),k+((s.drop k).takeWhile Lex.jt).length,aP,pQ,la,kN,fq,hc,(.bool true),(.int .u8 (b.toNat:Int)),(.bool false),(.bool true),(.bool false),lS,jC,kO,hZ,hE,lT,pS,oM,lU,nj,nk,lf,lg,⟨by rw [ay,kg hb];simp [Lex.blank,one,Lex.put,ed,c1,c2,cG,dm,dR,e6],(by omega),(by omega),(by first|omega|(simp;omega))⟩,by kernel_rfl,st⟩
        ·have R2:¬k+j<s.length:=by omega
         refine I.no rfl (I.no rfl (I.no rfl (I.no rfl (I.aC (.bool false) (I.bw (WP.exit ?_))))))
         have hz:(s.drop (k+j)).takeWhile Lex.jt=[]:=(by rw [List.drop_of_length_le (by omega)];rfl)
         have r2:(s.drop k).takeWhile Lex.jt=(s.drop k).take j:=by rw [mG,hz,List.append_nil]
         obtain rfl:((s.drop k).takeWhile Lex.jt).length=j:=by rw [r2];simp;omega
         obtain ⟨mg,th,pT⟩:=x4 (f:=Lex.jt) hb (by first|assumption|simp [Lex.jt,one,ed,c1,c2,cG,dm,dR,e6])
         exact ⟨g,(Nat.lt_succ_self _),k+((s.drop k).takeWhile Lex.jt).length,aP,pQ,la,kN,fq,hc,(.bool true),(.int .u8 (b.toNat:Int)),(.bool false),(.bool true),(.bool false),lS,jC,kO,hZ,hE,lT,pS,oM,lU,nj,nk,lf,lg,⟨by rw [ay,kg hb];simp [Lex.blank,one,Lex.put,ed,c1,c2,cG,dm,dR,e6],(by omega),(by omega),(by first|omega|(simp;omega))⟩,by kernel_rfl,st⟩
       ·replace e6:¬(b.toNat=35):=by omega
        refine I.bw (WP.ak (I.dK rfl (GI D st) ?_))
        rintro _ h ⟨rfl,st⟩
        cases gN:Lex.small b
        ·refine I.bw (WP.ak (I.dK rfl (Lm D st) ?_))
         rintro _ h ⟨rfl,st⟩
         cases du:Lex.digit b
         ·refine I.bw (WP.seq (WP.ad ?_))
          have gD:=abh (s.drop k)
          rw [List.length_drop] at gD
          refine I.dK rfl (ac9 D st (by omega) dC) ?_
          rintro _ h ⟨rfl,st⟩
          refine I.nil (WP.seq (WP.ak (I.bV (L.seq (m:=[]) rfl rfl) (fun GK=> ?_) (fun GK=> ?_))))
          ·refine I.bI (WP.ak (I.aC .U (I.aC (.int .i64 10) (I.aC (.n k) (I.nil (WP.ret ?_))))))
           have cp:Lex.all (s.length+1) 0 s []= .error (10,k):=by
            rw [ay,kg hb];simp [Lex.blank,one,Lex.put,ed,c1,c2,cG,dm,dR,e6,gN,du,GK]
           rw [cp]
           exact ⟨_,(cH (fl (v:= .U) rfl) (cH (fl (v:= .int .i64 10) rfl) (b0 (.n k)))),rfl,st.tail⟩
          ·have zL:0<(Lex.sign (s.drop k)).length:=List.length_pos_iff.2 GK
           refine I.bw (WP.skip (WP.ak (I.val (v:= .agg [.int .i64 4,L.str (Lex.sign (s.drop k)), .n k]) (L.build rfl) (I.fS (rows:=[[.int .i64 4,L.str (Lex.sign (s.drop k)), .n k]]) st rfl (by decide) rfl (by simp) (fun iT h st=> ?_)))))
           refine I.kF st 1 rfl rfl rfl (st.bt 0 rfl) (by decide) (by simp;omega) (fun f1 v1 h st=> ?_)
           rw [show (aP.map Tok.row)++[[V.int .i64 4,L.str (Lex.sign (s.drop k)),V.n k]]=(aP++[Tok.mk 4 (Lex.sign (s.drop k)) k]).map Tok.row from by simp [Tok.row]] at st
           obtain ⟨qO,rfl⟩:=(st.gh 1 rfl).ne (by simp)
           refine I.nil (WP.ad (I.val (v:= .int .i64 ((Lex.sign (s.drop k)).length:Int)) (L.pq rfl) (I.bS (v:= .int .i64 ((k+(Lex.sign (s.drop k)).length:Nat):Int)) (L.cX rfl rfl (by omega) (And.intro (by omega) (by omega))) (I.nil ?_))))
           exact ⟨g,(Nat.lt_succ_self _),k+(Lex.sign (s.drop k)).length,(aP++[Tok.mk 4 (Lex.sign (s.drop k)) k]),f1,(.au qO 0 ((aP++[Tok.mk 4 (Lex.sign (s.drop k)) k]).map Tok.row).length none),kN,fq,hc,(.bool true),(.int .u8 (b.toNat:Int)),(.bool false),(.bool false),gJ,(.bool false),jC,kO,hZ,hE,lT,(.bool false),oM,lU,nj,nk,(L.str (Lex.sign (s.drop k))),(.bool false),⟨by rw [ay,kg hb];simp [Lex.blank,one,Lex.put,ed,c1,c2,cG,dm,dR,e6,gN,du,GK],(by omega),(by omega),(by first|omega|(simp;omega))⟩,by kernel_rfl,st.tail⟩
         ·refine I.bI (WP.ak (I.aC (.n k) (I.nil (WP.xo (fun env h=>∃z20,env=c6 [L.str s,kN,fq,hc, .bool false, .n k, .bool true, .int .u8 (b.toNat:Int), .bool false, .bool false,gJ, .bool false,jC,kO,hZ,hE,lT,la, .bool true, .int .i64 ((k+((s.drop k).takeWhile Lex.digit).length:Nat):Int),z20,nj,nk,lf,lg] 0 Env.nil∧aq (.acc pQ 3 la (aP.map Tok.row)::fs) h) ?_ ?_))))
          ·refine WP.block (WP.dS (α:=Nat) (fun j env h=>∃lU,(k+j≤s.length∧(s.drop k).takeWhile Lex.digit=(s.drop k).take j++(s.drop (k+j)).takeWhile Lex.digit)∧env=c6 [L.str s,kN,fq,hc, .bool false, .n k, .bool true, .int .u8 (b.toNat:Int), .bool false, .bool false,gJ, .bool false,jC,kO,hZ,hE,lT,la, .bool true, .int .i64 ((k+j:Nat):Int),lU,nj,nk,lf,lg] 0 Env.nil∧aq (.acc pQ 3 la (aP.map Tok.row)::fs) h) (fun j=>s.length - (k+j)) 0 ?_ ?_)
           ·exact ⟨lU,⟨by omega,by simp⟩,by kernel_rfl,st⟩
           rintro j _ h ⟨lU,⟨Be,mG⟩,rfl,st⟩
           refine WP.seq (WP.ak (I.val (v:= .n s.length) (L.pq rfl) (I.ej (L.lss rfl rfl) (fun C8=> ?_) (fun C8=> ?_))))
           ·obtain ⟨oO,kk⟩:∃b,s[k+j]? =some b:=⟨_,List.getElem?_eq_getElem (by omega)⟩
            refine I.yes rfl (I.v (L.str s) (I.yes rfl (I.v (.int .i64 ((k+j:Nat):Int)) (I.yes rfl (I.val (v:= .int .u8 (oO.toNat:Int)) (L.qu rfl rfl kk) (I.yes rfl (I.bx rfl (Lm D st) ?_)))))))
            rintro _ h ⟨rfl,st⟩
            cases IB:Lex.digit oO
            ·refine I.aC (.bool false) (I.bw (WP.exit ?_))
             have hz:(s.drop (k+j)).takeWhile Lex.digit=[]:=(KX kk (by first|assumption|simp [Lex.digit,IB]))
             have r2:(s.drop k).takeWhile Lex.digit=(s.drop k).take j:=by rw [mG,hz,List.append_nil]
             obtain rfl:((s.drop k).takeWhile Lex.digit).length=j:=by rw [r2];simp;omega
             exact ⟨(.bool false),by kernel_rfl,st⟩
            ·refine I.bS (v:= .bool true) rfl (I.nil (WP.cond (t:=true) rfl (WP.skip (WP.block (WP.ad (I.bS (v:= .int .i64 ((k+(j+1):Nat):Int)) (L.cX rfl rfl (by omega) (And.intro (by omega) (by omega))) (I.nil ?_)))))))
             have o5:(s.drop k).takeWhile Lex.digit=(s.drop k).take (j+1)++(s.drop (k+(j+1))).takeWhile Lex.digit:=by
              rw [mG,Ad kk (by first|assumption|simp [Lex.digit,IB]),List.take_add_one,List.getElem?_drop,kk];simp [Nat.add_assoc]
             exact ⟨j+1,(by omega),(.bool true),⟨by omega,o5⟩,by kernel_rfl,st⟩
           ·have R2:¬k+j<s.length:=by omega
            refine I.no rfl (I.no rfl (I.no rfl (I.no rfl (I.aC (.bool false) (I.bw (WP.exit ?_))))))
            have hz:(s.drop (k+j)).takeWhile Lex.digit=[]:=(by rw [List.drop_of_length_le (by omega)];rfl)
            have r2:(s.drop k).takeWhile Lex.digit=(s.drop k).take j:=by rw [mG,hz,List.append_nil]
            obtain rfl:((s.drop k).takeWhile Lex.digit).length=j:=by rw [r2];simp;omega
            exact ⟨(.bool false),by kernel_rfl,st⟩
          ·rintro _ h ⟨z20,rfl,st⟩
           have ti:(b=48)↔b.toNat=48:=⟨fun h=>by rw [h];rfl,fun h=>UInt8.toNat_inj.1 h⟩
           obtain ⟨mg,th,pT⟩:=x4 (f:=Lex.digit) hb (by first|assumption|simp [Lex.digit,one,ed,c1,c2,cG,dm,dR,e6,gN,du])
           refine WP.seq (WP.seq (WP.ad (I.val (v:= .int .i64 (((s.drop k).takeWhile Lex.digit).length:Int)) (L.jA rfl rfl (by omega) (And.intro (by omega) (by omega))) (I.bV (L.gtr rfl rfl) (fun pU=> ?_) (fun pU=> ?_)))))
           ·replace pU:9<((s.drop k).takeWhile Lex.digit).length:=by omega
            refine I.bI (WP.ak (I.aC .U (I.aC (.int .i64 9) (I.aC (.n k) (I.nil (WP.ret ?_))))))
            have cp:Lex.all (s.length+1) 0 s []= .error (9,k):=by
             rw [ay,kg hb];simp [Lex.blank,one,Lex.put,ed,c1,c2,cG,dm,dR,e6,gN,du,pU,Lex.number,Lex.within,pT,ti]
            rw [cp]
            exact ⟨_,(cH (fl (v:= .U) rfl) (cH (fl (v:= .int .i64 9) rfl) (b0 (.n k)))),rfl,st.tail⟩
           ·replace pU:¬9<((s.drop k).takeWhile Lex.digit).length:=by omega
            refine I.nil (WP.cond (t:=false) rfl (WP.skip (WP.seq (WP.seq (WP.ad (I.val (v:= .int .i64 (((s.drop k).takeWhile Lex.digit).length:Int)) (L.jA rfl rfl (by omega) (And.intro (by omega) (by omega))) (I.ej (L.gtr rfl rfl) (fun qV=> ?_) (fun qV=> ?_))))))))
            ·replace qV:1<((s.drop k).takeWhile Lex.digit).length:=by omega
             refine I.yes rfl (I.v (.int .u8 (b.toNat:Int)) (I.yes rfl (I.ej (L.eql rfl rfl) (fun iD=> ?_) (fun iD=> ?_))))
             ·replace iD:b.toNat=48:=by omega
              refine I.v (.bool true) (I.no rfl (I.no rfl (I.no rfl (I.no rfl (I.no rfl (I.no rfl (I.no rfl (I.no rfl (I.no rfl (I.no rfl (I.no rfl (I.no rfl (I.no rfl (I.no rfl (I.no rfl (I.no rfl (I.aC (.bool true) (I.bI (WP.ak (I.aC .U (I.aC (.int .i64 10) (I.aC (.n k) (I.nil (WP.ret ?_))))))))))))))))))))))))
              have cp:Lex.all (s.length+1) 0 s []= .error (10,k):=by
               rw [ay,kg hb];simp [Lex.blank,one,Lex.put,ed,c1,c2,cG,dm,dR,e6,gN,du,pU,qV,iD,Lex.number,Lex.within,pT,ti]
              rw [cp]
              exact ⟨_,(cH (fl (v:= .U) rfl) (cH (fl (v:= .int .i64 10) rfl) (b0 (.n k)))),rfl,st.tail⟩
             ·replace iD:¬(b.toNat=48):=by omega
              refine I.v (.bool false) (I.yes rfl (I.v (.int .i64 ((k+((s.drop k).takeWhile Lex.digit).length:Nat):Int)) (I.yes rfl (I.v (L.str s) (I.yes rfl (I.val (v:= .n s.length) (L.pq rfl) (I.yes rfl (I.ej (L.lss rfl rfl) (fun bw=> ?_) (fun bw=> ?_)))))))))
              ·obtain ⟨nf,j1⟩:∃b,s[k+((s.drop k).takeWhile Lex.digit).length]? =some b:=⟨_,List.getElem?_eq_getElem (by omega)⟩
               have oo:=QV j1
               have hnd:=QX j1
               refine I.yes rfl (I.v (.bool true) (I.yes rfl (I.v (L.str s) (I.yes rfl (I.v (.int .i64 ((k+((s.drop k).takeWhile Lex.digit).length:Nat):Int)) (I.yes rfl (I.val (v:= .int .u8 (nf.toNat:Int)) (L.qu rfl rfl j1) (I.yes rfl (I.bx rfl (GI D st) ?_)))))))))
               rintro _ h ⟨rfl,st⟩
               cases Ln:Lex.small nf
               ·refine I.yes rfl (I.v (.bool false) (I.yes rfl (I.v (L.str s) (I.yes rfl (I.v (.int .i64 ((k+((s.drop k).takeWhile Lex.digit).length:Nat):Int)) (I.yes rfl (I.val (v:= .int .u8 (nf.toNat:Int)) (L.qu rfl rfl j1) (I.yes rfl (I.ej (L.eql rfl rfl) (fun hv=> ?_) (fun hv=> ?_))))))))))
                ·replace hv:nf.toNat=95:=by omega
                 refine I.yes rfl (I.v (.bool true) (I.yes rfl (I.v (.bool true) (I.aC (.bool true) (I.bI (WP.ak (I.aC .U (I.aC (.int .i64 10) (I.aC (.n k) (I.nil (WP.ret ?_)))))))))))
                 have cp:Lex.all (s.length+1) 0 s []= .error (10,k):=by
                  rw [ay,kg hb];simp [Lex.blank,one,Lex.put,ed,c1,c2,cG,dm,dR,e6,gN,du,pU,qV,iD,oo,hnd,Ln,hv,Lex.number,Lex.within,pT,ti]
                 rw [cp]
                 exact ⟨_,(cH (fl (v:= .U) rfl) (cH (fl (v:= .int .i64 10) rfl) (b0 (.n k)))),rfl,st.tail⟩
                ·replace hv:¬(nf.toNat=95):=by omega
                 refine I.yes rfl (I.v (.bool false) (I.yes rfl (I.v (.bool false) (I.aC (.bool false) (I.bw (WP.skip (WP.ak (I.val (v:=L.str ((s.drop k).takeWhile Lex.digit)) (L.qK rfl rfl rfl (by omega) (by omega) (by rw [Nat.add_sub_cancel_left];exact wg _)) (I.val (v:= .agg [.int .i64 2,L.str ((s.drop k).takeWhile Lex.digit), .n k]) (L.build rfl) (I.fS (rows:=[[.int .i64 2,L.str ((s.drop k).takeWhile Lex.digit), .n k]]) st rfl (by decide) rfl (by simp) (fun lR h st=> ?_)))))))))))
                 refine I.kF st 1 rfl rfl rfl (st.bt 0 rfl) (by decide) (by simp;omega) (fun f2 v2 h st=> ?_)
                 rw [show (aP.map Tok.row)++[[V.int .i64 2,L.str ((s.drop k).takeWhile Lex.digit),V.n k]]=(aP++[Tok.mk 2 ((s.drop k).takeWhile Lex.digit) k]).map Tok.row from by simp [Tok.row]] at st
                 obtain ⟨adb,rfl⟩:=(st.gh 1 rfl).ne (by simp)
                 refine I.nil (WP.ad (I.aC (.int .i64 ((k+((s.drop k).takeWhile Lex.digit).length:Nat):Int)) (I.nil ?_)))
                 exact ⟨g,(Nat.lt_succ_self _),k+((s.drop k).takeWhile Lex.digit).length,(aP++[Tok.mk 2 ((s.drop k).takeWhile Lex.digit) k]),f2,(.au adb 0 ((aP++[Tok.mk 2 ((s.drop k).takeWhile Lex.digit) k]).map Tok.row).length none),kN,fq,hc,(.bool true),(.int .u8 (b.toNat:Int)),(.bool false),(.bool false),gJ,(.bool false),jC,kO,hZ,hE,lT,(.bool true),(.int .i64 ((k+((s.drop k).takeWhile Lex.digit).length:Nat):Int)),z20,(.bool false),(.bool false),lf,lg,⟨by rw [ay,kg hb];simp [Lex.blank,one,Lex.put,ed,c1,c2,cG,dm,dR,e6,gN,du,pU,qV,iD,oo,hnd,Ln,hv,Lex.number,Lex.within,pT,ti],(by omega),(by omega),(by first|omega|(simp;omega))⟩,by kernel_rfl,st.tail⟩
               ·refine I.yes rfl (I.v (.bool true) (I.no rfl (I.no rfl (I.no rfl (I.no rfl (I.yes rfl (I.v (.bool true) (I.yes rfl (I.v (.bool true) (I.aC (.bool true) (I.bI (WP.ak (I.aC .U (I.aC (.int .i64 10) (I.aC (.n k) (I.nil (WP.ret ?_)))))))))))))))))
                have cp:Lex.all (s.length+1) 0 s []= .error (10,k):=by
                 rw [ay,kg hb];simp [Lex.blank,one,Lex.put,ed,c1,c2,cG,dm,dR,e6,gN,du,pU,qV,iD,oo,hnd,Ln,Lex.number,Lex.within,pT,ti]
                rw [cp]
                exact ⟨_,(cH (fl (v:= .U) rfl) (cH (fl (v:= .int .i64 10) rfl) (b0 (.n k)))),rfl,st.tail⟩
              ·have oo:s.drop (k+((s.drop k).takeWhile Lex.digit).length)=[]:=List.drop_of_length_le (by omega)
               refine I.yes rfl (I.v (.bool false) (I.no rfl (I.no rfl (I.no rfl (I.no rfl (I.no rfl (I.no rfl (I.no rfl (I.no rfl (I.no rfl (I.no rfl (I.yes rfl (I.v (.bool false) (I.aC (.bool false) (I.bw (WP.skip (WP.ak (I.val (v:=L.str ((s.drop k).takeWhile Lex.digit)) (L.qK rfl rfl rfl (by omega) (by omega) (by rw [Nat.add_sub_cancel_left];exact wg _)) (I.val (v:= .agg [.int .i64 2,L.str ((s.drop k).takeWhile Lex.digit), .n k]) (L.build rfl) (I.fS (rows:=[[.int .i64 2,L.str ((s.drop k).takeWhile Lex.digit), .n k]]) st rfl (by decide) rfl (by simp) (fun R3 h st=> ?_)))))))))))))))))))))
               refine I.kF st 1 rfl rfl rfl (st.bt 0 rfl) (by decide) (by simp;omega) (fun f3 v3 h st=> ?_)
               rw [show (aP.map Tok.row)++[[V.int .i64 2,L.str ((s.drop k).takeWhile Lex.digit),V.n k]]=(aP++[Tok.mk 2 ((s.drop k).takeWhile Lex.digit) k]).map Tok.row from by simp [Tok.row]] at st
               obtain ⟨Lo,rfl⟩:=(st.gh 1 rfl).ne (by simp)
               refine I.nil (WP.ad (I.aC (.int .i64 ((k+((s.drop k).takeWhile Lex.digit).length:Nat):Int)) (I.nil ?_)))
               exact ⟨g,(Nat.lt_succ_self _),k+((s.drop k).takeWhile Lex.digit).length,(aP++[Tok.mk 2 ((s.drop k).takeWhile Lex.digit) k]),f3,(.au Lo 0 ((aP++[Tok.mk 2 ((s.drop k).takeWhile Lex.digit) k]).map Tok.row).length none),kN,fq,hc,(.bool true),(.int .u8 (b.toNat:Int)),(.bool false),(.bool false),gJ,(.bool false),jC,kO,hZ,hE,lT,(.bool true),(.int .i64 ((k+((s.drop k).takeWhile Lex.digit).length:Nat):Int)),z20,(.bool false),(.bool false),lf,lg,⟨by rw [ay,kg hb];simp [Lex.blank,one,Lex.put,ed,c1,c2,cG,dm,dR,e6,gN,du,pU,qV,iD,oo,Lex.number,Lex.within,pT,ti],(by omega),(by omega),(by first|omega|(simp;omega))⟩,by kernel_rfl,st.tail⟩
            ·replace qV:¬1<((s.drop k).takeWhile Lex.digit).length:=by omega
             refine I.no rfl (I.no rfl (I.v (.bool false) (I.yes rfl (I.v (.int .i64 ((k+((s.drop k).takeWhile Lex.digit).length:Nat):Int)) (I.yes rfl (I.v (L.str s) (I.yes rfl (I.val (v:= .n s.length) (L.pq rfl) (I.yes rfl (I.ej (L.lss rfl rfl) (fun bw=> ?_) (fun bw=> ?_)))))))))))
             ·obtain ⟨nf,j1⟩:∃b,s[k+((s.drop k).takeWhile Lex.digit).length]? =some b:=⟨_,List.getElem?_eq_getElem (by omega)⟩
              have oo:=QV j1
              have hnd:=QX j1
              refine I.yes rfl (I.v (.bool true) (I.yes rfl (I.v (L.str s) (I.yes rfl (I.v (.int .i64 ((k+((s.drop k).takeWhile Lex.digit).length:Nat):Int)) (I.yes rfl (I.val (v:= .int .u8 (nf.toNat:Int)) (L.qu rfl rfl j1) (I.yes rfl (I.bx rfl (GI D st) ?_)))))))))
              rintro _ h ⟨rfl,st⟩
              cases Lp:Lex.small nf
              ·refine I.yes rfl (I.v (.bool false) (I.yes rfl (I.v (L.str s) (I.yes rfl (I.v (.int .i64 ((k+((s.drop k).takeWhile Lex.digit).length:Nat):Int)) (I.yes rfl (I.val (v:= .int .u8 (nf.toNat:Int)) (L.qu rfl rfl j1) (I.yes rfl (I.ej (L.eql rfl rfl) (fun jQ=> ?_) (fun jQ=> ?_))))))))))
               ·replace jQ:nf.toNat=95:=by omega
                refine I.yes rfl (I.v (.bool true) (I.yes rfl (I.v (.bool true) (I.aC (.bool true) (I.bI (WP.ak (I.aC .U (I.aC (.int .i64 10) (I.aC (.n k) (I.nil (WP.ret ?_)))))))))))
                have cp:Lex.all (s.length+1) 0 s []= .error (10,k):=by
                 rw [ay,kg hb];simp [Lex.blank,one,Lex.put,ed,c1,c2,cG,dm,dR,e6,gN,du,pU,qV,oo,hnd,Lp,jQ,Lex.number,Lex.within,pT,ti]
                rw [cp]
                exact ⟨_,(cH (fl (v:= .U) rfl) (cH (fl (v:= .int .i64 10) rfl) (b0 (.n k)))),rfl,st.tail⟩
               ·replace jQ:¬(nf.toNat=95):=by omega
                refine I.yes rfl (I.v (.bool false) (I.yes rfl (I.v (.bool false) (I.aC (.bool false) (I.bw (WP.skip (WP.ak (I.val (v:=L.str ((s.drop k).takeWhile Lex.digit)) (L.qK rfl rfl rfl (by omega) (by omega) (by rw [Nat.add_sub_cancel_left];exact wg _)) (I.val (v:= .agg [.int .i64 2,L.str ((s.drop k).takeWhile Lex.digit), .n k]) (L.build rfl) (I.fS (rows:=[[.int .i64 2,L.str ((s.drop k).takeWhile Lex.digit), .n k]]) st rfl (by decide) rfl (by simp) (fun ade h st=> ?_)))))))))))
                refine I.kF st 1 rfl rfl rfl (st.bt 0 rfl) (by decide) (by simp;omega) (fun f4 v4 h st=> ?_)
                rw [show (aP.map Tok.row)++[[V.int .i64 2,L.str ((s.drop k).takeWhile Lex.digit),V.n k]]=(aP++[Tok.mk 2 ((s.drop k).takeWhile Lex.digit) k]).map Tok.row from by simp [Tok.row]] at st
                obtain ⟨yh,rfl⟩:=(st.gh 1 rfl).ne (by simp)
                refine I.nil (WP.ad (I.aC (.int .i64 ((k+((s.drop k).takeWhile Lex.digit).length:Nat):Int)) (I.nil ?_)))
                exact ⟨g,(Nat.lt_succ_self _),k+((s.drop k).takeWhile Lex.digit).length,(aP++[Tok.mk 2 ((s.drop k).takeWhile Lex.digit) k]),f4,(.au yh 0 ((aP++[Tok.mk 2 ((s.drop k).takeWhile Lex.digit) k]).map Tok.row).length none),kN,fq,hc,(.bool true),(.int .u8 (b.toNat:Int)),(.bool false),(.bool false),gJ,(.bool false),jC,kO,hZ,hE,lT,(.bool true),(.int .i64 ((k+((s.drop k).takeWhile Lex.digit).length:Nat):Int)),z20,(.bool false),(.bool false),lf,lg,⟨by rw [ay,kg hb];simp [Lex.blank,one,Lex.put,ed,c1,c2,cG,dm,dR,e6,gN,du,pU,qV,oo,hnd,Lp,jQ,Lex.number,Lex.within,pT,ti],(by omega),(by omega),(by first|omega|(simp;omega))⟩,by kernel_rfl,st.tail⟩
              ·refine I.yes rfl (I.v (.bool true) (I.no rfl (I.no rfl (I.no rfl (I.no rfl (I.yes rfl (I.v (.bool true) (I.yes rfl (I.v (.bool true) (I.aC (.bool true) (I.bI (WP.ak (I.aC .U (I.aC (.int .i64 10) (I.aC (.n k) (I.nil (WP.ret ?_)))))))))))))))))
               have cp:Lex.all (s.length+1) 0 s []= .error (10,k):=by
                rw [ay,kg hb];simp [Lex.blank,one,Lex.put,ed,c1,c2,cG,dm,dR,e6,gN,du,pU,qV,oo,hnd,Lp,Lex.number,Lex.within,pT,ti]
               rw [cp]
               exact ⟨_,(cH (fl (v:= .U) rfl) (cH (fl (v:= .int .i64 10) rfl) (b0 (.n k)))),rfl,st.tail⟩
             ·have oo:s.drop (k+((s.drop k).takeWhile Lex.digit).length)=[]:=List.drop_of_length_le (by omega)
              refine I.yes rfl (I.v (.bool false) (I.no rfl (I.no rfl (I.no rfl (I.no rfl (I.no rfl (I.no rfl (I.no rfl (I.no rfl (I.no rfl (I.no rfl (I.yes rfl (I.v (.bool false) (I.aC (.bool false) (I.bw (WP.skip (WP.ak (I.val (v:=L.str ((s.drop k).takeWhile Lex.digit)) (L.qK rfl rfl rfl (by omega) (by omega) (by rw [Nat.add_sub_cancel_left];exact wg _)) (I.val (v:= .agg [.int .i64 2,L.str ((s.drop k).takeWhile Lex.digit), .n k]) (L.build rfl) (I.fS (rows:=[[.int .i64 2,L.str ((s.drop k).takeWhile Lex.digit), .n k]]) st rfl (by decide) rfl (by simp) (fun ahq h st=> ?_)))))))))))))))))))))
              refine I.kF st 1 rfl rfl rfl (st.bt 0 rfl) (by decide) (by simp;omega) (fun f5 v5 h st=> ?_)
              rw [show (aP.map Tok.row)++[[V.int .i64 2,L.str ((s.drop k).takeWhile Lex.digit),V.n k]]=(aP++[Tok.mk 2 ((s.drop k).takeWhile Lex.digit) k]).map Tok.row from by simp [Tok.row]] at st
              obtain ⟨adf,rfl⟩:=(st.gh 1 rfl).ne (by simp)
              refine I.nil (WP.ad (I.aC (.int .i64 ((k+((s.drop k).takeWhile Lex.digit).length:Nat):Int)) (I.nil ?_)))
              exact ⟨g,(Nat.lt_succ_self _),k+((s.drop k).takeWhile Lex.digit).length,(aP++[Tok.mk 2 ((s.drop k).takeWhile Lex.digit) k]),f5,(.au adf 0 ((aP++[Tok.mk 2 ((s.drop k).takeWhile Lex.digit) k]).map Tok.row).length none),kN,fq,hc,(.bool true),(.int .u8 (b.toNat:Int)),(.bool false),(.bool false),gJ,(.bool false),jC,kO,hZ,hE,lT,(.bool true),(.int .i64 ((k+((s.drop k).takeWhile Lex.digit).length:Nat):Int)),z20,(.bool false),(.bool false),lf,lg,⟨by rw [ay,kg hb];simp [Lex.blank,one,Lex.put,ed,c1,c2,cG,dm,dR,e6,gN,du,pU,qV,oo,Lex.number,Lex.within,pT,ti],(by omega),(by omega),(by first|omega|(simp;omega))⟩,by kernel_rfl,st.tail⟩
        ·refine I.bI (WP.ak (I.aC (.n k) (I.nil (WP.xo (fun env h=>∃GL,env=c6 [L.str s,kN,fq,hc, .bool false, .n k, .bool true, .int .u8 (b.toNat:Int), .bool false, .bool false,gJ, .bool true, .int .i64 ((k+((s.drop k).takeWhile Lex.within).length:Nat):Int),GL,hZ,hE,lT,la,pS,oM,lU,nj,nk,lf,lg] 0 Env.nil∧aq (.acc pQ 3 la (aP.map Tok.row)::fs) h) ?_ ?_))))
         ·refine WP.block (WP.dS (α:=Nat) (fun j env h=>∃kO,(k+j≤s.length∧(s.drop k).takeWhile Lex.within=(s.drop k).take j++(s.drop (k+j)).takeWhile Lex.within)∧env=c6 [L.str s,kN,fq,hc, .bool false, .n k, .bool true, .int .u8 (b.toNat:Int), .bool false, .bool false,gJ, .bool true, .int .i64 ((k+j:Nat):Int),kO,hZ,hE,lT,la,pS,oM,lU,nj,nk,lf,lg] 0 Env.nil∧aq (.acc pQ 3 la (aP.map Tok.row)::fs) h) (fun j=>s.length - (k+j)) 0 ?_ ?_)
          ·exact ⟨kO,⟨by omega,by simp⟩,by kernel_rfl,st⟩
          rintro j _ h ⟨kO,⟨Be,mG⟩,rfl,st⟩
          refine WP.seq (WP.ak (I.val (v:= .n s.length) (L.pq rfl) (I.ej (L.lss rfl rfl) (fun C8=> ?_) (fun C8=> ?_))))
          ·obtain ⟨oO,kk⟩:∃b,s[k+j]? =some b:=⟨_,List.getElem?_eq_getElem (by omega)⟩
           refine I.yes rfl (I.v (L.str s) (I.yes rfl (I.v (.int .i64 ((k+j:Nat):Int)) (I.yes rfl (I.val (v:= .int .u8 (oO.toNat:Int)) (L.qu rfl rfl kk) (I.yes rfl (I.bx rfl (GI D st) ?_)))))))
           rintro _ h ⟨rfl,st⟩
           cases GM:Lex.small oO
           ·refine I.yes rfl (I.v (.bool false) (I.yes rfl (I.v (L.str s) (I.yes rfl (I.v (.int .i64 ((k+j:Nat):Int)) (I.yes rfl (I.val (v:= .int .u8 (oO.toNat:Int)) (L.qu rfl rfl kk) (I.yes rfl (I.bx rfl (Lm D st) ?_)))))))))
            rintro _ h ⟨rfl,st⟩
            cases Lq:Lex.digit oO
            ·refine I.yes rfl (I.v (.bool false) (I.yes rfl (I.v (.bool false) (I.yes rfl (I.v (L.str s) (I.yes rfl (I.v (.int .i64 ((k+j:Nat):Int)) (I.yes rfl (I.val (v:= .int .u8 (oO.toNat:Int)) (L.qu rfl rfl kk) (I.yes rfl (I.ej (L.eql rfl rfl) (fun kl=> ?_) (fun kl=> ?_))))))))))))
             ·replace kl:oO.toNat=95:=by omega
              refine I.yes rfl (I.val (v:= .bool true) rfl (I.bS (v:= .bool true) rfl (I.nil (WP.cond (t:=true) rfl (WP.skip (WP.block (WP.ad (I.bS (v:= .int .i64 ((k+(j+1):Nat):Int)) (L.cX rfl rfl (by omega) (And.intro (by omega) (by omega))) (I.nil ?_)))))))))
              have o5:(s.drop k).takeWhile Lex.within=(s.drop k).take (j+1)++(s.drop (k+(j+1))).takeWhile Lex.within:=by
               rw [mG,Ad kk (by first|assumption|simp [Lex.within,GM,Lq,kl]),List.take_add_one,List.getElem?_drop,kk];simp [Nat.add_assoc]
              exact ⟨j+1,(by omega),(.bool true),⟨by omega,o5⟩,by kernel_rfl,st⟩
             ·replace kl:¬(oO.toNat=95):=by omega
              refine I.yes rfl (I.v (.bool false) (I.aC (.bool false) (I.bw (WP.exit ?_))))
              have hz:(s.drop (k+j)).takeWhile Lex.within=[]:=(KX kk (by first|assumption|simp [Lex.within,GM,Lq,kl]))
              have r2:(s.drop k).takeWhile Lex.within=(s.drop k).take j:=by rw [mG,hz,List.append_nil]
              obtain rfl:((s.drop k).takeWhile Lex.within).length=j:=by rw [r2];simp;omega
              exact ⟨(.bool false),by kernel_rfl,st⟩
            ·refine I.yes rfl (I.val (v:= .bool true) rfl (I.yes rfl (I.val (v:= .bool true) rfl (I.no rfl (I.no rfl (I.no rfl (I.no rfl (I.yes rfl (I.val (v:= .bool true) rfl (I.bS (v:= .bool true) rfl (I.nil (WP.cond (t:=true) rfl (WP.skip (WP.block (WP.ad (I.bS (v:= .int .i64 ((k+(j+1):Nat):Int)) (L.cX rfl rfl (by omega) (And.intro (by omega) (by omega))) (I.nil ?_)))))))))))))))))
             have o5:(s.drop k).takeWhile Lex.within=(s.drop k).take (j+1)++(s.drop (k+(j+1))).takeWhile Lex.within:=by
              rw [mG,Ad kk (by first|assumption|simp [Lex.within,GM,Lq]),List.take_add_one,List.getElem?_drop,kk];simp [Nat.add_assoc]
             exact ⟨j+1,(by omega),(.bool true),⟨by omega,o5⟩,by kernel_rfl,st⟩
           ·refine I.yes rfl (I.val (v:= .bool true) rfl (I.no rfl (I.no rfl (I.no rfl (I.no rfl (I.yes rfl (I.val (v:= .bool true) rfl (I.yes rfl (I.val (v:= .bool true) rfl (I.no rfl (I.no rfl (I.no rfl (I.no rfl (I.yes rfl (I.val (v:= .bool true) rfl (I.bS (v:= .bool true) rfl (I.nil (WP.cond (t:=true) rfl (WP.skip (WP.block (WP.ad (I.bS (v:= .int .i64 ((k+(j+1):Nat):Int)) (L.cX rfl rfl (by omega) (And.intro (by omega) (by omega))) (I.nil ?_)))))))))))))))))))))))
            have o5:(s.drop k).takeWhile Lex.within=(s.drop k).take (j+1)++(s.drop (k+(j+1))).takeWhile Lex.within:=by
             rw [mG,Ad kk (by first|assumption|simp [Lex.within,GM]),List.take_add_one,List.getElem?_drop,kk];simp [Nat.add_assoc]
            exact ⟨j+1,(by omega),(.bool true),⟨by omega,o5⟩,by kernel_rfl,st⟩
          ·have R2:¬k+j<s.length:=by omega
           refine I.no rfl (I.no rfl (I.no rfl (I.no rfl (I.no rfl (I.no rfl (I.no rfl (I.no rfl (I.no rfl (I.no rfl (I.no rfl (I.no rfl (I.no rfl (I.no rfl (I.no rfl (I.no rfl (I.aC (.bool false) (I.bw (WP.exit ?_))))))))))))))))))
           have hz:(s.drop (k+j)).takeWhile Lex.within=[]:=(by rw [List.drop_of_length_le (by omega)];rfl)
           have r2:(s.drop k).takeWhile Lex.within=(s.drop k).take j:=by rw [mG,hz,List.append_nil]
           obtain rfl:((s.drop k).takeWhile Lex.within).length=j:=by rw [r2];simp;omega
           exact ⟨(.bool false),by kernel_rfl,st⟩
         ·rintro _ h ⟨GL,rfl,st⟩
          obtain ⟨mg,th,pT⟩:=x4 (f:=Lex.within) hb (by first|assumption|simp [Lex.within,one,ed,c1,c2,cG,dm,dR,e6,gN])
          refine WP.ak (I.aC (.int .i64 1) (I.nil (WP.seq (WP.ak (I.val (v:=L.str ((s.drop k).takeWhile Lex.within)) (L.qK rfl rfl rfl (by omega) (by omega) (by rw [Nat.add_sub_cancel_left];exact wg _)) (I.dK rfl (ac8 D st) ?_))))))
          rintro _ h ⟨rfl,st⟩
          by_cases uB:((s.drop k).takeWhile Lex.within)∈Lex.keys
          ·rw [show decide (((s.drop k).takeWhile Lex.within)∈Lex.keys)=true by simp [uB]]
           refine I.nil (WP.cond (t:=true) rfl (WP.ad (I.bS (v:= .int .i64 3) rfl (I.nil (WP.seq (WP.seq (WP.ad (I.val (v:= .int .i64 (((s.drop k).takeWhile Lex.within).length:Int)) (L.jA rfl rfl (by omega) (And.intro (by omega) (by omega))) ?_))))))))
           have Ez:=abf uB
           refine I.bV (L.gtr rfl rfl) (fun j4=>by exfalso;omega) (fun j4=> ?_)
           refine I.bw (WP.skip (WP.ak (I.val (v:=L.str ((s.drop k).takeWhile Lex.within)) (L.qK rfl rfl rfl (by omega) (by omega) (by rw [Nat.add_sub_cancel_left];exact wg _)) (I.val (v:= .agg [.int .i64 3,L.str ((s.drop k).takeWhile Lex.within), .n k]) (L.build rfl) (I.fS (rows:=[[.int .i64 3,L.str ((s.drop k).takeWhile Lex.within), .n k]]) st rfl (by decide) rfl (by simp) (fun ahr h st=> ?_))))))
           refine I.kF st 1 rfl rfl rfl (st.bt 0 rfl) (by decide) (by simp;omega) (fun f6 v6 h st=> ?_)
           rw [show (aP.map Tok.row)++[[V.int .i64 3,L.str ((s.drop k).takeWhile Lex.within),V.n k]]=(aP++[Tok.mk 3 ((s.drop k).takeWhile Lex.within) k]).map Tok.row from by simp [Tok.row]] at st
           obtain ⟨GN,rfl⟩:=(st.gh 1 rfl).ne (by simp)
           refine I.nil (WP.ad (I.aC (.int .i64 ((k+((s.drop k).takeWhile Lex.within).length:Nat):Int)) (I.nil ?_)))
           exact ⟨g,(Nat.lt_succ_self _),k+((s.drop k).takeWhile Lex.within).length,(aP++[Tok.mk 3 ((s.drop k).takeWhile Lex.within) k]),f6,(.au GN 0 ((aP++[Tok.mk 3 ((s.drop k).takeWhile Lex.within) k]).map Tok.row).length none),kN,fq,hc,(.bool true),(.int .u8 (b.toNat:Int)),(.bool false),(.bool false),gJ,(.bool true),(.int .i64 ((k+((s.drop k).takeWhile Lex.within).length:Nat):Int)),GL,(.bool true),(.bool false),(.int .i64 3),pS,oM,lU,nj,nk,lf,lg,⟨by rw [ay,kg hb];simp [Lex.blank,one,Lex.put,ed,c1,c2,cG,dm,dR,e6,gN,uB,Lex.word],(by omega),(by omega),(by first|omega|(simp;omega))⟩,by kernel_rfl,st.tail⟩
          ·rw [show decide (((s.drop k).takeWhile Lex.within)∈Lex.keys)=false by simp [uB]]
           refine I.nil (WP.cond (t:=false) rfl (WP.skip (WP.seq (WP.seq (WP.ad (I.val (v:= .int .i64 (((s.drop k).takeWhile Lex.within).length:Int)) (L.jA rfl rfl (by omega) (And.intro (by omega) (by omega))) (I.bV (L.gtr rfl rfl) (fun j4=> ?_) (fun j4=> ?_))))))))
           ·replace j4:20<((s.drop k).takeWhile Lex.within).length:=by omega
            refine I.bI (WP.ak (I.aC .U (I.aC (.int .i64 9) (I.aC (.n k) (I.nil (WP.ret ?_))))))
            have cp:Lex.all (s.length+1) 0 s []= .error (9,k):=by
             rw [ay,kg hb];simp [Lex.blank,one,Lex.put,ed,c1,c2,cG,dm,dR,e6,gN,uB,j4,Lex.word]
            rw [cp]
            exact ⟨_,(cH (fl (v:= .U) rfl) (cH (fl (v:= .int .i64 9) rfl) (b0 (.n k)))),rfl,st.tail⟩
           ·replace j4:¬20<((s.drop k).takeWhile Lex.within).length:=by omega
            refine I.bw (WP.skip (WP.ak (I.val (v:=L.str ((s.drop k).takeWhile Lex.within)) (L.qK rfl rfl rfl (by omega) (by omega) (by rw [Nat.add_sub_cancel_left];exact wg _)) (I.val (v:= .agg [.int .i64 1,L.str ((s.drop k).takeWhile Lex.within), .n k]) (L.build rfl) (I.fS (rows:=[[.int .i64 1,L.str ((s.drop k).takeWhile Lex.within), .n k]]) st rfl (by decide) rfl (by simp) (fun ahs h st=> ?_))))))
            refine I.kF st 1 rfl rfl rfl (st.bt 0 rfl) (by decide) (by simp;omega) (fun f7 GO h st=> ?_)
            rw [show (aP.map Tok.row)++[[V.int .i64 1,L.str ((s.drop k).takeWhile Lex.within),V.n k]]=(aP++[Tok.mk 1 ((s.drop k).takeWhile Lex.within) k]).map Tok.row from by simp [Tok.row]] at st
            obtain ⟨lh,rfl⟩:=(st.gh 1 rfl).ne (by simp)
            refine I.nil (WP.ad (I.aC (.int .i64 ((k+((s.drop k).takeWhile Lex.within).length:Nat):Int)) (I.nil ?_)))
            exact ⟨g,(Nat.lt_succ_self _),k+((s.drop k).takeWhile Lex.within).length,(aP++[Tok.mk 1 ((s.drop k).takeWhile Lex.within) k]),f7,(.au lh 0 ((aP++[Tok.mk 1 ((s.drop k).takeWhile Lex.within) k]).map Tok.row).length none),kN,fq,hc,(.bool true),(.int .u8 (b.toNat:Int)),(.bool false),(.bool false),gJ,(.bool true),(.int .i64 ((k+((s.drop k).takeWhile Lex.within).length:Nat):Int)),GL,(.bool false),(.bool false),(.int .i64 1),pS,oM,lU,nj,nk,lf,lg,⟨by rw [ay,kg hb];simp [Lex.blank,one,Lex.put,ed,c1,c2,cG,dm,dR,e6,gN,uB,j4,Lex.word],(by omega),(by omega),(by first|omega|(simp;omega))⟩,by kernel_rfl,st.tail⟩
  ·replace c1:¬(k<s.length):=by omega
   refine I.bw (WP.exit (WP.ak (I.val (v:= .n s.length) (L.pq rfl) (I.val (v:= .agg [.int .i64 0, .str 0 0, .n s.length]) (L.build rfl) (I.fS (rows:=[[.int .i64 0, .str 0 0, .n s.length]]) st rfl (by decide) rfl (by simp) (fun aht h st=> ?_))))))
   refine I.kF st 1 rfl rfl rfl (st.bt 0 rfl) (by decide) (by simp;omega) (fun f8 Av h st=> ?_)
   rw [show (aP.map Tok.row)++[[V.int .i64 0,V.str 0 0,V.n s.length]]=(aP++[Tok.mk 0 [] s.length]).map Tok.row from by simp [Tok.row];rfl] at st
   obtain ⟨Lr,rfl⟩:=(st.gh 1 rfl).ne (by simp)
   refine I.aC (.int .i64 0) (I.aC (.int .i64 0) (I.nil (WP.ret ?_)))
   have hz:s.drop k=[]:=List.drop_of_length_le (by omega)
   have cp:Lex.all (s.length+1) 0 s []= .ok (aP++[⟨0,[],s.length⟩]):=by
    rw [ay,hz,show k=s.length by omega];rfl
   rw [cp]
   exact ⟨_,(cH (fl (v:= .au Lr 0 (((aP++[Tok.mk 0 [] s.length]).map Tok.row).length) none) rfl) (cH (fl (v:= .int .i64 0) rfl) (b0 (.int .i64 0)))),_,rfl,(st.tail).shut (by decide)⟩
end
end Go.Eng.YtmcjcbldmoijiaaGreatDoor
namespace Go.Eng.YtmcjcbldmoijiaaGreatDoor
open Go.Eng
noncomputable section
variable {c:Ctx}
theorem r3 (D:gj c) {fs:List Fact} {h:ae} {p:dV} {i d e a:Nat} {S:Par.dc} (st:aq (p.bX i d e a::p.toks::fs) h) (hx:XAt p i e a S):
 bT c 56 [.ptr p.aT 0] h fun v h1=>v= .int .i64 (aX p i:Int)∧aq (p.bX i d e a::p.toks::fs) h1:=by
 obtain ⟨t,ht,cF⟩:=hx.row
 rw [K4 ht]
 refine bT.dN D.f56 rfl (WP.ak (I.aC (.int .i64 0) (I.nil (WP.seq (WP.draw (af.v (.ptr p.aT 0) (af.v (.ptr p.aT 0) (af.f (.ptr p.aT 0) (af.b (.au p.cr p.to p.aP.length p.cap) (st.aN 0 rfl) (af.v (.ptr p.aT 0) (af.v (.ptr p.aT 0) (af.f (.ptr p.aT 1) (af.b (.n i) (st.aN 0 rfl) (af.val (v:= .ptr p.cr (p.to+i * 3)) (L.bY rfl rfl hx.lt) (af.f (.ptr p.cr (p.to+i * 3+2)) (af.val (v:= .n t.at_) (L.load rfl ((st.bt 1 rfl).xq cF (show _=some _ from rfl))) (af.aC (.n t.at_) (af.nil (WP.ret ?_)))))))))))))))))))
 exact ⟨_,(b0 (.n t.at_)),(rfl),st⟩
theorem r4 (D:gj c) {fs:List Fact} {h:ae} {p:dV} {i d e a:Nat} {S:Par.dc} {s:List UInt8} (st:aq (p.bX i d e a::p.toks::fs) h) (hx:XAt p i e a S):
 bT c 82 [.ptr p.aT 0,L.str s] h fun v h1=>v= .bool (Par.gf s S)∧aq (p.bX i d e a::p.toks::fs) h1:=by
 obtain ⟨t,ht,cF⟩:=hx.row
 rw [hx.abj ht]
 refine bT.dN D.f82 rfl (WP.ak (I.aC (.bool false) (I.nil (WP.seq (WP.draw (af.v (.ptr p.aT 0) (af.v (.ptr p.aT 0) (af.f (.ptr p.aT 0) (af.b (.au p.cr p.to p.aP.length p.cap) (st.aN 0 rfl) (af.v (.ptr p.aT 0) (af.v (.ptr p.aT 0) (af.f (.ptr p.aT 1) (af.b (.n i) (st.aN 0 rfl) (af.val (v:= .ptr p.cr (p.to+i * 3)) (L.bY rfl rfl hx.lt) (af.val (v:= .agg [.n t.kind,L.str t.text, .n t.at_]) (L.da rfl ((st.bt 1 rfl).da cF)) (af.dI st L.alloc (fun ff h st=> ?_)))))))))))))))))
 refine af.bM (row':=[.n t.kind,L.str t.text, .n t.at_]) st 0 rfl rfl rfl rfl rfl rfl rfl (fun h st=>rfl) (fun h st=> ?_)
 refine af.ak (I.v (.ptr p.aT 0) (I.f (.ptr p.aT 3) (I.b (.n e) (st.aN 1 rfl) (I.ej (L.eql rfl rfl) (fun c1=> ?_) (fun c1=> ?_)))))
 ·replace c1:e=0:=by omega
  refine I.yes rfl (I.f (.ptr ff 0) (I.yes rfl (I.b (.n t.kind) (st.aN 0 rfl) (I.yes rfl (I.ej (L.eql rfl rfl) (fun c2=> ?_) (fun c2=> ?_))))))
  ·replace c2:t.kind=4:=by omega
   refine I.yes rfl (I.v (.bool true) (I.no rfl (I.no rfl (I.no rfl (I.yes rfl (I.v (.bool true) (I.v (.bool true) (I.yes rfl (I.f (.ptr ff 1) (I.yes rfl (I.b (L.str t.text) (st.aN 0 rfl) (I.yes rfl (I.v (L.str s) (I.yes rfl (I.ej (L.seq rfl rfl) (fun cG=> ?_) (fun cG=> ?_))))))))))))))))
   ·refine I.aC (.bool true) (I.nil (WP.ret ?_))
    exact ⟨_,(b0 (.bool true)),((by simp [one, *])),st.tail⟩
   ·refine I.aC (.bool false) (I.nil (WP.ret ?_))
    exact ⟨_,(b0 (.bool false)),((by simp [one, *])),st.tail⟩
  ·replace c2:¬(t.kind=4):=by omega
   refine I.yes rfl (I.v (.bool false) (I.yes rfl (I.f (.ptr ff 0) (I.yes rfl (I.b (.n t.kind) (st.aN 0 rfl) (I.yes rfl (I.ej (L.eql rfl rfl) (fun dm=> ?_) (fun dm=> ?_))))))))
   ·replace dm:t.kind=3:=by omega
    refine I.yes rfl (I.v (.bool true) (I.v (.bool true) (I.yes rfl (I.f (.ptr ff 1) (I.yes rfl (I.b (L.str t.text) (st.aN 0 rfl) (I.yes rfl (I.v (L.str s) (I.yes rfl (I.ej (L.seq rfl rfl) (fun dR=> ?_) (fun dR=> ?_)))))))))))
    ·refine I.aC (.bool true) (I.nil (WP.ret ?_))
     exact ⟨_,(b0 (.bool true)),((by simp [one, *])),st.tail⟩
    ·refine I.aC (.bool false) (I.nil (WP.ret ?_))
     exact ⟨_,(b0 (.bool false)),((by simp [one, *])),st.tail⟩
   ·replace dm:¬(t.kind=3):=by omega
    refine I.yes rfl (I.v (.bool false) (I.v (.bool false) (I.no rfl (I.no rfl (I.no rfl (I.no rfl (I.aC (.bool false) (I.nil (WP.ret ?_)))))))))
    exact ⟨_,(b0 (.bool false)),((by simp [one, *])),st.tail⟩
 ·replace c1:¬(e=0):=by omega
  refine I.no rfl (I.no rfl (I.no rfl (I.no rfl (I.no rfl (I.no rfl (I.no rfl (I.no rfl (I.v (.bool false) (I.no rfl (I.no rfl (I.no rfl (I.no rfl (I.aC (.bool false) (I.nil (WP.ret ?_)))))))))))))))
  exact ⟨_,(b0 (.bool false)),((by simp [one, *])),st.tail⟩
theorem il (D:gj c) {fs:List Fact} {h:ae} {p:dV} {i d e a:Nat} {S:Par.dc} {s:List UInt8} (st:aq (p.bX i d e a::p.toks::fs) h) (hx:XAt p i e a S):
 bT c 58 [.ptr p.aT 0,L.str s] h fun v h1=>(v= .bool true∧(∃l,S= .ok l∧e=0∧a=0∧Par.is s l=true∧Left p (i+1) l.tail)∧aq (p.bX (i+1) d 0 0::p.toks::fs) h1)∨(v= .bool false∧Par.gf s S=false∧aq (p.bX i d e a::p.toks::fs) h1):=by
 refine bT.dN D.f58 rfl (WP.ak (I.aC (.bool false) (I.nil (WP.seq (WP.ak (I.bx rfl (r4 D st hx) ?_))))))
 rintro _ h ⟨rfl,st⟩
 cases C9:Par.gf s S
 ·refine I.aC (.bool true) (I.bI (WP.ak (I.aC (.bool false) (I.nil (WP.ret ?_)))))
  exact ⟨_,(b0 (.bool false)),Or.inr ⟨rfl,rfl,st⟩⟩
 ·obtain ⟨l,lQ,he,ha,ag,ar⟩:=hx.gf C9
  have ni:=hx.small
  have hlt:=ar.lt
  refine I.bS (v:= .bool false) rfl (I.nil (WP.cond (t:=false) rfl (WP.skip (WP.seq (WP.ad (I.val (v:= .ptr p.aT 0) rfl (I.val (v:= .ptr p.aT 1) (L.bK rfl) (I.val (v:= .n i) (L.fM rfl (st.aN 0 rfl) rfl) (I.val (v:= .int .i64 ((i+1:Nat):Int)) (L.cX rfl rfl (by omega) (And.intro (by omega) (by omega))) (I.val (v:= .ptr p.aT 0) rfl (I.val (v:= .ptr p.aT 1) (L.bK rfl) (I.bM (row':=[.au p.cr p.to p.aP.length p.cap, .int .i64 ((i+1:Nat):Int), .n d, .n e, .n a]) st 0 rfl rfl rfl rfl rfl rfl rfl (fun h st=> ?_)))))))))))))
  refine I.ak (I.aC (.bool true) (I.nil (WP.ret ?_)))
  exact ⟨_,(b0 (.bool true)),Or.inl ⟨rfl,⟨l,lQ,he,ha,ag,ar.is ag⟩,by subst he ha;exact st⟩⟩
theorem tj (D:gj c) {fs:List Fact} {h:ae} {p:dV} {i d e a:Nat} {S:Par.dc} {k:Nat} (st:aq (p.bX i d e a::p.toks::fs) h) (hx:XAt p i e a S) (hk:k≠0):
 bT c 61 [.ptr p.aT 0, .n k] h fun v h1=>v= .dh []∧∃bF bf,bF≠0∧XAt p i bF bf (Par.uK k S)∧aq (p.bX i d bF bf::p.toks::fs) h1:=by
 obtain ⟨t,ht,cF⟩:=hx.row
 refine bT.dN D.f61 rfl (WP.ak (I.v (.ptr p.aT 0) (I.f (.ptr p.aT 3) (I.b (.n e) (st.aN 0 rfl) (I.bV (L.eql rfl rfl) (fun ce=> ?_) (fun ce=> ?_))))))
 ·replace ce:e=0:=by omega
  obtain ⟨aW,tk,Da,tl⟩:=hx.fJ ce
  subst tk Da ce
  refine I.bI (WP.ak (I.v (.ptr p.aT 0) (I.f (.ptr p.aT 3) (I.bM (row':=[.au p.cr p.to p.aP.length p.cap, .n i, .n d, .n k, .int .i64 0]) st 0 rfl rfl rfl rfl rfl rfl rfl (fun h st=> ?_)))))
  refine I.nil (WP.draw (af.v (.ptr p.aT 0) (af.v (.ptr p.aT 0) (af.v (.ptr p.aT 0) (af.f (.ptr p.aT 0) (af.b (.au p.cr p.to p.aP.length p.cap) (st.aN 0 rfl) (af.v (.ptr p.aT 0) (af.v (.ptr p.aT 0) (af.f (.ptr p.aT 1) (af.b (.n i) (st.aN 0 rfl) (af.val (v:= .ptr p.cr (p.to+i * 3)) (L.bY rfl rfl (XAt.ok tl).lt) (af.f (.ptr p.cr (p.to+i * 3+2)) (af.val (v:= .int .i64 (aX p i:Int)) (by rw [K4 ht];exact L.load rfl ((st.bt 1 rfl).xq cF (show _=some _ from rfl))) (af.v (.ptr p.aT 0) (af.f (.ptr p.aT 4) (af.bM (row':=[.au p.cr p.to p.aP.length p.cap, .n i, .n d, .n k, .int .i64 (aX p i:Int)]) st 0 rfl rfl rfl rfl rfl rfl rfl (fun h st=>rfl) (fun h st=> ?_)))))))))))))))))
  refine af.nil ?_
  exact ⟨_,(eX _ _),rfl,k,_,hk,by rw [tl.here];exact XAt.err hk hx.lt hx.small,st⟩
 ·replace ce:e≠0:=by omega
  have je:=hx.bad ce
  refine I.bw (WP.skip ?_)
  exact ⟨_,(eX _ _),rfl,e,a,ce,by rw [je];exact XAt.err ce hx.lt hx.small,st⟩
theorem ft (D:gj c) {fs:List Fact} {h:ae} {p:dV} {i d e a:Nat} {S:Par.dc} {s:List UInt8} (st:aq (p.bX i d e a::p.toks::fs) h) (hx:XAt p i e a S):
 bT c 55 [.ptr p.aT 0,L.str s] h fun v h1=>∃(x:Nat) (bU:Par.dc) (cy bF bf:Nat),v= .dh []∧my p S i (Par.must s) x bU cy bF bf∧aq (p.bX cy d bF bf::p.toks::fs) h1:=by
 refine bT.dN D.f55 rfl (WP.ak (I.bx rfl (il (s:=s) D st hx) ?_))
 rintro _ h (⟨rfl,⟨aW,tk,adg,Da,ag,tl⟩,ca⟩|⟨rfl,ag,ca⟩)
 ·subst tk adg Da
  replace st:aq ((p.bX (i+1) d 0 0)::p.toks::fs) h:=ca
  have qW:=tl.lt
  refine I.aC (.bool false) (I.bw (WP.skip ?_))
  exact ⟨_,(eX _ _),Par.here aW,_,_,_,_,rfl,⟨.ok tl,Par.aB.pI (by unfold Par.must;rw [if_pos ag]),by omega⟩,st⟩
 ·replace st:aq ((p.bX i d e a)::p.toks::fs) h:=ca
  refine I.aC (.bool true) (I.bI (WP.ad (I.bx rfl (tj D st hx (by decide)) ?_)))
  rintro _ h ⟨rfl,tm,tn,oP,gC,st⟩
  refine I.nil ?_
  exact ⟨_,(eX _ _),0,_,_,_,_,rfl,⟨gC,Par.aB.abk ag,by omega⟩,st⟩
theorem mA (D:gj c) {fs:List Fact} {h:ae} {p:dV} {i d e a:Nat} {S:Par.dc} (st:aq (p.bX i d e a::p.toks::fs) h) (hx:XAt p i e a S):
 bT c 57 [.ptr p.aT 0] h fun v h1=>∃(x:List UInt8) (bU:Par.dc) (cy bF bf:Nat),v=L.str x∧my p S i (Par.name) x bU cy bF bf∧aq (p.bX cy d bF bf::p.toks::fs) h1:=by
 obtain ⟨t,ht,cF⟩:=hx.row
 have ni:=hx.small
 have hlt:=hx.lt
 refine bT.dN D.f57 rfl (WP.ak (I.aC (.str 0 0) (I.nil (WP.seq (WP.draw (af.v (.ptr p.aT 0) (af.v (.ptr p.aT 0) (af.f (.ptr p.aT 0) (af.b (.au p.cr p.to p.aP.length p.cap) (st.aN 0 rfl) (af.v (.ptr p.aT 0) (af.v (.ptr p.aT 0) (af.f (.ptr p.aT 1) (af.b (.n i) (st.aN 0 rfl) (af.val (v:= .ptr p.cr (p.to+i * 3)) (L.bY rfl rfl hx.lt) (af.val (v:= .agg [.n t.kind,L.str t.text, .n t.at_]) (L.da rfl ((st.bt 1 rfl).da cF)) (af.dI st L.alloc (fun ff h st=> ?_)))))))))))))))))
 refine af.bM (row':=[.n t.kind,L.str t.text, .n t.at_]) st 0 rfl rfl rfl rfl rfl rfl rfl (fun h st=>rfl) (fun h st=> ?_)
 refine af.nil (WP.seq (WP.ak (I.v (.ptr p.aT 0) (I.f (.ptr p.aT 3) (I.b (.n e) (st.aN 1 rfl) (I.ej (L.neq rfl rfl) (fun ce=> ?_) (fun ce=> ?_)))))))
 ·replace ce:e≠0:=by omega
  have je:=hx.bad ce
  refine I.no rfl (I.no rfl (I.no rfl (I.aC (.bool true) (I.bI (WP.ak (I.bx rfl (tj D ((st.pick 2 rfl).pick 2 rfl) hx (by decide)) ?_))))))
  rintro _ h ⟨rfl,tm,tn,oP,gC,st⟩
  refine I.ak (I.aC (.str 0 0) (I.nil (WP.ret ?_)))
  exact ⟨_,(b0 (.str 0 0)),[],_,_,_,_,rfl,⟨gC,Par.aB.Q0 (fun l lQ=>by rw [je] at lQ;cases lQ),by omega⟩,(st.pick 2 rfl).tail⟩
 ·replace ce:e=0:=by omega
  obtain ⟨aW,tk,Da,tl⟩:=hx.fJ ce
  subst tk Da ce
  have hx:XAt p i 0 0 (.ok aW):= .ok tl
  refine I.yes rfl (I.f (.ptr ff 0) (I.yes rfl (I.b (.n t.kind) (st.aN 0 rfl) (I.yes rfl (I.ej (L.neq rfl rfl) (fun hF=> ?_) (fun hF=> ?_))))))
  ·replace hF:t.kind≠1:=by omega
   have km:=hx.aQ ht
   refine I.aC (.bool true) (I.bI (WP.ak (I.bx rfl (tj D ((st.pick 2 rfl).pick 2 rfl) (XAt.ok tl) (by decide)) ?_)))
   rintro _ h ⟨rfl,tm,tn,oP,gC,st⟩
   refine I.ak (I.aC (.str 0 0) (I.nil (WP.ret ?_)))
   exact ⟨_,(b0 (.str 0 0)),[],_,_,_,_,rfl,⟨gC,Par.aB.Q0 (fun l lQ=>by cases lQ;rw [km];exact hF),by omega⟩,(st.pick 2 rfl).tail⟩
  ·replace hF:t.kind=1:=by omega
   have km:=hx.aQ ht
   refine I.bS (v:= .bool false) rfl (I.nil (WP.cond (t:=false) rfl (WP.skip (WP.seq (WP.ad (I.val (v:= .ptr p.aT 0) rfl (I.val (v:= .ptr p.aT 1) (L.bK rfl) (I.val (v:= .n i) (L.fM rfl (st.aN 1 rfl) rfl) (I.val (v:= .int .i64 ((i+1:Nat):Int)) (L.cX rfl rfl (by omega) (And.intro (by omega) (by omega))) (I.val (v:= .ptr p.aT 0) rfl (I.val (v:= .ptr p.aT 1) (L.bK rfl) (I.bM (row':=[.au p.cr p.to p.aP.length p.cap, .int .i64 ((i+1:Nat):Int), .n d, .int .i64 0, .int .i64 0]) st 1 rfl rfl rfl rfl rfl rfl rfl (fun h st=> ?_)))))))))))))
   refine I.ak (I.f (.ptr ff 1) (I.pw (L.str t.text) (st.aN 0 rfl) (I.nil (WP.ret ?_))))
   exact ⟨_,(b0 (L.str t.text)),t.text,_,_,_,_,rfl,⟨.ok (tl.tail (by rw [km];omega)),by rw [←km];exact Par.aB.abl (by rw [km];exact hF),by omega⟩,st.tail⟩
theorem adh (D:gj c) {fs:List Fact} {h:ae} {p:dV} {i d e a:Nat} {S:Par.dc} {s:List UInt8} (st:aq (p.bX i d e a::p.toks::fs) h) (hx:XAt p i e a S) (e2:Par.gf s S=false):
 bT c 58 [.ptr p.aT 0,L.str s] h fun v h1=>v= .bool false∧aq (p.bX i d e a::p.toks::fs) h1:=by
 obtain ⟨v,h1,hr,hp⟩:=il (s:=s) D st hx
 refine ⟨v,h1,hr, ?_⟩
 rcases hp with ⟨_,⟨l,rfl,_,_,ag,_⟩,_⟩|⟨aD,_,st⟩
 ·exact absurd (show Par.is s l=false from e2) (by rw [ag];decide)
 ·exact ⟨aD,st⟩
theorem adi (D:gj c) {fs:List Fact} {h:ae} {s:List UInt8} (st:aq fs h):
 bT c 68 [L.str s] h fun v h1=>match Par.rows s with
  | .ok m=>∃x,v= .dh [x, .int .i64 0, .int .i64 0]∧x.dA=some [x]∧aq (.aE (fun h=>Rows 3 h x (m.map ck.row))::fs) h1
  | .error (e,a)=>e≠0∧v= .dh [.U, .n e, .n a]∧aq fs h1:=by
 refine bT.dN D.f68 rfl (WP.ak (I.aC .U (I.aC (.int .i64 0) (I.aC (.int .i64 0) (I.nil (WP.seq (WP.ad ?_)))))))
 have av:=R1 (s:=s) D st
 cases jD:Lex.lex s with
 |error z=>
  obtain ⟨ex,r5⟩:=z
  rw [jD] at av
  refine I.bx rfl av ?_
  rintro _ h ⟨rfl,st⟩
  have hex:=QZ jD
  refine I.v .U (I.v (.n ex) (I.v (.n r5) (I.aC .U (I.aC (.n ex) (I.aC (.n r5) (I.nil (WP.seq (WP.ak (I.bV (L.neq rfl rfl) (fun pV=> ?_) (fun pV=>by exfalso;omega))))))))))
  refine I.bI (WP.ak (I.aC .U (I.aC (.n ex) (I.aC (.n r5) (I.nil (WP.ret ?_))))))
  have cp:Par.rows s= .error (ex,r5):=by unfold Par.rows;rw [jD]
  rw [cp]
  exact ⟨_,(cH (fl (v:= .U) rfl) (cH (fl (v:= .n ex) rfl) (b0 (.n r5)))),hex,rfl,st⟩
 |ok aP=>
  rw [jD] at av
  refine I.bx rfl av ?_
  rintro _ h ⟨y,rfl,st⟩
  obtain ⟨p0,rfl,rfl⟩:=QY st (Gl jD ⟨0,0,0,none,aP⟩ rfl).2
  refine I.v (.au p0.cr p0.to p0.aP.length p0.cap) (I.v (.int .i64 0) (I.v (.int .i64 0) (I.aC (.au p0.cr p0.to p0.aP.length p0.cap) (I.aC (.int .i64 0) (I.aC (.int .i64 0) (I.nil (WP.seq (WP.ak (I.bV (L.neq rfl rfl) (fun pV=>by exfalso;omega) (fun pV=> ?_))))))))))
  refine I.bw (WP.skip (WP.ak (I.val (v:= .agg [.au p0.cr p0.to p0.aP.length p0.cap, .int .i64 0, .int .i64 0, .int .i64 0, .int .i64 0]) (L.build rfl) (I.dI st (L.box (l:=[.au p0.cr p0.to p0.aP.length p0.cap, .int .i64 0, .int .i64 0, .int .i64 0, .int .i64 0]) rfl rfl) (fun aT h st=> ?_)))))
  obtain ⟨p,hp,yb,Db,Dc,Dd,Ls⟩:∃p:dV,p.aP=p0.aP∧p.aT=aT∧p.cr=p0.cr∧p.to=p0.to∧p.cap=p0.cap∧Left p 0 p.aP:=⟨{p0 with aT:=aT},rfl,rfl,rfl,rfl,rfl,(Gl jD {p0 with aT:=aT} rfl).1⟩
  rw [←hp] at jD
  rw [←hp,←yb,←Db,←Dc,←Dd] at st
  rw [←hp,←yb,←Db,←Dc,←Dd]
  refine I.ak (I.aC .U (I.ak (I.bx rfl (ft (s:=[108,97,98,101,108,115]) D st (XAt.ok Ls)) ?_)))
  rintro _ h ⟨x1,S1,i1,aS,a1,rfl,q1,st⟩
  have mB:=q1.ct
  have qW:=q1.at_.lt
  refine I.nil (WP.seq (WP.block ?_))
  replace st:aq (.acc 0 3 .U (([]:List ck).map ck.row)::(p.bX i1 0 aS a1)::p.toks::fs) h:=st.kE 3
  have R4:=q1.at_
  refine WP.dS (α:=Nat) (fun k env h=>∃fu bP cb e7 xz iE cN qU gJ lS jC hZ hE,((∀y bU,Par.aB fu (fun l=>Par.nd k l xz) y bU→Par.aB S1 (fun l=>Par.nd l.length l []) y bU)∧XAt p bP cb e7 fu∧(cb=0→p.aP.length≤bP+k)∧xz.length≤bP+min cb 1)∧env=c6 [L.str s, .U, .int .i64 0, .int .i64 0, .int .i64 0, .bool false, .int .i64 0, .au p.cr p.to p.aP.length p.cap, .ptr p.aT 0,qU,gJ,lS,jC,cN,hZ,hE] 0 Env.nil∧aq ((p.bX bP 0 cb e7)::p.toks:: .acc iE 3 cN (xz.map ck.row)::fs) h) (fun k=>k) (Par.dc.len S1) ?_ ?_
  ·exact ⟨S1,i1,aS,a1,[],0, .U, .bot, .bot, .bot, .bot, .bot, .bot,⟨fun _ _ r=>Par.aB.len (F:=fun n l=>Par.nd n l []) r,R4,R4.fuel,Nat.zero_le _⟩,by kernel_rfl,((st.pick 2 rfl).pick 2 rfl)⟩
  rintro k _ h ⟨fu,bP,cb,e7,xz,iE,cN,qU,gJ,lS,jC,hZ,hE,⟨ay,hz,hk,wR⟩,rfl,st⟩
  have wq:=hz.lt
  have wu:=hz.small
  refine WP.ss (WP.draw (af.v (.ptr p.aT 0) (af.v (.ptr p.aT 0) (af.f (.ptr p.aT 3) (af.b (.n cb) (st.aN 0 rfl) (af.ej (L.eql rfl rfl) (fun _ ce=> ?_) (fun _ ce=> ?_)))))))
  ·replace ce:cb=0:=by omega
   obtain ⟨bu,nU,nm,fL⟩:=hz.fJ ce
   subst nU nm ce
   refine af.v (.bool true) (af.yes rfl (af.v (.ptr p.aT 0) (af.yes rfl (af.v (.ptr p.aT 0) (af.yes rfl (af.f (.ptr p.aT 0) (af.yes rfl (af.b (.au p.cr p.to p.aP.length p.cap) (st.aN 0 rfl) (af.yes rfl (af.v (.ptr p.aT 0) (af.yes rfl (af.v (.ptr p.aT 0) (af.yes rfl (af.f (.ptr p.aT 1) (af.yes rfl (af.b (.n bP) (st.aN 0 rfl) (af.yes rfl (af.val (v:= .ptr p.cr (p.to+bP * 3)) (L.bY rfl rfl (XAt.ok fL).lt) (af.yes rfl (af.f (.ptr p.cr (p.to+bP * 3+0)) (af.yes rfl ?_)))))))))))))))))))))
   obtain ⟨t,ht,cF⟩:=(XAt.ok fL).row
   have km:=(XAt.ok fL).aQ ht
   refine af.val (v:= .int .i64 ((Par.aQ bu).kind:Int)) (by rw [km];exact L.load rfl ((st.bt 1 rfl).xq cF (show _=some _ from rfl))) (af.yes rfl (af.ej (L.neq rfl rfl) (fun _ oQ=> ?_) (fun _ oQ=> ?_)))
   ·replace oQ:(Par.aQ bu).kind≠0:=by omega
    obtain ⟨k,rfl⟩:∃m,k=m+1:=⟨k - 1,by omega⟩
    refine af.aC (.bool true) (af.bI (WP.skip (WP.block (WP.ak (I.dK rfl (r3 D st (XAt.ok fL)) ?_)))))
    rintro _ h ⟨rfl,st⟩
    refine I.ak (I.dK rfl (mA D st (XAt.ok fL)) ?_)
    rintro _ h ⟨bW,dW,i3,df,a3,rfl,dG,st⟩
    have r6:=dG.ct
    have tp:=dG.at_.lt
    refine I.nil (WP.seq (WP.ak (I.bx rfl (r4 (s:=[60]) D st dG.at_) ?_)))
    rintro _ h ⟨rfl,st⟩
    cases ot:Par.gf [60] dW
    ·refine I.aC (.bool true) (I.bI (WP.ad (I.val (v:= .agg [L.str bW, .str 0 0, .int .i64 (aX p bP:Int)]) (L.build rfl) (I.fS (rows:=[[L.str bW, .str 0 0, .int .i64 (aX p bP:Int)]]) st rfl (by decide) rfl (by simp) (fun iT h st=> ?_)))))
     refine I.kF st 3 rfl rfl rfl (st.bt 0 rfl) (by decide) (by simp;omega) (fun f4 v4 h st=> ?_)
     rw [show (xz.map ck.row)++[[L.str bW,V.str 0 0,V.int .i64 (aX p bP:Int)]]=(xz++[ck.mk bW [] (aX p bP)]).map ck.row from by simp [ck.row];rfl] at st
     obtain ⟨yh,rfl⟩:=(st.gh 3 rfl).ne (by simp)
     refine I.nil (WP.seq (WP.block ?_))
     have cz:=Par.Q1 (k:=dW.len) (last:=bW) (x:=xz) (al:=true) ot (fun l e=>by have:=dG.at_;rw [e] at this ⊢;exact List.length_pos_iff.2 this.hC.2.2.ne)
     replace cz:=Par.aB.len (F:=fun k l=>Par.lL k l bW xz true) cz
     refine WP.dS (α:=Nat) (fun u env h=>∃hZ hE,True∧env=c6 [L.str s, .U, .int .i64 0, .int .i64 0, .int .i64 0, .bool false, .int .i64 0, .au p.cr p.to p.aP.length p.cap, .ptr p.aT 0, .bool true, .bool true,L.str bW, .int .i64 (aX p bP:Int), .au yh 0 (((xz++[ck.mk bW [] (aX p bP)]).map ck.row).length) none,hZ,hE] 0 Env.nil∧aq (.aE (fun h=>Rows 3 h (.au iT 0 1 (some 1)) [[L.str bW, .str 0 0, .int .i64 (aX p bP:Int)]])::(p.bX i3 0 df a3)::p.toks:: .acc f4 3 (.au yh 0 ((xz++[ck.mk bW [] (aX p bP)]).map ck.row).length none) ((xz++[ck.mk bW [] (aX p bP)]).map ck.row)::fs) h) (fun u=>u) 0 ?_ ?_
     ·exact ⟨hZ,hE,trivial,by kernel_rfl,st⟩
     rintro u _ h ⟨hZ,hE,ahu,rfl,st⟩
     refine WP.seq (WP.ak (I.dK rfl (adh D ((st.pick 2 rfl).pick 2 rfl) dG.at_ ot) ?_))
     rintro _ h ⟨rfl,st⟩
     refine I.bw (WP.exit (WP.ad (I.bx rfl (ft (s:=[59]) D st dG.at_) ?_)))
     rintro _ h ⟨eO,gI,i5,gx,a5,rfl,hY,st⟩
     have GP:=hY.ct
     have Aw:=hY.at_.lt
     refine I.nil ?_
     exact ⟨k,(Nat.lt_succ_self _),gI,i5,gx,a5,(xz++[ck.mk bW [] (aX p bP)]),f4,(.au yh 0 ((xz++[ck.mk bW [] (aX p bP)]).map ck.row).length none),(.bool true),(.bool true),(L.str bW),(.int .i64 (aX p bP:Int)),(.bool false),hE,⟨fun y bU r=>ay y bU (Par.Q2 oQ fL.here dG.res cz hY.res r),hY.at_,(by omega),(by first|omega|(simp;omega))⟩,by kernel_rfl,(st.pick 2 rfl).tail⟩
    ·refine I.aC (.bool false) (I.bw (WP.skip (WP.seq (WP.block (WP.dS (α:=Nat) (fun cB env h=>∃eJ mj eq GQ tq r7 al De Ax jC hZ hE,((∀y bU,Par.aB eJ (fun l=>Par.lL cB l tq r7 al) y bU→Par.aB dW (fun l=>Par.lL l.length l bW xz true) y bU)∧XAt p mj eq GQ eJ∧(eq=0→p.aP.length≤mj+cB)∧r7.length≤mj+min eq 1∧(al=true→Par.gf [60] eJ=true)∧bP+1≤mj+min eq 1)∧env=c6 [L.str s, .U, .int .i64 0, .int .i64 0, .int .i64 0, .bool false, .int .i64 0, .au p.cr p.to p.aP.length p.cap, .ptr p.aT 0, .bool true, .bool false,L.str tq,jC,Ax,hZ,hE] 0 Env.nil∧aq ((p.bX mj 0 eq GQ)::p.toks:: .acc De 3 Ax (r7.map ck.row)::fs) h) (fun cB=>cB) (Par.dc.len dW) ?_ ?_)))))
     ·exact ⟨dW,i3,df,a3,bW,xz,true,iE,cN,(.int .i64 (aX p bP:Int)),hZ,hE,⟨fun _ _ r=>Par.aB.len (F:=fun k l=>Par.lL k l bW xz true) r,dG.at_,dG.at_.fuel,(by omega),(fun _=>ot),r6⟩,by kernel_rfl,st⟩
     rintro cB _ h ⟨eJ,mj,eq,GQ,tq,r7,al,De,Ax,jC,hZ,hE,⟨s6,bB,vd,ahv,zm,ahw⟩,rfl,st⟩
     have ahx:=bB.lt
     have ahy:=bB.small
     refine WP.seq (WP.ak (I.dK rfl (il (s:=[60]) D st bB) ?_))
     rintro _ h (⟨rfl,⟨Ac,Ay,adj,adk,rU,qX⟩,ca⟩|⟨rfl,rU,ca⟩)
     ·subst Ay adj adk
      replace st:aq ((p.bX (mj+1) 0 0 0)::p.toks:: .acc De 3 Ax (r7.map ck.row)::fs) h:=ca
      have yi:=qX.lt
      obtain ⟨cB,rfl⟩:∃m,cB=m+1:=⟨cB - 1,by omega⟩
      refine I.bI (WP.skip (WP.block (WP.ak (I.dK rfl (r3 D st (XAt.ok qX)) ?_))))
      rintro _ h ⟨rfl,st⟩
      refine I.ak (I.dK rfl (mA D st (XAt.ok qX)) ?_)
      rintro _ h ⟨dH,rT,i7,rD,tr,rfl,gk,st⟩
      have Az:=gk.ct
      have AA:=gk.at_.lt
      refine I.ak (I.val (v:= .agg [L.str tq,L.str dH, .int .i64 (aX p (mj+1):Int)]) (L.build rfl) (I.fS (rows:=[[L.str tq,L.str dH, .int .i64 (aX p (mj+1):Int)]]) st rfl (by decide) rfl (by simp) (fun lR h st=> ?_)))
      refine I.kF st 3 rfl rfl rfl (st.bt 0 rfl) (by decide) (by simp;omega) (fun f8 Av h st=> ?_)
      rw [show (r7.map ck.row)++[[L.str tq,L.str dH,V.int .i64 (aX p (mj+1):Int)]]=(r7++[ck.mk tq dH (aX p (mj+1))]).map ck.row from by simp [ck.row]] at st
      obtain ⟨Lr,rfl⟩:=(st.gh 3 rfl).ne (by simp)
      refine I.nil (WP.ad (I.aC (L.str dH) (I.nil ?_)))
      exact ⟨cB,(Nat.lt_succ_self _),rT,i7,rD,tr,dH,(r7++[ck.mk tq dH (aX p (mj+1))]),false,f8,(.au Lr 0 ((r7++[ck.mk tq dH (aX p (mj+1))]).map ck.row).length none),(.int .i64 (aX p (mj+1):Int)),(.bool true),(L.str dH),⟨fun y bU r=>s6 y bU (Par.abm rU qX.here gk.res r),gk.at_,(by omega),(by simp;omega),(by intro hf;cases hf),(by omega)⟩,by kernel_rfl,st.tail⟩
     ·replace st:aq ((p.bX mj 0 eq GQ)::p.toks:: .acc De 3 Ax (r7.map ck.row)::fs) h:=ca
      have cz:=s6 _ _ (Par.Q1 rU (fun l e=>by subst e;have:=bB.hC.1;omega))
      obtain rfl:al=false:=by cases al with
       |false=>rfl
       |true=>exact absurd (zm rfl) (by rw [rU];decide)
      refine I.bw (WP.exit (WP.ad (I.bx rfl (ft (s:=[59]) D st bB) ?_)))
      rintro _ h ⟨ih,Df,i9,pt,a9,rfl,kn,st⟩
      have GR:=kn.ct
      have Dg:=kn.at_.lt
      refine I.nil ?_
      exact ⟨k,(Nat.lt_succ_self _),Df,i9,pt,a9,r7,De,Ax,(.bool true),(.bool false),(L.str tq),jC,(.bool false),hE,⟨fun y bU r=>ay y bU (Par.Q2 oQ fL.here dG.res cz kn.res r),kn.at_,(by omega),(by first|omega|(simp;omega))⟩,by kernel_rfl,st⟩
   ·replace oQ:(Par.aQ bu).kind=0:=by omega
    obtain ⟨k,rfl⟩:∃m,k=m+1:=⟨k - 1,by omega⟩
    refine af.aC (.bool false) (af.bw (WP.exit (WP.seq (WP.ak (I.v (.ptr p.aT 0) (I.f (.ptr p.aT 3) (I.b (.int .i64 0) (st.aN 0 rfl) (I.bV (L.neq rfl rfl) (fun ce=>by exfalso;omega) (fun ce=> ?_)))))))))
    refine I.bw (WP.skip (WP.ak (I.aC cN (I.aC (.int .i64 0) (I.aC (.int .i64 0) (I.nil (WP.ret ?_)))))))
    have b1:=Par.aB.out (Par.aB.cast (fun l _=>Par.Q3 l) (q1.res.a8 (ay xz _ (Par.abn oQ))))
    have cp:Par.rows s= .ok xz:=by unfold Par.rows;rw [jD];simp only [b1]
    rw [cp]
    exact ⟨_,(cH (fl (v:=cN) rfl) (cH (fl (v:= .int .i64 0) rfl) (b0 (.int .i64 0)))),cN,rfl,(st.gh 2 rfl).cells,(st.tail.tail).shut (by decide)⟩
  ·replace ce:cb≠0:=by omega
   have je:=hz.bad ce
   refine af.v (.bool false) (af.no rfl (af.no rfl (af.no rfl (af.no rfl (af.no rfl (af.no rfl (af.no rfl (af.no rfl (af.no rfl (af.no rfl (af.no rfl (af.no rfl (af.aC (.bool false) (af.bw (WP.exit (WP.seq (WP.ak (I.v (.ptr p.aT 0) (I.f (.ptr p.aT 3) (I.b (.n cb) (st.aN 0 rfl) (I.bV (L.neq rfl rfl) (fun ce=> ?_) (fun ce=>by exfalso;omega))))))))))))))))))))))
   refine I.bI (WP.seq (WP.draw (af.v (.ptr p.aT 0) (af.v (.ptr p.aT 0) (af.f (.ptr p.aT 3) (af.b (.n cb) (st.aN 0 rfl) (af.v (.ptr p.aT 0) (af.v (.ptr p.aT 0) (af.f (.ptr p.aT 4) (af.b (.n e7) (st.aN 0 rfl) (af.aC .U (af.aC (.n cb) (af.aC (.n e7) (af.nil (WP.ret ?_)))))))))))))))
   have ps:Par.aB fu (fun l=>Par.nd k l xz) xz (.error (cb,e7)):=by rw [je];rfl
   have b1:=Par.aB.out (Par.aB.cast (fun l _=>Par.Q3 l) (q1.res.a8 (ay xz _ ps)))
   have cp:Par.rows s= .error (cb,e7):=by unfold Par.rows;rw [jD];simp only [b1]
   rw [cp]
   exact ⟨_,(cH (fl (v:= .U) rfl) (cH (fl (v:= .n cb) rfl) (b0 (.n e7)))),(by omega),rfl,st.tail.tail.tail⟩
end
end Go.Eng.YtmcjcbldmoijiaaGreatDoor
namespace Go.Eng.YtmcjcbldmoijiaaGreatDoor
open Go.Eng
noncomputable section
variable {c:Ctx}
theorem Lu (D:gj c) {fs:List Fact} {h:ae} {s:List UInt8} (st:aq fs h) (aQ:vU s):
 bT c 83 [L.str s] h fun v h1=>v= .int .i64 (num s:Int)∧aq fs h1:=by
 have ahz:=aQ.len
 refine bT.dN D.f83 rfl (WP.ak (I.aC (.int .i64 0) (I.ak (I.aC (.int .i64 0) (I.nil (WP.seq (WP.ak (I.aC (.int .i64 0) (I.nil (WP.block (WP.dS (α:=Nat) (fun k env h=>∃hc,(k≤s.length)∧env=c6 [L.str s, .int .i64 0, .n k,hc, .int .i64 (num (s.take k):Int)] 0 Env.nil∧aq (fs) h) (fun k=>s.length - k) 0 ?_ ?_)))))))))))
 ·exact ⟨.bot,(Nat.zero_le _),by kernel_rfl,st⟩
 rintro k _ h ⟨hc,hk,rfl,st⟩
 have j1:=aQ.bound k
 refine WP.seq (WP.ak (I.val (v:= .n s.length) (L.pq rfl) (I.bV (L.lss rfl rfl) (fun c1=> ?_) (fun c1=> ?_))))
 ·replace c1:k<s.length:=by omega
  refine I.nil (WP.cond (t:=true) rfl (WP.skip (WP.seq (WP.block (WP.ad (I.val (v:= .int .i64 ((num (s.take k) * 10:Nat):Int)) (L.Yf rfl rfl (by omega) (And.intro (by omega) (by omega))) ?_))))))
  obtain ⟨b,hb⟩:∃b,s[k]? =some b:=⟨_,List.getElem?_eq_getElem (by omega)⟩
  have Lv:=aQ.Qz b (List.mem_of_getElem? hb)
  refine I.val (v:= .int .u8 (b.toNat:Int)) (L.qu rfl rfl hb) (I.val (v:= .int .u8 ((b.toNat - 48:Nat):Int)) (L.Ys (a:=b.toNat) (b:=48) rfl rfl rfl (by omega) (by omega)) (I.val (v:= .int .i64 ((b.toNat - 48:Nat):Int)) (L.Yt rfl (And.intro (by omega) (by omega))) (I.bS (v:= .int .i64 (num (s.take (k+1)):Int)) (L.cX rfl rfl (by rw [KU hb];omega) (by rw [KU hb];exact And.intro (by omega) (by omega))) (I.nil (WP.ad (I.bS (v:= .int .i64 ((k+1:Nat):Int)) (L.cX rfl rfl (by omega) (And.intro (by omega) (by omega))) (I.nil ?_)))))))
  exact ⟨k+1,(by omega),(.bool true),by omega,by kernel_rfl,st⟩
 ·replace c1:¬(k<s.length):=by omega
  refine I.bw (WP.exit (WP.ak (I.aC (.int .i64 (num (s.take k):Int)) (I.nil (WP.ret ?_)))))
  exact ⟨_,(b0 (.int .i64 (num (s.take k):Int))),(by rw [List.take_of_length_le (by omega)];rfl),st⟩
theorem AB (D:gj c) {fs:List Fact} {h:ae} {k kd at_:Nat} {A:Int} {v:V} {ns:List bJ} (st:aq (.acc k 7 v (ns.map bJ.row)::fs) h) (hn:ns.length<4294967298):
 bT c 158 [v, .int .i64 A, .n kd, .n at_] h fun v1 h1=>∃y6,aq (.acc y6 7 v1 ((ns++[bJ.mk kd 0 [] [] A ((ns.length:Int) - 1) at_]).map bJ.row)::fs) h1:=by
 refine bT.dN D.f158 rfl (WP.seq (WP.ad (I.bS (v:= .U) rfl (I.nil (WP.seq (WP.ad (I.val (v:= .n ns.length) (L.fD rfl (st.xn 0 rfl (by decide)) (List.length_map _)) (I.val (v:= .int .i64 ((ns.length:Int) - 1)) (L.jA rfl rfl (by omega) (And.intro (by omega) (by omega))) (I.val (v:= .agg [.n kd, .int .i64 0, .str 0 0, .str 0 0, .int .i64 A, .int .i64 ((ns.length:Int) - 1), .n at_]) (L.build rfl) (I.fS (rows:=[[.n kd, .int .i64 0, .str 0 0, .str 0 0, .int .i64 A, .int .i64 ((ns.length:Int) - 1), .n at_]]) st rfl (by decide) rfl (by simp) (fun iT h st=> ?_)))))))))))
 refine I.kF st 1 rfl rfl rfl (st.bt 0 rfl) (by decide) (by simp;omega) (fun f1 v1 h st=> ?_)
 rw [show (ns.map bJ.row)++[[V.n kd,V.int .i64 0,V.str 0 0,V.str 0 0,V.int .i64 A,V.int .i64 ((ns.length:Int) - 1),V.n at_]]=(ns++[bJ.mk kd 0 [] [] A ((ns.length:Int) - 1) at_]).map bJ.row from by simp [bJ.row];rfl] at st
 obtain ⟨qO,rfl⟩:=(st.gh 1 rfl).ne (by simp)
 refine I.nil (WP.ret ?_)
 exact ⟨_,(cH (fl (v:= .au qO 0 (((ns++[bJ.mk kd 0 [] [] A ((ns.length:Int) - 1) at_]).map bJ.row).length) none) rfl) (eX _ _)),_,st.tail⟩
theorem GS (D:gj c) {fs:List Fact} {h:ae} {p:dV} {i d e a:Nat} {S:Par.dc} (st:aq (p.bX i d e a::p.toks::fs) h) (hx:XAt p i e a S):
 bT c 140 [.ptr p.aT 0] h fun v h1=>∃(x:List UInt8×List UInt8) (bU:Par.dc) (cy bF bf:Nat),v= .dh [L.str x.1,L.str x.2]∧my p S i (Par.ij) x bU cy bF bf∧aq (p.bX cy d bF bf::p.toks::fs) h1:=by
 refine bT.dN D.f140 rfl (WP.ak (I.aC (.str 0 0) (I.aC (.str 0 0) (I.ak (I.dK rfl (mA D st hx) ?_)))))
 rintro _ h ⟨x1,S1,i1,aS,a1,rfl,q1,st⟩
 have mB:=q1.ct
 have qW:=q1.at_.lt
 refine I.nil (WP.seq (WP.ak (I.dK rfl (il (s:=[46]) D st q1.at_) ?_)))
 rintro _ h (⟨rfl,⟨bu,nU,rv,nm,ag,fL⟩,ca⟩|⟨rfl,ag,ca⟩)
 ·subst nU rv nm
  replace st:aq ((p.bX (i1+1) d 0 0)::p.toks::fs) h:=ca
  have wv:=fL.lt
  refine I.bI (WP.ak (I.bx rfl (mA D st (XAt.ok fL)) ?_))
  rintro _ h ⟨bW,dW,i3,df,a3,rfl,dG,st⟩
  have r6:=dG.ct
  have tp:=dG.at_.lt
  refine I.aC (L.str x1) (I.aC (L.str bW) (I.nil (WP.ret ?_)))
  exact ⟨_,(cH (fl (v:=L.str x1) rfl) (b0 (L.str bW))),(x1,bW),_,_,_,_,rfl,⟨dG.at_,Par.abx q1.res ag dG.res,by omega⟩,st⟩
 ·replace st:aq ((p.bX i1 d aS a1)::p.toks::fs) h:=ca
  refine I.bw (WP.skip (WP.ak (I.aC (.str 0 0) (I.aC (L.str x1) (I.nil (WP.ret ?_))))))
  exact ⟨_,(cH (fl (v:= .str 0 0) rfl) (b0 (L.str x1))),([],x1),_,_,_,_,rfl,⟨q1.at_,Par.aby q1.res ag,by omega⟩,st⟩
theorem GU (D:gj c) {fs:List Fact} {h:ae} {p:dV} {i d e a:Nat} {S:Par.dc} {s:List UInt8} (st:aq (p.bX i d e a::p.toks::fs) h) (hx:XAt p i e a S) (aQ:d≤40):
 bT c 110 [.ptr p.aT 0,L.str s] h fun v h1=>∃(bU:Par.dc) (cy bF bf:Nat),v= .dh []∧my p S i (Par.nh d s) () bU cy bF bf∧(bF=0→d+1≤40)∧aq (p.bX cy (d+1) bF bf::p.toks::fs) h1:=by
 refine bT.dN D.f110 rfl (WP.seq (WP.ak (I.bx rfl (r4 (s:=s) D st hx) ?_)))
 rintro _ h ⟨rfl,st⟩
 cases C9:Par.gf s S
 ·refine I.no rfl (I.no rfl (I.no rfl (I.no rfl (I.no rfl (I.aC (.bool false) (I.bw (WP.skip (WP.ak (I.bx rfl (ft (s:=s) D st hx) ?_)))))))))
  rintro _ h ⟨x1,S1,i1,aS,a1,rfl,q1,st⟩
  have mB:=q1.ct
  have qW:=q1.at_.lt
  refine I.nil (WP.ad (I.val (v:= .ptr p.aT 0) rfl (I.val (v:= .ptr p.aT 2) (L.bK rfl) (I.val (v:= .n d) (L.fM rfl (st.aN 0 rfl) rfl) (I.val (v:= .int .i64 ((d+1:Nat):Int)) (L.cX rfl rfl (by omega) (And.intro (by omega) (by omega))) (I.val (v:= .ptr p.aT 0) rfl (I.val (v:= .ptr p.aT 2) (L.bK rfl) (I.bM (row':=[.au p.cr p.to p.aP.length p.cap, .n i1, .int .i64 ((d+1:Nat):Int), .n aS, .n a1]) st 0 rfl rfl rfl rfl rfl rfl rfl (fun h st=> ?_)))))))))
  refine I.nil ?_
  have tk:S1=Par.uK 11 S:=by
   have:=q1.res
   cases S with
   |error z=>exact this
   |ok l=>have h2:Par.is s l=false:=C9;unfold Par.aB Par.must at this;simp only [h2,Bool.false_eq_true,if_false] at this;exact this
  exact ⟨_,(eX _ _),_,_,_,_,rfl,⟨q1.at_,(by rw [tk];exact Par.abB C9),by omega⟩,(fun h0=>by obtain ⟨bu,h2,_⟩:=q1.at_.fJ h0;rw [tk] at h2;cases S<;>cases h2),st⟩
 ·obtain ⟨l,lQ,he,ha,ag,ar⟩:=hx.gf C9
  subst lQ he ha
  refine I.yes rfl (I.v (.ptr p.aT 0) (I.yes rfl (I.v (.ptr p.aT 0) (I.yes rfl (I.f (.ptr p.aT 2) (I.yes rfl (I.b (.n d) (st.aN 0 rfl) (I.yes rfl (I.ej (L.geq rfl rfl) (fun Dh=> ?_) (fun Dh=> ?_))))))))))
  ·replace Dh:40≤d:=by omega
   refine I.aC (.bool true) (I.bI (WP.ad (I.bx rfl (tj D st (XAt.ok ar) (by decide)) ?_)))
   rintro _ h ⟨rfl,tm,tn,oP,gC,st⟩
   refine I.ak (I.bx rfl (ft (s:=s) D st gC) ?_)
   rintro _ h ⟨bR,b9,i2,bl,a2,rfl,c0,st⟩
   have wx:=c0.ct
   have wv:=c0.at_.lt
   refine I.nil (WP.ad (I.val (v:= .ptr p.aT 0) rfl (I.val (v:= .ptr p.aT 2) (L.bK rfl) (I.val (v:= .n d) (L.fM rfl (st.aN 0 rfl) rfl) (I.val (v:= .int .i64 ((d+1:Nat):Int)) (L.cX rfl rfl (by omega) (And.intro (by omega) (by omega))) (I.val (v:= .ptr p.aT 0) rfl (I.val (v:= .ptr p.aT 2) (L.bK rfl) (I.bM (row':=[.au p.cr p.to p.aP.length p.cap, .n i2, .int .i64 ((d+1:Nat):Int), .n bl, .n a2]) st 0 rfl rfl rfl rfl rfl rfl rfl (fun h st=> ?_)))))))))
   refine I.nil ?_
   have gN:=gC.bad oP
   rw [gN] at c0
   exact ⟨_,(eX _ _),_,_,_,_,rfl,⟨c0.at_,(by have:=c0.res;rw [show b9=_ from this,←gN];exact Par.abA ag Dh),by omega⟩,(fun h0=>by obtain ⟨bu,h2,_⟩:=c0.at_.fJ h0;have a6:=c0.res;rw [show b9=_ from a6] at h2;cases h2),st⟩
  ·replace Dh:¬(40≤d):=by omega
   refine I.aC (.bool false) (I.bw (WP.skip (WP.ak (I.bx rfl (ft (s:=s) D st (XAt.ok ar)) ?_))))
   rintro _ h ⟨bW,dW,i3,df,a3,rfl,dG,st⟩
   have r6:=dG.ct
   have tp:=dG.at_.lt
   refine I.nil (WP.ad (I.val (v:= .ptr p.aT 0) rfl (I.val (v:= .ptr p.aT 2) (L.bK rfl) (I.val (v:= .n d) (L.fM rfl (st.aN 0 rfl) rfl) (I.val (v:= .int .i64 ((d+1:Nat):Int)) (L.cX rfl rfl (by omega) (And.intro (by omega) (by omega))) (I.val (v:= .ptr p.aT 0) rfl (I.val (v:= .ptr p.aT 2) (L.bK rfl) (I.bM (row':=[.au p.cr p.to p.aP.length p.cap, .n i3, .int .i64 ((d+1:Nat):Int), .n df, .n a3]) st 0 rfl rfl rfl rfl rfl rfl rfl (fun h st=> ?_)))))))))
   refine I.nil ?_
   have tk:dW= .ok l.tail:=by have:=dG.res;unfold Par.aB Par.must at this;simp only [ag,if_true] at this;exact this.2
   exact ⟨_,(eX _ _),_,_,_,_,rfl,⟨dG.at_,(by rw [tk];exact Par.abz ag Dh),by omega⟩,(fun _=>by omega),st⟩
theorem adl (D:gj c) {p:dV} {i d e a N:Nat} {S:Par.dc} {un:Par.E} {fs:List Fact} {h:ae} {ns:List bJ} {k:Nat} {v:V} (nn:tb c 165 N (un)) (st:aq (p.bX i d e a::p.toks:: .acc k 7 v (ns.map bJ.row)::fs) h) (hx:XAt p i e a S) (eV:e=0→p.aP.length≤i+N∧d≤40) (aQ:d≤41) (hj:ns.length≤i+min e 1):
 bT c 164 [.ptr p.aT 0,v] h (Al p d S i e (Par.chain un Par.uE) ns fs):=by
 have ni:=hx.small
 have hlt:=hx.lt
 refine bT.dN D.f164 rfl (WP.ak (I.aC .U (I.ak (I.dK rfl (nn st hx eV (by omega) (by omega)) ?_))))
 rintro v1 h ⟨eK,S1,i1,aS,a1,cu,q1,mL,pO,st⟩
 have mB:=q1.ct
 have qW:=q1.at_.lt
 refine I.nil (WP.seq (WP.block (WP.dS (α:=Nat) (fun g env h=>∃fu bP cb e7 ef nV cN fq hc qY r8 lb pR tg,((∀y bU,Par.aB fu (fun l=>Par.kJ un Par.uE g d l (ef.length - 1) ef) y bU→Par.aB S (fun l=>Par.chain un Par.uE d l ns) y bU)∧XAt p bP cb e7 fu∧(cb=0→p.aP.length≤bP+g)∧ef.length+(i+min e 1)≤ns.length+(bP+min cb 1)∧(cb=0→1≤ef.length)∧i+1≤bP+min cb 1∧(cb=0→e=0))∧env=c6 [.ptr p.aT 0,cN,fq,hc,qY,r8,lb,pR,tg] 0 Env.nil∧aq ((p.bX bP d cb e7)::p.toks:: .acc nV 7 cN (ef.map bJ.row)::fs) h) (fun g=>g) (Par.dc.len S1) ?_ ?_)))
 ·exact ⟨S1,i1,aS,a1,eK,cu,v1, .U, .bot, .bot, .bot, .bot, .bot, .bot,⟨fun _ _ r=>Par.Q9 q1.res (Par.aB.len (F:=fun n l=>Par.kJ un Par.uE n d l (eK.length - 1) eK) r),q1.at_,q1.at_.fuel,mL,pO,mB,q1.fJ hx⟩,by kernel_rfl,st⟩
 rintro g _ h ⟨fu,bP,cb,e7,ef,nV,cN,fq,hc,qY,r8,lb,pR,tg,⟨ay,hz,hk,Di,Dj,r9,kP⟩,rfl,st⟩
 have wq:=hz.lt
 have wu:=hz.small
 refine WP.seq (WP.ak (I.v (.ptr p.aT 0) (I.f (.ptr p.aT 3) (I.b (.n cb) (st.aN 0 rfl) (I.bV (L.eql rfl rfl) (fun ce=> ?_) (fun ce=> ?_))))))
 ·replace ce:cb=0:=by omega
  obtain ⟨bu,nU,nm,fL⟩:=hz.fJ ce
  subst nU nm ce
  obtain ⟨g,rfl⟩:∃m,g=m+1:=⟨g - 1,by omega⟩
  refine I.nil (WP.cond (t:=true) rfl (WP.skip (WP.block (WP.seq (WP.ad (I.val (v:= .n ef.length) (L.fD rfl (st.xn 2 rfl (by decide)) (List.length_map _)) (I.val (v:= .int .i64 ((ef.length:Int) - 1)) (L.jA rfl rfl rfl (And.intro (by omega) (by omega))) (I.bx rfl (r3 D st (XAt.ok fL)) ?_))))))))
  rintro _ h ⟨rfl,st⟩
  refine I.aC (.int .i64 ((ef.length:Int) - 1)) (I.aC (.int .i64 (aX p bP:Int)) (I.nil (WP.block (WP.ak (I.dK rfl (il (s:=[42]) D st (XAt.ok fL)) ?_)))))
  rintro _ h (⟨rfl,⟨adm,Dk,_,_,h1,wy⟩,ca⟩|⟨rfl,h1,ca⟩)
  ·cases Dk
   replace st:aq ((p.bX (bP+1) d 0 0)::p.toks:: .acc nV 7 cN (ef.map bJ.row)::fs) h:=ca
   have tp:=wy.lt
   refine I.bI (WP.ad (I.bx rfl (nn st (XAt.ok wy) (fun _=>⟨by have:=eV (kP rfl);omega,(eV (kP rfl)).2⟩) (by omega) (by omega)) ?_))
   rintro v4 h ⟨Dl,gv,i4,fZ,a4,mf,ek,adn,Lw,st⟩
   have AE:=ek.ct
   have yj:=ek.at_.lt
   refine I.dK rfl (AB (kd:=7) (at_:=(aX p bP)) (A:=((ef.length:Int) - 1)) D (st.pick 2 rfl) (by omega)) ?_
   rintro v5 h ⟨GV,st⟩
   refine I.nil ?_
   exact ⟨g,(Nat.lt_succ_self _),gv,i4,fZ,a4,(Dl++[bJ.mk 7 0 [] [] ((ef.length:Int) - 1) ((Dl.length:Int) - 1) (aX p bP)]),GV,v5,fq,(.bool true),(.bool true),(.int .i64 ((ef.length:Int) - 1)),(.int .i64 (aX p bP:Int)),pR,tg,⟨fun y bU r=>ay y bU (Par.C1 (o:=([42],7)) (by simp [Par.find,Par.uE,h1]) fL.here (by omega) ek.res (fun aI bF=>by have:=ek.at_;rw [bF] at this;have:=Lw this.hC.1;omega) r),ek.at_,(by omega),(by simp;omega),(by intro _;simp),(by omega),(fun _=>kP rfl)⟩,by kernel_rfl,((st.pick 2 rfl).pick 2 rfl)⟩
  ·replace st:aq ((p.bX bP d 0 0)::p.toks:: .acc nV 7 cN (ef.map bJ.row)::fs) h:=ca
   replace h1:Par.is [42] bu=false:=h1
   refine I.bw (WP.ak (I.dK rfl (il (s:=[47]) D st (XAt.ok fL)) ?_))
   rintro _ h (⟨rfl,⟨ado,Ay,_,_,h2,qX⟩,ca⟩|⟨rfl,h2,ca⟩)
   ·cases Ay
    replace st:aq ((p.bX (bP+1) d 0 0)::p.toks:: .acc nV 7 cN (ef.map bJ.row)::fs) h:=ca
    have yi:=qX.lt
    refine I.bI (WP.ad (I.bx rfl (nn st (XAt.ok qX) (fun _=>⟨by have:=eV (kP rfl);omega,(eV (kP rfl)).2⟩) (by omega) (by omega)) ?_))
    rintro GO h ⟨Dm,rT,i7,rD,tr,adp,gk,adq,Lx,st⟩
    have Az:=gk.ct
    have AA:=gk.at_.lt
    refine I.dK rfl (AB (kd:=8) (at_:=(aX p bP)) (A:=((ef.length:Int) - 1)) D (st.pick 2 rfl) (by omega)) ?_
    rintro Av h ⟨vr,st⟩
    refine I.nil ?_
    exact ⟨g,(Nat.lt_succ_self _),rT,i7,rD,tr,(Dm++[bJ.mk 8 0 [] [] ((ef.length:Int) - 1) ((Dm.length:Int) - 1) (aX p bP)]),vr,Av,fq,(.bool true),(.bool false),(.int .i64 ((ef.length:Int) - 1)),(.int .i64 (aX p bP:Int)),(.bool true),tg,⟨fun y bU r=>ay y bU (Par.C1 (o:=([47],8)) (by simp [Par.find,Par.uE,h1,h2]) fL.here (by omega) gk.res (fun aI bF=>by have:=gk.at_;rw [bF] at this;have:=Lx this.hC.1;omega) r),gk.at_,(by omega),(by simp;omega),(by intro _;simp),(by omega),(fun _=>kP rfl)⟩,by kernel_rfl,((st.pick 2 rfl).pick 2 rfl)⟩
   ·replace st:aq ((p.bX bP d 0 0)::p.toks:: .acc nV 7 cN (ef.map bJ.row)::fs) h:=ca
    replace h2:Par.is [47] bu=false:=h2
    refine I.bw (WP.ak (I.dK rfl (il (s:=[37]) D st (XAt.ok fL)) ?_))
    rintro _ h (⟨rfl,⟨adr,GW,_,_,a6,yk⟩,ca⟩|⟨rfl,a6,ca⟩)
    ·cases GW
     replace st:aq ((p.bX (bP+1) d 0 0)::p.toks:: .acc nV 7 cN (ef.map bJ.row)::fs) h:=ca
     have Dg:=yk.lt
     refine I.bI (WP.ad (I.bx rfl (nn st (XAt.ok yk) (fun _=>⟨by have:=eV (kP rfl);omega,(eV (kP rfl)).2⟩) (by omega) (by omega)) ?_))
     rintro v10 h ⟨R5,wz,i10,wA,wB,ahA,hG,ahB,ads,st⟩
     have Dn:=hG.ct
     have AF:=hG.at_.lt
     refine I.dK rfl (AB (kd:=9) (at_:=(aX p bP)) (A:=((ef.length:Int) - 1)) D (st.pick 2 rfl) (by omega)) ?_
     rintro v11 h ⟨R6,st⟩
     refine I.nil ?_
     exact ⟨g,(Nat.lt_succ_self _),wz,i10,wA,wB,(R5++[bJ.mk 9 0 [] [] ((ef.length:Int) - 1) ((R5.length:Int) - 1) (aX p bP)]),R6,v11,fq,(.bool true),(.bool false),(.int .i64 ((ef.length:Int) - 1)),(.int .i64 (aX p bP:Int)),(.bool false),(.bool true),⟨fun y bU r=>ay y bU (Par.C1 (o:=([37],9)) (by simp [Par.find,Par.uE,h1,h2,a6]) fL.here (by omega) hG.res (fun aI bF=>by have:=hG.at_;rw [bF] at this;have:=ads this.hC.1;omega) r),hG.at_,(by omega),(by simp;omega),(by intro _;simp),(by omega),(fun _=>kP rfl)⟩,by kernel_rfl,((st.pick 2 rfl).pick 2 rfl)⟩
    ·replace st:aq ((p.bX bP d 0 0)::p.toks:: .acc nV 7 cN (ef.map bJ.row)::fs) h:=ca
     replace a6:Par.is [37] bu=false:=a6
     refine I.bw (WP.ak (I.aC cN (I.nil (WP.ret ?_))))
     exact ⟨_,(b0 cN),ef,_,_,_,_,_,⟨hz,ay _ _ (Par.Ra (by simp [Par.find,Par.uE,h1,h2,a6])),r9⟩,Di,Dj,st⟩
 ·replace ce:cb≠0:=by omega
  have je:=hz.bad ce
  refine I.bw (WP.exit (WP.ak (I.aC cN (I.nil (WP.ret ?_)))))
  exact ⟨_,(b0 cN),ef,_,_,_,_,_,⟨hz,ay _ _ (by rw [je];rfl),r9⟩,Di,Dj,st⟩
theorem adt (D:gj c) {p:dV} {i d e a N:Nat} {S:Par.dc} {un:Par.E} {fs:List Fact} {h:ae} {ns:List bJ} {k:Nat} {v:V} (nn:tb c 164 N ((Par.term un))) (st:aq (p.bX i d e a::p.toks:: .acc k 7 v (ns.map bJ.row)::fs) h) (hx:XAt p i e a S) (eV:e=0→p.aP.length≤i+N∧d≤40) (aQ:d≤41) (hj:ns.length≤i+min e 1):
 bT c 157 [.ptr p.aT 0,v] h (Al p d S i e (Par.chain (Par.term un) Par.vV) ns fs):=by
 have ni:=hx.small
 have hlt:=hx.lt
 refine bT.dN D.f157 rfl (WP.ak (I.aC .U (I.ak (I.dK rfl (nn st hx eV (by omega) (by omega)) ?_))))
 rintro v1 h ⟨eK,S1,i1,aS,a1,cu,q1,mL,pO,st⟩
 have mB:=q1.ct
 have qW:=q1.at_.lt
 refine I.nil (WP.seq (WP.block (WP.dS (α:=Nat) (fun g env h=>∃fu bP cb e7 ef nV cN fq hc qY r8 lb pR,((∀y bU,Par.aB fu (fun l=>Par.kJ (Par.term un) Par.vV g d l (ef.length - 1) ef) y bU→Par.aB S (fun l=>Par.chain (Par.term un) Par.vV d l ns) y bU)∧XAt p bP cb e7 fu∧(cb=0→p.aP.length≤bP+g)∧ef.length+(i+min e 1)≤ns.length+(bP+min cb 1)∧(cb=0→1≤ef.length)∧i+1≤bP+min cb 1∧(cb=0→e=0))∧env=c6 [.ptr p.aT 0,cN,fq,hc,qY,r8,lb,pR] 0 Env.nil∧aq ((p.bX bP d cb e7)::p.toks:: .acc nV 7 cN (ef.map bJ.row)::fs) h) (fun g=>g) (Par.dc.len S1) ?_ ?_)))
 ·exact ⟨S1,i1,aS,a1,eK,cu,v1, .U, .bot, .bot, .bot, .bot, .bot,⟨fun _ _ r=>Par.Q9 q1.res (Par.aB.len (F:=fun n l=>Par.kJ (Par.term un) Par.vV n d l (eK.length - 1) eK) r),q1.at_,q1.at_.fuel,mL,pO,mB,q1.fJ hx⟩,by kernel_rfl,st⟩
 rintro g _ h ⟨fu,bP,cb,e7,ef,nV,cN,fq,hc,qY,r8,lb,pR,⟨ay,hz,hk,Di,Dj,r9,kP⟩,rfl,st⟩
 have wq:=hz.lt
 have wu:=hz.small
 refine WP.seq (WP.ak (I.v (.ptr p.aT 0) (I.f (.ptr p.aT 3) (I.b (.n cb) (st.aN 0 rfl) (I.bV (L.eql rfl rfl) (fun ce=> ?_) (fun ce=> ?_))))))
 ·replace ce:cb=0:=by omega
  obtain ⟨bu,nU,nm,fL⟩:=hz.fJ ce
  subst nU nm ce
  obtain ⟨g,rfl⟩:∃m,g=m+1:=⟨g - 1,by omega⟩
  refine I.nil (WP.cond (t:=true) rfl (WP.skip (WP.block (WP.seq (WP.ad (I.val (v:= .n ef.length) (L.fD rfl (st.xn 2 rfl (by decide)) (List.length_map _)) (I.val (v:= .int .i64 ((ef.length:Int) - 1)) (L.jA rfl rfl rfl (And.intro (by omega) (by omega))) (I.bx rfl (r3 D st (XAt.ok fL)) ?_))))))))
  rintro _ h ⟨rfl,st⟩
  refine I.aC (.int .i64 ((ef.length:Int) - 1)) (I.aC (.int .i64 (aX p bP:Int)) (I.nil (WP.block (WP.ak (I.dK rfl (il (s:=[43]) D st (XAt.ok fL)) ?_)))))
  rintro _ h (⟨rfl,⟨adm,Dk,_,_,h1,wy⟩,ca⟩|⟨rfl,h1,ca⟩)
  ·cases Dk
   replace st:aq ((p.bX (bP+1) d 0 0)::p.toks:: .acc nV 7 cN (ef.map bJ.row)::fs) h:=ca
   have tp:=wy.lt
   refine I.bI (WP.ad (I.bx rfl (nn st (XAt.ok wy) (fun _=>⟨by have:=eV (kP rfl);omega,(eV (kP rfl)).2⟩) (by omega) (by omega)) ?_))
   rintro v4 h ⟨Dl,gv,i4,fZ,a4,mf,ek,adn,Lw,st⟩
   have AE:=ek.ct
   have yj:=ek.at_.lt
   refine I.dK rfl (AB (kd:=5) (at_:=(aX p bP)) (A:=((ef.length:Int) - 1)) D (st.pick 2 rfl) (by omega)) ?_
   rintro v5 h ⟨GV,st⟩
   refine I.nil ?_
   exact ⟨g,(Nat.lt_succ_self _),gv,i4,fZ,a4,(Dl++[bJ.mk 5 0 [] [] ((ef.length:Int) - 1) ((Dl.length:Int) - 1) (aX p bP)]),GV,v5,fq,(.bool true),(.bool true),(.int .i64 ((ef.length:Int) - 1)),(.int .i64 (aX p bP:Int)),pR,⟨fun y bU r=>ay y bU (Par.C1 (o:=([43],5)) (by simp [Par.find,Par.vV,h1]) fL.here (by omega) ek.res (fun aI bF=>by have:=ek.at_;rw [bF] at this;have:=Lw this.hC.1;omega) r),ek.at_,(by omega),(by simp;omega),(by intro _;simp),(by omega),(fun _=>kP rfl)⟩,by kernel_rfl,((st.pick 2 rfl).pick 2 rfl)⟩
  ·replace st:aq ((p.bX bP d 0 0)::p.toks:: .acc nV 7 cN (ef.map bJ.row)::fs) h:=ca
   replace h1:Par.is [43] bu=false:=h1
   refine I.bw (WP.ak (I.dK rfl (il (s:=[45]) D st (XAt.ok fL)) ?_))
   rintro _ h (⟨rfl,⟨ado,Ay,_,_,h2,qX⟩,ca⟩|⟨rfl,h2,ca⟩)
   ·cases Ay
    replace st:aq ((p.bX (bP+1) d 0 0)::p.toks:: .acc nV 7 cN (ef.map bJ.row)::fs) h:=ca
    have yi:=qX.lt
    refine I.bI (WP.ad (I.bx rfl (nn st (XAt.ok qX) (fun _=>⟨by have:=eV (kP rfl);omega,(eV (kP rfl)).2⟩) (by omega) (by omega)) ?_))
    rintro GO h ⟨Dm,rT,i7,rD,tr,adp,gk,adq,Lx,st⟩
    have Az:=gk.ct
    have AA:=gk.at_.lt
    refine I.dK rfl (AB (kd:=6) (at_:=(aX p bP)) (A:=((ef.length:Int) - 1)) D (st.pick 2 rfl) (by omega)) ?_
    rintro Av h ⟨vr,st⟩
    refine I.nil ?_
    exact ⟨g,(Nat.lt_succ_self _),rT,i7,rD,tr,(Dm++[bJ.mk 6 0 [] [] ((ef.length:Int) - 1) ((Dm.length:Int) - 1) (aX p bP)]),vr,Av,fq,(.bool true),(.bool false),(.int .i64 ((ef.length:Int) - 1)),(.int .i64 (aX p bP:Int)),(.bool true),⟨fun y bU r=>ay y bU (Par.C1 (o:=([45],6)) (by simp [Par.find,Par.vV,h1,h2]) fL.here (by omega) gk.res (fun aI bF=>by have:=gk.at_;rw [bF] at this;have:=Lx this.hC.1;omega) r),gk.at_,(by omega),(by simp;omega),(by intro _;simp),(by omega),(fun _=>kP rfl)⟩,by kernel_rfl,((st.pick 2 rfl).pick 2 rfl)⟩
   ·replace st:aq ((p.bX bP d 0 0)::p.toks:: .acc nV 7 cN (ef.map bJ.row)::fs) h:=ca
    replace h2:Par.is [45] bu=false:=h2
    refine I.bw (WP.ak (I.aC cN (I.nil (WP.ret ?_))))
    exact ⟨_,(b0 cN),ef,_,_,_,_,_,⟨hz,ay _ _ (Par.Ra (by simp [Par.find,Par.vV,h1,h2])),r9⟩,Di,Dj,st⟩
 ·replace ce:cb≠0:=by omega
  have je:=hz.bad ce
  refine I.bw (WP.exit (WP.ak (I.aC cN (I.nil (WP.ret ?_)))))
  exact ⟨_,(b0 cN),ef,_,_,_,_,_,⟨hz,ay _ _ (by rw [je];rfl),r9⟩,Di,Dj,st⟩
theorem adu (D:gj c) {p:dV} {i d e a N:Nat} {S:Par.dc} {un:Par.E} {fs:List Fact} {h:ae} {ns:List bJ} {k:Nat} {v:V} (nn:tb c 157 N (Par.sum un)) (st:aq (p.bX i d e a::p.toks:: .acc k 7 v (ns.map bJ.row)::fs) h) (hx:XAt p i e a S) (eV:e=0→p.aP.length≤i+N∧d≤40) (aQ:d≤41) (hj:ns.length≤i+min e 1):
 bT c 141 [.ptr p.aT 0,v] h (Al p d S i e (Par.whole un) ns fs):=by
 have ni:=hx.small
 have hlt:=hx.lt
 refine bT.dN D.f141 rfl (WP.ak (I.aC .U (I.ak (I.dK rfl (nn st hx eV (by omega) (by omega)) ?_))))
 rintro v1 h ⟨eK,S1,i1,aS,a1,cu,q1,mL,pO,st⟩
 have mB:=q1.ct
 have qW:=q1.at_.lt
 refine I.ak (I.Yk (rows:=Par.qL.map ik) st rfl (by decide) rfl (by intro row hm;simp at hm;obtain ⟨a,_,rfl⟩:=hm;rfl) (fun GX h st=> ?_))
 refine I.nil (WP.seq (WP.ak (I.aC (.int .i64 0) (I.nil (WP.block (WP.dS (α:=Nat) (fun j env h=>∃fq r8 lb pR tg,(j≤3∧∀q y,Par.qL[q]? =some y→q<j→Par.gf y S1=false)∧env=c6 [.ptr p.aT 0,v1,fq, .au GX 0 3 (some 3), .n j,r8,lb,pR,tg] 0 Env.nil∧aq (.aE (fun h=>Rows 1 h (.au GX 0 3 (some 3)) (Par.qL.map ik))::(p.bX i1 d aS a1)::p.toks:: .acc cu 7 v1 (eK.map bJ.row)::fs) h) (fun j=>3 - j) 0 ?_ ?_))))))
 ·exact ⟨.U, .bot, .bot, .bot, .bot,⟨Nat.zero_le _,fun _ _ _ h=>absurd h (Nat.not_lt_zero _)⟩,by kernel_rfl,st⟩
 rintro j _ h ⟨fq,r8,lb,pR,tg,⟨aR,e2⟩,rfl,st⟩
 refine WP.seq (WP.ak (I.val (v:= .int .i64 3) (L.pr rfl) (I.bV (L.lss rfl rfl) (fun c1=> ?_) (fun c1=> ?_))))
 ·replace c1:j<3:=by omega
  refine I.nil (WP.cond (t:=true) rfl (WP.skip (WP.seq (WP.block (WP.seq (WP.ad (I.val (v:= .n eK.length) (L.fD rfl (st.xn 3 rfl (by decide)) (List.length_map _)) (I.val (v:= .int .i64 ((eK.length:Int) - 1)) (L.jA rfl rfl rfl (And.intro (by omega) (by omega))) (I.bx rfl (r3 D ((st.pick 2 rfl).pick 2 rfl) q1.at_) ?_)))))))))
  rintro _ h ⟨rfl,st⟩
  refine I.aC (.int .i64 ((eK.length:Int) - 1)) (I.aC (.int .i64 (aX p i1:Int)) (I.nil (WP.seq (WP.ad ?_))))
  obtain ⟨y,hy⟩:∃y,Par.qL[j]? =some y:=⟨_,List.getElem?_eq_getElem (show j<Par.qL.length from by show j<3;omega)⟩
  refine I.val (L.bY rfl rfl (by omega)) (I.val (v:=L.str y) (L.load rfl ((st.bt 2 rfl).eb (by rw [List.getElem?_map,hy];rfl))) ?_)
  refine I.dK rfl (il (s:=y) D st q1.at_) ?_
  rintro _ h (⟨rfl,⟨bu,nU,rv,nm,BJ,fL⟩,ca⟩|⟨rfl,BJ,ca⟩)
  ·subst nU rv nm
   replace st:aq ((p.bX (i1+1) d 0 0)::p.toks:: .aE (fun h=>Rows 1 h (.au GX 0 3 (some 3)) (Par.qL.map ik)):: .acc cu 7 v1 (eK.map bJ.row)::fs) h:=ca
   have wv:=fL.lt
   refine I.bI (WP.ak (I.bx rfl (nn (((st.pick 3 rfl).pick 2 rfl).pick 2 rfl) (XAt.ok fL) (fun _=>⟨by have:=eV (q1.fJ hx rfl);omega,(eV (q1.fJ hx rfl)).2⟩) (by omega) (by omega)) ?_))
   rintro v3 h ⟨ahC,dW,i3,df,a3,gg,dG,acZ,adv,st⟩
   have r6:=dG.ct
   have tp:=dG.at_.lt
   refine I.val (v:= .int .i64 ((10+j:Nat):Int)) (L.cX rfl rfl (by omega) (And.intro (by omega) (by omega))) (I.dK rfl (AB (kd:=(10+j)) (at_:=(aX p i1)) (A:=((eK.length:Int) - 1)) D (st.pick 2 rfl) (by omega)) ?_)
   rintro v4 h ⟨mf,st⟩
   refine I.nil (WP.ret ?_)
   exact ⟨_,(b0 v4),_,_,_,_,_,_,⟨dG.at_,Par.abr q1.res (Par.abD hy BJ) (q1.at_.here rfl) (by have:=pO rfl;omega) dG.res (fun bu bl=>by have:=dG.at_;rw [bl] at this;have:=adv this.hC.1;omega),by omega⟩,(by simp;omega),(by intro _;simp),(((st.pick 3 rfl).tail.pick 2 rfl).pick 2 rfl)⟩
  ·replace st:aq ((p.bX i1 d aS a1)::p.toks:: .aE (fun h=>Rows 1 h (.au GX 0 3 (some 3)) (Par.qL.map ik)):: .acc cu 7 v1 (eK.map bJ.row)::fs) h:=ca
   refine I.nil (WP.cond (t:=false) rfl (WP.skip (WP.ad (I.bS (v:= .int .i64 ((j+1:Nat):Int)) (L.cX rfl rfl (by omega) (And.intro (by omega) (by omega))) (I.nil ?_)))))
   have adw:∀q y,Par.qL[q]? =some y→q<j+1→Par.gf y S1=false:=by
    intro q pb bB hlt
    rcases Nat.lt_succ_iff_lt_or_eq.1 hlt with hlt|rfl
    ·exact e2 q pb bB hlt
    ·rw [hy] at bB;cases bB;exact BJ
   exact ⟨j+1,(by omega),fq,(.bool true),(.bool false),(.int .i64 ((eK.length:Int) - 1)),(.int .i64 (aX p i1:Int)),⟨by omega,adw⟩,by kernel_rfl,(st.pick 2 rfl)⟩
 ·replace c1:¬(j<3):=by omega
  refine I.bw (WP.exit (WP.ak (I.aC v1 (I.nil (WP.ret ?_)))))
  exact ⟨_,(b0 v1),_,_,_,_,_,_,⟨q1.at_,Par.abq q1.res (fun bu bl=>Par.abE bl (fun q y bB hlt=>e2 q y bB (by omega))),by omega⟩,mL,pO,st.tail⟩
theorem R7 (D:gj c) {p:dV} {i d e a N:Nat} {S:Par.dc} {g:Par.E} {fs:List Fact} {h:ae} {ns:List bJ} {k:Nat} {v:V} (st:aq (p.bX i d e a::p.toks:: .acc k 7 v (ns.map bJ.row)::fs) h) (hx:XAt p i e a S) (he:e≠0):
 bT c 165 [.ptr p.aT 0,v] h (Al p d S i e g ns fs):=by
 refine bT.dN D.f165 rfl (WP.ak (I.aC .U (I.nil (WP.seq (WP.ak (I.v (.ptr p.aT 0) (I.f (.ptr p.aT 3) (I.b (.n e) (st.aN 0 rfl) (I.bV (L.neq rfl rfl) (fun c1=> ?_) (fun c1=>by exfalso;omega))))))))))
 refine I.bI (WP.ak (I.aC v (I.nil (WP.ret ?_))))
 exact ⟨_,(b0 v),ns,_,_,_,_,_,⟨hx,by rw [hx.bad he];rfl,by omega⟩,by omega,fun h0=>absurd h0 he,st⟩
theorem adx (D:gj c) {p:dV} {i d N:Nat} {un:Par.E} {fs:List Fact} {h:ae} {ns:List bJ} {k:Nat} {v:V} {t:Tok} {l:List Tok} (nn:tb c 165 N un) (hW:tb c 141 N (Par.whole un)) (st:aq (p.bX i d 0 0::p.toks:: .acc k 7 v (ns.map bJ.row)::fs) h) (ar:Left p i (t::l)) (eV:p.aP.length≤i+(N+1)) (aQ:d≤40) (hj:ns.length≤i):
 bT c 165 [.ptr p.aT 0,v] h (Al p d (.ok (t::l)) i 0 (Par.pE un) ns fs):=by
 have ni:=ar.small
 have hlt:=ar.lt
 refine bT.dN D.f165 rfl (WP.ak (I.aC .U (I.nil (WP.seq (WP.ak (I.v (.ptr p.aT 0) (I.f (.ptr p.aT 3) (I.b (.int .i64 0) (st.aN 0 rfl) (I.bV (L.neq rfl rfl) (fun ce=>by exfalso;omega) (fun ce=> ?_))))))))))
 refine I.bw (WP.skip (WP.seq (WP.draw (af.v (.ptr p.aT 0) (af.v (.ptr p.aT 0) (af.f (.ptr p.aT 0) (af.b (.au p.cr p.to p.aP.length p.cap) (st.aN 0 rfl) (af.v (.ptr p.aT 0) (af.v (.ptr p.aT 0) (af.f (.ptr p.aT 1) (af.b (.n i) (st.aN 0 rfl) (af.val (v:= .ptr p.cr (p.to+i * 3)) (L.bY rfl rfl (XAt.ok ar).lt) (af.val (v:= .agg [.n t.kind,L.str t.text, .n t.at_]) (L.da rfl ((st.bt 1 rfl).da ar.row)) (af.dI st L.alloc (fun cr h st=> ?_)))))))))))))))
 refine af.bM (row':=[.n t.kind,L.str t.text, .n t.at_]) st 0 rfl rfl rfl rfl rfl rfl rfl (fun h st=>rfl) (fun h st=> ?_)
 refine af.nil (WP.seq (WP.block (WP.ak (I.bx rfl (r4 (s:=[45]) D ((st.pick 2 rfl).pick 2 rfl) (XAt.ok ar)) ?_))))
 rintro _ h ⟨rfl,st⟩
 cases h1:Par.gf [45] (.ok (t::l))
 ·replace h1:Par.is [45] (t::l)=false:=h1
  refine I.yes rfl (I.v (.ptr p.aT 0) (I.yes rfl (I.bx rfl (r4 (s:=[33]) D st (XAt.ok ar)) ?_)))
  rintro _ h ⟨rfl,st⟩
  cases h2:Par.gf [33] (.ok (t::l))
  ·replace h2:Par.is [33] (t::l)=false:=h2
   refine I.aC (.bool false) (I.bw (WP.ak (I.dK rfl (r4 (s:=[40]) D st (XAt.ok ar)) ?_)))
   rintro _ h ⟨rfl,st⟩
   cases a6:Par.gf [40] (.ok (t::l))
   ·replace a6:Par.is [40] (t::l)=false:=a6
    refine I.bw (WP.ak (I.f (.ptr cr 0) (I.b (.n t.kind) (st.aN 2 rfl) (I.bV (L.eql rfl rfl) (fun c2=> ?_) (fun c2=> ?_)))))
    ·replace c2:t.kind=2:=by omega
     refine I.nil (WP.cond (t:=true) rfl (WP.seq (WP.ad (I.val (v:= .ptr p.aT 0) rfl (I.val (v:= .ptr p.aT 1) (L.bK rfl) (I.val (v:= .n i) (L.fM rfl (st.aN 0 rfl) rfl) (I.val (v:= .int .i64 ((i+1:Nat):Int)) (L.cX rfl rfl (by omega) (And.intro (by omega) (by omega))) (I.val (v:= .ptr p.aT 0) rfl (I.val (v:= .ptr p.aT 1) (L.bK rfl) (I.bM (row':=[.au p.cr p.to p.aP.length p.cap, .int .i64 ((i+1:Nat):Int), .n d, .int .i64 0, .int .i64 0]) st 0 rfl rfl rfl rfl rfl rfl rfl (fun h st=> ?_)))))))))))
     refine I.nil (WP.seq (WP.draw (af.v v (af.f (.ptr cr 1) (af.b (L.str t.text) (st.aN 2 rfl) (af.f (.ptr cr 2) (af.b (.n t.at_) (st.aN 2 rfl) (af.bx rfl (Lu D st (ar.num t (by simp) c2)) (fun _ h hp=> ?_) ?_))))))))
     ·obtain ⟨rfl,st⟩:=hp
      exact hN (jz (L.fM rfl (st.aN 2 rfl) rfl)) (j6 _ _)
     rintro _ h ⟨rfl,st⟩
     refine af.val (v:= .agg [.int .i64 1, .int .i64 (num t.text:Int), .str 0 0, .str 0 0, .int .i64 (-1), .int .i64 (-1), .n t.at_]) (L.build rfl) (af.fS (rows:=[[.int .i64 1, .int .i64 (num t.text:Int), .str 0 0, .str 0 0, .int .i64 (-1), .int .i64 (-1), .n t.at_]]) st rfl (by decide) rfl (by simp) (fun iT h _ st=> ?_))
     refine af.qv st 4 rfl rfl rfl (st.bt 0 rfl) (by decide) (by simp;omega) (fun _ _ h st=>rfl) (fun f1 v1 h st=> ?_)
     rw [show (ns.map bJ.row)++[[V.int .i64 1,V.int .i64 (num t.text:Int),V.str 0 0,V.str 0 0,V.int .i64 (-1),V.int .i64 (-1),V.n t.at_]]=(ns++[bJ.mk 1 (num t.text:Int) [] [] (-1) (-1) t.at_]).map bJ.row from by simp [bJ.row];rfl] at st
     obtain ⟨qO,rfl⟩:=(st.gh 4 rfl).ne (by simp)
     refine af.aC (.au qO 0 (((ns++[bJ.mk 1 (num t.text:Int) [] [] (-1) (-1) t.at_]).map bJ.row).length) none) (af.nil (WP.ret ?_))
     exact ⟨_,(cH (fl (v:= .au qO 0 (((ns++[bJ.mk 1 (num t.text:Int) [] [] (-1) (-1) t.at_]).map bJ.row).length) none) rfl) (eX _ _)),_,_,_,_,_,_,⟨.ok (ar.next (by omega)),Par.abu (by simp [Par.find,Par.oE,h1,h2]) a6 c2 rfl,by omega⟩,(by simp;omega),(by intro _;simp),(st.tail.pick 2 rfl).tail⟩
    ·replace c2:t.kind≠2:=by omega
     refine I.bw (WP.ak (I.f (.ptr cr 0) (I.b (.n t.kind) (st.aN 2 rfl) (I.bV (L.eql rfl rfl) (fun cG=> ?_) (fun cG=> ?_)))))
     ·replace cG:t.kind=1:=by omega
      refine I.bI (WP.ak (I.bx rfl (GS D st (XAt.ok ar)) ?_))
      rintro _ h ⟨bR,b9,i2,bl,a2,rfl,c0,st⟩
      have wx:=c0.ct
      have wv:=c0.at_.lt
      refine I.v (L.str bR.1) (I.v (L.str bR.2) (I.aC (L.str bR.1) (I.aC (L.str bR.2) (I.ak (I.f (.ptr cr 2) (I.b (.n t.at_) (st.aN 2 rfl) (I.val (v:= .agg [.int .i64 2, .int .i64 0,L.str bR.1,L.str bR.2, .int .i64 (-1), .int .i64 (-1), .n t.at_]) (L.build rfl) (I.fS (rows:=[[.int .i64 2, .int .i64 0,L.str bR.1,L.str bR.2, .int .i64 (-1), .int .i64 (-1), .n t.at_]]) st rfl (by decide) rfl (by simp) (fun lR h st=> ?_)))))))))
      refine I.kF st 4 rfl rfl rfl (st.bt 0 rfl) (by decide) (by simp;omega) (fun f3 v3 h st=> ?_)
      rw [show (ns.map bJ.row)++[[V.int .i64 2,V.int .i64 0,L.str bR.1,L.str bR.2,V.int .i64 (-1),V.int .i64 (-1),V.n t.at_]]=(ns++[bJ.mk 2 0 bR.1 bR.2 (-1) (-1) t.at_]).map bJ.row from by simp [bJ.row]] at st
      obtain ⟨Lo,rfl⟩:=(st.gh 4 rfl).ne (by simp)
      refine I.nil (WP.ret ?_)
      exact ⟨_,(cH (fl (v:= .au Lo 0 (((ns++[bJ.mk 2 0 bR.1 bR.2 (-1) (-1) t.at_]).map bJ.row).length) none) rfl) (eX _ _)),_,_,_,_,_,_,⟨c0.at_,Par.abv (by simp [Par.find,Par.oE,h1,h2]) a6 c2 rfl c0.res,by omega⟩,(by simp;omega),(by intro _;simp),(st.tail.pick 2 rfl).tail⟩
     ·replace cG:t.kind≠1:=by omega
      refine I.bw (WP.skip (WP.ak (I.bx rfl (tj (k:=11) D st (XAt.ok ar) (by decide)) ?_)))
      rintro _ h ⟨rfl,tm,tn,oP,gC,st⟩
      refine I.ak (I.aC v (I.nil (WP.ret ?_)))
      have gN:=gC.bad oP
      exact ⟨_,(b0 v),ns,_,_,_,_,_,⟨gC,Par.abw (by simp [Par.find,Par.oE,h1,h2]) a6 c2 cG,by omega⟩,(by omega),(fun h0=>absurd h0 oP),(st.pick 2 rfl).tail⟩
   ·replace a6:Par.is [40] (t::l)=true:=a6
    have AG:t.text=[40]:=Par.Gm a6
    refine I.bI (WP.ak (I.bx rfl (GU (s:=[40]) D st (XAt.ok ar) (by omega)) ?_))
    rintro _ h ⟨gv,i4,fZ,a4,rfl,ek,ady,st⟩
    have AE:=ek.ct
    have yj:=ek.at_.lt
    refine I.ak (I.dK rfl (hW (((st.pick 3 rfl).pick 2 rfl).pick 2 rfl) ek.at_ (fun h0=>⟨by omega,ady h0⟩) (by omega) (by omega)) ?_)
    rintro v5 h ⟨ahD,gI,i5,gx,a5,GV,hY,ahE,adz,st⟩
    have GP:=hY.ct
    have Aw:=hY.at_.lt
    refine I.ak (I.bx rfl (ft (s:=[41]) D st hY.at_) ?_)
    rintro _ h ⟨c4,ki,i6,jY,ts,rfl,gG,st⟩
    have GY:=gG.ct
    have yi:=gG.at_.lt
    refine I.nil (WP.seq (WP.ad (I.val (v:= .ptr p.aT 0) rfl (I.val (v:= .ptr p.aT 2) (L.bK rfl) (I.val (v:= .int .i64 ((d+1:Nat):Int)) (L.fM rfl (st.aN 0 rfl) rfl) (I.val (v:= .n d) (L.jA rfl rfl (by omega) (And.intro (by omega) (by omega))) (I.val (v:= .ptr p.aT 0) rfl (I.val (v:= .ptr p.aT 2) (L.bK rfl) (I.bM (row':=[.au p.cr p.to p.aP.length p.cap, .n i6, .n d, .n jY, .n ts]) st 0 rfl rfl rfl rfl rfl rfl rfl (fun h st=> ?_))))))))))
    refine I.ak (I.aC v5 (I.nil (WP.ret ?_)))
    exact ⟨_,(b0 v5),_,_,_,_,_,_,⟨gG.at_,Par.abt (by simp [Par.find,Par.oE,h1,h2]) a6 ek.res hY.res gG.res,by omega⟩,(by omega),(fun h0=>adz (gG.fJ hY.at_ h0)),(st.pick 3 rfl).tail⟩
  ·replace h2:Par.is [33] (t::l)=true:=h2
   have AG:t.text=[33]:=Par.Gm h2
   refine I.aC (.bool true) (I.bI (WP.ak (I.aC (.int .i64 3) (I.nil (WP.seq (WP.ak (I.f (.ptr cr 1) (I.b (L.str t.text) (st.aN 2 rfl) (I.bV (L.seq (m:=[33]) rfl rfl) (fun _=> ?_) (fun Ly=>absurd AG Ly))))))))))
   refine I.bI (WP.ad (I.aC (.int .i64 4) (I.ak (I.f (.ptr cr 1) (I.b (L.str t.text) (st.aN 2 rfl) (I.bx rfl (GU (s:=t.text) D st (XAt.ok ar) (by omega)) ?_))))))
   rintro _ h ⟨rT,i7,rD,tr,rfl,gk,adA,st⟩
   have Az:=gk.ct
   have AA:=gk.at_.lt
   refine I.ak (I.dK rfl (nn (((st.pick 3 rfl).pick 2 rfl).pick 2 rfl) gk.at_ (fun h0=>⟨by omega,adA h0⟩) (by omega) (by omega)) ?_)
   rintro Av h ⟨tt,Rh,i8,JO,R8,vr,tu,ahF,adB,st⟩
   have adC:=tu.ct
   have Lz:=tu.at_.lt
   refine I.nil (WP.seq (WP.ad (I.val (v:= .ptr p.aT 0) rfl (I.val (v:= .ptr p.aT 2) (L.bK rfl) (I.val (v:= .int .i64 ((d+1:Nat):Int)) (L.fM rfl (st.aN 0 rfl) rfl) (I.val (v:= .n d) (L.jA rfl rfl (by omega) (And.intro (by omega) (by omega))) (I.val (v:= .ptr p.aT 0) rfl (I.val (v:= .ptr p.aT 2) (L.bK rfl) (I.bM (row':=[.au p.cr p.to p.aP.length p.cap, .n i8, .n d, .n JO, .n R8]) st 0 rfl rfl rfl rfl rfl rfl rfl (fun h st=> ?_))))))))))
   refine I.nil (WP.seq (WP.ad (I.val (v:= .n tt.length) (L.fD rfl (st.xn 2 rfl (by decide)) (List.length_map _)) (I.val (v:= .int .i64 ((tt.length:Int) - 1)) (L.jA rfl rfl rfl (And.intro (by omega) (by omega))) (I.val (v:= .ptr cr 2) (L.bK rfl) (I.val (v:= .n t.at_) (L.fM rfl (st.aN 3 rfl) rfl) (I.val (v:= .agg [.int .i64 4, .int .i64 0, .str 0 0, .str 0 0, .int .i64 ((tt.length:Int) - 1), .int .i64 (-1), .n t.at_]) (L.build rfl) (I.fS (rows:=[[.int .i64 4, .int .i64 0, .str 0 0, .str 0 0, .int .i64 ((tt.length:Int) - 1), .int .i64 (-1), .n t.at_]]) st rfl (by decide) rfl (by simp) (fun R3 h st=> ?_)))))))))
   refine I.kF st 3 rfl rfl rfl (st.bt 0 rfl) (by decide) (by simp;omega) (fun f9 v9 h st=> ?_)
   rw [show (tt.map bJ.row)++[[V.int .i64 4,V.int .i64 0,V.str 0 0,V.str 0 0,V.int .i64 ((tt.length:Int) - 1),V.int .i64 (-1),V.n t.at_]]=(tt++[bJ.mk 4 0 [] [] ((tt.length:Int) - 1) (-1) t.at_]).map bJ.row from by simp [bJ.row];rfl] at st
   obtain ⟨adD,rfl⟩:=(st.gh 3 rfl).ne (by simp)
   refine I.nil (WP.ret ?_)
   exact ⟨_,(cH (fl (v:= .au adD 0 (((tt++[bJ.mk 4 0 [] [] ((tt.length:Int) - 1) (-1) t.at_]).map bJ.row).length) none) rfl) (eX _ _)),_,_,_,_,_,_,⟨tu.at_,Par.unary_neg (o:=([33],4)) (by simp [Par.find,Par.oE,h1,h2]) h2 rfl (by have bd:=gk.res;rw [AG] at bd;exact bd) tu.res (fun bu bl=>by have:=tu.at_;rw [bl] at this;have:=adB this.hC.1;omega),by omega⟩,(by simp;omega),(by intro _;simp),(st.tail.pick 3 rfl).tail⟩
 ·replace h1:Par.is [45] (t::l)=true:=h1
  have AG:t.text=[45]:=Par.Gm h1
  refine I.no rfl (I.no rfl (I.aC (.bool true) (I.bI (WP.ak (I.aC (.int .i64 3) (I.nil (WP.seq (WP.ak (I.f (.ptr cr 1) (I.b (L.str t.text) (st.aN 2 rfl) (I.bV (L.seq (m:=[33]) rfl rfl) (fun Ly=>absurd (Ly.symm.trans AG) (by decide)) (fun _=> ?_))))))))))))
  refine I.bw (WP.skip (WP.ak (I.f (.ptr cr 1) (I.b (L.str t.text) (st.aN 2 rfl) (I.bx rfl (GU (s:=t.text) D st (XAt.ok ar) (by omega)) ?_)))))
  rintro _ h ⟨wz,i10,wA,wB,rfl,hG,adE,st⟩
  have Dn:=hG.ct
  have AF:=hG.at_.lt
  refine I.ak (I.dK rfl (nn (((st.pick 3 rfl).pick 2 rfl).pick 2 rfl) hG.at_ (fun h0=>⟨by omega,adE h0⟩) (by omega) (by omega)) ?_)
  rintro v11 h ⟨tv,GZ,i11,Dp,Dq,R6,kQ,ahG,adF,st⟩
  have LA:=kQ.ct
  have LB:=kQ.at_.lt
  refine I.nil (WP.seq (WP.ad (I.val (v:= .ptr p.aT 0) rfl (I.val (v:= .ptr p.aT 2) (L.bK rfl) (I.val (v:= .int .i64 ((d+1:Nat):Int)) (L.fM rfl (st.aN 0 rfl) rfl) (I.val (v:= .n d) (L.jA rfl rfl (by omega) (And.intro (by omega) (by omega))) (I.val (v:= .ptr p.aT 0) rfl (I.val (v:= .ptr p.aT 2) (L.bK rfl) (I.bM (row':=[.au p.cr p.to p.aP.length p.cap, .n i11, .n d, .n Dp, .n Dq]) st 0 rfl rfl rfl rfl rfl rfl rfl (fun h st=> ?_))))))))))
  refine I.nil (WP.seq (WP.ad (I.val (v:= .n tv.length) (L.fD rfl (st.xn 2 rfl (by decide)) (List.length_map _)) (I.val (v:= .int .i64 ((tv.length:Int) - 1)) (L.jA rfl rfl rfl (And.intro (by omega) (by omega))) (I.val (v:= .ptr cr 2) (L.bK rfl) (I.val (v:= .n t.at_) (L.fM rfl (st.aN 3 rfl) rfl) (I.val (v:= .agg [.int .i64 3, .int .i64 0, .str 0 0, .str 0 0, .int .i64 ((tv.length:Int) - 1), .int .i64 (-1), .n t.at_]) (L.build rfl) (I.fS (rows:=[[.int .i64 3, .int .i64 0, .str 0 0, .str 0 0, .int .i64 ((tv.length:Int) - 1), .int .i64 (-1), .n t.at_]]) st rfl (by decide) rfl (by simp) (fun ade h st=> ?_)))))))))
  refine I.kF st 3 rfl rfl rfl (st.bt 0 rfl) (by decide) (by simp;omega) (fun f12 v12 h st=> ?_)
  rw [show (tv.map bJ.row)++[[V.int .i64 3,V.int .i64 0,V.str 0 0,V.str 0 0,V.int .i64 ((tv.length:Int) - 1),V.int .i64 (-1),V.n t.at_]]=(tv++[bJ.mk 3 0 [] [] ((tv.length:Int) - 1) (-1) t.at_]).map bJ.row from by simp [bJ.row];rfl] at st
  obtain ⟨adG,rfl⟩:=(st.gh 3 rfl).ne (by simp)
  refine I.nil (WP.ret ?_)
  exact ⟨_,(cH (fl (v:= .au adG 0 (((tv++[bJ.mk 3 0 [] [] ((tv.length:Int) - 1) (-1) t.at_]).map bJ.row).length) none) rfl) (eX _ _)),_,_,_,_,_,_,⟨kQ.at_,Par.unary_neg (o:=([45],3)) (by simp [Par.find,Par.oE,h1]) h1 rfl (by have bd:=hG.res;rw [AG] at bd;exact bd) kQ.res (fun bu bl=>by have:=kQ.at_;rw [bl] at this;have:=adF this.hC.1;omega),by omega⟩,(by simp;omega),(by intro _;simp),(st.tail.pick 3 rfl).tail⟩
theorem R9 (D:gj c) {N:Nat} {un:Par.E} (nn:tb c 165 N un):tb c 141 N (Par.whole un):=by
 have h1:tb c 164 N (Par.term un):=by intro fs h p i d e a S ns k v st hx eV aQ hj;exact adl D nn st hx eV aQ hj
 have h2:tb c 157 N (Par.sum un):=by intro fs h p i d e a S ns k v st hx eV aQ hj;exact adt D h1 st hx eV aQ hj
 intro fs h p i d e a S ns k v st hx eV aQ hj
 exact adu D h2 st hx eV aQ hj
theorem adH (D:gj c) (N:Nat):tb c 165 N (Par.unary N):=by
 induction N with
 |zero=>
  intro fs h p i d e a S ns k v st hx eV aQ hj
  refine R7 (N:=0) D st hx fun h0=> ?_
  have:=hx.lt;have:=(eV h0).1;omega
 |succ N bm=>
  intro fs h p i d e a S ns k v st hx eV aQ hj
  by_cases he:e=0
  ·obtain ⟨l,lQ,ha,ar⟩:=hx.fJ he
   subst lQ ha he
   obtain ⟨t,l,rfl⟩:=ar.cons
   have:=eV rfl
   exact adx D bm (R9 D bm) st ar (by omega) this.2 (by omega)
  ·exact R7 (N:=0) D st hx he
end
end Go.Eng.YtmcjcbldmoijiaaGreatDoor
namespace Go.Eng.YtmcjcbldmoijiaaGreatDoor
open Go.Eng
noncomputable section
variable {c:Ctx}
theorem na.im (h:ae):na h .U []:=⟨[], .nil,trivial⟩
theorem gR.im (h:ae):gR h .U []:=⟨[], .nil,kK.nil⟩
theorem gR.wk {h:ae} {v:V} {l:List cx} (a:gR h v l):v.dA=some [v]:=by obtain ⟨_,r,_⟩:=a;exact r.cells
theorem mw.of {h:ae} {k a:Nat} {m n l qG t:List UInt8} {ay:Bool} {e:List bJ} {sg:List (List bJ)} {b el:List cx} {z1 cR lK b2:V} (h1:Rows 7 h z1 (e.map bJ.row)) (h2:na h cR sg) (a6:gR h lK b) (cc:gR h b2 el):
 mw h (.mk k a m n l ay qG t e sg b el) [.n k, .n a,L.str m,L.str n,L.str l, .bool ay,L.str qG,L.str t,z1,cR,lK,b2]:=by
 simp only [mw];exact ⟨z1,cR,lK,b2,rfl,h1,h2,a6,cc⟩
theorem yl (D:gj c) {fs:List Fact} {h:ae} {p:dV} {i d e a:Nat} {S:Par.dc} (st:aq (p.bX i d e a::p.toks::fs) h) (hx:XAt p i e a S) (aQ:e=0→d≤40) (vc:d≤41):
 bT c 141 [.ptr p.aT 0, .U] h fun v h1=>∃(x:List bJ) (bU:Par.dc) (cy bF bf:Nat),my p S i (Par.expr d) x bU cy bF bf∧aq (.aE (fun h=>Rows 7 h v (x.map bJ.row))::p.bX cy d bF bf::p.toks::fs) h1:=by
 have jR:aq (p.bX i d e a::p.toks:: .acc 0 7 .U (([]:List bJ).map bJ.row)::fs) h:=((st.kE 7).pick 2 rfl).pick 2 rfl
 obtain ⟨v,h1,hr,ns,bU,cy,bF,bf,y6,q,hn,hg,s1⟩:=R9 D (adH D S.len) jR hx (fun h0=>⟨hx.fuel h0,aQ h0⟩) vc (Nat.zero_le _)
 refine ⟨v,h1,hr,ns,bU,cy,bF,bf,⟨q.at_, ?_,q.ct⟩,(s1.pick 2 rfl).shut (by decide)⟩
 exact Par.aB.eqv (Par.abG d) ((Par.aB.len (F:=fun n l=>Par.whole (Par.unary n) d l []) q.res).a8 (g:=fun x aI=> .ok (x.2,aI)) (Par.aB.pure bU ns))
def Sb (c:Ctx) (N:Nat) (fP:Nat→List Tok→Par.R cx):Prop:=∀{fs:List Fact} {h:ae} {p:dV} {i d:Nat} {l:List Tok},aq (p.bX i d 0 0::p.toks::fs) h→Left p i l→p.aP.length≤i+N→d≤40→
 bT c 111 [.ptr p.aT 0] h fun v h1=>∃(x:cx) (bU:Par.dc) (cy bF bf:Nat) (row:List V),v= .agg row∧row.length=12∧my p (.ok l) i (fP d) x bU cy bF bf∧aq (.aE (fun h=>mw h x row)::p.bX cy d bF bf::p.toks::fs) h1
def Sc (c:Ctx) (N:Nat) (b7:Par.nJ):Prop:=∀{fs:List Fact} {h:ae} {p:dV} {i d e a:Nat} {S:Par.dc},aq (p.bX i d e a::p.toks::fs) h→XAt p i e a S→(e=0→p.aP.length≤i+N)→d≤40→
 bT c 84 [.ptr p.aT 0] h fun v h1=>∃(x:List cx) (bU:Par.dc) (cy bF bf:Nat),my p S i (b7 d) x bU cy bF bf∧aq (.aE (fun h=>gR h v x)::p.bX cy d bF bf::p.toks::fs) h1
theorem Sd (D:gj c) {N:Nat} {fP:Nat→List Tok→Par.R cx} (adI:Sb c N fP) {fs:List Fact} {h:ae} {p:dV} {i d e a:Nat} {S:Par.dc} (st:aq (p.bX i d e a::p.toks::fs) h) (hx:XAt p i e a S) (eV:e=0→p.aP.length≤i+N) (aQ:d≤40):
 bT c 84 [.ptr p.aT 0] h fun v h1=>∃(x:List cx) (bU:Par.dc) (cy bF bf:Nat),my p S i (Par.rO fP d) x bU cy bF bf∧aq (.aE (fun h=>gR h v x)::p.bX cy d bF bf::p.toks::fs) h1:=by
 have ni:=hx.small
 have hlt:=hx.lt
 refine bT.dN D.f84 rfl (WP.ak (I.aC .U (I.ak (I.aC .U (I.ak (I.bx rfl (GU (s:=[123]) D st hx (by omega)) ?_))))))
 rintro _ h ⟨S1,i1,aS,a1,rfl,q1,RO,st⟩
 have mB:=q1.ct
 have qW:=q1.at_.lt
 refine I.nil (WP.seq (WP.block ?_))
 replace st:aq (.acc 0 12 .U ([]):: .aE (fun h=>kK h ([]) ([]))::(p.bX i1 (d+1) aS a1)::p.toks::fs) h:=((st.kE 12) |> fun st=>((aq.pure st (Q:=True) trivial).e4 (Q:=fun h=>kK h [] []) (fun _ _=>kK.nil)).pick 1 rfl)
 refine WP.dS (α:=Nat) (fun k env h=>∃fu bP cb e7 AH AJ iE cN fq,((∀y bU,Par.aB fu (fun l=>Par.nc fP (d+1) k l AH) y bU→Par.aB S (Par.rO fP d) y bU)∧XAt p bP cb e7 fu∧(cb=0→p.aP.length≤bP+k)∧AJ.length≤bP+min cb 1∧i+1≤bP+min cb 1∧(cb=0→e=0∧d+1≤40))∧env=c6 [.ptr p.aT 0, .U,fq,cN] 0 Env.nil∧aq (.acc iE 12 cN AJ:: .aE (fun h=>kK h AH AJ)::(p.bX bP (d+1) cb e7)::p.toks::fs) h) (fun k=>k) (Par.dc.len S1) ?_ ?_
 ·exact ⟨S1,i1,aS,a1,[],[],0, .U, .bot,⟨fun _ _ r=>Par.abY q1.res (Par.aB.len (F:=fun n l=>Par.nc fP (d+1) n l []) r),q1.at_,q1.at_.fuel,Nat.zero_le _,mB,fun h0=>⟨q1.fJ hx h0,RO h0⟩⟩,by kernel_rfl,st⟩
 rintro k _ h ⟨fu,bP,cb,e7,AH,AJ,iE,cN,fq,⟨ay,hz,hk,ahH,r9,kP⟩,rfl,st⟩
 have wq:=hz.lt
 have wu:=hz.small
 refine WP.seq (WP.ak (I.v (.ptr p.aT 0) (I.f (.ptr p.aT 3) (I.b (.n cb) (st.aN 2 rfl) (I.ej (L.eql rfl rfl) (fun ce=> ?_) (fun ce=> ?_))))))
 ·replace ce:cb=0:=by omega
  obtain ⟨bu,nU,nm,fL⟩:=hz.fJ ce
  subst nU nm ce
  obtain ⟨k,rfl⟩:∃m,k=m+1:=⟨k - 1,by omega⟩
  refine I.yes rfl (I.v (.ptr p.aT 0) (I.yes rfl (I.bx rfl (r4 (s:=[125]) D ((st.pick 3 rfl).pick 3 rfl) (XAt.ok fL)) ?_)))
  rintro _ h ⟨rfl,st⟩
  cases hb:Par.gf [125] (.ok bu)
  ·replace hb:Par.is [125] bu=false:=hb
   refine I.yes rfl (I.v (.bool true) (I.aC (.bool true) (I.bI (WP.skip (WP.block (WP.ad (I.bx rfl (adI st fL (by have:=eV (kP rfl).1;omega) (kP rfl).2) ?_)))))))
   rintro _ h ⟨bW,dW,i3,df,a3,LC,rfl,zn,dG,st⟩
   have r6:=dG.ct
   have tp:=dG.at_.lt
   refine I.fS (rows:=[LC]) st (KW rfl zn) (by decide) rfl (by simpa using zn) (fun iT h st=> ?_)
   refine I.kF st 4 rfl rfl rfl (st.bt 0 rfl) (by decide) (by simp;omega) (fun f4 v4 h st=> ?_)
   obtain ⟨yh,rfl⟩:=(st.gh 4 rfl).ne (by simp)
   replace st:=((((st.pick 5 rfl).pick 2 rfl)).and).e4 (fun h hx=>hx.2.snoc hx.1)
   refine I.nil ?_
   exact ⟨k,(Nat.lt_succ_self _),dW,i3,df,a3,(AH++[bW]),(AJ++[LC]),f4,(.au yh 0 (AJ++[LC]).length none),(.bool true),⟨fun y bU r=>ay y bU (Par.abZ hb dG.res r),dG.at_,(by omega),(by simp;omega),(by omega),(fun _=>kP rfl)⟩,by kernel_rfl,((st.pick 1 rfl).tail.pick 3 rfl)⟩
  ·replace hb:Par.is [125] bu=true:=hb
   refine I.yes rfl (I.v (.bool false) (I.aC (.bool false) (I.bw (WP.exit (WP.ak (I.bx rfl (ft (s:=[125]) D st (XAt.ok fL)) ?_))))))
   rintro _ h ⟨eO,gI,i5,gx,a5,rfl,hY,st⟩
   have GP:=hY.ct
   have Aw:=hY.at_.lt
   refine I.nil (WP.seq (WP.ad (I.val (v:= .ptr p.aT 0) rfl (I.val (v:= .ptr p.aT 2) (L.bK rfl) (I.val (v:= .int .i64 (((d+1):Nat):Int)) (L.fM rfl (st.aN 0 rfl) rfl) (I.val (v:= .n d) (L.jA rfl rfl (by omega) (And.intro (by omega) (by omega))) (I.val (v:= .ptr p.aT 0) rfl (I.val (v:= .ptr p.aT 2) (L.bK rfl) (I.bM (row':=[.au p.cr p.to p.aP.length p.cap, .n i5, .n d, .n gx, .n a5]) st 0 rfl rfl rfl rfl rfl rfl rfl (fun h st=> ?_))))))))))
   refine I.ak (I.aC cN (I.nil (WP.ret ?_)))
   have st2:=((((st.pick 3 rfl).pick 3 rfl)).shut (by decide)).and
   exact ⟨_,(b0 cN),AH,_,_,_,_,⟨hY.at_,ay _ _ (Par.ab0 hb hY.res),by omega⟩,st2.e4 fun h hx=>⟨_,hx.1,hx.2⟩⟩
 ·replace ce:cb≠0:=by omega
  have je:=hz.bad ce
  refine I.no rfl (I.no rfl (I.no rfl (I.aC (.bool false) (I.bw (WP.exit (WP.ak (I.bx rfl (ft (s:=[125]) D ((st.pick 3 rfl).pick 3 rfl) hz) ?_)))))))
  rintro _ h ⟨c4,ki,i6,jY,ts,rfl,gG,st⟩
  have GY:=gG.ct
  have yi:=gG.at_.lt
  refine I.nil (WP.seq (WP.ad (I.val (v:= .ptr p.aT 0) rfl (I.val (v:= .ptr p.aT 2) (L.bK rfl) (I.val (v:= .int .i64 (((d+1):Nat):Int)) (L.fM rfl (st.aN 0 rfl) rfl) (I.val (v:= .n d) (L.jA rfl rfl (by omega) (And.intro (by omega) (by omega))) (I.val (v:= .ptr p.aT 0) rfl (I.val (v:= .ptr p.aT 2) (L.bK rfl) (I.bM (row':=[.au p.cr p.to p.aP.length p.cap, .n i6, .n d, .n jY, .n ts]) st 0 rfl rfl rfl rfl rfl rfl rfl (fun h st=> ?_))))))))))
  refine I.ak (I.aC cN (I.nil (WP.ret ?_)))
  have st2:=((((st.pick 3 rfl).pick 3 rfl)).shut (by decide)).and
  exact ⟨_,(b0 cN),AH,_,_,_,_,⟨gG.at_,ay _ _ (Par.aB.any je gG.res),by omega⟩,st2.e4 fun h hx=>⟨_,hx.1,hx.2⟩⟩
theorem adJ (D:gj c) {fs:List Fact} {h:ae} {p:dV} {i d e a at_:Nat} {S:Par.dc} (st:aq (p.bX i d e a::p.toks::fs) h) (hx:XAt p i e a S) (aQ:d≤40):
 bT c 142 [.ptr p.aT 0, .agg [.int .i64 0, .n at_,L.str [],L.str [],L.str [], .bool false,L.str [],L.str [], .U, .U, .U, .U]] h fun v h1=>∃(x:Par.rN) (bU:Par.dc) (cy bF bf:Nat) (cR:V),v= .agg [.int .i64 4, .n at_,L.str x.mod,L.str x.name,L.str [], .bool x.has,L.str x.tomod,L.str x.to, .U,cR, .U, .U]∧cR.dA=some [cR]∧my p S i (Par.call d) x bU cy bF bf∧aq (.aE (fun h=>na h cR x.args)::p.bX cy d bF bf::p.toks::fs) h1:=by
 have ni:=hx.small
 have hlt:=hx.lt
 refine bT.dN D.f142 rfl (WP.ak (I.dI st (L.box (l:=[.int .i64 0, .n at_,L.str [],L.str [],L.str [], .bool false,L.str [],L.str [], .U, .U, .U, .U]) rfl rfl) (fun hR h st=> ?_)))
 refine I.dI st L.alloc (fun qZ h st=> ?_)
 refine I.ak (I.f (.ptr hR 0) (I.bM (row':=[.int .i64 4, .n at_,L.str [],L.str [],L.str [], .bool false,L.str [],L.str [], .U, .U, .U, .U]) st 1 rfl rfl rfl rfl rfl rfl rfl (fun h st=> ?_)))
 refine I.ak (I.bx rfl (GS D ((st.pick 3 rfl).pick 3 rfl) hx) ?_)
 rintro _ h ⟨x1,S1,i1,aS,a1,rfl,q1,st⟩
 have mB:=q1.ct
 have qW:=q1.at_.lt
 refine I.v (L.str x1.1) (I.v (L.str x1.2) (I.aC (L.str x1.1) (I.aC (L.str x1.2) (I.nil (WP.seq (WP.ak (I.dK rfl (il (s:=[61]) D st q1.at_) ?_)))))))
 rintro _ h (⟨rfl,⟨bu,nU,rv,nm,ag,fL⟩,ca⟩|⟨rfl,ag,ca⟩)
 ·subst nU rv nm
  replace st:aq ((p.bX (i1+1) d 0 0)::p.toks:: .box qZ [.int .i64 0, .int .i64 0, .str 0 0, .str 0 0, .str 0 0, .bool false, .str 0 0, .str 0 0, .U, .U, .U, .U]:: .box hR [.int .i64 4, .n at_,L.str [],L.str [],L.str [], .bool false,L.str [],L.str [], .U, .U, .U, .U]::fs) h:=ca
  have wv:=fL.lt
  refine I.bI (WP.ak (I.f (.ptr hR 5) (I.bM (row':=[.int .i64 4, .n at_,L.str [],L.str [],L.str [], .bool true,L.str [],L.str [], .U, .U, .U, .U]) st 3 rfl rfl rfl rfl rfl rfl rfl (fun h st=> ?_))))
  refine I.ak (I.f (.ptr hR 2) (I.bM (row':=[.int .i64 4, .n at_,L.str x1.1,L.str [],L.str [], .bool true,L.str [],L.str [], .U, .U, .U, .U]) st 3 rfl rfl rfl rfl rfl rfl rfl (fun h st=> ?_)))
  refine I.ak (I.f (.ptr hR 3) (I.bM (row':=[.int .i64 4, .n at_,L.str x1.1,L.str x1.2,L.str [], .bool true,L.str [],L.str [], .U, .U, .U, .U]) st 3 rfl rfl rfl rfl rfl rfl rfl (fun h st=> ?_)))
  refine I.ak (I.bx rfl (GS D st (XAt.ok fL)) ?_)
  rintro _ h ⟨bW,dW,i3,df,a3,rfl,dG,st⟩
  have r6:=dG.ct
  have tp:=dG.at_.lt
  refine I.v (L.str bW.1) (I.v (L.str bW.2) (I.aC (L.str bW.1) (I.aC (L.str bW.2) (I.ak (I.aC (L.str bW.1) (I.nil (WP.ad (I.aC (L.str bW.2) (I.ak (I.f (.ptr hR 6) (I.bM (row':=[.int .i64 4, .n at_,L.str x1.1,L.str x1.2,L.str [], .bool true,L.str bW.1,L.str [], .U, .U, .U, .U]) st 3 rfl rfl rfl rfl rfl rfl rfl (fun h st=> ?_))))))))))))
  refine I.ak (I.f (.ptr hR 7) (I.bM (row':=[.int .i64 4, .n at_,L.str x1.1,L.str x1.2,L.str [], .bool true,L.str bW.1,L.str bW.2, .U, .U, .U, .U]) st 3 rfl rfl rfl rfl rfl rfl rfl (fun h st=> ?_)))
  refine I.ak (I.bx rfl (ft (s:=[40]) D st dG.at_) ?_)
  rintro _ h ⟨eM,gv,i4,fZ,a4,rfl,ek,st⟩
  have AE:=ek.ct
  have yj:=ek.at_.lt
  refine I.nil (WP.seq (WP.ak (I.bx rfl (r4 (s:=[41]) D st ek.at_) ?_)))
  rintro _ h ⟨rfl,st⟩
  cases e2:Par.gf [41] gv
  ·refine I.aC (.bool true) (I.bI (WP.block ?_))
   replace st:aq (.acc 0 1 .U (([]:List V).map fun x=>[x]):: .aE (fun h=>nO h ([]) ([]))::(p.bX i4 d fZ a4)::p.toks:: .box qZ [.int .i64 0, .int .i64 0, .str 0 0, .str 0 0, .str 0 0, .bool false, .str 0 0, .str 0 0, .U, .U, .U, .U]:: .box hR [.int .i64 4, .n at_,L.str x1.1,L.str x1.2,L.str [], .bool true,L.str bW.1,L.str bW.2, .U, .U, .U, .U]::fs) h:=((st.kE 1).pick 0 rfl |> fun st=>((aq.pure st (Q:=True) trivial).e4 (Q:=fun h=>nO h [] []) (fun _ _=>trivial)).pick 1 rfl)
   refine WP.dS (α:=Nat) (fun g env h=>∃fu bP cb e7 as2 e3 f2 lj gJ lS,((∀y bU,Par.aB fu (Par.rS (Par.mz d) [41] g as2.length as2) y bU→Par.aB gv (fun l=>Par.ja (Par.mz d) [41] l []) y bU)∧XAt p bP cb e7 fu∧(cb=0→p.aP.length≤bP+g+1)∧e3.length≤bP+min cb 1∧as2.length=e3.length∧i4+min fZ 1≤bP+min cb 1)∧env=c6 [.ptr p.aT 0, .agg [.int .i64 0, .n at_,L.str [],L.str [],L.str [], .bool false,L.str [],L.str [], .U, .U, .U, .U], .ptr qZ 0, .ptr hR 0, .bool true,L.str bW.1,L.str bW.2,L.str bW.1,L.str bW.2, .bool true,gJ,lS] 0 Env.nil∧aq (.box hR [.int .i64 4, .n at_,L.str x1.1,L.str x1.2,L.str [], .bool true,L.str bW.1,L.str bW.2, .U,lj, .U, .U]:: .acc f2 1 lj (e3.map fun x=>[x]):: .aE (fun h=>nO h as2 e3):: .box qZ [.int .i64 0, .int .i64 0, .str 0 0, .str 0 0, .str 0 0, .bool false, .str 0 0, .str 0 0, .U, .U, .U, .U]::(p.bX bP d cb e7)::p.toks::fs) h) (fun g=>g) (Par.dc.len gv - 1) ?_ ?_
   ·exact ⟨gv,i4,fZ,a4,[],[],0, .U, .bot, .bot,⟨fun _ _ r=>Par.Gq e2 (fun l e=>by have:=ek.at_;rw [e] at this;exact List.length_pos_iff.2 this.hC.2.2.ne) r,ek.at_,(fun h0=>by have:=ek.at_.fuel h0;omega),Nat.zero_le _,rfl,Nat.le_refl _⟩,by kernel_rfl,((((st.pick 4 rfl).pick 2 rfl).pick 2 rfl).pick 5 rfl)⟩
   rintro g _ h ⟨fu,bP,cb,e7,as2,e3,f2,lj,gJ,lS,⟨ay,hz,hk,adK,zm,r9⟩,rfl,st⟩
   have wq:=hz.lt
   have wu:=hz.small
   refine WP.seq (WP.ak (I.v (.ptr p.aT 0) (I.f (.ptr p.aT 3) (I.b (.n cb) (st.aN 4 rfl) (I.bV (L.eql rfl rfl) (fun ce=> ?_) (fun ce=> ?_))))))
   ·replace ce:cb=0:=by omega
    obtain ⟨iA,Dr,LD,pW⟩:=hz.fJ ce
    subst Dr LD ce
    refine I.bI (WP.skip (WP.block (WP.seq (WP.draw (af.f (.ptr hR 9) (af.b lj (st.aN 0 rfl) (af.v (.ptr p.aT 0) (af.bx rfl (yl D ((st.pick 5 rfl).pick 5 rfl) (XAt.ok pW) (fun _=>by omega) (by omega)) (fun adL h hp=> ?_) ?_))))))))
    ·obtain ⟨c4,ki,i6,jY,ts,gG,st⟩:=hp
     exact hN (jz (L.fM rfl (st.aN 3 rfl) rfl)) (j6 _ _)
    rintro v6 h ⟨c4,ki,i6,jY,ts,gG,st⟩
    have GY:=gG.ct
    have yi:=gG.at_.lt
    have zl:=(st.bt 0 rfl).cells
    have Ds:∀{as2:List (List bJ)} {l b9 bR},Par.aB (.ok l) (Par.expr d) bR b9→Par.aB (.ok l) (Par.mz d as2) (as2++[bR]) b9:=fun q=>q.a8 (Par.aB.pure _ _)
    refine af.fS (rows:=[[v6]]) st (KV zl) (by decide) rfl (by simp) (fun iT h _ st=> ?_)
    refine af.qv st 5 rfl rfl rfl (st.bt 0 rfl) (by decide) (by simp;omega) (fun _ _ h st=>rfl) (fun f7 GO h st=> ?_)
    rw [show (e3.map fun x=>[x])++[[v6]]=(e3++[v6]).map fun x=>[x] from by simp] at st
    obtain ⟨lh,rfl⟩:=(st.gh 5 rfl).ne (by simp)
    refine af.f (.ptr hR 9) (af.bM (row':=[.int .i64 4, .n at_,L.str x1.1,L.str x1.2,L.str [], .bool true,L.str bW.1,L.str bW.2, .U, .au lh 0 (((e3++[v6]).map fun x=>[x]).length) none, .U, .U]) st 4 rfl rfl rfl rfl rfl rfl rfl (fun h st=>rfl) (fun h st=> ?_))
    replace st:=((((st.pick 6 rfl).pick 2 rfl)).and).e4 (fun h hx=>hx.2.snoc hx.1)
    refine af.ak (I.bx rfl (il (s:=[44]) D ((st.pick 3 rfl).pick 3 rfl) gG.at_) ?_)
    rintro _ h (⟨rfl,⟨nW,ym,LF,yn,dk,lk⟩,ca⟩|⟨rfl,dk,ca⟩)
    ·subst ym LF yn
     replace st:aq ((p.bX (i6+1) d 0 0)::p.toks:: .aE (fun h=>nO h (as2++[c4]) (e3++[v6])):: .aE (fun h=>Rows 1 h (.au iT 0 1 (some 1)) [[v6]]):: .box hR [.int .i64 4, .n at_,L.str x1.1,L.str x1.2,L.str [], .bool true,L.str bW.1,L.str bW.2, .U, .au lh 0 (((e3++[v6]).map fun x=>[x]).length) none, .U, .U]:: .acc f7 1 (.au lh 0 ((e3++[v6]).map fun x=>[x]).length none) ((e3++[v6]).map fun x=>[x]):: .box qZ [.int .i64 0, .int .i64 0, .str 0 0, .str 0 0, .str 0 0, .bool false, .str 0 0, .str 0 0, .U, .U, .U, .U]::fs) h:=ca
     have Lz:=lk.lt
     obtain ⟨g,rfl⟩:∃m,g=m+1:=⟨g - 1,by omega⟩
     refine I.aC (.bool false) (I.bw (WP.skip ?_))
     exact ⟨g,(Nat.lt_succ_self _),(.ok nW.tail),i6+1,0,0,(as2++[c4]),(e3++[v6]),f7,(.au lh 0 ((e3++[v6]).map fun x=>[x]).length none),(.bool true),(.bool false),⟨fun y bU r=>ay y bU (Par.Gr (by decide) (Ds (as2:=as2) gG.res) dk (by rw [List.length_append] at r;exact r)), .ok lk,(by omega),(by simp;omega),(by simp [zm]),(by omega)⟩,by kernel_rfl,(((((st.pick 3 rfl).tail.pick 5 rfl).pick 3 rfl).pick 5 rfl).pick 5 rfl)⟩
    ·replace st:aq ((p.bX i6 d jY ts)::p.toks:: .aE (fun h=>nO h (as2++[c4]) (e3++[v6])):: .aE (fun h=>Rows 1 h (.au iT 0 1 (some 1)) [[v6]]):: .box hR [.int .i64 4, .n at_,L.str x1.1,L.str x1.2,L.str [], .bool true,L.str bW.1,L.str bW.2, .U, .au lh 0 (((e3++[v6]).map fun x=>[x]).length) none, .U, .U]:: .acc f7 1 (.au lh 0 ((e3++[v6]).map fun x=>[x]).length none) ((e3++[v6]).map fun x=>[x]):: .box qZ [.int .i64 0, .int .i64 0, .str 0 0, .str 0 0, .str 0 0, .bool false, .str 0 0, .str 0 0, .U, .U, .U, .U]::fs) h:=ca
     refine I.aC (.bool true) (I.bI (WP.exit (WP.ak (I.bx rfl (ft (s:=[41]) D st gG.at_) ?_))))
     rintro _ h ⟨ih,Df,i9,pt,a9,rfl,kn,st⟩
     have GR:=kn.ct
     have Dg:=kn.at_.lt
     refine I.ak (I.val (v:= .agg [.int .i64 4, .n at_,L.str x1.1,L.str x1.2,L.str [], .bool true,L.str bW.1,L.str bW.2, .U, .au lh 0 (((e3++[v6]).map fun x=>[x]).length) none, .U, .U]) (L.ey rfl (st.aN 4 rfl) rfl rfl rfl) (I.bM (row':=[.int .i64 4, .n at_,L.str x1.1,L.str x1.2,L.str [], .bool true,L.str bW.1,L.str bW.2, .U, .au lh 0 (((e3++[v6]).map fun x=>[x]).length) none, .U, .U]) st 6 rfl rfl rfl rfl rfl rfl rfl (fun h st=> ?_)))
     refine I.nil (WP.ret ?_)
     have yo:=(st.gh 5 rfl).cells
     have st2:=(((((((st.pick 3 rfl).tail.pick 3 rfl).tail.pick 4 rfl).tail.pick 2 rfl).pick 3 rfl)).shut (by decide)).and
     exact ⟨_,(cH (eY (l:=[.int .i64 4, .n at_,L.str x1.1,L.str x1.2,L.str [], .bool true,L.str bW.1,L.str bW.2, .U, .au lh 0 (((e3++[v6]).map fun x=>[x]).length) none, .U, .U]) rfl (L.eN (st.aN 6 rfl) rfl rfl rfl)) (eX _ _)),⟨true,x1.1,x1.2,bW.1,bW.2,(as2++[c4])⟩,_,_,_,_,_,rfl,yo,⟨kn.at_,(Par.K9 q1.res ag dG.res ek.res (ay _ _ (Par.Gs (Ds gG.res) dk kn.res (fun l e=>by have:=gG.at_;rw [e] at this;have a6:=this.hC.1;have cc:=this.hC.2.2.lt;omega)))),by omega⟩,st2.e4 fun h hx=>⟨_,hx.1,hx.2⟩⟩
   ·replace ce:cb≠0:=by omega
    have je:=hz.bad ce
    refine I.bw (WP.exit (WP.ak (I.bx rfl (ft (s:=[41]) D ((st.pick 5 rfl).pick 5 rfl) hz) ?_)))
    rintro _ h ⟨gw,wz,i10,wA,wB,rfl,hG,st⟩
    have Dn:=hG.ct
    have AF:=hG.at_.lt
    refine I.ak (I.val (v:= .agg [.int .i64 4, .n at_,L.str x1.1,L.str x1.2,L.str [], .bool true,L.str bW.1,L.str bW.2, .U,lj, .U, .U]) (L.ey rfl (st.aN 2 rfl) rfl rfl rfl) (I.bM (row':=[.int .i64 4, .n at_,L.str x1.1,L.str x1.2,L.str [], .bool true,L.str bW.1,L.str bW.2, .U,lj, .U, .U]) st 5 rfl rfl rfl rfl rfl rfl rfl (fun h st=> ?_)))
    refine I.nil (WP.ret ?_)
    have yo:=(st.gh 3 rfl).cells
    have st2:=((((((st.pick 2 rfl).tail.pick 4 rfl).tail.pick 3 rfl).pick 3 rfl)).shut (by decide)).and
    exact ⟨_,(cH (eY (l:=[.int .i64 4, .n at_,L.str x1.1,L.str x1.2,L.str [], .bool true,L.str bW.1,L.str bW.2, .U,lj, .U, .U]) rfl (L.eN (st.aN 5 rfl) rfl rfl rfl)) (eX _ _)),⟨true,x1.1,x1.2,bW.1,bW.2,as2⟩,_,_,_,_,_,rfl,yo,⟨hG.at_,(Par.K9 q1.res ag dG.res ek.res (ay _ _ (Par.aB.any je hG.res))),by omega⟩,st2.e4 fun h hx=>⟨_,hx.1,hx.2⟩⟩
  ·refine I.aC (.bool false) (I.bw (WP.skip (WP.ak (I.bx rfl (ft (s:=[41]) D st ek.at_) ?_))))
   rintro _ h ⟨k9,GZ,i11,Dp,Dq,rfl,kQ,st⟩
   have LA:=kQ.ct
   have LB:=kQ.at_.lt
   refine I.ak (I.val (v:= .agg [.int .i64 4, .n at_,L.str x1.1,L.str x1.2,L.str [], .bool true,L.str bW.1,L.str bW.2, .U, .U, .U, .U]) (L.ey rfl (st.aN 3 rfl) rfl rfl rfl) (I.bM (row':=[.int .i64 4, .n at_,L.str x1.1,L.str x1.2,L.str [], .bool true,L.str bW.1,L.str bW.2, .U, .U, .U, .U]) st 2 rfl rfl rfl rfl rfl rfl rfl (fun h st=> ?_)))
   refine I.nil (WP.ret ?_)
   exact ⟨_,(cH (eY (l:=[.int .i64 4, .n at_,L.str x1.1,L.str x1.2,L.str [], .bool true,L.str bW.1,L.str bW.2, .U, .U, .U, .U]) rfl (L.eN (st.aN 2 rfl) rfl rfl rfl)) (eX _ _)),⟨true,x1.1,x1.2,bW.1,bW.2,[]⟩,_,_,_,_, .U,rfl,rfl,⟨kQ.at_,(Par.K9 q1.res ag dG.res ek.res (Par.Gp e2 kQ.res)),by omega⟩,(((st.pick 2 rfl).tail.pick 2 rfl).tail).wh fun h=>na.im h⟩
 ·replace st:aq ((p.bX i1 d aS a1)::p.toks:: .box qZ [.int .i64 0, .int .i64 0, .str 0 0, .str 0 0, .str 0 0, .bool false, .str 0 0, .str 0 0, .U, .U, .U, .U]:: .box hR [.int .i64 4, .n at_,L.str [],L.str [],L.str [], .bool false,L.str [],L.str [], .U, .U, .U, .U]::fs) h:=ca
  refine I.bw (WP.skip (WP.ak (I.f (.ptr hR 6) (I.bM (row':=[.int .i64 4, .n at_,L.str [],L.str [],L.str [], .bool false,L.str x1.1,L.str [], .U, .U, .U, .U]) st 3 rfl rfl rfl rfl rfl rfl rfl (fun h st=> ?_)))))
  refine I.ak (I.f (.ptr hR 7) (I.bM (row':=[.int .i64 4, .n at_,L.str [],L.str [],L.str [], .bool false,L.str x1.1,L.str x1.2, .U, .U, .U, .U]) st 3 rfl rfl rfl rfl rfl rfl rfl (fun h st=> ?_)))
  refine I.ak (I.bx rfl (ft (s:=[40]) D st q1.at_) ?_)
  rintro _ h ⟨pM,Dt,i12,G0,a12,rfl,nX,st⟩
  have Se:=nX.ct
  have LG:=nX.at_.lt
  refine I.nil (WP.seq (WP.ak (I.bx rfl (r4 (s:=[41]) D st nX.at_) ?_)))
  rintro _ h ⟨rfl,st⟩
  cases e2:Par.gf [41] Dt
  ·refine I.aC (.bool true) (I.bI (WP.block ?_))
   replace st:aq (.acc 0 1 .U (([]:List V).map fun x=>[x]):: .aE (fun h=>nO h ([]) ([]))::(p.bX i12 d G0 a12)::p.toks:: .box qZ [.int .i64 0, .int .i64 0, .str 0 0, .str 0 0, .str 0 0, .bool false, .str 0 0, .str 0 0, .U, .U, .U, .U]:: .box hR [.int .i64 4, .n at_,L.str [],L.str [],L.str [], .bool false,L.str x1.1,L.str x1.2, .U, .U, .U, .U]::fs) h:=((st.kE 1).pick 0 rfl |> fun st=>((aq.pure st (Q:=True) trivial).e4 (Q:=fun h=>nO h [] []) (fun _ _=>trivial)).pick 1 rfl)
   refine WP.dS (α:=Nat) (fun g env h=>∃fu bP cb e7 as2 e3 f2 lj gJ lS,((∀y bU,Par.aB fu (Par.rS (Par.mz d) [41] g as2.length as2) y bU→Par.aB Dt (fun l=>Par.ja (Par.mz d) [41] l []) y bU)∧XAt p bP cb e7 fu∧(cb=0→p.aP.length≤bP+g+1)∧e3.length≤bP+min cb 1∧as2.length=e3.length∧i12+min G0 1≤bP+min cb 1)∧env=c6 [.ptr p.aT 0, .agg [.int .i64 0, .n at_,L.str [],L.str [],L.str [], .bool false,L.str [],L.str [], .U, .U, .U, .U], .ptr qZ 0, .ptr hR 0, .bool false,L.str x1.1,L.str x1.2, .bot, .bot, .bool true,gJ,lS] 0 Env.nil∧aq (.box hR [.int .i64 4, .n at_,L.str [],L.str [],L.str [], .bool false,L.str x1.1,L.str x1.2, .U,lj, .U, .U]:: .acc f2 1 lj (e3.map fun x=>[x]):: .aE (fun h=>nO h as2 e3):: .box qZ [.int .i64 0, .int .i64 0, .str 0 0, .str 0 0, .str 0 0, .bool false, .str 0 0, .str 0 0, .U, .U, .U, .U]::(p.bX bP d cb e7)::p.toks::fs) h) (fun g=>g) (Par.dc.len Dt - 1) ?_ ?_
   ·exact ⟨Dt,i12,G0,a12,[],[],0, .U, .bot, .bot,⟨fun _ _ r=>Par.Gq e2 (fun l e=>by have:=nX.at_;rw [e] at this;exact List.length_pos_iff.2 this.hC.2.2.ne) r,nX.at_,(fun h0=>by have:=nX.at_.fuel h0;omega),Nat.zero_le _,rfl,Nat.le_refl _⟩,by kernel_rfl,((((st.pick 4 rfl).pick 2 rfl).pick 2 rfl).pick 5 rfl)⟩
   rintro g _ h ⟨fu,bP,cb,e7,as2,e3,f2,lj,gJ,lS,⟨ay,hz,hk,adK,zm,r9⟩,rfl,st⟩
   have wq:=hz.lt
   have wu:=hz.small
   refine WP.seq (WP.ak (I.v (.ptr p.aT 0) (I.f (.ptr p.aT 3) (I.b (.n cb) (st.aN 4 rfl) (I.bV (L.eql rfl rfl) (fun ce=> ?_) (fun ce=> ?_))))))
   ·replace ce:cb=0:=by omega
    obtain ⟨ahI,adM,adN,adO⟩:=hz.fJ ce
    subst adM adN ce
    refine I.bI (WP.skip (WP.block (WP.seq (WP.draw (af.f (.ptr hR 9) (af.b lj (st.aN 0 rfl) (af.v (.ptr p.aT 0) (af.bx rfl (yl D ((st.pick 5 rfl).pick 5 rfl) (XAt.ok adO) (fun _=>by omega) (by omega)) (fun adL h hp=> ?_) ?_))))))))
    ·obtain ⟨rW,LH,i14,G1,G2,lV,st⟩:=hp
     exact hN (jz (L.fM rfl (st.aN 3 rfl) rfl)) (j6 _ _)
    rintro jf h ⟨rW,LH,i14,G1,G2,lV,st⟩
    have LI:=lV.ct
    have Sf:=lV.at_.lt
    have LJ:=(st.bt 0 rfl).cells
    have Ds:∀{as2:List (List bJ)} {l b9 bR},Par.aB (.ok l) (Par.expr d) bR b9→Par.aB (.ok l) (Par.mz d as2) (as2++[bR]) b9:=fun q=>q.a8 (Par.aB.pure _ _)
    refine af.fS (rows:=[[jf]]) st (KV LJ) (by decide) rfl (by simp) (fun lR h _ st=> ?_)
    refine af.qv st 5 rfl rfl rfl (st.bt 0 rfl) (by decide) (by simp;omega) (fun _ _ h st=>rfl) (fun f15 ahJ h st=> ?_)
    rw [show (e3.map fun x=>[x])++[[jf]]=(e3++[jf]).map fun x=>[x] from by simp] at st
    obtain ⟨uP,rfl⟩:=(st.gh 5 rfl).ne (by simp)
    refine af.f (.ptr hR 9) (af.bM (row':=[.int .i64 4, .n at_,L.str [],L.str [],L.str [], .bool false,L.str x1.1,L.str x1.2, .U, .au uP 0 (((e3++[jf]).map fun x=>[x]).length) none, .U, .U]) st 4 rfl rfl rfl rfl rfl rfl rfl (fun h st=>rfl) (fun h st=> ?_))
    replace st:=((((st.pick 6 rfl).pick 2 rfl)).and).e4 (fun h hx=>hx.2.snoc hx.1)
    refine af.ak (I.bx rfl (il (s:=[44]) D ((st.pick 3 rfl).pick 3 rfl) lV.at_) ?_)
    rintro _ h (⟨rfl,⟨Sg,Du,adP,LK,dk,yp⟩,ca⟩|⟨rfl,dk,ca⟩)
    ·subst Du adP LK
     replace st:aq ((p.bX (i14+1) d 0 0)::p.toks:: .aE (fun h=>nO h (as2++[rW]) (e3++[jf])):: .aE (fun h=>Rows 1 h (.au lR 0 1 (some 1)) [[jf]]):: .box hR [.int .i64 4, .n at_,L.str [],L.str [],L.str [], .bool false,L.str x1.1,L.str x1.2, .U, .au uP 0 (((e3++[jf]).map fun x=>[x]).length) none, .U, .U]:: .acc f15 1 (.au uP 0 ((e3++[jf]).map fun x=>[x]).length none) ((e3++[jf]).map fun x=>[x]):: .box qZ [.int .i64 0, .int .i64 0, .str 0 0, .str 0 0, .str 0 0, .bool false, .str 0 0, .str 0 0, .U, .U, .U, .U]::fs) h:=ca
     have adQ:=yp.lt
     obtain ⟨g,rfl⟩:∃m,g=m+1:=⟨g - 1,by omega⟩
     refine I.aC (.bool false) (I.bw (WP.skip ?_))
     exact ⟨g,(Nat.lt_succ_self _),(.ok Sg.tail),i14+1,0,0,(as2++[rW]),(e3++[jf]),f15,(.au uP 0 ((e3++[jf]).map fun x=>[x]).length none),(.bool true),(.bool false),⟨fun y bU r=>ay y bU (Par.Gr (by decide) (Ds (as2:=as2) lV.res) dk (by rw [List.length_append] at r;exact r)), .ok yp,(by omega),(by simp;omega),(by simp [zm]),(by omega)⟩,by kernel_rfl,(((((st.pick 3 rfl).tail.pick 5 rfl).pick 3 rfl).pick 5 rfl).pick 5 rfl)⟩
    ·replace st:aq ((p.bX i14 d G1 G2)::p.toks:: .aE (fun h=>nO h (as2++[rW]) (e3++[jf])):: .aE (fun h=>Rows 1 h (.au lR 0 1 (some 1)) [[jf]]):: .box hR [.int .i64 4, .n at_,L.str [],L.str [],L.str [], .bool false,L.str x1.1,L.str x1.2, .U, .au uP 0 (((e3++[jf]).map fun x=>[x]).length) none, .U, .U]:: .acc f15 1 (.au uP 0 ((e3++[jf]).map fun x=>[x]).length none) ((e3++[jf]).map fun x=>[x]):: .box qZ [.int .i64 0, .int .i64 0, .str 0 0, .str 0 0, .str 0 0, .bool false, .str 0 0, .str 0 0, .U, .U, .U, .U]::fs) h:=ca
     refine I.aC (.bool true) (I.bI (WP.exit (WP.ak (I.bx rfl (ft (s:=[41]) D st lV.at_) ?_))))
     rintro _ h ⟨dL,G3,i17,Dv,a17,rfl,lW,st⟩
     have Sh:=lW.ct
     have Si:=lW.at_.lt
     refine I.ak (I.val (v:= .agg [.int .i64 4, .n at_,L.str [],L.str [],L.str [], .bool false,L.str x1.1,L.str x1.2, .U, .au uP 0 (((e3++[jf]).map fun x=>[x]).length) none, .U, .U]) (L.ey rfl (st.aN 4 rfl) rfl rfl rfl) (I.bM (row':=[.int .i64 4, .n at_,L.str [],L.str [],L.str [], .bool false,L.str x1.1,L.str x1.2, .U, .au uP 0 (((e3++[jf]).map fun x=>[x]).length) none, .U, .U]) st 6 rfl rfl rfl rfl rfl rfl rfl (fun h st=> ?_)))
     refine I.nil (WP.ret ?_)
     have yo:=(st.gh 5 rfl).cells
     have st2:=(((((((st.pick 3 rfl).tail.pick 3 rfl).tail.pick 4 rfl).tail.pick 2 rfl).pick 3 rfl)).shut (by decide)).and
     exact ⟨_,(cH (eY (l:=[.int .i64 4, .n at_,L.str [],L.str [],L.str [], .bool false,L.str x1.1,L.str x1.2, .U, .au uP 0 (((e3++[jf]).map fun x=>[x]).length) none, .U, .U]) rfl (L.eN (st.aN 6 rfl) rfl rfl rfl)) (eX _ _)),⟨false,[],[],x1.1,x1.2,(as2++[rW])⟩,_,_,_,_,_,rfl,yo,⟨lW.at_,(Par.La q1.res ag nX.res (ay _ _ (Par.Gs (Ds lV.res) dk lW.res (fun l e=>by have:=lV.at_;rw [e] at this;have a6:=this.hC.1;have cc:=this.hC.2.2.lt;omega)))),by omega⟩,st2.e4 fun h hx=>⟨_,hx.1,hx.2⟩⟩
   ·replace ce:cb≠0:=by omega
    have je:=hz.bad ce
    refine I.bw (WP.exit (WP.ak (I.bx rfl (ft (s:=[41]) D ((st.pick 5 rfl).pick 5 rfl) hz) ?_)))
    rintro _ h ⟨pL,adR,i18,adS,adT,rfl,uQ,st⟩
    have adU:=uQ.ct
    have adV:=uQ.at_.lt
    refine I.ak (I.val (v:= .agg [.int .i64 4, .n at_,L.str [],L.str [],L.str [], .bool false,L.str x1.1,L.str x1.2, .U,lj, .U, .U]) (L.ey rfl (st.aN 2 rfl) rfl rfl rfl) (I.bM (row':=[.int .i64 4, .n at_,L.str [],L.str [],L.str [], .bool false,L.str x1.1,L.str x1.2, .U,lj, .U, .U]) st 5 rfl rfl rfl rfl rfl rfl rfl (fun h st=> ?_)))
    refine I.nil (WP.ret ?_)
    have yo:=(st.gh 3 rfl).cells
    have st2:=((((((st.pick 2 rfl).tail.pick 4 rfl).tail.pick 3 rfl).pick 3 rfl)).shut (by decide)).and
    exact ⟨_,(cH (eY (l:=[.int .i64 4, .n at_,L.str [],L.str [],L.str [], .bool false,L.str x1.1,L.str x1.2, .U,lj, .U, .U]) rfl (L.eN (st.aN 5 rfl) rfl rfl rfl)) (eX _ _)),⟨false,[],[],x1.1,x1.2,as2⟩,_,_,_,_,_,rfl,yo,⟨uQ.at_,(Par.La q1.res ag nX.res (ay _ _ (Par.aB.any je uQ.res))),by omega⟩,st2.e4 fun h hx=>⟨_,hx.1,hx.2⟩⟩
  ·refine I.aC (.bool false) (I.bw (WP.skip (WP.ak (I.bx rfl (ft (s:=[41]) D st nX.at_) ?_))))
   rintro _ h ⟨LL,ahK,i19,ahL,ahM,rfl,G4,st⟩
   have ahN:=G4.ct
   have Sj:=G4.at_.lt
   refine I.ak (I.val (v:= .agg [.int .i64 4, .n at_,L.str [],L.str [],L.str [], .bool false,L.str x1.1,L.str x1.2, .U, .U, .U, .U]) (L.ey rfl (st.aN 3 rfl) rfl rfl rfl) (I.bM (row':=[.int .i64 4, .n at_,L.str [],L.str [],L.str [], .bool false,L.str x1.1,L.str x1.2, .U, .U, .U, .U]) st 2 rfl rfl rfl rfl rfl rfl rfl (fun h st=> ?_)))
   refine I.nil (WP.ret ?_)
   exact ⟨_,(cH (eY (l:=[.int .i64 4, .n at_,L.str [],L.str [],L.str [], .bool false,L.str x1.1,L.str x1.2, .U, .U, .U, .U]) rfl (L.eN (st.aN 2 rfl) rfl rfl rfl)) (eX _ _)),⟨false,[],[],x1.1,x1.2,[]⟩,_,_,_,_, .U,rfl,rfl,⟨G4.at_,(Par.La q1.res ag nX.res (Par.Gp e2 G4.res)),by omega⟩,(((st.pick 2 rfl).tail.pick 2 rfl).tail).wh fun h=>na.im h⟩
end
end Go.Eng.YtmcjcbldmoijiaaGreatDoor
namespace Go.Eng.YtmcjcbldmoijiaaGreatDoor
open Go.Eng
noncomputable section
variable {c:Ctx}
theorem adW (D:gj c) {N:Nat} {b7:Par.nJ} (hblk:Sc c N b7) {fs:List Fact} {h:ae} {p:dV} {i d:Nat} {l:List Tok} (st:aq (p.bX i d 0 0::p.toks::fs) h) (ar:Left p i l) (eV:p.aP.length≤i+(N+1)) (aQ:d≤40):
 bT c 111 [.ptr p.aT 0] h fun v h1=>∃(x:cx) (bU:Par.dc) (cy bF bf:Nat) (row:List V),v= .agg row∧row.length=12∧my p (.ok l) i (Par.jr b7 d) x bU cy bF bf∧aq (.aE (fun h=>mw h x row)::p.bX cy d bF bf::p.toks::fs) h1:=by
 have ni:=ar.small
 have hlt:=ar.lt
 refine bT.dN D.f111 rfl (WP.ak (I.dI st L.alloc (fun res h st=> ?_)))
 refine I.ak (I.bx rfl (r3 D ((st.pick 2 rfl).pick 2 rfl) (XAt.ok ar)) ?_)
 rintro _ h ⟨rfl,st⟩
 refine I.val (v:= .agg [.int .i64 0, .int .i64 (aX p i:Int), .str 0 0, .str 0 0, .str 0 0, .bool false, .str 0 0, .str 0 0, .U, .U, .U, .U]) (L.build rfl) (I.dI st L.alloc (fun s h st=> ?_))
 refine I.bM (row':=[.int .i64 0, .int .i64 (aX p i:Int), .str 0 0, .str 0 0, .str 0 0, .bool false, .str 0 0, .str 0 0, .U, .U, .U, .U]) st 0 rfl rfl rfl rfl rfl rfl rfl (fun h st=> ?_)
 refine I.nil (WP.seq (WP.block (WP.seq (WP.draw (af.v (.ptr p.aT 0) (af.v (.ptr p.aT 0) (af.f (.ptr p.aT 3) (af.b (.int .i64 0) (st.aN 1 rfl) (af.ej (L.eql rfl rfl) (fun _ ce=> ?_) (fun _ ce=>by exfalso;omega))))))))))
 refine af.v (.bool true) (af.yes rfl (af.v (.ptr p.aT 0) (af.yes rfl (af.v (.ptr p.aT 0) (af.yes rfl (af.f (.ptr p.aT 0) (af.yes rfl (af.b (.au p.cr p.to p.aP.length p.cap) (st.aN 1 rfl) (af.yes rfl (af.v (.ptr p.aT 0) (af.yes rfl (af.v (.ptr p.aT 0) (af.yes rfl (af.f (.ptr p.aT 1) (af.yes rfl (af.b (.n i) (st.aN 1 rfl) (af.yes rfl (af.val (v:= .ptr p.cr (p.to+i * 3)) (L.bY rfl rfl (XAt.ok ar).lt) (af.yes rfl (af.f (.ptr p.cr (p.to+i * 3+0)) (af.yes rfl ?_)))))))))))))))))))))
 obtain ⟨t,ht,cF⟩:=(XAt.ok ar).row
 have km:=(XAt.ok ar).aQ ht
 refine af.val (v:= .int .i64 ((Par.aQ l).kind:Int)) (by rw [km];exact L.load rfl ((st.bt 2 rfl).xq cF (show _=some _ from rfl))) (af.yes rfl (af.ej (L.eql rfl rfl) (fun _ hF=> ?_) (fun _ hF=> ?_)))
 ·replace hF:(Par.aQ l).kind=1:=by omega
  refine af.v (.bool true) (af.aC (.bool true) (af.bI (WP.ak (I.bx rfl (GS D ((st.pick 2 rfl).pick 2 rfl) (XAt.ok ar)) ?_))))
  rintro _ h ⟨x1,S1,i1,aS,a1,rfl,q1,st⟩
  have mB:=q1.ct
  have qW:=q1.at_.lt
  refine I.v (L.str x1.1) (I.v (L.str x1.2) (I.aC (L.str x1.1) (I.aC (L.str x1.2) (I.ak (I.f (.ptr s 0) (I.bM (row':=[.int .i64 2, .int .i64 (aX p i:Int), .str 0 0, .str 0 0, .str 0 0, .bool false, .str 0 0, .str 0 0, .U, .U, .U, .U]) st 2 rfl rfl rfl rfl rfl rfl rfl (fun h st=> ?_)))))))
  refine I.ak (I.f (.ptr s 2) (I.bM (row':=[.int .i64 2, .int .i64 (aX p i:Int),L.str x1.1, .str 0 0, .str 0 0, .bool false, .str 0 0, .str 0 0, .U, .U, .U, .U]) st 2 rfl rfl rfl rfl rfl rfl rfl (fun h st=> ?_)))
  refine I.ak (I.f (.ptr s 3) (I.bM (row':=[.int .i64 2, .int .i64 (aX p i:Int),L.str x1.1,L.str x1.2, .str 0 0, .bool false, .str 0 0, .str 0 0, .U, .U, .U, .U]) st 2 rfl rfl rfl rfl rfl rfl rfl (fun h st=> ?_)))
  refine I.ak (I.bx rfl (ft (s:=[61]) D st q1.at_) ?_)
  rintro _ h ⟨bR,b9,i2,bl,a2,rfl,c0,st⟩
  have wx:=c0.ct
  have wv:=c0.at_.lt
  refine I.nil (WP.ad (I.bx rfl (yl D st c0.at_ (fun _=>by omega) (by omega)) ?_))
  rintro v3 h ⟨bW,dW,i3,df,a3,dG,st⟩
  have r6:=dG.ct
  have tp:=dG.at_.lt
  have sE:=(st.bt 0 rfl).cells
  refine I.f (.ptr s 8) (I.bM (row':=[.int .i64 2, .int .i64 (aX p i:Int),L.str x1.1,L.str x1.2, .str 0 0, .bool false, .str 0 0, .str 0 0,v3, .U, .U, .U]) st 3 rfl rfl sE rfl rfl rfl rfl (fun h st=> ?_))
  refine I.nil (WP.seq (WP.ad (I.bx rfl (ft (s:=[59]) D ((st.pick 2 rfl).pick 2 rfl) dG.at_) ?_)))
  rintro _ h ⟨eM,gv,i4,fZ,a4,rfl,ek,st⟩
  have AE:=ek.ct
  have yj:=ek.at_.lt
  refine I.ak (I.val (v:= .agg [.int .i64 2, .int .i64 (aX p i:Int),L.str x1.1,L.str x1.2, .str 0 0, .bool false, .str 0 0, .str 0 0,v3, .U, .U, .U]) (L.ey rfl (st.aN 3 rfl) rfl rfl rfl) (I.bM (row':=[.int .i64 2, .int .i64 (aX p i:Int),L.str x1.1,L.str x1.2, .str 0 0, .bool false, .str 0 0, .str 0 0,v3, .U, .U, .U]) st 4 rfl rfl rfl rfl rfl rfl rfl (fun h st=> ?_)))
  refine I.nil (WP.ret ?_)
  exact ⟨_,(cH (eY (l:=[.int .i64 2, .int .i64 (aX p i:Int),L.str x1.1,L.str x1.2, .str 0 0, .bool false, .str 0 0, .str 0 0,v3, .U, .U, .U]) rfl (L.eN (st.aN 4 rfl) rfl rfl rfl)) (eX _ _)), .mk 2 (aX p i) x1.1 x1.2 [] false [] [] bW [] [] [],_,_,_,_,_,rfl,rfl,⟨ek.at_,(Par.abN hF ar.here q1.res c0.res dG.res ek.res),by omega⟩,((((st.pick 3 rfl).tail.pick 3 rfl).tail.pick 2 rfl)).e4 fun h hx=>mw.of hx (na.im h) (gR.im h) (gR.im h)⟩
 ·replace hF:(Par.aQ l).kind≠1:=by omega
  refine af.v (.bool false) (af.aC (.bool false) (af.bw (WP.ak (I.dK rfl (il (s:=[108,101,116]) D ((st.pick 2 rfl).pick 2 rfl) (XAt.ok ar)) ?_))))
  rintro _ h (⟨rfl,⟨ahO,Dr,_,_,G5,pW⟩,ca⟩|⟨rfl,G5,ca⟩)
  ·cases Dr
   replace st:aq ((p.bX (i+1) d 0 0)::p.toks:: .box s [.int .i64 0, .int .i64 (aX p i:Int), .str 0 0, .str 0 0, .str 0 0, .bool false, .str 0 0, .str 0 0, .U, .U, .U, .U]:: .box res [.int .i64 0, .int .i64 0, .str 0 0, .str 0 0, .str 0 0, .bool false, .str 0 0, .str 0 0, .U, .U, .U, .U]::fs) h:=ca
   have Aw:=pW.lt
   refine I.bI (WP.ak (I.f (.ptr s 0) (I.bM (row':=[.int .i64 1, .int .i64 (aX p i:Int), .str 0 0, .str 0 0, .str 0 0, .bool false, .str 0 0, .str 0 0, .U, .U, .U, .U]) st 2 rfl rfl rfl rfl rfl rfl rfl (fun h st=> ?_))))
   refine I.ak (I.bx rfl (mA D st (XAt.ok pW)) ?_)
   rintro _ h ⟨c4,ki,i6,jY,ts,rfl,gG,st⟩
   have GY:=gG.ct
   have yi:=gG.at_.lt
   refine I.f (.ptr s 3) (I.bM (row':=[.int .i64 1, .int .i64 (aX p i:Int), .str 0 0,L.str c4, .str 0 0, .bool false, .str 0 0, .str 0 0, .U, .U, .U, .U]) st 2 rfl rfl rfl rfl rfl rfl rfl (fun h st=> ?_))
   refine I.ak (I.bx rfl (ft (s:=[58]) D st gG.at_) ?_)
   rintro _ h ⟨dH,rT,i7,rD,tr,rfl,gk,st⟩
   have Az:=gk.ct
   have AA:=gk.at_.lt
   refine I.ak (I.bx rfl (mA D st gk.at_) ?_)
   rintro _ h ⟨eo,Rh,i8,JO,R8,rfl,tu,st⟩
   have adC:=tu.ct
   have Lz:=tu.at_.lt
   refine I.f (.ptr s 4) (I.bM (row':=[.int .i64 1, .int .i64 (aX p i:Int), .str 0 0,L.str c4,L.str eo, .bool false, .str 0 0, .str 0 0, .U, .U, .U, .U]) st 2 rfl rfl rfl rfl rfl rfl rfl (fun h st=> ?_))
   refine I.ak (I.bx rfl (ft (s:=[61]) D st tu.at_) ?_)
   rintro _ h ⟨ih,Df,i9,pt,a9,rfl,kn,st⟩
   have GR:=kn.ct
   have Dg:=kn.at_.lt
   refine I.nil (WP.ad (I.bx rfl (yl D st kn.at_ (fun _=>by omega) (by omega)) ?_))
   rintro v10 h ⟨gw,wz,i10,wA,wB,hG,st⟩
   have Dn:=hG.ct
   have AF:=hG.at_.lt
   have adX:=(st.bt 0 rfl).cells
   refine I.f (.ptr s 8) (I.bM (row':=[.int .i64 1, .int .i64 (aX p i:Int), .str 0 0,L.str c4,L.str eo, .bool false, .str 0 0, .str 0 0,v10, .U, .U, .U]) st 3 rfl rfl adX rfl rfl rfl rfl (fun h st=> ?_))
   refine I.nil (WP.seq (WP.ad (I.bx rfl (ft (s:=[59]) D ((st.pick 2 rfl).pick 2 rfl) hG.at_) ?_)))
   rintro _ h ⟨k9,GZ,i11,Dp,Dq,rfl,kQ,st⟩
   have LA:=kQ.ct
   have LB:=kQ.at_.lt
   refine I.ak (I.val (v:= .agg [.int .i64 1, .int .i64 (aX p i:Int), .str 0 0,L.str c4,L.str eo, .bool false, .str 0 0, .str 0 0,v10, .U, .U, .U]) (L.ey rfl (st.aN 3 rfl) rfl rfl rfl) (I.bM (row':=[.int .i64 1, .int .i64 (aX p i:Int), .str 0 0,L.str c4,L.str eo, .bool false, .str 0 0, .str 0 0,v10, .U, .U, .U]) st 4 rfl rfl rfl rfl rfl rfl rfl (fun h st=> ?_)))
   refine I.nil (WP.ret ?_)
   exact ⟨_,(cH (eY (l:=[.int .i64 1, .int .i64 (aX p i:Int), .str 0 0,L.str c4,L.str eo, .bool false, .str 0 0, .str 0 0,v10, .U, .U, .U]) rfl (L.eN (st.aN 4 rfl) rfl rfl rfl)) (eX _ _)), .mk 1 (aX p i) [] c4 eo false [] [] gw [] [] [],_,_,_,_,_,rfl,rfl,⟨kQ.at_,(Par.abO G5 ar.here gG.res gk.res tu.res kn.res hG.res kQ.res),by omega⟩,((((st.pick 3 rfl).tail.pick 3 rfl).tail.pick 2 rfl)).e4 fun h hx=>mw.of hx (na.im h) (gR.im h) (gR.im h)⟩
  ·replace st:aq ((p.bX i d 0 0)::p.toks:: .box s [.int .i64 0, .int .i64 (aX p i:Int), .str 0 0, .str 0 0, .str 0 0, .bool false, .str 0 0, .str 0 0, .U, .U, .U, .U]:: .box res [.int .i64 0, .int .i64 0, .str 0 0, .str 0 0, .str 0 0, .bool false, .str 0 0, .str 0 0, .U, .U, .U, .U]::fs) h:=ca
   replace G5:Par.is [108,101,116] l=false:=G5
   refine I.bw (WP.ak (I.dK rfl (il (s:=[114,101,115,117,108,116]) D st (XAt.ok ar)) ?_))
   rintro _ h (⟨rfl,⟨adY,LM,_,_,hres,Dw⟩,ca⟩|⟨rfl,hres,ca⟩)
   ·cases LM
    replace st:aq ((p.bX (i+1) d 0 0)::p.toks:: .box s [.int .i64 0, .int .i64 (aX p i:Int), .str 0 0, .str 0 0, .str 0 0, .bool false, .str 0 0, .str 0 0, .U, .U, .U, .U]:: .box res [.int .i64 0, .int .i64 0, .str 0 0, .str 0 0, .str 0 0, .bool false, .str 0 0, .str 0 0, .U, .U, .U, .U]::fs) h:=ca
    have LG:=Dw.lt
    refine I.bI (WP.ak (I.f (.ptr s 0) (I.bM (row':=[.int .i64 3, .int .i64 (aX p i:Int), .str 0 0, .str 0 0, .str 0 0, .bool false, .str 0 0, .str 0 0, .U, .U, .U, .U]) st 2 rfl rfl rfl rfl rfl rfl rfl (fun h st=> ?_))))
    refine I.ak (I.bx rfl (ft (s:=[61]) D st (XAt.ok Dw)) ?_)
    rintro _ h ⟨fX,G6,i13,G7,G8,rfl,nY,st⟩
    have LN:=nY.ct
    have Sk:=nY.at_.lt
    refine I.nil (WP.ad (I.bx rfl (yl D st nY.at_ (fun _=>by omega) (by omega)) ?_))
    rintro jf h ⟨rW,LH,i14,G1,G2,lV,st⟩
    have LI:=lV.ct
    have Sf:=lV.at_.lt
    have LJ:=(st.bt 0 rfl).cells
    refine I.f (.ptr s 8) (I.bM (row':=[.int .i64 3, .int .i64 (aX p i:Int), .str 0 0, .str 0 0, .str 0 0, .bool false, .str 0 0, .str 0 0,jf, .U, .U, .U]) st 3 rfl rfl LJ rfl rfl rfl rfl (fun h st=> ?_))
    refine I.nil (WP.seq (WP.ad (I.bx rfl (ft (s:=[59]) D ((st.pick 2 rfl).pick 2 rfl) lV.at_) ?_)))
    rintro _ h ⟨wj,yq,i15,Dx,LO,rfl,pX,st⟩
    have Sl:=pX.ct
    have adZ:=pX.at_.lt
    refine I.ak (I.val (v:= .agg [.int .i64 3, .int .i64 (aX p i:Int), .str 0 0, .str 0 0, .str 0 0, .bool false, .str 0 0, .str 0 0,jf, .U, .U, .U]) (L.ey rfl (st.aN 3 rfl) rfl rfl rfl) (I.bM (row':=[.int .i64 3, .int .i64 (aX p i:Int), .str 0 0, .str 0 0, .str 0 0, .bool false, .str 0 0, .str 0 0,jf, .U, .U, .U]) st 4 rfl rfl rfl rfl rfl rfl rfl (fun h st=> ?_)))
    refine I.nil (WP.ret ?_)
    exact ⟨_,(cH (eY (l:=[.int .i64 3, .int .i64 (aX p i:Int), .str 0 0, .str 0 0, .str 0 0, .bool false, .str 0 0, .str 0 0,jf, .U, .U, .U]) rfl (L.eN (st.aN 4 rfl) rfl rfl rfl)) (eX _ _)), .mk 3 (aX p i) [] [] [] false [] [] rW [] [] [],_,_,_,_,_,rfl,rfl,⟨pX.at_,(Par.abP hres ar.here nY.res lV.res pX.res),by omega⟩,((((st.pick 3 rfl).tail.pick 3 rfl).tail.pick 2 rfl)).e4 fun h hx=>mw.of hx (na.im h) (gR.im h) (gR.im h)⟩
   ·replace st:aq ((p.bX i d 0 0)::p.toks:: .box s [.int .i64 0, .int .i64 (aX p i:Int), .str 0 0, .str 0 0, .str 0 0, .bool false, .str 0 0, .str 0 0, .U, .U, .U, .U]:: .box res [.int .i64 0, .int .i64 0, .str 0 0, .str 0 0, .str 0 0, .bool false, .str 0 0, .str 0 0, .U, .U, .U, .U]::fs) h:=ca
    replace hres:Par.is [114,101,115,117,108,116] l=false:=hres
    refine I.bw (WP.ak (I.dK rfl (il (s:=[99,97,108,108]) D st (XAt.ok ar)) ?_))
    rintro _ h (⟨rfl,⟨ahP,Du,_,_,xa,yp⟩,ca⟩|⟨rfl,xa,ca⟩)
    ·cases Du
     replace st:aq ((p.bX (i+1) d 0 0)::p.toks:: .box s [.int .i64 0, .int .i64 (aX p i:Int), .str 0 0, .str 0 0, .str 0 0, .bool false, .str 0 0, .str 0 0, .U, .U, .U, .U]:: .box res [.int .i64 0, .int .i64 0, .str 0 0, .str 0 0, .str 0 0, .bool false, .str 0 0, .str 0 0, .U, .U, .U, .U]::fs) h:=ca
     have adQ:=yp.lt
     refine I.bI (WP.ad (I.val (v:= .agg [.int .i64 0, .int .i64 (aX p i:Int), .str 0 0, .str 0 0, .str 0 0, .bool false, .str 0 0, .str 0 0, .U, .U, .U, .U]) (L.ey rfl (st.aN 2 rfl) rfl rfl rfl) (I.bx rfl (adJ D st (XAt.ok yp) (by omega)) ?_)))
     rintro _ h ⟨dL,G3,i17,Dv,a17,G9,rfl,ahQ,lW,st⟩
     have Sh:=lW.ct
     have Si:=lW.at_.lt
     refine I.bM (row':=[.int .i64 4, .int .i64 (aX p i:Int),L.str dL.mod,L.str dL.name,L.str [], .bool dL.has,L.str dL.tomod,L.str dL.to, .U,G9, .U, .U]) st 3 rfl rfl rfl rfl rfl rfl rfl (fun h st=> ?_)
     refine I.nil (WP.seq (WP.ad (I.bx rfl (ft (s:=[59]) D ((st.pick 2 rfl).pick 2 rfl) lW.at_) ?_)))
     rintro _ h ⟨pL,adR,i18,adS,adT,rfl,uQ,st⟩
     have adU:=uQ.ct
     have adV:=uQ.at_.lt
     refine I.ak (I.val (v:= .agg [.int .i64 4, .int .i64 (aX p i:Int),L.str dL.mod,L.str dL.name,L.str [], .bool dL.has,L.str dL.tomod,L.str dL.to, .U,G9, .U, .U]) (L.ey rfl (st.aN 3 rfl) rfl rfl rfl) (I.bM (row':=[.int .i64 4, .int .i64 (aX p i:Int),L.str dL.mod,L.str dL.name,L.str [], .bool dL.has,L.str dL.tomod,L.str dL.to, .U,G9, .U, .U]) st 4 rfl rfl rfl rfl rfl rfl rfl (fun h st=> ?_)))
     refine I.nil (WP.ret ?_)
     exact ⟨_,(cH (eY (l:=[.int .i64 4, .int .i64 (aX p i:Int),L.str dL.mod,L.str dL.name,L.str [], .bool dL.has,L.str dL.tomod,L.str dL.to, .U,G9, .U, .U]) rfl (L.eN (st.aN 4 rfl) rfl rfl rfl)) (eX _ _)), .mk 4 (aX p i) dL.mod dL.name [] dL.has dL.tomod dL.to [] dL.args [] [],_,_,_,_,_,rfl,rfl,⟨uQ.at_,(Par.abQ xa ar.here lW.res uQ.res),by omega⟩,((((st.pick 3 rfl).tail.pick 3 rfl).tail.pick 2 rfl)).e4 fun h hx=>mw.of .nil hx (gR.im h) (gR.im h)⟩
    ·replace st:aq ((p.bX i d 0 0)::p.toks:: .box s [.int .i64 0, .int .i64 (aX p i:Int), .str 0 0, .str 0 0, .str 0 0, .bool false, .str 0 0, .str 0 0, .U, .U, .U, .U]:: .box res [.int .i64 0, .int .i64 0, .str 0 0, .str 0 0, .str 0 0, .bool false, .str 0 0, .str 0 0, .U, .U, .U, .U]::fs) h:=ca
     replace xa:Par.is [99,97,108,108] l=false:=xa
     refine I.bw (WP.ak (I.dK rfl (il (s:=[101,109,105,116]) D st (XAt.ok ar)) ?_))
     rintro _ h (⟨rfl,⟨ahR,LP,_,_,Ha,Dy⟩,ca⟩|⟨rfl,Ha,ca⟩)
     ·cases LP
      replace st:aq ((p.bX (i+1) d 0 0)::p.toks:: .box s [.int .i64 0, .int .i64 (aX p i:Int), .str 0 0, .str 0 0, .str 0 0, .bool false, .str 0 0, .str 0 0, .U, .U, .U, .U]:: .box res [.int .i64 0, .int .i64 0, .str 0 0, .str 0 0, .str 0 0, .bool false, .str 0 0, .str 0 0, .U, .U, .U, .U]::fs) h:=ca
      have Sj:=Dy.lt
      refine I.bI (WP.ak (I.f (.ptr s 0) (I.bM (row':=[.int .i64 7, .int .i64 (aX p i:Int), .str 0 0, .str 0 0, .str 0 0, .bool false, .str 0 0, .str 0 0, .U, .U, .U, .U]) st 2 rfl rfl rfl rfl rfl rfl rfl (fun h st=> ?_))))
      refine I.nil (WP.ad (I.bx rfl (mA D st (XAt.ok Dy)) ?_))
      rintro _ h ⟨uR,ad0,i20,ad1,a20,rfl,uS,st⟩
      have Sm:=uS.ct
      have ad2:=uS.at_.lt
      refine I.f (.ptr s 3) (I.bM (row':=[.int .i64 7, .int .i64 (aX p i:Int), .str 0 0,L.str uR, .str 0 0, .bool false, .str 0 0, .str 0 0, .U, .U, .U, .U]) st 2 rfl rfl rfl rfl rfl rfl rfl (fun h st=> ?_))
      refine I.nil (WP.seq (WP.ad (I.bx rfl (ft (s:=[59]) D st uS.at_) ?_)))
      rintro _ h ⟨qP,ad3,i21,ad4,a21,rfl,uT,st⟩
      have Sn:=uT.ct
      have ad5:=uT.at_.lt
      refine I.ak (I.val (v:= .agg [.int .i64 7, .int .i64 (aX p i:Int), .str 0 0,L.str uR, .str 0 0, .bool false, .str 0 0, .str 0 0, .U, .U, .U, .U]) (L.ey rfl (st.aN 2 rfl) rfl rfl rfl) (I.bM (row':=[.int .i64 7, .int .i64 (aX p i:Int), .str 0 0,L.str uR, .str 0 0, .bool false, .str 0 0, .str 0 0, .U, .U, .U, .U]) st 3 rfl rfl rfl rfl rfl rfl rfl (fun h st=> ?_)))
      refine I.nil (WP.ret ?_)
      exact ⟨_,(cH (eY (l:=[.int .i64 7, .int .i64 (aX p i:Int), .str 0 0,L.str uR, .str 0 0, .bool false, .str 0 0, .str 0 0, .U, .U, .U, .U]) rfl (L.eN (st.aN 3 rfl) rfl rfl rfl)) (eX _ _)), .mk 7 (aX p i) [] uR [] false [] [] [] [] [] [],_,_,_,_,_,rfl,rfl,⟨uT.at_,(Par.abR Ha ar.here uS.res uT.res),by omega⟩,(((st.pick 2 rfl).tail.pick 2 rfl).tail).wh fun h=>mw.of .nil (na.im h) (gR.im h) (gR.im h)⟩
     ·replace st:aq ((p.bX i d 0 0)::p.toks:: .box s [.int .i64 0, .int .i64 (aX p i:Int), .str 0 0, .str 0 0, .str 0 0, .bool false, .str 0 0, .str 0 0, .U, .U, .U, .U]:: .box res [.int .i64 0, .int .i64 0, .str 0 0, .str 0 0, .str 0 0, .bool false, .str 0 0, .str 0 0, .U, .U, .U, .U]::fs) h:=ca
      replace Ha:Par.is [101,109,105,116] l=false:=Ha
      refine I.bw (WP.ak (I.dK rfl (il (s:=[115,107,105,112]) D st (XAt.ok ar)) ?_))
      rintro _ h (⟨rfl,⟨ahS,ad6,_,_,Hb,Sp⟩,ca⟩|⟨rfl,Hb,ca⟩)
      ·cases ad6
       replace st:aq ((p.bX (i+1) d 0 0)::p.toks:: .box s [.int .i64 0, .int .i64 (aX p i:Int), .str 0 0, .str 0 0, .str 0 0, .bool false, .str 0 0, .str 0 0, .U, .U, .U, .U]:: .box res [.int .i64 0, .int .i64 0, .str 0 0, .str 0 0, .str 0 0, .bool false, .str 0 0, .str 0 0, .U, .U, .U, .U]::fs) h:=ca
       have ahT:=Sp.lt
       refine I.bI (WP.ad (I.f (.ptr s 0) (I.bM (row':=[.int .i64 8, .int .i64 (aX p i:Int), .str 0 0, .str 0 0, .str 0 0, .bool false, .str 0 0, .str 0 0, .U, .U, .U, .U]) st 2 rfl rfl rfl rfl rfl rfl rfl (fun h st=> ?_))))
       refine I.nil (WP.seq (WP.ad (I.bx rfl (ft (s:=[59]) D st (XAt.ok Sp)) ?_)))
       rintro _ h ⟨nT,ahU,i23,ahV,a23,rfl,Hc,st⟩
       have ahW:=Hc.ct
       have ahX:=Hc.at_.lt
       refine I.ak (I.val (v:= .agg [.int .i64 8, .int .i64 (aX p i:Int), .str 0 0, .str 0 0, .str 0 0, .bool false, .str 0 0, .str 0 0, .U, .U, .U, .U]) (L.ey rfl (st.aN 2 rfl) rfl rfl rfl) (I.bM (row':=[.int .i64 8, .int .i64 (aX p i:Int), .str 0 0, .str 0 0, .str 0 0, .bool false, .str 0 0, .str 0 0, .U, .U, .U, .U]) st 3 rfl rfl rfl rfl rfl rfl rfl (fun h st=> ?_)))
       refine I.nil (WP.ret ?_)
       exact ⟨_,(cH (eY (l:=[.int .i64 8, .int .i64 (aX p i:Int), .str 0 0, .str 0 0, .str 0 0, .bool false, .str 0 0, .str 0 0, .U, .U, .U, .U]) rfl (L.eN (st.aN 3 rfl) rfl rfl rfl)) (eX _ _)), .mk 8 (aX p i) [] [] [] false [] [] [] [] [] [],_,_,_,_,_,rfl,rfl,⟨Hc.at_,(Par.abS Hb ar.here Hc.res),by omega⟩,(((st.pick 2 rfl).tail.pick 2 rfl).tail).wh fun h=>mw.of .nil (na.im h) (gR.im h) (gR.im h)⟩
      ·replace st:aq ((p.bX i d 0 0)::p.toks:: .box s [.int .i64 0, .int .i64 (aX p i:Int), .str 0 0, .str 0 0, .str 0 0, .bool false, .str 0 0, .str 0 0, .U, .U, .U, .U]:: .box res [.int .i64 0, .int .i64 0, .str 0 0, .str 0 0, .str 0 0, .bool false, .str 0 0, .str 0 0, .U, .U, .U, .U]::fs) h:=ca
       replace Hb:Par.is [115,107,105,112] l=false:=Hb
       refine I.bw (WP.ak (I.dK rfl (il (s:=[105,102]) D st (XAt.ok ar)) ?_))
       rintro _ h (⟨rfl,⟨ahY,ad7,_,_,Dz,Sq⟩,ca⟩|⟨rfl,Dz,ca⟩)
       ·cases ad7
        replace st:aq ((p.bX (i+1) d 0 0)::p.toks:: .box s [.int .i64 0, .int .i64 (aX p i:Int), .str 0 0, .str 0 0, .str 0 0, .bool false, .str 0 0, .str 0 0, .U, .U, .U, .U]:: .box res [.int .i64 0, .int .i64 0, .str 0 0, .str 0 0, .str 0 0, .bool false, .str 0 0, .str 0 0, .U, .U, .U, .U]::fs) h:=ca
        have ahZ:=Sq.lt
        refine I.bI (WP.ak (I.f (.ptr s 0) (I.bM (row':=[.int .i64 5, .int .i64 (aX p i:Int), .str 0 0, .str 0 0, .str 0 0, .bool false, .str 0 0, .str 0 0, .U, .U, .U, .U]) st 2 rfl rfl rfl rfl rfl rfl rfl (fun h st=> ?_))))
        refine I.ak (I.bx rfl (yl D st (XAt.ok Sq) (fun _=>by omega) (by omega)) ?_)
        rintro v25 h ⟨ya,ah0,i25,ah1,a25,DA,st⟩
        have ah2:=DA.ct
        have ah3:=DA.at_.lt
        have ad8:=(st.bt 0 rfl).cells
        refine I.f (.ptr s 8) (I.bM (row':=[.int .i64 5, .int .i64 (aX p i:Int), .str 0 0, .str 0 0, .str 0 0, .bool false, .str 0 0, .str 0 0,v25, .U, .U, .U]) st 3 rfl rfl ad8 rfl rfl rfl rfl (fun h st=> ?_))
        refine I.ak (I.bx rfl (hblk ((st.pick 2 rfl).pick 2 rfl) DA.at_ (fun h0=>by omega) (by omega)) ?_)
        rintro v26 h ⟨rV,ah4,i26,ad9,a26,AK,st⟩
        have ah5:=AK.ct
        have ah6:=AK.at_.lt
        have aea:=gR.wk (st.bt 0 rfl)
        refine I.f (.ptr s 10) (I.bM (row':=[.int .i64 5, .int .i64 (aX p i:Int), .str 0 0, .str 0 0, .str 0 0, .bool false, .str 0 0, .str 0 0,v25, .U,v26, .U]) st 4 rfl rfl aea rfl rfl rfl rfl (fun h st=> ?_))
        refine I.nil (WP.seq (WP.ak (I.dK rfl (il (s:=[101,108,115,101]) D ((st.pick 2 rfl).pick 2 rfl) AK.at_) ?_)))
        rintro _ h (⟨rfl,⟨ah7,aeb,aec,aed,sF,Sr⟩,ca⟩|⟨rfl,sF,ca⟩)
        ·subst aeb aec aed
         replace st:aq ((p.bX (i26+1) d 0 0)::p.toks:: .aE (fun h=>gR h v26 rV):: .aE (fun h=>Rows 7 h v25 (ya.map bJ.row)):: .box s [.int .i64 5, .int .i64 (aX p i:Int), .str 0 0, .str 0 0, .str 0 0, .bool false, .str 0 0, .str 0 0,v25, .U,v26, .U]:: .box res [.int .i64 0, .int .i64 0, .str 0 0, .str 0 0, .str 0 0, .bool false, .str 0 0, .str 0 0, .U, .U, .U, .U]::fs) h:=ca
         have ah8:=Sr.lt
         refine I.bI (WP.ad (I.bx rfl (hblk st (XAt.ok Sr) (fun h0=>by omega) (by omega)) ?_))
         rintro v28 h ⟨uN,ah9,i28,aia,a28,Hd,st⟩
         have aib:=Hd.ct
         have aic:=Hd.at_.lt
         have aee:=gR.wk (st.bt 0 rfl)
         refine I.f (.ptr s 11) (I.bM (row':=[.int .i64 5, .int .i64 (aX p i:Int), .str 0 0, .str 0 0, .str 0 0, .bool false, .str 0 0, .str 0 0,v25, .U,v26,v28]) st 5 rfl rfl aee rfl rfl rfl rfl (fun h st=> ?_))
         refine I.ak (I.val (v:= .agg [.int .i64 5, .int .i64 (aX p i:Int), .str 0 0, .str 0 0, .str 0 0, .bool false, .str 0 0, .str 0 0,v25, .U,v26,v28]) (L.ey rfl (st.aN 5 rfl) rfl rfl rfl) (I.bM (row':=[.int .i64 5, .int .i64 (aX p i:Int), .str 0 0, .str 0 0, .str 0 0, .bool false, .str 0 0, .str 0 0,v25, .U,v26,v28]) st 6 rfl rfl rfl rfl rfl rfl rfl (fun h st=> ?_)))
         refine I.nil (WP.ret ?_)
         exact ⟨_,(cH (eY (l:=[.int .i64 5, .int .i64 (aX p i:Int), .str 0 0, .str 0 0, .str 0 0, .bool false, .str 0 0, .str 0 0,v25, .U,v26,v28]) rfl (L.eN (st.aN 6 rfl) rfl rfl rfl)) (eX _ _)), .mk 5 (aX p i) [] [] [] false [] [] ya [] rV uN,_,_,_,_,_,rfl,rfl,⟨Hd.at_,(Par.abV Dz ar.here DA.res AK.res sF Hd.res),by omega⟩,(((((((st.pick 5 rfl).tail.pick 5 rfl).tail.pick 3 rfl).pick 4 rfl)).and).and).e4 fun h hx=>mw.of hx.1.1 (na.im h) hx.1.2 hx.2⟩
        ·replace st:aq ((p.bX i26 d ad9 a26)::p.toks:: .aE (fun h=>gR h v26 rV):: .aE (fun h=>Rows 7 h v25 (ya.map bJ.row)):: .box s [.int .i64 5, .int .i64 (aX p i:Int), .str 0 0, .str 0 0, .str 0 0, .bool false, .str 0 0, .str 0 0,v25, .U,v26, .U]:: .box res [.int .i64 0, .int .i64 0, .str 0 0, .str 0 0, .str 0 0, .bool false, .str 0 0, .str 0 0, .U, .U, .U, .U]::fs) h:=ca
         refine I.bw (WP.skip (WP.ak (I.val (v:= .agg [.int .i64 5, .int .i64 (aX p i:Int), .str 0 0, .str 0 0, .str 0 0, .bool false, .str 0 0, .str 0 0,v25, .U,v26, .U]) (L.ey rfl (st.aN 4 rfl) rfl rfl rfl) (I.bM (row':=[.int .i64 5, .int .i64 (aX p i:Int), .str 0 0, .str 0 0, .str 0 0, .bool false, .str 0 0, .str 0 0,v25, .U,v26, .U]) st 5 rfl rfl rfl rfl rfl rfl rfl (fun h st=> ?_)))))
         refine I.nil (WP.ret ?_)
         exact ⟨_,(cH (eY (l:=[.int .i64 5, .int .i64 (aX p i:Int), .str 0 0, .str 0 0, .str 0 0, .bool false, .str 0 0, .str 0 0,v25, .U,v26, .U]) rfl (L.eN (st.aN 5 rfl) rfl rfl rfl)) (eX _ _)), .mk 5 (aX p i) [] [] [] false [] [] ya [] rV [],_,_,_,_,_,rfl,rfl,⟨AK.at_,(Par.abU Dz ar.here DA.res AK.res sF),by omega⟩,((((((st.pick 4 rfl).tail.pick 4 rfl).tail.pick 2 rfl).pick 3 rfl)).and).e4 fun h hx=>mw.of hx.1 (na.im h) hx.2 (gR.im h)⟩
       ·replace st:aq ((p.bX i d 0 0)::p.toks:: .box s [.int .i64 0, .int .i64 (aX p i:Int), .str 0 0, .str 0 0, .str 0 0, .bool false, .str 0 0, .str 0 0, .U, .U, .U, .U]:: .box res [.int .i64 0, .int .i64 0, .str 0 0, .str 0 0, .str 0 0, .bool false, .str 0 0, .str 0 0, .U, .U, .U, .U]::fs) h:=ca
        replace Dz:Par.is [105,102] l=false:=Dz
        refine I.bw (WP.ak (I.dK rfl (il (s:=[119,104,105,108,101]) D st (XAt.ok ar)) ?_))
        rintro _ h (⟨rfl,⟨aid,aef,_,_,He,Ss⟩,ca⟩|⟨rfl,He,ca⟩)
        ·cases aef
         replace st:aq ((p.bX (i+1) d 0 0)::p.toks:: .box s [.int .i64 0, .int .i64 (aX p i:Int), .str 0 0, .str 0 0, .str 0 0, .bool false, .str 0 0, .str 0 0, .U, .U, .U, .U]:: .box res [.int .i64 0, .int .i64 0, .str 0 0, .str 0 0, .str 0 0, .bool false, .str 0 0, .str 0 0, .U, .U, .U, .U]::fs) h:=ca
         have aie:=Ss.lt
         refine I.bI (WP.ak (I.f (.ptr s 0) (I.bM (row':=[.int .i64 6, .int .i64 (aX p i:Int), .str 0 0, .str 0 0, .str 0 0, .bool false, .str 0 0, .str 0 0, .U, .U, .U, .U]) st 2 rfl rfl rfl rfl rfl rfl rfl (fun h st=> ?_))))
         refine I.ak (I.bx rfl (yl D st (XAt.ok Ss) (fun _=>by omega) (by omega)) ?_)
         rintro v30 h ⟨aeg,aif,i30,aih,aii,Hf,st⟩
         have aij:=Hf.ct
         have aik:=Hf.at_.lt
         have aeh:=(st.bt 0 rfl).cells
         refine I.f (.ptr s 8) (I.bM (row':=[.int .i64 6, .int .i64 (aX p i:Int), .str 0 0, .str 0 0, .str 0 0, .bool false, .str 0 0, .str 0 0,v30, .U, .U, .U]) st 3 rfl rfl aeh rfl rfl rfl rfl (fun h st=> ?_))
         refine I.ak (I.bx rfl (hblk ((st.pick 2 rfl).pick 2 rfl) Hf.at_ (fun h0=>by omega) (by omega)) ?_)
         rintro v31 h ⟨aei,ail,i31,aim,a31,Hg,st⟩
         have ain:=Hg.ct
         have aio:=Hg.at_.lt
         have aej:=gR.wk (st.bt 0 rfl)
         refine I.f (.ptr s 10) (I.bM (row':=[.int .i64 6, .int .i64 (aX p i:Int), .str 0 0, .str 0 0, .str 0 0, .bool false, .str 0 0, .str 0 0,v30, .U,v31, .U]) st 4 rfl rfl aej rfl rfl rfl rfl (fun h st=> ?_))
         refine I.ak (I.val (v:= .agg [.int .i64 6, .int .i64 (aX p i:Int), .str 0 0, .str 0 0, .str 0 0, .bool false, .str 0 0, .str 0 0,v30, .U,v31, .U]) (L.ey rfl (st.aN 4 rfl) rfl rfl rfl) (I.bM (row':=[.int .i64 6, .int .i64 (aX p i:Int), .str 0 0, .str 0 0, .str 0 0, .bool false, .str 0 0, .str 0 0,v30, .U,v31, .U]) st 5 rfl rfl rfl rfl rfl rfl rfl (fun h st=> ?_)))
         refine I.nil (WP.ret ?_)
         exact ⟨_,(cH (eY (l:=[.int .i64 6, .int .i64 (aX p i:Int), .str 0 0, .str 0 0, .str 0 0, .bool false, .str 0 0, .str 0 0,v30, .U,v31, .U]) rfl (L.eN (st.aN 5 rfl) rfl rfl rfl)) (eX _ _)), .mk 6 (aX p i) [] [] [] false [] [] aeg [] aei [],_,_,_,_,_,rfl,rfl,⟨Hg.at_,(Par.abT He ar.here Hf.res Hg.res),by omega⟩,(((((st.pick 4 rfl).tail.pick 4 rfl).tail.pick 3 rfl)).and).e4 fun h hx=>mw.of hx.1 (na.im h) hx.2 (gR.im h)⟩
        ·replace st:aq ((p.bX i d 0 0)::p.toks:: .box s [.int .i64 0, .int .i64 (aX p i:Int), .str 0 0, .str 0 0, .str 0 0, .bool false, .str 0 0, .str 0 0, .U, .U, .U, .U]:: .box res [.int .i64 0, .int .i64 0, .str 0 0, .str 0 0, .str 0 0, .bool false, .str 0 0, .str 0 0, .U, .U, .U, .U]::fs) h:=ca
         replace He:Par.is [119,104,105,108,101] l=false:=He
         refine I.bw (WP.ak (I.bx rfl (tj (k:=11) D st (XAt.ok ar) (by decide)) ?_))
         rintro _ h ⟨rfl,tm,tn,oP,gC,st⟩
         refine I.ak (I.val (v:= .agg [.int .i64 0, .int .i64 (aX p i:Int), .str 0 0, .str 0 0, .str 0 0, .bool false, .str 0 0, .str 0 0, .U, .U, .U, .U]) (L.ey rfl (st.aN 2 rfl) rfl rfl rfl) (I.bM (row':=[.int .i64 0, .int .i64 (aX p i:Int), .str 0 0, .str 0 0, .str 0 0, .bool false, .str 0 0, .str 0 0, .U, .U, .U, .U]) st 3 rfl rfl rfl rfl rfl rfl rfl (fun h st=> ?_)))
         refine I.nil (WP.ret ?_)
         have gN:=gC.bad oP
         exact ⟨_,(cH (eY (l:=[.int .i64 0, .int .i64 (aX p i:Int), .str 0 0, .str 0 0, .str 0 0, .bool false, .str 0 0, .str 0 0, .U, .U, .U, .U]) rfl (L.eN (st.aN 3 rfl) rfl rfl rfl)) (eX _ _)), .mk 0 (aX p i) [] [] [] false [] [] [] [] [] [],_,_,_,_,_,rfl,rfl,⟨gC,(Par.abW hF (by intro s ay;simp at ay;rcases ay with rfl|rfl|rfl|rfl|rfl|rfl|rfl<;>assumption)),by omega⟩,(((st.pick 2 rfl).tail.pick 2 rfl).tail).wh fun h=>mw.of .nil (na.im h) (gR.im h) (gR.im h)⟩
theorem aek (D:gj c) (N:Nat):Sb c N (Par.stmt N):=by
 induction N with
 |zero=>
  intro fs h p i d l st ar eV aQ
  have:=ar.lt;omega
 |succ N bm=>
  intro fs h p i d l st ar eV aQ
  have hb:Sc c N (Par.rO (Par.stmt N)):=by
   intro fs h p i d e a S st hx eV aQ
   obtain ⟨v,h1,hr,x,bU,cy,bF,bf,q,s⟩:=Sd D bm st hx eV aQ
   exact ⟨v,h1,hr,x,bU,cy,bF,bf,q,s⟩
  exact adW D hb st ar eV aQ
theorem ael (D:gj c) {fs:List Fact} {h:ae} {p:dV} {i d e a:Nat} {S:Par.dc} (st:aq (p.bX i d e a::p.toks::fs) h) (hx:XAt p i e a S) (aQ:d≤40):
 bT c 84 [.ptr p.aT 0] h fun v h1=>∃(x:List cx) (bU:Par.dc) (cy bF bf:Nat),my p S i (Par.block d) x bU cy bF bf∧aq (.aE (fun h=>gR h v x)::p.bX cy d bF bf::p.toks::fs) h1:=by
 obtain ⟨v,h1,hr,x,bU,cy,bF,bf,q,s⟩:=Sd D (aek D S.len) st hx (fun h0=>hx.fuel h0) aQ
 exact ⟨v,h1,hr,x,bU,cy,bF,bf,⟨q.at_,Par.aB.len (F:=fun n l=>Par.rO (Par.stmt n) d l) q.res,q.ct⟩,s⟩
end
end Go.Eng.YtmcjcbldmoijiaaGreatDoor
namespace Go.Eng.YtmcjcbldmoijiaaGreatDoor
open Go.Eng
noncomputable section
variable {c:Ctx}
theorem aem (D:gj c) {fs:List Fact} {h:ae} {p:dV} {i d e a:Nat} {S:Par.dc} (st:aq (p.bX i d e a::p.toks::fs) h) (hx:XAt p i e a S):
 bT c 59 [.ptr p.aT 0] h fun v h1=>∃(x:gd) (bU:Par.dc) (cy bF bf:Nat),v= .agg [L.str x.name,L.str x.label, .int .i64 x.init, .n x.at_]∧my p S i Par.rQ x bU cy bF bf∧aq (p.bX cy d bF bf::p.toks::fs) h1:=by
 have ni:=hx.small
 have hlt:=hx.lt
 refine bT.dN D.f59 rfl (WP.ak (I.dI st L.alloc (fun res h st=> ?_)))
 refine I.ak (I.bx rfl (r3 D ((st.pick 2 rfl).pick 2 rfl) hx) ?_)
 rintro _ h ⟨rfl,st⟩
 refine I.bx rfl (mA D st hx) ?_
 rintro _ h ⟨x1,S1,i1,aS,a1,rfl,q1,st⟩
 have mB:=q1.ct
 have qW:=q1.at_.lt
 refine I.val (v:= .agg [L.str x1, .str 0 0, .int .i64 0, .int .i64 (aX p i:Int)]) (L.build rfl) (I.dI st L.alloc (fun s h st=> ?_))
 refine I.bM (row':=[L.str x1, .str 0 0, .int .i64 0, .int .i64 (aX p i:Int)]) st 0 rfl rfl rfl rfl rfl rfl rfl (fun h st=> ?_)
 refine I.ak (I.bx rfl (ft (s:=[58]) D ((st.pick 2 rfl).pick 2 rfl) q1.at_) ?_)
 rintro _ h ⟨bR,b9,i2,bl,a2,rfl,c0,st⟩
 have wx:=c0.ct
 have wv:=c0.at_.lt
 refine I.ak (I.bx rfl (mA D st c0.at_) ?_)
 rintro _ h ⟨bW,dW,i3,df,a3,rfl,dG,st⟩
 have r6:=dG.ct
 have tp:=dG.at_.lt
 refine I.f (.ptr s 1) (I.bM (row':=[L.str x1,L.str bW, .int .i64 0, .int .i64 (aX p i:Int)]) st 2 rfl rfl rfl rfl rfl rfl rfl (fun h st=> ?_))
 refine I.ak (I.bx rfl (ft (s:=[61]) D st dG.at_) ?_)
 rintro _ h ⟨eM,gv,i4,fZ,a4,rfl,ek,st⟩
 have AE:=ek.ct
 have yj:=ek.at_.lt
 refine I.ak (I.dK rfl (il (s:=[45]) D st ek.at_) ?_)
 rintro _ h (⟨rfl,⟨iA,Dr,aen,LD,hm,pW⟩,ca⟩|⟨rfl,hm,ca⟩)
 ·subst Dr aen LD
  replace st:aq ((p.bX (i4+1) d 0 0)::p.toks:: .box s [L.str x1,L.str bW, .int .i64 0, .int .i64 (aX p i:Int)]:: .box res [.str 0 0, .str 0 0, .int .i64 0, .int .i64 0]::fs) h:=ca
  have Aw:=pW.lt
  refine I.nil (WP.seq (WP.draw (af.v (.ptr p.aT 0) (af.v (.ptr p.aT 0) (af.f (.ptr p.aT 0) (af.b (.au p.cr p.to p.aP.length p.cap) (st.aN 0 rfl) (af.v (.ptr p.aT 0) (af.v (.ptr p.aT 0) (af.f (.ptr p.aT 1) (af.b (.int .i64 ((i4+1:Nat):Int)) (st.aN 0 rfl) ?_))))))))))
  obtain ⟨t,ht,cF⟩:=((XAt.ok pW):XAt p (i4+1) _ _ _).row
  refine af.val (v:= .ptr p.cr (p.to+(i4+1) * 3)) (L.bY rfl rfl (XAt.ok pW).lt) (af.val (v:= .agg [.n t.kind,L.str t.text, .n t.at_]) (L.da rfl ((st.bt 1 rfl).da cF)) (af.dI st L.alloc (fun cr h st=> ?_)))
  refine af.bM (row':=[.n t.kind,L.str t.text, .n t.at_]) st 0 rfl rfl rfl rfl rfl rfl rfl (fun h st=>rfl) (fun h st=> ?_)
  refine af.nil (WP.seq (WP.ak (I.v (.ptr p.aT 0) (I.f (.ptr p.aT 3) (I.b (.int .i64 0) (st.aN 1 rfl) (I.ej (L.neq rfl rfl) (fun ce=>by exfalso;omega) (fun ce=> ?_)))))))
  refine I.yes rfl (I.f (.ptr cr 0) (I.yes rfl (I.b (.n t.kind) (st.aN 0 rfl) (I.yes rfl ?_))))
  have km:=((XAt.ok pW):XAt p (i4+1) 0 0 (.ok iA.tail)).aQ ht
  refine I.ej (L.neq rfl rfl) (fun hF=> ?_) (fun hF=> ?_)
  ·replace hF:t.kind≠2:=by omega
   refine I.aC (.bool true) (I.bI (WP.ak (I.bx rfl (tj (k:=11) D ((st.pick 2 rfl).pick 2 rfl) (XAt.ok pW) (by decide)) ?_)))
   rintro _ h ⟨rfl,tm,tn,oP,gC,st⟩
   refine I.ak (I.val (v:= .agg [L.str x1,L.str bW, .int .i64 0, .int .i64 (aX p i:Int)]) (L.ey rfl (st.aN 3 rfl) rfl rfl rfl) (I.bM (row':=[L.str x1,L.str bW, .int .i64 0, .int .i64 (aX p i:Int)]) st 4 rfl rfl rfl rfl rfl rfl rfl (fun h st=> ?_)))
   refine I.nil (WP.ret ?_)
   exact ⟨_,(cH (eY (l:=[L.str x1,L.str bW, .int .i64 0, .int .i64 (aX p i:Int)]) rfl (L.eN (st.aN 4 rfl) rfl rfl rfl)) (eX _ _)),⟨x1,bW,0,(aX p i)⟩,_,_,_,_,rfl,⟨gC,Par.C4 (fun l e=>hx.here e) q1.res c0.res dG.res ek.res (Par.Rl hm (Par.Lb (fun bu bl=>by cases bl;rw [km];exact hF))),by omega⟩,(((st.pick 2 rfl).tail.pick 2 rfl).tail.pick 2 rfl).tail⟩
  ·replace hF:t.kind=2:=by omega
   refine I.bS (v:= .bool false) rfl (I.nil (WP.cond (t:=false) rfl (WP.skip (WP.seq (WP.ad (I.val (v:= .ptr p.aT 0) rfl (I.val (v:= .ptr p.aT 1) (L.bK rfl) (I.val (v:= .int .i64 ((i4+1:Nat):Int)) (L.fM rfl (st.aN 1 rfl) rfl) (I.val (v:= .int .i64 ((i4+1+1:Nat):Int)) (L.cX rfl rfl (by omega) (And.intro (by omega) (by omega))) (I.val (v:= .ptr p.aT 0) rfl (I.val (v:= .ptr p.aT 1) (L.bK rfl) (I.bM (row':=[.au p.cr p.to p.aP.length p.cap, .int .i64 ((i4+1+1:Nat):Int), .n d, .int .i64 0, .int .i64 0]) st 1 rfl rfl rfl rfl rfl rfl rfl (fun h st=> ?_)))))))))))))
   have qX:Left p (i4+1+1) (iA.tail).tail:=((XAt.ok pW):XAt p _ 0 0 (.ok iA.tail)).hC.2.2.tail (by rw [km];omega)
   have Ay:=(XAt.ok pW)
   refine I.ak (I.f (.ptr cr 1) (I.b (L.str t.text) (st.aN 0 rfl) ?_))
   have DB:=((XAt.ok pW):XAt p _ 0 0 (.ok iA.tail)).Rr ht hF
   have zO:=DB.bound t.text.length
   rw [List.take_length] at zO
   refine I.bx rfl (Lu D st DB) ?_
   rintro _ h ⟨rfl,st⟩
   refine I.f (.ptr s 2) (I.bM (row':=[L.str x1,L.str bW, .int .i64 (num t.text:Int), .int .i64 (aX p i:Int)]) st 3 rfl rfl rfl rfl rfl rfl rfl (fun h st=> ?_))
   refine I.nil (WP.seq (WP.seq (WP.ad (I.bS (v:= .bool true) rfl (I.nil (WP.cond (t:=true) rfl (WP.ad (I.val (v:= .ptr s 2) (L.bK rfl) (I.val (v:= .int .i64 (num t.text:Int)) (L.fM rfl (st.aN 3 rfl) rfl) (I.val (v:= .int .i64 (-(num t.text:Int))) (L.Yu rfl rfl (And.intro (by omega) (by omega))) (I.val (v:= .ptr s 2) (L.bK rfl) (I.bM (row':=[L.str x1,L.str bW, .int .i64 (-(num t.text:Int)), .int .i64 (aX p i:Int)]) st 3 rfl rfl rfl rfl rfl rfl rfl (fun h st=> ?_)))))))))))))
   refine I.ak (I.bx rfl (ft (s:=[59]) D ((st.pick 2 rfl).pick 2 rfl) (XAt.ok qX)) ?_)
   rintro _ h ⟨dH,rT,i7,rD,tr,rfl,gk,st⟩
   have Az:=gk.ct
   have AA:=gk.at_.lt
   refine I.ak (I.val (v:= .agg [L.str x1,L.str bW, .int .i64 (-(num t.text:Int)), .int .i64 (aX p i:Int)]) (L.ey rfl (st.aN 3 rfl) rfl rfl rfl) (I.bM (row':=[L.str x1,L.str bW, .int .i64 (-(num t.text:Int)), .int .i64 (aX p i:Int)]) st 4 rfl rfl rfl rfl rfl rfl rfl (fun h st=> ?_)))
   refine I.nil (WP.ret ?_)
   exact ⟨_,(cH (eY (l:=[L.str x1,L.str bW, .int .i64 (-(num t.text:Int)), .int .i64 (aX p i:Int)]) rfl (L.eN (st.aN 4 rfl) rfl rfl rfl)) (eX _ _)),⟨x1,bW, -(num t.text:Int),(aX p i)⟩,_,_,_,_,rfl,⟨gk.at_,Par.C4 (fun l e=>hx.here e) q1.res c0.res dG.res ek.res (Par.Rl hm (Par.Rk (k:=num t.text) (neg:=true) (by rw [←km];exact Par.Rj (by rw [km];exact hF)) gk.res)),by omega⟩,(((st.pick 2 rfl).tail.pick 2 rfl).tail.pick 2 rfl).tail⟩
 ·replace st:aq ((p.bX i4 d fZ a4)::p.toks:: .box s [L.str x1,L.str bW, .int .i64 0, .int .i64 (aX p i:Int)]:: .box res [.str 0 0, .str 0 0, .int .i64 0, .int .i64 0]::fs) h:=ca
  refine I.nil (WP.seq (WP.draw (af.v (.ptr p.aT 0) (af.v (.ptr p.aT 0) (af.f (.ptr p.aT 0) (af.b (.au p.cr p.to p.aP.length p.cap) (st.aN 0 rfl) (af.v (.ptr p.aT 0) (af.v (.ptr p.aT 0) (af.f (.ptr p.aT 1) (af.b (.n i4) (st.aN 0 rfl) ?_))))))))))
  obtain ⟨t,ht,cF⟩:=(ek.at_:XAt p i4 _ _ _).row
  refine af.val (v:= .ptr p.cr (p.to+i4 * 3)) (L.bY rfl rfl ek.at_.lt) (af.val (v:= .agg [.n t.kind,L.str t.text, .n t.at_]) (L.da rfl ((st.bt 1 rfl).da cF)) (af.dI st L.alloc (fun cr h st=> ?_)))
  refine af.bM (row':=[.n t.kind,L.str t.text, .n t.at_]) st 0 rfl rfl rfl rfl rfl rfl rfl (fun h st=>rfl) (fun h st=> ?_)
  refine af.nil (WP.seq (WP.ak (I.v (.ptr p.aT 0) (I.f (.ptr p.aT 3) (I.b (.n fZ) (st.aN 1 rfl) (I.ej (L.neq rfl rfl) (fun ce=> ?_) (fun ce=> ?_)))))))
  ·replace ce:fZ≠0:=by omega
   have je:=ek.at_.bad ce
   refine I.no rfl (I.no rfl (I.no rfl (I.aC (.bool true) (I.bI (WP.ak (I.bx rfl (tj (k:=11) D ((st.pick 2 rfl).pick 2 rfl) ek.at_ (by decide)) ?_))))))
   rintro _ h ⟨rfl,tm,tn,oP,gC,st⟩
   refine I.ak (I.val (v:= .agg [L.str x1,L.str bW, .int .i64 0, .int .i64 (aX p i:Int)]) (L.ey rfl (st.aN 3 rfl) rfl rfl rfl) (I.bM (row':=[L.str x1,L.str bW, .int .i64 0, .int .i64 (aX p i:Int)]) st 4 rfl rfl rfl rfl rfl rfl rfl (fun h st=> ?_)))
   refine I.nil (WP.ret ?_)
   exact ⟨_,(cH (eY (l:=[L.str x1,L.str bW, .int .i64 0, .int .i64 (aX p i:Int)]) rfl (L.eN (st.aN 4 rfl) rfl rfl rfl)) (eX _ _)),⟨x1,bW,0,(aX p i)⟩,_,_,_,_,rfl,⟨gC,Par.C4 (fun l e=>hx.here e) q1.res c0.res dG.res ek.res (Par.Lc hm (Par.Lb (fun bu bl=>by rw [je] at bl;cases bl))),by omega⟩,(((st.pick 2 rfl).tail.pick 2 rfl).tail.pick 2 rfl).tail⟩
  ·replace ce:fZ=0:=by omega
   obtain ⟨nW,ym,yn,lk⟩:=ek.at_.fJ ce
   subst ym yn ce
   refine I.yes rfl (I.f (.ptr cr 0) (I.yes rfl (I.b (.n t.kind) (st.aN 0 rfl) (I.yes rfl ?_))))
   have km:=((XAt.ok lk):XAt p i4 0 0 (.ok nW)).aQ ht
   refine I.ej (L.neq rfl rfl) (fun hF=> ?_) (fun hF=> ?_)
   ·replace hF:t.kind≠2:=by omega
    refine I.aC (.bool true) (I.bI (WP.ak (I.bx rfl (tj (k:=11) D ((st.pick 2 rfl).pick 2 rfl) (XAt.ok lk) (by decide)) ?_)))
    rintro _ h ⟨rfl,tm,tn,oP,gC,st⟩
    refine I.ak (I.val (v:= .agg [L.str x1,L.str bW, .int .i64 0, .int .i64 (aX p i:Int)]) (L.ey rfl (st.aN 3 rfl) rfl rfl rfl) (I.bM (row':=[L.str x1,L.str bW, .int .i64 0, .int .i64 (aX p i:Int)]) st 4 rfl rfl rfl rfl rfl rfl rfl (fun h st=> ?_)))
    refine I.nil (WP.ret ?_)
    exact ⟨_,(cH (eY (l:=[L.str x1,L.str bW, .int .i64 0, .int .i64 (aX p i:Int)]) rfl (L.eN (st.aN 4 rfl) rfl rfl rfl)) (eX _ _)),⟨x1,bW,0,(aX p i)⟩,_,_,_,_,rfl,⟨gC,Par.C4 (fun l e=>hx.here e) q1.res c0.res dG.res ek.res (Par.Lc hm (Par.Lb (fun bu bl=>by cases bl;rw [km];exact hF))),by omega⟩,(((st.pick 2 rfl).tail.pick 2 rfl).tail.pick 2 rfl).tail⟩
   ·replace hF:t.kind=2:=by omega
    refine I.bS (v:= .bool false) rfl (I.nil (WP.cond (t:=false) rfl (WP.skip (WP.seq (WP.ad (I.val (v:= .ptr p.aT 0) rfl (I.val (v:= .ptr p.aT 1) (L.bK rfl) (I.val (v:= .n i4) (L.fM rfl (st.aN 1 rfl) rfl) (I.val (v:= .int .i64 ((i4+1:Nat):Int)) (L.cX rfl rfl (by omega) (And.intro (by omega) (by omega))) (I.val (v:= .ptr p.aT 0) rfl (I.val (v:= .ptr p.aT 1) (L.bK rfl) (I.bM (row':=[.au p.cr p.to p.aP.length p.cap, .int .i64 ((i4+1:Nat):Int), .n d, .int .i64 0, .int .i64 0]) st 1 rfl rfl rfl rfl rfl rfl rfl (fun h st=> ?_)))))))))))))
    have yk:Left p (i4+1) (nW).tail:=((XAt.ok lk):XAt p _ 0 0 (.ok nW)).hC.2.2.tail (by rw [km];omega)
    have GW:=(XAt.ok lk)
    refine I.ak (I.f (.ptr cr 1) (I.b (L.str t.text) (st.aN 0 rfl) ?_))
    have DB:=((XAt.ok lk):XAt p _ 0 0 (.ok nW)).Rr ht hF
    have zO:=DB.bound t.text.length
    rw [List.take_length] at zO
    refine I.bx rfl (Lu D st DB) ?_
    rintro _ h ⟨rfl,st⟩
    refine I.f (.ptr s 2) (I.bM (row':=[L.str x1,L.str bW, .int .i64 (num t.text:Int), .int .i64 (aX p i:Int)]) st 3 rfl rfl rfl rfl rfl rfl rfl (fun h st=> ?_))
    refine I.nil (WP.seq (WP.ak (I.aC (.bool false) (I.bw (WP.skip (WP.ak (I.bx rfl (ft (s:=[59]) D ((st.pick 2 rfl).pick 2 rfl) (XAt.ok yk)) ?_)))))))
    rintro _ h ⟨gw,wz,i10,wA,wB,rfl,hG,st⟩
    have Dn:=hG.ct
    have AF:=hG.at_.lt
    refine I.ak (I.val (v:= .agg [L.str x1,L.str bW, .int .i64 (num t.text:Int), .int .i64 (aX p i:Int)]) (L.ey rfl (st.aN 3 rfl) rfl rfl rfl) (I.bM (row':=[L.str x1,L.str bW, .int .i64 (num t.text:Int), .int .i64 (aX p i:Int)]) st 4 rfl rfl rfl rfl rfl rfl rfl (fun h st=> ?_)))
    refine I.nil (WP.ret ?_)
    exact ⟨_,(cH (eY (l:=[L.str x1,L.str bW, .int .i64 (num t.text:Int), .int .i64 (aX p i:Int)]) rfl (L.eN (st.aN 4 rfl) rfl rfl rfl)) (eX _ _)),⟨x1,bW,(num t.text:Int),(aX p i)⟩,_,_,_,_,rfl,⟨hG.at_,Par.C4 (fun l e=>hx.here e) q1.res c0.res dG.res ek.res (Par.Lc hm (Par.Rk (k:=num t.text) (neg:=false) (by rw [←km];exact Par.Rj (by rw [km];exact hF)) hG.res)),by omega⟩,(((st.pick 2 rfl).tail.pick 2 rfl).tail.pick 2 rfl).tail⟩
theorem aeo (D:gj c) {fs:List Fact} {h:ae} {p:dV} {i d e a:Nat} {S:Par.dc} (st:aq (p.bX i d e a::p.toks::fs) h) (hx:XAt p i e a S) (aQ:d≤40):
 bT c 60 [.ptr p.aT 0] h fun v h1=>∃(x:dO) (bU:Par.dc) (cy bF bf:Nat) (row:List V),v= .agg row∧row.length=8∧my p S i (Par.proc d) x bU cy bF bf∧aq (.aE (fun h=>xX h x row)::p.bX cy d bF bf::p.toks::fs) h1:=by
 have ni:=hx.small
 have hlt:=hx.lt
 refine bT.dN D.f60 rfl (WP.ak (I.dI st L.alloc (fun res h st=> ?_)))
 refine I.ak (I.bx rfl (r3 D ((st.pick 2 rfl).pick 2 rfl) hx) ?_)
 rintro _ h ⟨rfl,st⟩
 refine I.bx rfl (mA D st hx) ?_
 rintro _ h ⟨x1,S1,i1,aS,a1,rfl,q1,st⟩
 have mB:=q1.ct
 have qW:=q1.at_.lt
 refine I.val (v:= .agg [L.str x1, .U, .bool false, .str 0 0, .str 0 0, .U, .U, .int .i64 (aX p i:Int)]) (L.build rfl) (I.dI st L.alloc (fun s h st=> ?_))
 refine I.bM (row':=[L.str x1, .U, .bool false, .str 0 0, .str 0 0, .U, .U, .int .i64 (aX p i:Int)]) st 0 rfl rfl rfl rfl rfl rfl rfl (fun h st=> ?_)
 refine I.ak (I.bx rfl (ft (s:=[40]) D ((st.pick 2 rfl).pick 2 rfl) q1.at_) ?_)
 rintro _ h ⟨bR,b9,i2,bl,a2,rfl,c0,st⟩
 have wx:=c0.ct
 have wv:=c0.at_.lt
 replace st:aq (.acc 0 3 .U (([]:List ck).map ck.row):: .acc 0 1 .U (([]:List (List UInt8)).map ik)::(p.bX i2 d bl a2)::p.toks:: .box s [L.str x1, .U, .bool false, .str 0 0, .str 0 0, .U, .U, .int .i64 (aX p i:Int)]:: .box res [.str 0 0, .U, .bool false, .str 0 0, .str 0 0, .U, .U, .int .i64 0]::fs) h:=(st.kE 1).kE 3
 refine I.nil (WP.xo (fun env h=>∃LQ ip Hh ap q2 uU jg z2 z3 z4 dZ,((∀z dW,Par.aB LQ (Par.must [41]) z dW→Par.aB b9 (fun l=>Par.ja Par.oF [41] l []) q2 dW)∧XAt p ip Hh ap LQ∧i2+min bl 1≤ip+min Hh 1)∧env=c6 [.ptr p.aT 0, .ptr res 0,z2,z3,z4, .ptr s 0,dZ] 0 Env.nil∧aq (.box s [L.str x1,jg, .bool false, .str 0 0, .str 0 0, .U, .U, .int .i64 (aX p i:Int)]:: .acc uU 3 jg (q2.map ck.row):: .acc 0 1 .U (([]:List (List UInt8)).map ik):: .box res [.str 0 0, .U, .bool false, .str 0 0, .str 0 0, .U, .U, .int .i64 0]::(p.bX ip d Hh ap)::p.toks::fs) h) ?_ ?_)
 ·refine WP.ak (I.bx rfl (r4 (s:=[41]) D ((st.pick 3 rfl).pick 3 rfl) c0.at_) ?_)
  rintro _ h ⟨rfl,st⟩
  cases St:Par.gf [41] b9
  ·refine I.aC (.bool true) (I.bI (WP.block (WP.dS (α:=Nat) (fun g env h=>∃fu bP cb e7 ef xz iE cN hc qY lb,((∀y bU,Par.aB fu (Par.rS Par.oF [41] g ef xz) y bU→Par.aB b9 (fun l=>Par.ja Par.oF [41] l []) y bU)∧XAt p bP cb e7 fu∧(cb=0→p.aP.length≤bP+g+1)∧xz.length≤bP+min cb 1∧i2+min bl 1≤bP+min cb 1)∧env=c6 [.ptr p.aT 0, .ptr res 0, .bool true,hc,qY, .ptr s 0,lb] 0 Env.nil∧aq (.box s [L.str x1,cN, .bool false, .str 0 0, .str 0 0, .U, .U, .int .i64 (aX p i:Int)]:: .acc iE 3 cN (xz.map ck.row):: .acc 0 1 .U (([]:List (List UInt8)).map ik):: .box res [.str 0 0, .U, .bool false, .str 0 0, .str 0 0, .U, .U, .int .i64 0]::(p.bX bP d cb e7)::p.toks::fs) h) (fun g=>g) (Par.dc.len b9 - 1) ?_ ?_)))
   ·exact ⟨b9,i2,bl,a2,0,[],0, .U, .bot, .bot, .bot,⟨fun _ _ r=>Par.Gq St (fun l e=>by have:=c0.at_;rw [e] at this;exact List.length_pos_iff.2 this.hC.2.2.ne) r,c0.at_,(fun h0=>by have:=c0.at_.fuel h0;omega),Nat.zero_le _,Nat.le_refl _⟩,by kernel_rfl,((((st.pick 5 rfl).pick 4 rfl).pick 4 rfl).pick 5 rfl)⟩
   rintro g _ h ⟨fu,bP,cb,e7,ef,xz,iE,cN,hc,qY,lb,⟨jD,hz,hk,Sv,LR⟩,rfl,st⟩
   have wq:=hz.lt
   have wu:=hz.small
   refine WP.seq (WP.ak (I.v (.ptr p.aT 0) (I.f (.ptr p.aT 3) (I.b (.n cb) (st.aN 4 rfl) (I.bV (L.eql rfl rfl) (fun ce=> ?_) (fun ce=> ?_))))))
   ·replace ce:cb=0:=by omega
    obtain ⟨cC,Dk,aep,wy⟩:=hz.fJ ce
    subst Dk aep ce
    refine I.bI (WP.skip (WP.block (WP.ak (I.bx rfl (r3 D ((st.pick 5 rfl).pick 5 rfl) (XAt.ok wy)) ?_))))
    rintro _ h ⟨rfl,st⟩
    refine I.bx rfl (mA D st (XAt.ok wy)) ?_
    rintro _ h ⟨eM,gv,i4,fZ,a4,rfl,ek,st⟩
    have AE:=ek.ct
    have yj:=ek.at_.lt
    refine I.val (v:= .agg [L.str eM, .str 0 0, .int .i64 (aX p bP:Int)]) (L.build rfl) (I.dI st L.alloc (fun DC h st=> ?_))
    refine I.bM (row':=[L.str eM, .str 0 0, .int .i64 (aX p bP:Int)]) st 0 rfl rfl rfl rfl rfl rfl rfl (fun h st=> ?_)
    refine I.ak (I.bx rfl (ft (s:=[58]) D ((st.pick 2 rfl).pick 2 rfl) ek.at_) ?_)
    rintro _ h ⟨eO,gI,i5,gx,a5,rfl,hY,st⟩
    have GP:=hY.ct
    have Aw:=hY.at_.lt
    refine I.ak (I.bx rfl (mA D st hY.at_) ?_)
    rintro _ h ⟨c4,ki,i6,jY,ts,rfl,gG,st⟩
    have GY:=gG.ct
    have yi:=gG.at_.lt
    refine I.f (.ptr DC 1) (I.bM (row':=[L.str eM,L.str c4, .int .i64 (aX p bP:Int)]) st 2 rfl rfl rfl rfl rfl rfl rfl (fun h st=> ?_))
    refine I.ak (I.f (.ptr s 1) (I.b cN (st.aN 3 rfl) (I.val (v:= .agg [L.str eM,L.str c4, .int .i64 (aX p bP:Int)]) (L.ey rfl (st.aN 2 rfl) rfl rfl rfl) (I.fS (rows:=[[L.str eM,L.str c4, .int .i64 (aX p bP:Int)]]) st rfl (by decide) rfl (by simp) (fun iT h st=> ?_)))))
    refine I.qv st 5 rfl rfl rfl (st.bt 0 rfl) (by decide) (by simp;omega) (fun f7 GO h st=> ?_)
    rw [show (xz.map ck.row)++[[L.str eM,L.str c4,V.int .i64 (aX p bP:Int)]]=(xz++[ck.mk eM c4 (aX p bP)]).map ck.row from by simp [ck.row]] at st
    obtain ⟨lh,rfl⟩:=(st.gh 5 rfl).ne (by simp)
    refine I.f (.ptr s 1) (I.bM (row':=[L.str x1, .au lh 0 (((xz++[ck.mk eM c4 (aX p bP)]).map ck.row).length) none, .bool false, .str 0 0, .str 0 0, .U, .U, .int .i64 (aX p i:Int)]) st 4 rfl rfl rfl rfl rfl rfl rfl (fun h st=> ?_))
    refine I.ak (I.bx rfl (il (s:=[44]) D ((st.pick 2 rfl).pick 2 rfl) gG.at_) ?_)
    rintro _ h (⟨rfl,⟨nW,ym,LF,yn,ll,lk⟩,ca⟩|⟨rfl,ll,ca⟩)
    ·subst ym LF yn
     replace st:aq ((p.bX (i6+1) d 0 0)::p.toks:: .aE (fun h=>Rows 3 h (.au iT 0 1 (some 1)) [[L.str eM,L.str c4, .int .i64 (aX p bP:Int)]]):: .box DC [L.str eM,L.str c4, .int .i64 (aX p bP:Int)]:: .box s [L.str x1, .au lh 0 (((xz++[ck.mk eM c4 (aX p bP)]).map ck.row).length) none, .bool false, .str 0 0, .str 0 0, .U, .U, .int .i64 (aX p i:Int)]:: .acc f7 3 (.au lh 0 ((xz++[ck.mk eM c4 (aX p bP)]).map ck.row).length none) ((xz++[ck.mk eM c4 (aX p bP)]).map ck.row):: .acc 0 1 .U (([]:List (List UInt8)).map ik):: .box res [.str 0 0, .U, .bool false, .str 0 0, .str 0 0, .U, .U, .int .i64 0]::fs) h:=ca
     have Lz:=lk.lt
     obtain ⟨g,rfl⟩:∃m,g=m+1:=⟨g - 1,by omega⟩
     refine I.aC (.bool false) (I.bw (WP.skip ?_))
     exact ⟨g,(Nat.lt_succ_self _),(.ok nW.tail),i6+1,0,0,(ef+1),(xz++[ck.mk eM c4 (aX p bP)]),f7,(.au lh 0 ((xz++[ck.mk eM c4 (aX p bP)]).map ck.row).length none),(.bool true),(.ptr DC 0),(.bool false),⟨fun y bU r=>jD y bU (Par.Gr (by decide) (Par.Rm (fun l e=>hz.here e) ek.res hY.res gG.res) ll r), .ok lk,(by omega),(by simp;omega),(by omega)⟩,by kernel_rfl,((((((st.pick 2 rfl).tail.pick 2 rfl).tail.pick 5 rfl).pick 5 rfl).pick 5 rfl).pick 5 rfl)⟩
    ·replace st:aq ((p.bX i6 d jY ts)::p.toks:: .aE (fun h=>Rows 3 h (.au iT 0 1 (some 1)) [[L.str eM,L.str c4, .int .i64 (aX p bP:Int)]]):: .box DC [L.str eM,L.str c4, .int .i64 (aX p bP:Int)]:: .box s [L.str x1, .au lh 0 (((xz++[ck.mk eM c4 (aX p bP)]).map ck.row).length) none, .bool false, .str 0 0, .str 0 0, .U, .U, .int .i64 (aX p i:Int)]:: .acc f7 3 (.au lh 0 ((xz++[ck.mk eM c4 (aX p bP)]).map ck.row).length none) ((xz++[ck.mk eM c4 (aX p bP)]).map ck.row):: .acc 0 1 .U (([]:List (List UInt8)).map ik):: .box res [.str 0 0, .U, .bool false, .str 0 0, .str 0 0, .U, .U, .int .i64 0]::fs) h:=ca
     refine I.aC (.bool true) (I.bI (WP.exit ?_))
     exact ⟨ki,i6,jY,ts,(xz++[ck.mk eM c4 (aX p bP)]),f7,(.au lh 0 ((xz++[ck.mk eM c4 (aX p bP)]).map ck.row).length none),(.bool true),(.bool true),(.ptr DC 0),(.bool true),⟨fun _ _ w=>jD _ _ (Par.Gs (Par.Rm (fun l e=>hz.here e) ek.res hY.res gG.res) ll w (fun l e=>by have:=gG.at_;rw [e] at this;have a6:=this.hC.1;have cc:=this.hC.2.2.lt;omega)),gG.at_,(by omega)⟩,by kernel_rfl,((((((st.pick 2 rfl).tail.pick 2 rfl).tail.pick 5 rfl).pick 5 rfl).pick 5 rfl).pick 5 rfl)⟩
   ·replace ce:cb≠0:=by omega
    have je:=hz.bad ce
    refine I.bw (WP.exit ?_)
    exact ⟨fu,bP,cb,e7,xz,iE,cN,(.bool true),(.bool false),qY,lb,⟨fun _ _ w=>jD _ _ (Par.aB.any je w),hz,LR⟩,by kernel_rfl,st⟩
  ·refine I.aC (.bool false) (I.bw (WP.skip ?_))
   exact ⟨b9,i2,bl,a2,([]),0, .U,(.bool false), .bot, .bot, .bot,⟨fun _ _ w=>Par.Gp St w,c0.at_,Nat.le_refl _⟩,by kernel_rfl,((((st.pick 5 rfl).pick 4 rfl).pick 4 rfl).pick 5 rfl)⟩
 ·rintro _ h ⟨LQ,ip,Hh,ap,q2,uU,jg,z2,z3,z4,dZ,⟨Sw,Sx,LR⟩,rfl,st⟩
  have aip:=Sx.lt
  refine WP.ak (I.bx rfl (ft (s:=[41]) D ((st.pick 5 rfl).pick 5 rfl) Sx) ?_)
  rintro _ h ⟨ih,Df,i9,pt,a9,rfl,kn,st⟩
  have GR:=kn.ct
  have Dg:=kn.at_.lt
  refine I.nil (WP.xo (fun env h=>∃LS Hi s9 E9 oR oS Hj,((∀x gI,Par.aB LS (Par.k7 d ⟨x1,q2,oR,oS,[],[],[],aX p i⟩) x gI→Par.aB S (Par.proc d) x gI)∧XAt p Hi s9 E9 LS∧i9+min pt 1≤Hi+min s9 1)∧env=c6 [.ptr p.aT 0, .ptr res 0,z2,z3,z4, .ptr s 0,dZ,Hj] 0 Env.nil∧aq (.box s [L.str x1,jg, .bool oR,L.str oS, .str 0 0, .U, .U, .int .i64 (aX p i:Int)]:: .acc uU 3 jg (q2.map ck.row):: .acc 0 1 .U (([]:List (List UInt8)).map ik):: .box res [.str 0 0, .U, .bool false, .str 0 0, .str 0 0, .U, .U, .int .i64 0]::(p.bX Hi d s9 E9)::p.toks::fs) h) ?_ ?_)
  ·refine WP.ak (I.dK rfl (il (s:=[45,62]) D st kn.at_) ?_)
   rintro _ h (⟨rfl,⟨aiq,aeq,aer,aes,LU,Sy⟩,ca⟩|⟨rfl,LU,ca⟩)
   ·subst aeq aer aes
    replace st:aq ((p.bX (i9+1) d 0 0)::p.toks:: .box s [L.str x1,jg, .bool false, .str 0 0, .str 0 0, .U, .U, .int .i64 (aX p i:Int)]:: .acc uU 3 jg (q2.map ck.row):: .acc 0 1 .U (([]:List (List UInt8)).map ik):: .box res [.str 0 0, .U, .bool false, .str 0 0, .str 0 0, .U, .U, .int .i64 0]::fs) h:=ca
    have AF:=Sy.lt
    refine I.bI (WP.ak (I.f (.ptr s 2) (I.bM (row':=[L.str x1,jg, .bool true, .str 0 0, .str 0 0, .U, .U, .int .i64 (aX p i:Int)]) st 2 rfl rfl rfl rfl rfl rfl rfl (fun h st=> ?_))))
    refine I.nil (WP.ad (I.bx rfl (mA D st (XAt.ok Sy)) ?_))
    rintro _ h ⟨k9,GZ,i11,Dp,Dq,rfl,kQ,st⟩
    have LA:=kQ.ct
    have LB:=kQ.at_.lt
    refine I.f (.ptr s 3) (I.bM (row':=[L.str x1,jg, .bool true,L.str k9, .str 0 0, .U, .U, .int .i64 (aX p i:Int)]) st 2 rfl rfl rfl rfl rfl rfl rfl (fun h st=> ?_))
    refine I.nil ?_
    exact ⟨GZ,i11,Dp,Dq,true,k9,(.bool true),⟨fun _ _ v=>Par.ab6 (fun l e=>hx.here e) q1.res c0.res (Sw _ _ kn.res) LU kQ.res v,kQ.at_,(by omega)⟩,by kernel_rfl,((((st.pick 5 rfl).pick 5 rfl).pick 5 rfl).pick 5 rfl)⟩
   ·replace st:aq ((p.bX i9 d pt a9)::p.toks:: .box s [L.str x1,jg, .bool false, .str 0 0, .str 0 0, .U, .U, .int .i64 (aX p i:Int)]:: .acc uU 3 jg (q2.map ck.row):: .acc 0 1 .U (([]:List (List UInt8)).map ik):: .box res [.str 0 0, .U, .bool false, .str 0 0, .str 0 0, .U, .U, .int .i64 0]::fs) h:=ca
    refine I.bw (WP.skip ?_)
    exact ⟨Df,i9,pt,a9,false,([]),(.bool false),⟨fun _ _ v=>Par.ab7 (fun l e=>hx.here e) q1.res c0.res (Sw _ _ kn.res) LU v,kn.at_,(by omega)⟩,by kernel_rfl,((((st.pick 5 rfl).pick 5 rfl).pick 5 rfl).pick 5 rfl)⟩
  ·rintro _ h ⟨LS,Hi,s9,E9,oR,oS,Hj,⟨aet,iU,CB⟩,rfl,st⟩
   have air:=iU.lt
   refine WP.ak (I.bx rfl (ft (s:=[112,99]) D ((st.pick 5 rfl).pick 5 rfl) iU) ?_)
   rintro _ h ⟨pM,Dt,i12,G0,a12,rfl,nX,st⟩
   have Se:=nX.ct
   have LG:=nX.at_.lt
   refine I.ak (I.bx rfl (mA D st nX.at_) ?_)
   rintro _ h ⟨fX,G6,i13,G7,G8,rfl,nY,st⟩
   have LN:=nY.ct
   have Sk:=nY.at_.lt
   refine I.f (.ptr s 4) (I.bM (row':=[L.str x1,jg, .bool oR,L.str oS,L.str fX, .U, .U, .int .i64 (aX p i:Int)]) st 2 rfl rfl rfl rfl rfl rfl rfl (fun h st=> ?_))
   refine I.ak (I.bx rfl (ft (s:=[117,115,101,115]) D st nY.at_) ?_)
   rintro _ h ⟨rW,LH,i14,G1,G2,rfl,lV,st⟩
   have LI:=lV.ct
   have Sf:=lV.at_.lt
   refine I.ak (I.bx rfl (ft (s:=[123]) D st lV.at_) ?_)
   rintro _ h ⟨wj,yq,i15,Dx,LO,rfl,pX,st⟩
   have Sl:=pX.ct
   have adZ:=pX.at_.lt
   refine I.nil (WP.xo (fun env h=>∃Su Hk Hl LV DD Sz yr SA z9 SB,((∀z dW,Par.aB Su (Par.must [125]) z dW→Par.aB yq (fun l=>Par.ja Par.use [125] l []) DD dW)∧XAt p Hk Hl LV Su∧i15+min Dx 1≤Hk+min Hl 1)∧env=c6 [.ptr p.aT 0, .ptr res 0,z2,z3,z4, .ptr s 0,dZ,Hj,SA,z9,SB] 0 Env.nil∧aq (.box s [L.str x1,jg, .bool oR,L.str oS,L.str fX,yr, .U, .int .i64 (aX p i:Int)]:: .acc uU 3 jg (q2.map ck.row):: .acc Sz 1 yr (DD.map ik):: .box res [.str 0 0, .U, .bool false, .str 0 0, .str 0 0, .U, .U, .int .i64 0]::(p.bX Hk d Hl LV)::p.toks::fs) h) ?_ ?_)
   ·refine WP.ak (I.bx rfl (r4 (s:=[125]) D st pX.at_) ?_)
    rintro _ h ⟨rfl,st⟩
    cases SC:Par.gf [125] yq
    ·refine I.aC (.bool true) (I.bI (WP.block (WP.dS (α:=Nat) (fun g env h=>∃fu bP cb e7 ef xz iE cN qU gJ,((∀y bU,Par.aB fu (Par.rS Par.use [125] g ef xz) y bU→Par.aB yq (fun l=>Par.ja Par.use [125] l []) y bU)∧XAt p bP cb e7 fu∧(cb=0→p.aP.length≤bP+g+1)∧xz.length≤bP+min cb 1∧i15+min Dx 1≤bP+min cb 1)∧env=c6 [.ptr p.aT 0, .ptr res 0,z2,z3,z4, .ptr s 0,dZ,Hj, .bool true,qU,gJ] 0 Env.nil∧aq (.box s [L.str x1,jg, .bool oR,L.str oS,L.str fX,cN, .U, .int .i64 (aX p i:Int)]:: .acc uU 3 jg (q2.map ck.row):: .acc iE 1 cN (xz.map ik):: .box res [.str 0 0, .U, .bool false, .str 0 0, .str 0 0, .U, .U, .int .i64 0]::(p.bX bP d cb e7)::p.toks::fs) h) (fun g=>g) (Par.dc.len yq - 1) ?_ ?_)))
     ·exact ⟨yq,i15,Dx,LO,0,[],0, .U, .bot, .bot,⟨fun _ _ r=>Par.Gq SC (fun l e=>by have:=pX.at_;rw [e] at this;exact List.length_pos_iff.2 this.hC.2.2.ne) r,pX.at_,(fun h0=>by have:=pX.at_.fuel h0;omega),Nat.zero_le _,Nat.le_refl _⟩,by kernel_rfl,((((st.pick 5 rfl).pick 5 rfl).pick 5 rfl).pick 5 rfl)⟩
     rintro g _ h ⟨fu,bP,cb,e7,ef,xz,iE,cN,qU,gJ,⟨LW,hz,hk,Sv,LX⟩,rfl,st⟩
     have wq:=hz.lt
     have wu:=hz.small
     refine WP.seq (WP.ak (I.v (.ptr p.aT 0) (I.f (.ptr p.aT 3) (I.b (.n cb) (st.aN 4 rfl) (I.bV (L.eql rfl rfl) (fun ce=> ?_) (fun ce=> ?_))))))
     ·replace ce:cb=0:=by omega
      obtain ⟨Sg,Du,LK,yp⟩:=hz.fJ ce
      subst Du LK ce
      refine I.bI (WP.skip (WP.block (WP.seq (WP.draw (af.f (.ptr s 5) (af.b cN (st.aN 0 rfl) (af.v (.ptr p.aT 0) (af.bx rfl (mA D ((st.pick 5 rfl).pick 5 rfl) (XAt.ok yp)) (fun _ h hp=> ?_) ?_))))))))
      ·obtain ⟨dL,G3,i17,Dv,a17,rfl,lW,st⟩:=hp
       exact hN (jz (L.fM rfl (st.aN 2 rfl) rfl)) (j6 _ _)
      rintro _ h ⟨dL,G3,i17,Dv,a17,rfl,lW,st⟩
      have Sh:=lW.ct
      have Si:=lW.at_.lt
      refine af.fS (rows:=[[L.str dL]]) st rfl (by decide) rfl (by simp) (fun lR h _ st=> ?_)
      refine af.qv st 5 rfl rfl rfl (st.bt 0 rfl) (by decide) (by simp;omega) (fun _ _ h st=>rfl) (fun f18 ais h st=> ?_)
      rw [show (xz.map ik)++[[L.str dL]]=(xz++[dL]).map ik from by simp [ik]] at st
      obtain ⟨yt,rfl⟩:=(st.gh 5 rfl).ne (by simp)
      refine af.f (.ptr s 5) (af.bM (row':=[L.str x1,jg, .bool oR,L.str oS,L.str fX, .au yt 0 (((xz++[dL]).map ik).length) none, .U, .int .i64 (aX p i:Int)]) st 3 rfl rfl rfl rfl rfl rfl rfl (fun h st=>rfl) (fun h st=> ?_))
      refine af.ak (I.bx rfl (il (s:=[44]) D ((st.pick 2 rfl).pick 2 rfl) lW.at_) ?_)
      rintro _ h (⟨rfl,⟨aeu,LP,aev,aew,LY,Dy⟩,ca⟩|⟨rfl,LY,ca⟩)
      ·subst LP aev aew
       replace st:aq ((p.bX (i17+1) d 0 0)::p.toks:: .aE (fun h=>Rows 1 h (.au lR 0 1 (some 1)) [[L.str dL]]):: .box s [L.str x1,jg, .bool oR,L.str oS,L.str fX, .au yt 0 (((xz++[dL]).map ik).length) none, .U, .int .i64 (aX p i:Int)]:: .acc uU 3 jg (q2.map ck.row):: .acc f18 1 (.au yt 0 ((xz++[dL]).map ik).length none) ((xz++[dL]).map ik):: .box res [.str 0 0, .U, .bool false, .str 0 0, .str 0 0, .U, .U, .int .i64 0]::fs) h:=ca
       have Sj:=Dy.lt
       obtain ⟨g,rfl⟩:∃m,g=m+1:=⟨g - 1,by omega⟩
       refine I.aC (.bool false) (I.bw (WP.skip ?_))
       exact ⟨g,(Nat.lt_succ_self _),(.ok aeu.tail),i17+1,0,0,(ef+1),(xz++[dL]),f18,(.au yt 0 ((xz++[dL]).map ik).length none),(.bool true),(.bool false),⟨fun y bU r=>LW y bU (Par.Gr (by decide) (Par.Rn lW.res) LY r), .ok Dy,(by omega),(by simp;omega),(by omega)⟩,by kernel_rfl,(((((st.pick 2 rfl).tail.pick 5 rfl).pick 5 rfl).pick 5 rfl).pick 5 rfl)⟩
      ·replace st:aq ((p.bX i17 d Dv a17)::p.toks:: .aE (fun h=>Rows 1 h (.au lR 0 1 (some 1)) [[L.str dL]]):: .box s [L.str x1,jg, .bool oR,L.str oS,L.str fX, .au yt 0 (((xz++[dL]).map ik).length) none, .U, .int .i64 (aX p i:Int)]:: .acc uU 3 jg (q2.map ck.row):: .acc f18 1 (.au yt 0 ((xz++[dL]).map ik).length none) ((xz++[dL]).map ik):: .box res [.str 0 0, .U, .bool false, .str 0 0, .str 0 0, .U, .U, .int .i64 0]::fs) h:=ca
       refine I.aC (.bool true) (I.bI (WP.exit ?_))
       exact ⟨G3,i17,Dv,a17,(xz++[dL]),f18,(.au yt 0 ((xz++[dL]).map ik).length none),(.bool true),(.bool true),(.bool true),⟨fun _ _ w=>LW _ _ (Par.Gs (Par.Rn lW.res) LY w (fun l e=>by have:=lW.at_;rw [e] at this;have a6:=this.hC.1;have cc:=this.hC.2.2.lt;omega)),lW.at_,(by omega)⟩,by kernel_rfl,(((((st.pick 2 rfl).tail.pick 5 rfl).pick 5 rfl).pick 5 rfl).pick 5 rfl)⟩
     ·replace ce:cb≠0:=by omega
      have je:=hz.bad ce
      refine I.bw (WP.exit ?_)
      exact ⟨fu,bP,cb,e7,xz,iE,cN,(.bool true),(.bool false),gJ,⟨fun _ _ w=>LW _ _ (Par.aB.any je w),hz,LX⟩,by kernel_rfl,st⟩
    ·refine I.aC (.bool false) (I.bw (WP.skip ?_))
     exact ⟨yq,i15,Dx,LO,([]),0, .U,(.bool false), .bot, .bot,⟨fun _ _ w=>Par.Gp SC w,pX.at_,Nat.le_refl _⟩,by kernel_rfl,((((st.pick 5 rfl).pick 5 rfl).pick 5 rfl).pick 5 rfl)⟩
   ·rintro _ h ⟨Su,Hk,Hl,LV,DD,Sz,yr,SA,z9,SB,⟨aex,SD,LX⟩,rfl,st⟩
    have ait:=SD.lt
    refine WP.ak (I.bx rfl (ft (s:=[125]) D ((st.pick 5 rfl).pick 5 rfl) SD) ?_)
    rintro _ h ⟨uR,ad0,i20,ad1,a20,rfl,uS,st⟩
    have Sm:=uS.ct
    have ad2:=uS.at_.lt
    refine I.ak (I.bx rfl (ael D st uS.at_ (by omega)) ?_)
    rintro v21 h ⟨qP,ad3,i21,ad4,a21,uT,st⟩
    have Sn:=uT.ct
    have ad5:=uT.at_.lt
    have aey:=gR.wk (st.bt 0 rfl)
    refine I.f (.ptr s 6) (I.bM (row':=[L.str x1,jg, .bool oR,L.str oS,L.str fX,yr,v21, .int .i64 (aX p i:Int)]) st 3 rfl rfl aey rfl rfl rfl rfl (fun h st=> ?_))
    refine I.ak (I.val (v:= .agg [L.str x1,jg, .bool oR,L.str oS,L.str fX,yr,v21, .int .i64 (aX p i:Int)]) (L.ey rfl (st.aN 3 rfl) rfl rfl rfl) (I.bM (row':=[L.str x1,jg, .bool oR,L.str oS,L.str fX,yr,v21, .int .i64 (aX p i:Int)]) st 6 rfl rfl rfl rfl rfl rfl rfl (fun h st=> ?_)))
    refine I.nil (WP.ret ?_)
    have hM:=mQ.acg (st.gh 5 rfl)
    have s1:=(((((st.pick 3 rfl).tail.pick 5 rfl).tail.pick 4 rfl).pick 4 rfl)).shut (by decide)
    have s2:=((s1.pick 1 rfl).shut (by decide)).and
    have fw:=((s2.pick 1 rfl)).and
    exact ⟨_,(cH (eY (l:=[L.str x1,jg, .bool oR,L.str oS,L.str fX,yr,v21, .int .i64 (aX p i:Int)]) rfl (L.eN (st.aN 6 rfl) rfl rfl rfl)) (eX _ _)),⟨x1,q2,oR,oS,fX,DD,qP,aX p i⟩,_,_,_,_,_,rfl,rfl,⟨uT.at_,(aet _ _ (Par.ab5 nX.res nY.res lV.res pX.res (aex _ _ uS.res) uT.res)),(qM (qM (Nat.le_trans (qM (qM (qM (qM (Nat.le_trans (qM (Nat.le_trans (qM mB wx) LR) GR) CB) Se) LN) LI) Sl) LX) Sm) Sn)⟩,fw.e4 fun h hx=>xX.of hx.2.2 hx.2.1 hx.1 fun e=>hM (by rw [show DD=[] from e];rfl)⟩
end
end Go.Eng.YtmcjcbldmoijiaaGreatDoor
namespace Go.Eng.YtmcjcbldmoijiaaGreatDoor
open Go.Eng
noncomputable section
variable {c:Ctx}
theorem aez (D:gj c) {fs:List Fact} {h:ae} {p:dV} {i d e a:Nat} {S:Par.dc} (st:aq (p.bX i d e a::p.toks::fs) h) (hx:XAt p i e a S) (aQ:d≤40):
 bT c 24 [.ptr p.aT 0] h fun v h1=>∃(x:e0) (bU:Par.dc) (cy bF bf:Nat) (row:List V),v= .agg row∧row.length=5∧my p S i (Par.xY d) x bU cy bF bf∧aq (.aE (fun h=>uF h x row)::p.bX cy d bF bf::p.toks::fs) h1:=by
 have ni:=hx.small
 have hlt:=hx.lt
 refine bT.dN D.f24 rfl (WP.ak (I.dI st L.alloc (fun res h st=> ?_)))
 refine I.ak (I.bx rfl (ft (s:=[109,111,100,117,108,101]) D ((st.pick 2 rfl).pick 2 rfl) hx) ?_)
 rintro _ h ⟨x1,S1,i1,aS,a1,rfl,q1,st⟩
 have mB:=q1.ct
 have qW:=q1.at_.lt
 refine I.ak (I.bx rfl (r3 D st q1.at_) ?_)
 rintro _ h ⟨rfl,st⟩
 refine I.bx rfl (mA D st q1.at_) ?_
 rintro _ h ⟨bR,b9,i2,bl,a2,rfl,c0,st⟩
 have wx:=c0.ct
 have wv:=c0.at_.lt
 refine I.val (v:= .agg [L.str bR, .int .i64 (aX p i1:Int), .U, .U, .U]) (L.build rfl) (I.dI st L.alloc (fun s h st=> ?_))
 refine I.bM (row':=[L.str bR, .int .i64 (aX p i1:Int), .U, .U, .U]) st 0 rfl rfl rfl rfl rfl rfl rfl (fun h st=> ?_)
 refine I.ak (I.bx rfl (ft (s:=[59]) D ((st.pick 2 rfl).pick 2 rfl) c0.at_) ?_)
 rintro _ h ⟨bW,dW,i3,df,a3,rfl,dG,st⟩
 have r6:=dG.ct
 have tp:=dG.at_.lt
 replace st:aq (.acc 0 2 .U (([]:List fV).map fV.row)::(p.bX i3 d df a3)::p.toks:: .box s [L.str bR, .int .i64 (aX p i1:Int), .U, .U, .U]:: .box res [.str 0 0, .int .i64 0, .U, .U, .U]::fs) h:=st.kE 2
 refine I.nil (WP.seq (WP.block (WP.dS (α:=Nat) (fun g env h=>∃fu bP cb e7 xz iE cN fq,((∀y bU,Par.aB fu (fun l=>Par.ke g l xz) y bU→Par.aB dW (fun l=>Par.ke l.length l []) y bU)∧XAt p bP cb e7 fu∧(cb=0→p.aP.length≤bP+g)∧xz.length≤bP+min cb 1∧i3+min df 1≤bP+min cb 1)∧env=c6 [.ptr p.aT 0, .ptr res 0,fq, .ptr s 0] 0 Env.nil∧aq (.box s [L.str bR, .int .i64 (aX p i1:Int),cN, .U, .U]:: .acc iE 2 cN (xz.map fV.row):: .box res [.str 0 0, .int .i64 0, .U, .U, .U]::(p.bX bP d cb e7)::p.toks::fs) h) (fun g=>g) (Par.dc.len dW) ?_ ?_)))
 ·exact ⟨dW,i3,df,a3,[],0, .U, .bot,⟨fun _ _ r=>Par.aB.len (F:=fun n l=>Par.ke n l []) r,dG.at_,dG.at_.fuel,Nat.zero_le _,Nat.le_refl _⟩,by kernel_rfl,(((st.pick 4 rfl).pick 1 rfl).pick 4 rfl)⟩
 rintro g _ h ⟨fu,bP,cb,e7,xz,iE,cN,fq,⟨ay,hz,hk,Sv,r9⟩,rfl,st⟩
 have wq:=hz.lt
 have wu:=hz.small
 refine WP.seq (WP.ak (I.dK rfl (il (s:=[105,109,112,111,114,116]) D ((st.pick 4 rfl).pick 4 rfl) hz) ?_))
 rintro _ h (⟨rfl,⟨dY,aeA,aeB,aeC,himp,Hm⟩,ca⟩|⟨rfl,himp,ca⟩)
 ·subst aeA aeB aeC
  replace st:aq ((p.bX (bP+1) d 0 0)::p.toks:: .box s [L.str bR, .int .i64 (aX p i1:Int),cN, .U, .U]:: .acc iE 2 cN (xz.map fV.row):: .box res [.str 0 0, .int .i64 0, .U, .U, .U]::fs) h:=ca
  have yj:=Hm.lt
  obtain ⟨g,rfl⟩:∃m,g=m+1:=⟨g - 1,by omega⟩
  refine I.bI (WP.skip (WP.block (WP.seq (WP.draw (af.f (.ptr s 2) (af.b cN (st.aN 2 rfl) (af.v (.ptr p.aT 0) (af.v (.ptr p.aT 0) (af.bx rfl (r3 D st (XAt.ok Hm)) (fun _ h hp=> ?_) ?_)))))))))
  ·obtain ⟨rfl,st⟩:=hp
   exact hN (jz (L.fM rfl (st.aN 2 rfl) rfl)) (j6 _ _)
  rintro _ h ⟨rfl,st⟩
  refine af.bx rfl (mA D st (XAt.ok Hm)) (fun _ h hp=> ?_) ?_
  ·obtain ⟨eO,gI,i5,gx,a5,rfl,hY,st⟩:=hp
   exact hN (jz (L.fM rfl (st.aN 2 rfl) rfl)) (j6 _ _)
  rintro _ h ⟨eO,gI,i5,gx,a5,rfl,hY,st⟩
  have GP:=hY.ct
  have Aw:=hY.at_.lt
  refine af.val (v:= .agg [L.str eO, .int .i64 (aX p (bP+1):Int)]) (L.build rfl) (af.fS (rows:=[[L.str eO, .int .i64 (aX p (bP+1):Int)]]) st rfl (by decide) rfl (by simp) (fun iT h _ st=> ?_))
  refine af.qv st 4 rfl rfl rfl (st.bt 0 rfl) (by decide) (by simp;omega) (fun _ _ h st=>rfl) (fun f6 v6 h st=> ?_)
  rw [show (xz.map fV.row)++[[L.str eO,V.int .i64 (aX p (bP+1):Int)]]=(xz++[fV.mk eO (aX p (bP+1))]).map fV.row from by simp [fV.row]] at st
  obtain ⟨GN,rfl⟩:=(st.gh 4 rfl).ne (by simp)
  refine af.f (.ptr s 2) (af.bM (row':=[L.str bR, .int .i64 (aX p i1:Int), .au GN 0 (((xz++[fV.mk eO (aX p (bP+1))]).map fV.row).length) none, .U, .U]) st 3 rfl rfl rfl rfl rfl rfl rfl (fun h st=>rfl) (fun h st=> ?_))
  refine af.nil (WP.ad (I.bx rfl (ft (s:=[59]) D ((st.pick 2 rfl).pick 2 rfl) hY.at_) ?_))
  rintro _ h ⟨dH,rT,i7,rD,tr,rfl,gk,st⟩
  have Az:=gk.ct
  have AA:=gk.at_.lt
  refine I.nil ?_
  exact ⟨g,(Nat.lt_succ_self _),rT,i7,rD,tr,(xz++[fV.mk eO (aX p (bP+1))]),f6,(.au GN 0 ((xz++[fV.mk eO (aX p (bP+1))]).map fV.row).length none),(.bool true),⟨fun y bU r=>ay y bU (Par.ab8 himp Hm.here hY.res gk.res r),gk.at_,(by omega),(by simp;omega),(by omega)⟩,by kernel_rfl,((((st.pick 2 rfl).tail.pick 4 rfl).pick 4 rfl).pick 4 rfl)⟩
 ·replace st:aq ((p.bX bP d cb e7)::p.toks:: .box s [L.str bR, .int .i64 (aX p i1:Int),cN, .U, .U]:: .acc iE 2 cN (xz.map fV.row):: .box res [.str 0 0, .int .i64 0, .U, .U, .U]::fs) h:=ca
  have Fe:=ay _ _ (Par.ab9 (x:=xz) himp (fun l e=>by subst e;have:=hz.hC.1;omega))
  replace st:aq (.acc 0 4 .U (([]:List gd).map gd.row):: .acc 0 8 .U ([]:List (List V)):: .aE (fun h=>hB h ([]) ([]))::(p.bX bP d cb e7)::p.toks:: .box s [L.str bR, .int .i64 (aX p i1:Int),cN, .U, .U]:: .acc iE 2 cN (xz.map fV.row):: .box res [.str 0 0, .int .i64 0, .U, .U, .U]::fs) h:=(((aq.pure st (Q:=True) trivial).e4 (Q:=fun h=>hB h [] []) (fun _ _=>hB.nil)).kE 8).kE 4
  refine I.bw (WP.exit (WP.seq (WP.block (WP.dS (α:=Nat) (fun j env h=>∃LZ np tw Hn ko nq jE tx fm tz dv qY r8 lb,((∀y bU,Par.aB LZ (fun l=>Par.hQ d j l ko nq) y bU→Par.aB fu (fun l=>Par.hQ d l.length l [] []) y bU)∧XAt p np tw Hn LZ∧(tw=0→p.aP.length≤np+j)∧ko.length+jE.length≤np+min tw 1∧bP+min cb 1≤np+min tw 1)∧env=c6 [.ptr p.aT 0, .ptr res 0, .bool false, .ptr s 0,qY,r8,lb] 0 Env.nil∧aq (.box s [L.str bR, .int .i64 (aX p i1:Int),cN,fm,dv]:: .acc iE 2 cN (xz.map fV.row):: .acc tx 4 fm (ko.map gd.row):: .acc tz 8 dv jE:: .aE (fun h=>hB h nq jE):: .box res [.str 0 0, .int .i64 0, .U, .U, .U]::(p.bX np d tw Hn)::p.toks::fs) h) (fun j=>j) (Par.dc.len fu) ?_ ?_))))
  ·exact ⟨fu,bP,cb,e7,[],[],[],0, .U,0, .U, .bot, .bot, .bot,⟨fun _ _ r=>Par.aB.len (F:=fun n l=>Par.hQ d n l [] []) r,hz,hz.fuel,Nat.zero_le _,Nat.le_refl _⟩,by kernel_rfl,((((((st.pick 7 rfl).pick 3 rfl).pick 3 rfl).pick 3 rfl).pick 7 rfl).pick 7 rfl)⟩
  rintro j _ h ⟨LZ,np,tw,Hn,ko,nq,jE,tx,fm,tz,dv,qY,r8,lb,⟨DE,hy,aiu,Ot,SE⟩,rfl,st⟩
  have aiv:=hy.lt
  have aiw:=hy.small
  refine WP.ss (WP.draw (af.v (.ptr p.aT 0) (af.v (.ptr p.aT 0) (af.f (.ptr p.aT 3) (af.b (.n tw) (st.aN 6 rfl) (af.ej (L.eql rfl rfl) (fun _ ce=> ?_) (fun _ ce=> ?_)))))))
  ·replace ce:tw=0:=by omega
   obtain ⟨nW,ym,yn,lk⟩:=hy.fJ ce
   subst ym yn ce
   refine af.v (.bool true) (af.yes rfl (af.v (.ptr p.aT 0) (af.yes rfl (af.v (.ptr p.aT 0) (af.yes rfl (af.f (.ptr p.aT 0) (af.yes rfl (af.b (.au p.cr p.to p.aP.length p.cap) (st.aN 6 rfl) (af.yes rfl (af.v (.ptr p.aT 0) (af.yes rfl (af.v (.ptr p.aT 0) (af.yes rfl (af.f (.ptr p.aT 1) (af.yes rfl (af.b (.n np) (st.aN 6 rfl) (af.yes rfl (af.val (v:= .ptr p.cr (p.to+np * 3)) (L.bY rfl rfl (XAt.ok lk).lt) (af.yes rfl (af.f (.ptr p.cr (p.to+np * 3+0)) (af.yes rfl ?_)))))))))))))))))))))
   obtain ⟨t,ht,cF⟩:=(XAt.ok lk).row
   have km:=(XAt.ok lk).aQ ht
   refine af.val (v:= .int .i64 ((Par.aQ nW).kind:Int)) (by rw [km];exact L.load rfl ((st.bt 7 rfl).xq cF (show _=some _ from rfl))) (af.yes rfl (af.ej (L.neq rfl rfl) (fun _ oQ=> ?_) (fun _ oQ=> ?_)))
   ·replace oQ:(Par.aQ nW).kind≠0:=by omega
    obtain ⟨j,rfl⟩:∃m,j=m+1:=⟨j - 1,by omega⟩
    refine af.aC (.bool true) (af.bI (WP.skip (WP.block (WP.ak (I.dK rfl (il (s:=[118,97,114]) D ((st.pick 7 rfl).pick 7 rfl) (XAt.ok lk)) ?_)))))
    rintro _ h (⟨rfl,⟨adr,GW,_,_,AL,yk⟩,ca⟩|⟨rfl,AL,ca⟩)
    ·cases GW
     replace st:aq ((p.bX (np+1) d 0 0)::p.toks:: .box s [L.str bR, .int .i64 (aX p i1:Int),cN,fm,dv]:: .acc iE 2 cN (xz.map fV.row):: .acc tx 4 fm (ko.map gd.row):: .acc tz 8 dv jE:: .aE (fun h=>hB h nq jE):: .box res [.str 0 0, .int .i64 0, .U, .U, .U]::fs) h:=ca
     have Dg:=yk.lt
     refine I.bI (WP.draw (af.f (.ptr s 3) (af.b fm (st.aN 2 rfl) (af.v (.ptr p.aT 0) (af.bx rfl (aem D st (XAt.ok yk)) (fun _ h hp=> ?_) ?_)))))
     ·obtain ⟨gw,wz,i10,wA,wB,rfl,hG,st⟩:=hp
      exact hN (jz (L.fM rfl (st.aN 2 rfl) rfl)) (j6 _ _)
     rintro _ h ⟨gw,wz,i10,wA,wB,rfl,hG,st⟩
     have Dn:=hG.ct
     have AF:=hG.at_.lt
     refine af.fS (rows:=[[L.str gw.name,L.str gw.label, .int .i64 gw.init, .n gw.at_]]) st rfl (by decide) rfl (by simp) (fun lR h _ st=> ?_)
     refine af.qv st 5 rfl rfl rfl (st.bt 0 rfl) (by decide) (by simp;omega) (fun _ _ h st=>rfl) (fun f11 v11 h st=> ?_)
     rw [show (ko.map gd.row)++[[L.str gw.name,L.str gw.label,V.int .i64 gw.init,V.n gw.at_]]=(ko++[gw]).map gd.row from by simp [gd.row]] at st
     obtain ⟨SF,rfl⟩:=(st.gh 5 rfl).ne (by simp)
     refine af.f (.ptr s 3) (af.bM (row':=[L.str bR, .int .i64 (aX p i1:Int),cN, .au SF 0 (((ko++[gw]).map gd.row).length) none,dv]) st 3 rfl rfl rfl rfl rfl rfl rfl (fun h st=>rfl) (fun h st=> ?_))
     refine af.nil ?_
     exact ⟨j,(Nat.lt_succ_self _),wz,i10,wA,wB,(ko++[gw]),nq,jE,f11,(.au SF 0 ((ko++[gw]).map gd.row).length none),tz,dv,(.bool true),(.bool true),lb,⟨fun y bU r=>DE y bU (Par.aca oQ AL hG.res r),hG.at_,(by omega),(by first|omega|(simp;omega)),(by omega)⟩,by kernel_rfl,((((((st.tail.pick 7 rfl).pick 7 rfl).pick 7 rfl).pick 7 rfl).pick 7 rfl).pick 7 rfl)⟩
    ·replace st:aq ((p.bX np d 0 0)::p.toks:: .box s [L.str bR, .int .i64 (aX p i1:Int),cN,fm,dv]:: .acc iE 2 cN (xz.map fV.row):: .acc tx 4 fm (ko.map gd.row):: .acc tz 8 dv jE:: .aE (fun h=>hB h nq jE):: .box res [.str 0 0, .int .i64 0, .U, .U, .U]::fs) h:=ca
     replace AL:Par.is [118,97,114] nW=false:=AL
     refine I.bw (WP.ak (I.dK rfl (il (s:=[112,114,111,99]) D st (XAt.ok lk)) ?_))
     rintro _ h (⟨rfl,⟨adY,LM,_,_,DF,Dw⟩,ca⟩|⟨rfl,DF,ca⟩)
     ·cases LM
      replace st:aq ((p.bX (np+1) d 0 0)::p.toks:: .box s [L.str bR, .int .i64 (aX p i1:Int),cN,fm,dv]:: .acc iE 2 cN (xz.map fV.row):: .acc tx 4 fm (ko.map gd.row):: .acc tz 8 dv jE:: .aE (fun h=>hB h nq jE):: .box res [.str 0 0, .int .i64 0, .U, .U, .U]::fs) h:=ca
      have LG:=Dw.lt
      refine I.bI (WP.draw (af.f (.ptr s 4) (af.b dv (st.aN 2 rfl) (af.v (.ptr p.aT 0) (af.bx rfl (aeo D st (XAt.ok Dw) (by omega)) (fun _ h hp=> ?_) ?_)))))
      ·obtain ⟨fX,G6,i13,G7,G8,DG,rfl,L0,nY,st⟩:=hp
       exact hN (jz (L.fM rfl (st.aN 3 rfl) rfl)) (j6 _ _)
      rintro _ h ⟨fX,G6,i13,G7,G8,DG,rfl,L0,nY,st⟩
      have LN:=nY.ct
      have Sk:=nY.at_.lt
      refine af.fS (rows:=[DG]) st (KW rfl L0) (by decide) rfl (by simpa using L0) (fun R3 h _ st=> ?_)
      refine af.qv st 7 rfl rfl rfl (st.bt 0 rfl) (by decide) (by simp;omega) (fun _ _ h st=>rfl) (fun f14 jf h st=> ?_)
      obtain ⟨SG,rfl⟩:=(st.gh 7 rfl).ne (by simp)
      replace st:=((((st.pick 8 rfl).pick 2 rfl)).and).e4 (fun h hx=>hx.2.snoc hx.1)
      refine af.f (.ptr s 4) (af.bM (row':=[L.str bR, .int .i64 (aX p i1:Int),cN,fm, .au SG 0 ((jE++[DG]).length) none]) st 4 rfl rfl rfl rfl rfl rfl rfl (fun h st=>rfl) (fun h st=> ?_))
      refine af.nil ?_
      exact ⟨j,(Nat.lt_succ_self _),G6,i13,G7,G8,ko,(nq++[fX]),(jE++[DG]),tx,fm,f14,(.au SG 0 (jE++[DG]).length none),(.bool true),(.bool false),(.bool true),⟨fun y bU r=>DE y bU (Par.acb oQ AL DF nY.res r),nY.at_,(by omega),(by first|omega|(simp;omega)),(by omega)⟩,by kernel_rfl,(((((((st.pick 1 rfl).tail.pick 7 rfl).pick 1 rfl).pick 7 rfl).pick 7 rfl).pick 7 rfl).pick 7 rfl)⟩
     ·replace st:aq ((p.bX np d 0 0)::p.toks:: .box s [L.str bR, .int .i64 (aX p i1:Int),cN,fm,dv]:: .acc iE 2 cN (xz.map fV.row):: .acc tx 4 fm (ko.map gd.row):: .acc tz 8 dv jE:: .aE (fun h=>hB h nq jE):: .box res [.str 0 0, .int .i64 0, .U, .U, .U]::fs) h:=ca
      replace DF:Par.is [112,114,111,99] nW=false:=DF
      refine I.bw (WP.ad (I.bx rfl (tj (k:=11) D st (XAt.ok lk) (by decide)) ?_))
      rintro _ h ⟨rfl,tm,tn,oP,gC,st⟩
      refine I.nil ?_
      exact ⟨j,(Nat.lt_succ_self _),(Par.uK 11 (.ok nW)),np,tm,tn,ko,nq,jE,tx,fm,tz,dv,(.bool true),(.bool false),(.bool false),⟨fun y bU r=>DE y bU (Par.acd oQ AL DF r),gC,(fun h0=>absurd h0 oP),(by first|omega|(simp;omega)),(by omega)⟩,by kernel_rfl,((((((st.pick 7 rfl).pick 7 rfl).pick 7 rfl).pick 7 rfl).pick 7 rfl).pick 7 rfl)⟩
   ·replace oQ:(Par.aQ nW).kind=0:=by omega
    obtain ⟨j,rfl⟩:∃m,j=m+1:=⟨j - 1,by omega⟩
    refine af.aC (.bool false) (af.bw (WP.exit (WP.ak (I.val (v:= .agg [L.str bR, .int .i64 (aX p i1:Int),cN,fm,dv]) (L.ey rfl (st.aN 0 rfl) rfl rfl rfl) (I.bM (row':=[L.str bR, .int .i64 (aX p i1:Int),cN,fm,dv]) st 5 rfl rfl rfl rfl rfl rfl rfl (fun h st=> ?_))))))
    refine I.nil (WP.ret ?_)
    have jR:aq (.acc iE 2 cN (xz.map fV.row):: .acc tx 4 fm (ko.map gd.row):: .acc tz 8 dv jE:: .aE (fun h=>hB h nq jE)::p.bX np d 0 0::p.toks::fs) _:=(st.tail.pick 4 rfl).tail
    have s1:=jR.shut (by decide)
    have s2:=(s1.pick 1 rfl).shut (by decide)
    have fw:=(s2.pick 2 rfl).shut (by decide)
    have iG:=(fw.pick 3 rfl).and
    have jS:=(iG.pick 1 rfl).and
    have sf:=(jS.pick 1 rfl).and
    exact ⟨_,(cH (eY (l:=[L.str bR, .int .i64 (aX p i1:Int),cN,fm,dv]) rfl (L.eN (st.aN 5 rfl) rfl rfl rfl)) (eX _ _)),⟨bR,aX p i1,xz,ko,nq⟩,_,_,_,_,_,rfl,rfl,⟨(XAt.ok lk),(Par.Rq q1.res (fun l e=>q1.at_.here e) c0.res dG.res Fe (DE (ko,nq) _ (Par.ace oQ))),(Nat.le_trans (Nat.le_trans (qM (qM mB wx) r6) r9) SE)⟩,sf.e4 fun h hx=>⟨cN,fm,dv,rfl,hx.1,hx.2.1,jE,hx.2.2.2,hx.2.2.1⟩⟩
  ·replace ce:tw≠0:=by omega
   have je:=hy.bad ce
   refine af.v (.bool false) (af.no rfl (af.no rfl (af.no rfl (af.no rfl (af.no rfl (af.no rfl (af.no rfl (af.no rfl (af.no rfl (af.no rfl (af.no rfl (af.no rfl (af.aC (.bool false) (af.bw (WP.exit (WP.ak (I.val (v:= .agg [L.str bR, .int .i64 (aX p i1:Int),cN,fm,dv]) (L.ey rfl (st.aN 0 rfl) rfl rfl rfl) (I.bM (row':=[L.str bR, .int .i64 (aX p i1:Int),cN,fm,dv]) st 5 rfl rfl rfl rfl rfl rfl rfl (fun h st=> ?_)))))))))))))))))))
   refine I.nil (WP.ret ?_)
   have jR:aq (.acc iE 2 cN (xz.map fV.row):: .acc tx 4 fm (ko.map gd.row):: .acc tz 8 dv jE:: .aE (fun h=>hB h nq jE)::p.bX np d tw Hn::p.toks::fs) _:=(st.tail.pick 4 rfl).tail
   have s1:=jR.shut (by decide)
   have s2:=(s1.pick 1 rfl).shut (by decide)
   have fw:=(s2.pick 2 rfl).shut (by decide)
   have iG:=(fw.pick 3 rfl).and
   have jS:=(iG.pick 1 rfl).and
   have sf:=(jS.pick 1 rfl).and
   exact ⟨_,(cH (eY (l:=[L.str bR, .int .i64 (aX p i1:Int),cN,fm,dv]) rfl (L.eN (st.aN 5 rfl) rfl rfl rfl)) (eX _ _)),⟨bR,aX p i1,xz,ko,nq⟩,_,_,_,_,_,rfl,rfl,⟨hy,(Par.Rq q1.res (fun l e=>q1.at_.here e) c0.res dG.res Fe (DE (ko,nq) _ (by rw [je];rfl))),(Nat.le_trans (Nat.le_trans (qM (qM mB wx) r6) r9) SE)⟩,sf.e4 fun h hx=>⟨cN,fm,dv,rfl,hx.1,hx.2.1,jE,hx.2.2.2,hx.2.2.1⟩⟩
end
end Go.Eng.YtmcjcbldmoijiaaGreatDoor
namespace Go.Eng.YtmcjcbldmoijiaaGreatDoor
open Go.Eng
noncomputable section
variable {c:Ctx}
theorem aeD (D:gj c) {fs:List Fact} {h:ae} {s:List UInt8} (st:aq fs h):
 bT c 7 [L.str s] h fun v h1=>match Par.text s with
  | .ok m=>∃row,v= .dh [.agg row, .int .i64 0, .int .i64 0]∧row.length=5∧aq (.aE (fun h=>uF h m row)::fs) h1
  | .error (e,a)=>e≠0∧v= .dh [.agg [.str 0 0, .int .i64 0, .U, .U, .U], .n e, .n a]∧aq fs h1:=by
 refine bT.dN D.f7 rfl (WP.ak (I.dI st L.alloc (fun res h st=> ?_)))
 refine I.aC (.int .i64 0) (I.aC (.int .i64 0) (I.nil (WP.seq (WP.ad ?_))))
 have av:=R1 (s:=s) D st
 cases jD:Lex.lex s with
 |error z=>
  obtain ⟨ex,r5⟩:=z
  rw [jD] at av
  refine I.bx rfl av ?_
  rintro _ h ⟨rfl,st⟩
  have hex:=QZ jD
  refine I.v .U (I.v (.n ex) (I.v (.n r5) (I.aC .U (I.aC (.n ex) (I.aC (.n r5) (I.nil (WP.seq (WP.ak (I.bV (L.neq rfl rfl) (fun pV=> ?_) (fun pV=>by exfalso;omega))))))))))
  refine I.bI (WP.ak (I.val (v:= .agg [.str 0 0, .int .i64 0, .U, .U, .U]) (L.build rfl) (I.bM (row':=[.str 0 0, .int .i64 0, .U, .U, .U]) st 0 rfl rfl rfl rfl rfl rfl rfl (fun h st=> ?_))))
  refine I.aC (.n ex) (I.aC (.n r5) (I.nil (WP.ret ?_)))
  have cp:Par.text s= .error (ex,r5):=by unfold Par.text;rw [jD]
  rw [cp]
  exact ⟨_,(cH (eY (l:=[.str 0 0, .int .i64 0, .U, .U, .U]) rfl (L.eN (st.aN 0 rfl) rfl rfl rfl)) (cH (fl (v:= .n ex) rfl) (b0 (.n r5)))),hex,rfl,st.tail⟩
 |ok aP=>
  rw [jD] at av
  refine I.bx rfl av ?_
  rintro _ h ⟨y,rfl,st⟩
  obtain ⟨p0,rfl,rfl⟩:=QY st (Gl jD ⟨0,0,0,none,aP⟩ rfl).2
  replace st:aq (.aE (fun h=>Rows 3 h (.au p0.cr p0.to p0.aP.length p0.cap) (p0.aP.map Tok.row)):: .box res [.str 0 0, .int .i64 0, .U, .U, .U]::fs) h:=st
  refine I.v (.au p0.cr p0.to p0.aP.length p0.cap) (I.v (.int .i64 0) (I.v (.int .i64 0) (I.aC (.au p0.cr p0.to p0.aP.length p0.cap) (I.aC (.int .i64 0) (I.aC (.int .i64 0) (I.nil (WP.seq (WP.ak (I.bV (L.neq rfl rfl) (fun pV=>by exfalso;omega) (fun pV=> ?_))))))))))
  refine I.bw (WP.skip (WP.ak (I.val (v:= .agg [.au p0.cr p0.to p0.aP.length p0.cap, .int .i64 0, .int .i64 0, .int .i64 0, .int .i64 0]) (L.build rfl) (I.dI st (L.box (l:=[.au p0.cr p0.to p0.aP.length p0.cap, .int .i64 0, .int .i64 0, .int .i64 0, .int .i64 0]) rfl rfl) (fun aT h st=> ?_)))))
  obtain ⟨p,hp,yb,Db,Dc,Dd,Ls⟩:∃p:dV,p.aP=p0.aP∧p.aT=aT∧p.cr=p0.cr∧p.to=p0.to∧p.cap=p0.cap∧Left p 0 p.aP:=⟨{p0 with aT:=aT},rfl,rfl,rfl,rfl,rfl,(Gl jD {p0 with aT:=aT} rfl).1⟩
  rw [←hp] at jD
  rw [←hp,←yb,←Db,←Dc,←Dd] at st
  rw [←hp,←yb,←Db,←Dc,←Dd]
  replace st:aq ((p.bX 0 0 0 0)::p.toks:: .box res [.str 0 0, .int .i64 0, .U, .U, .U]::fs) h:=st
  refine I.ak (I.bx rfl (aez D st (XAt.ok Ls) (by omega)) ?_)
  rintro _ h ⟨x1,S1,i1,aS,a1,DH,rfl,qk,q1,st⟩
  refine I.dI st L.alloc (fun m2 h st=> ?_)
  refine I.bM (row':=DH) st 0 rfl rfl rfl (by rw [kX];exact qk) rfl rfl (OX qk) (fun h st=> ?_)
  refine I.nil (WP.seq (WP.ak (I.v (.ptr p.aT 0) (I.f (.ptr p.aT 3) (I.b (.n aS) (st.aN 2 rfl) (I.bV (L.neq rfl rfl) (fun ce=> ?_) (fun ce=> ?_)))))))
  ·replace ce:aS≠0:=by omega
   have je:=q1.at_.bad ce
   refine I.bI (WP.seq (WP.draw (af.val (v:= .agg [.str 0 0, .int .i64 0, .U, .U, .U]) (L.build rfl) (af.v (.ptr p.aT 0) (af.v (.ptr p.aT 0) (af.f (.ptr p.aT 3) (af.b (.n aS) (st.aN 2 rfl) (af.v (.ptr p.aT 0) (af.v (.ptr p.aT 0) (af.f (.ptr p.aT 4) (af.b (.n a1) (st.aN 2 rfl) (af.bM (row':=[.str 0 0, .int .i64 0, .U, .U, .U]) st 4 rfl rfl rfl rfl rfl rfl rfl (fun h st=>hN (jz (L.fM rfl (st.aN 2 rfl) rfl)) (hN (jz (L.fM rfl (st.aN 2 rfl) rfl)) (j6 _ _))) (fun h st=> ?_)))))))))))))
   refine af.aC (.n aS) (af.aC (.n a1) (af.nil (WP.ret ?_)))
   have uh:=q1.res
   rw [je] at uh
   have b1:=Par.aB.out uh
   have cp:Par.text s= .error (aS,a1):=by unfold Par.text;rw [jD];simp only [b1]
   rw [cp]
   exact ⟨_,(cH (eY (l:=[.str 0 0, .int .i64 0, .U, .U, .U]) rfl (L.eN (st.aN 4 rfl) rfl rfl rfl)) (cH (fl (v:= .n aS) rfl) (b0 (.n a1)))),(by omega),rfl,st.tail.tail.tail.tail.tail⟩
  ·replace ce:aS=0:=by omega
   obtain ⟨bu,nU,nm,fL⟩:=q1.at_.fJ ce
   subst nU nm ce
   refine I.bw (WP.skip (WP.ak (I.val (v:= .agg DH) (L.ey rfl (st.aN 0 rfl) rfl (by rw [kX,qk];rfl) (OY qk)) (I.bM (row':=DH) st 4 rfl rfl rfl (by rw [kX];exact qk) rfl rfl (OX qk) (fun h st=> ?_)))))
   refine I.aC (.int .i64 0) (I.aC (.int .i64 0) (I.nil (WP.ret ?_)))
   have b1:=Par.aB.out q1.res
   have cp:Par.text s= .ok x1:=by unfold Par.text;rw [jD];simp only [b1]
   rw [cp]
   exact ⟨_,(cH (eY (l:=DH) rfl (L.eN (st.aN 4 rfl) rfl (by rw [kX,qk];rfl) (OY qk))) (cH (fl (v:= .int .i64 0) rfl) (b0 (.int .i64 0)))),DH,rfl,qk,(((st.tail.pick 1 rfl).tail.pick 1 rfl).tail.pick 1 rfl).tail⟩
end
end Go.Eng.YtmcjcbldmoijiaaGreatDoor
