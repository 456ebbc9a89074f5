/- Part of a proof of a law: rules of an evaluator, contracts, plain laws. No condition of its own. -/
import Derived.Test.YtmcjcbldmoijiaaGreatDoorSymA
import Derived.Test.YtmcjcbldmoijiaaGreatDoorConD
import Derived.Test.YtmcjcbldmoijiaaGreatDoorBaseC
import Derived.Test.YtmcjcbldmoijiaaGreatDoorSymL
set_option linter.unusedVariables false
set_option linter.unusedSimpArgs false
namespace Go.Eng.YtmcjcbldmoijiaaGreatDoor
open Go.Eng
noncomputable section
variable {c:Ctx}
structure yB (c:Ctx):Prop where
 f10:T.get 10 c.cE=some i10
 f33:T.get 33 c.cE=some i33
 x:gj c
 i:Lt.L8 c
 o:GG c
 r:uO c
 yes:∀h:ae,bT c 8 [] h fun v h1=>v= .bool true∧h1=h
theorem afv (D:yB c) {fs:List Fact} {h:ae} {s:List UInt8} (st:aq fs h):bT c 7 [L.str s] h fun v h1=>∃w,v= .dh [.agg (CY (oH s) w), .int .i64 (uM s:Int), .int .i64 (GA s:Int)]∧lP (oH s) w∧aq (.aE (fun h=>cA h (oH s) w)::fs) h1:=by
 obtain ⟨v,h1,hr,hp⟩:=aeD (s:=s) D.x st
 refine ⟨v,h1,hr, ?_⟩
 have:∃row,v= .dh [.agg row, .int .i64 (uM s:Int), .int .i64 (GA s:Int)]∧aq (.aE (fun h=>uF h (oH s) row)::fs) h1:=by
  unfold oH uM GA
  cases ay:Par.text s with
  |ok m=>rw [ay] at hp;obtain ⟨row,h1,_,h2⟩:=hp;exact ⟨row,h1,h2⟩
  |error z=>
   obtain ⟨e,a⟩:=z
   rw [ay] at hp
   obtain ⟨_,rfl,st⟩:=hp
   exact ⟨_,rfl,st.wh fun h=>uF.zero h⟩
 obtain ⟨row,rfl,st⟩:=this
 obtain ⟨w,rfl,q1,c0,st⟩:=st.afq
 exact ⟨w,rfl,afs q1 c0,st⟩
theorem afw (D:yB c) {fs:List Fact} {h:ae} {s:List UInt8} (st:aq fs h):bT c 68 [L.str s] h fun v h1=>∃x,v= .dh [x, .int .i64 (qN s:Int), .int .i64 (Aq s:Int)]∧x.dA=some [x]∧aq (.aE (fun h=>fj h x ((jP s).map kS))::fs) h1:=by
 obtain ⟨v,h1,hr,hp⟩:=adi (s:=s) D.x st
 refine ⟨v,h1,hr, ?_⟩
 unfold jP qN Aq
 cases ay:Par.rows s with
 |ok m=>rw [ay] at hp;obtain ⟨x,h1,h2,a6⟩:=hp;exact ⟨x,h1,h2,a6.e4 fun h hx=>fj.pm hx⟩
 |error z=>
  obtain ⟨e,a⟩:=z
  rw [ay] at hp
  obtain ⟨_,rfl,st⟩:=hp
  exact ⟨_,rfl,rfl,st.wh fun h=> .inl ⟨rfl,rfl⟩⟩
theorem afx (s:List UInt8):(jP s).length<2147483648:=by
 unfold jP
 split
 ·rename_i m hm;have:=abo hm;omega
 ·simp
theorem Mh (D:yB c) {fs:List Fact} {h:ae} {s:List UInt8} (st:aq fs h):
 bT c 33 [L.str s] h fun v h1=>∃cg jB dT ei a,v= .dh [.agg ((fv s).num cg jB dT ei), .int .i64 (tC s:Int),a]∧aq (.aE (fun h=>mX h cg jB dT ei (fv s))::fs) h1:=by
 refine bT.dN D.f33 rfl (WP.ak (I.dI st L.alloc (fun b h st=> ?_)))
 refine I.aC (.int .i64 0) (I.aC (.int .i64 0) (I.ak (I.bx rfl (afw D (s:=s) st) ?_)))
 rintro _ h ⟨x,rfl,aiD,st⟩
 have rj:=afx s
 refine I.v x (I.v (.int .i64 (qN s:Int)) (I.v (.int .i64 (Aq s:Int)) (I.aC x (I.aC (.int .i64 (qN s:Int)) (I.aC (.int .i64 (Aq s:Int)) (I.nil (WP.seq (WP.ak (I.bV (L.neq rfl rfl) (fun ce=> ?_) (fun ce=> ?_))))))))))
 ·replace ce:¬qN s=0:=by omega
  refine I.bI (WP.ak (I.val (v:= .agg [.U, .U, .U, .U, .int .i64 0, .int .i64 0]) (L.build rfl) (I.bM (row':=[.U, .U, .U, .U, .int .i64 0, .int .i64 0]) st 1 rfl rfl rfl rfl rfl rfl rfl (fun h st=> ?_))))
  refine I.aC (.int .i64 (qN s:Int)) (I.aC (.int .i64 (Aq s:Int)) (I.nil (WP.ret ?_)))
  rw [show fv s=ie.none from if_neg ce,show tC s=qN s from if_neg ce]
  exact ⟨_,(cH (eY (l:=[.U, .U, .U, .U, .int .i64 0, .int .i64 0]) rfl (L.eN (st.aN 1 rfl) rfl rfl rfl)) (cH (fl (v:= .int .i64 (qN s:Int)) rfl) (b0 (.int .i64 (Aq s:Int))))), .U, .U, .U, .U,_,rfl,aq.wh st.tail.tail fun h=>mX.none h⟩
 ·replace ce:qN s=0:=by omega
  refine I.bw (WP.skip (WP.ak (I.bx rfl (Lt.afe D.i (by rw [List.length_map];exact rj) st) ?_)))
  rintro _ h ⟨cg,jB,dT,ei,rfl,st⟩
  refine I.v (.agg [cg,jB,dT,ei, .int .i64 ((ig (er ((jP s).map kS))).br:Int), .int .i64 ((ig (er ((jP s).map kS))).ag:Int)]) (I.v (.int .i64 ((Lab.made (er ((jP s).map kS))).1:Int)) (I.dI st L.alloc (fun eQ h st=> ?_)))
  refine I.bM (row':=[cg,jB,dT,ei, .int .i64 ((ig (er ((jP s).map kS))).br:Int), .int .i64 ((ig (er ((jP s).map kS))).ag:Int)]) st 0 rfl rfl rfl rfl rfl rfl rfl (fun h st=> ?_)
  refine I.aC (.int .i64 ((Lab.made (er ((jP s).map kS))).1:Int)) (I.ak (I.val (v:= .agg [cg,jB,dT,ei, .int .i64 ((ig (er ((jP s).map kS))).br:Int), .int .i64 ((ig (er ((jP s).map kS))).ag:Int)]) (L.ey rfl (st.aN 0 rfl) rfl rfl rfl) (I.bM (row':=[cg,jB,dT,ei, .int .i64 ((ig (er ((jP s).map kS))).br:Int), .int .i64 ((ig (er ((jP s).map kS))).ag:Int)]) st 3 rfl rfl rfl rfl rfl rfl rfl (fun h st=> ?_))))
  refine I.aC (.int .i64 ((Lab.made (er ((jP s).map kS))).1:Int)) (I.aC (.int .i64 0) (I.nil (WP.ret ?_)))
  rw [show fv s=ig (er ((jP s).map kS)) from if_pos ce,show tC s=(Lab.made (er ((jP s).map kS))).1 from if_pos ce]
  exact ⟨_,(cH (eY (l:=[cg,jB,dT,ei, .int .i64 ((ig (er ((jP s).map kS))).br:Int), .int .i64 ((ig (er ((jP s).map kS))).ag:Int)]) rfl (L.eN (st.aN 3 rfl) rfl rfl rfl)) (cH (fl (v:= .int .i64 ((Lab.made (er ((jP s).map kS))).1:Int)) rfl) (b0 (.int .i64 0)))),cg,jB,dT,ei,_,rfl,((st.tail.pick 1 rfl).tail.pick 1 rfl).tail⟩
theorem Mi (D:yB c) {fs:List Fact} {h:ae} {s:List UInt8} (st:aq fs h):
 bT c 10 [L.str s] h fun v h1=>∃cg jB dT ei,v= .agg ((wC s).num cg jB dT ei)∧aq (.aE (fun h=>mX h cg jB dT ei (wC s))::fs) h1:=by
 refine bT.dN D.f10 rfl (WP.ak (I.dI st L.alloc (fun res h st=> ?_)))
 refine I.ak (I.bx rfl (Mh D (s:=s) st) ?_)
 rintro _ h ⟨oV,uW,yC,yD,pJ,rfl,st⟩
 refine I.v (.agg [oV,uW,yC,yD, .int .i64 ((fv s).br:Int), .int .i64 ((fv s).ag:Int)]) (I.v (.int .i64 (tC s:Int)) (I.v pJ (I.dI st L.alloc (fun cr h st=> ?_))))
 refine I.bM (row':=[oV,uW,yC,yD, .int .i64 ((fv s).br:Int), .int .i64 ((fv s).ag:Int)]) st 0 rfl rfl rfl rfl rfl rfl rfl (fun h st=> ?_)
 refine I.aC (.int .i64 (tC s:Int)) (I.nil (WP.seq (WP.ak (I.ej (L.neq rfl rfl) (fun ce=> ?_) (fun ce=> ?_)))))
 ·replace ce:tC s≠0:=by omega
  refine I.no rfl (I.no rfl (I.no rfl (I.aC (.bool true) (I.bI (WP.ad (I.bx (by kernel_rfl) (Mh D (s:=iF) st) ?_))))))
  rintro _ h ⟨mC,nZ,n0,n1,lj,rfl,st⟩
  refine I.v (.agg [mC,nZ,n0,n1, .int .i64 ((fv iF).br:Int), .int .i64 ((fv iF).ag:Int)]) (I.v (.int .i64 (tC iF:Int)) (I.v lj (I.bM (row':=[mC,nZ,n0,n1, .int .i64 ((fv iF).br:Int), .int .i64 ((fv iF).ag:Int)]) st 1 rfl rfl rfl rfl rfl rfl rfl (fun h st=> ?_))))
  refine I.ak (I.val (v:= .agg [mC,nZ,n0,n1, .int .i64 ((fv iF).br:Int), .int .i64 ((fv iF).ag:Int)]) (L.ey rfl (st.aN 1 rfl) rfl rfl rfl) (I.bM (row':=[mC,nZ,n0,n1, .int .i64 ((fv iF).br:Int), .int .i64 ((fv iF).ag:Int)]) st 3 rfl rfl rfl rfl rfl rfl rfl (fun h st=> ?_)))
  refine I.nil (WP.ret ?_)
  rw [show wC s=fv iF from if_pos (.inl ce)]
  exact ⟨_,(cH (eY (l:=[mC,nZ,n0,n1, .int .i64 ((fv iF).br:Int), .int .i64 ((fv iF).ag:Int)]) rfl (L.eN (st.aN 3 rfl) rfl rfl rfl)) (eX _ _)),_,_,_,_,rfl,(((st.pick 1 rfl).tail.pick 1 rfl).tail.pick 1 rfl).tail⟩
 ·replace ce:¬tC s≠0:=by omega
  refine I.yes rfl (I.v (L.str s) (I.yes rfl (I.val (v:= .n s.length) (L.pq rfl) (I.yes rfl (I.ej (L.gtr rfl rfl) (fun cl=> ?_) (fun cl=> ?_))))))
  ·replace cl:500<s.length:=by omega
   refine I.aC (.bool true) (I.bI (WP.ad (I.bx (by kernel_rfl) (Mh D (s:=iF) st) ?_)))
   rintro _ h ⟨mC,nZ,n0,n1,lj,rfl,st⟩
   refine I.v (.agg [mC,nZ,n0,n1, .int .i64 ((fv iF).br:Int), .int .i64 ((fv iF).ag:Int)]) (I.v (.int .i64 (tC iF:Int)) (I.v lj (I.bM (row':=[mC,nZ,n0,n1, .int .i64 ((fv iF).br:Int), .int .i64 ((fv iF).ag:Int)]) st 1 rfl rfl rfl rfl rfl rfl rfl (fun h st=> ?_))))
   refine I.ak (I.val (v:= .agg [mC,nZ,n0,n1, .int .i64 ((fv iF).br:Int), .int .i64 ((fv iF).ag:Int)]) (L.ey rfl (st.aN 1 rfl) rfl rfl rfl) (I.bM (row':=[mC,nZ,n0,n1, .int .i64 ((fv iF).br:Int), .int .i64 ((fv iF).ag:Int)]) st 3 rfl rfl rfl rfl rfl rfl rfl (fun h st=> ?_)))
   refine I.nil (WP.ret ?_)
   rw [show wC s=fv iF from if_pos (.inr cl)]
   exact ⟨_,(cH (eY (l:=[mC,nZ,n0,n1, .int .i64 ((fv iF).br:Int), .int .i64 ((fv iF).ag:Int)]) rfl (L.eN (st.aN 3 rfl) rfl rfl rfl)) (eX _ _)),_,_,_,_,rfl,(((st.pick 1 rfl).tail.pick 1 rfl).tail.pick 1 rfl).tail⟩
  ·replace cl:¬500<s.length:=by omega
   refine I.aC (.bool false) (I.bw (WP.skip (WP.ak (I.val (v:= .agg [oV,uW,yC,yD, .int .i64 ((fv s).br:Int), .int .i64 ((fv s).ag:Int)]) (L.ey rfl (st.aN 0 rfl) rfl rfl rfl) (I.bM (row':=[oV,uW,yC,yD, .int .i64 ((fv s).br:Int), .int .i64 ((fv s).ag:Int)]) st 2 rfl rfl rfl rfl rfl rfl rfl (fun h st=> ?_))))))
   refine I.nil (WP.ret ?_)
   rw [show wC s=fv s from if_neg (by omega)]
   exact ⟨_,(cH (eY (l:=[oV,uW,yC,yD, .int .i64 ((fv s).br:Int), .int .i64 ((fv s).ag:Int)]) rfl (L.eN (st.aN 2 rfl) rfl rfl rfl)) (eX _ _)),_,_,_,_,rfl,(st.tail.pick 1 rfl).tail⟩
theorem S9 (D:yB c) {fs:List Fact} {h:ae} {a1 ff a2 eQ:V} {vs:List (Fc.aL×Fc.aL)} {aO:List Fc.gi} (hn:vs.length<4294967296) (hm:aO.length<4294967296) (ni:∀g∈aO,g.params.length<4294967296∧g.gp.length<4294967296) (st:aq (.aE (fun h=>nQ h a1 ff vs aO):: .aE (fun h=>nQ h a2 eQ vs aO)::fs) h):bT c 12 [.agg [a1,ff], .agg [a2,eQ]] h fun v h1=>v= .bool true∧aq fs h1:=by
 obtain ⟨gs,h1,s1⟩:=st.S8
 obtain ⟨gt,h2,s2⟩:=((s1.pick 3 rfl)).S8
 have fw:=(((((s2.pick 2 rfl).pick 5 rfl).pick 3 rfl).pick 5 rfl).pick 4 rfl).pick 5 rfl
 exact ac5 D.r hn (by have:=congrArg List.length h1;rw [List.length_map] at this;omega) (h2.trans h1.symm) (by rw [h1];exact ni) fw
end
end Go.Eng.YtmcjcbldmoijiaaGreatDoor
