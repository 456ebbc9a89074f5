/- Part of a proof of a law: rules of an evaluator, contracts, plain laws. No condition of its own. -/
import Derived.Test.YtmcjcbldmoijiaaGreatDoorSymA
import Derived.Test.YtmcjcbldmoijiaaGreatDoorConD
import Derived.Test.YtmcjcbldmoijiaaGreatDoorSymG
set_option linter.unusedVariables false
set_option linter.unusedSimpArgs false
namespace Go.Eng.YtmcjcbldmoijiaaGreatDoor
open Go.Eng
noncomputable section
variable {c:Ctx}
theorem agf (D:gO c) {fs:List Fact} {h:ag} {p:eE} {i d e a:Nat} {S:Par.dz} (st:ak (p.cb i d e a::p.toks::fs) h) (hx:XAt p i e a S):
 bU c 59 [.ptr p.aW 0] h fun v h1=>∃(x:eW) (b7:Par.dz) (cS bN bp:Nat),v= .agg [L.str x.name,L.str x.label, .int .i64 x.init, .n x.at_]∧nx p S i Par.sV x b7 cS bN bp∧ak (p.cb cS d bN bp::p.toks::fs) h1:=by
 have ob:=hx.small
 have hlt:=hx.lt
 refine bU.dR D.f59 rfl (WP.af (I.dq st L.alloc (fun res h st=> ?_)))
 refine I.af (I.bD rfl (s8 D ((st.pick 2 rfl).pick 2 rfl) hx) ?_)
 rintro _ h ⟨rfl,st⟩
 refine I.bD rfl (nA D st hx) ?_
 rintro _ h ⟨x1,S1,i1,aT,a1,rfl,q1,st⟩
 have nB:=q1.cL
 have r3:=q1.at_.lt
 refine I.val (v:= .agg [L.str x1, .str 0 0, .int .i64 0, .int .i64 (a6 p i:Int)]) (L.build rfl) (I.dq st L.alloc (fun s h st=> ?_))
 refine I.cc [L.str x1, .str 0 0, .int .i64 0, .int .i64 (a6 p i:Int)] st 0 rfl (fun h st=> ?_)
 refine I.af (I.bD rfl (fY (s:=[58]) D ((st.pick 2 rfl).pick 2 rfl) q1.at_) ?_)
 rintro _ h ⟨b2,cv,i2,bu,a2,rfl,dn,st⟩
 have xG:=dn.cL
 have xF:=dn.at_.lt
 refine I.af (I.bD rfl (nA D st dn.at_) ?_)
 rintro _ h ⟨b9,ez,i3,dH,a3,rfl,ea,st⟩
 have tb:=ea.cL
 have uG:=ea.at_.lt
 refine I.f (.ptr s 1) (I.cc [L.str x1,L.str b9, .int .i64 0, .int .i64 (a6 p i:Int)] st 2 rfl (fun h st=> ?_))
 refine I.af (I.bD rfl (fY (s:=[61]) D st ea.at_) ?_)
 rintro _ h ⟨ej,gW,i4,gC,a4,rfl,eL,st⟩
 have B9:=eL.cL
 have zw:=eL.at_.lt
 refine I.af (I.dU rfl (iV (s:=[45]) D st eL.at_) ?_)
 rintro _ h (⟨rfl,⟨ji,Fg,agh,NL,hm,qQ⟩,cw⟩|⟨rfl,hm,cw⟩)
 ·subst Fg agh NL
  replace st:ak ((p.cb (i4+1) d 0 0)::p.toks:: .box s [L.str x1,L.str b9, .int .i64 0, .int .i64 (a6 p i:Int)]:: .box res [.str 0 0, .str 0 0, .int .i64 0, .int .i64 0]::fs) h:=cw
  have B3:=qQ.lt
  refine I.nil (WP.seq (WP.draw (ae.v (.ptr p.aW 0) (ae.v (.ptr p.aW 0) (ae.f (.ptr p.aW 0) (ae.b (.av p.ch p.to p.a8.length p.cap) (st.aF 0 rfl) (ae.v (.ptr p.aW 0) (ae.v (.ptr p.aW 0) (ae.f (.ptr p.aW 1) (ae.b (.n (i4+1)) (st.aF 0 rfl) ?_))))))))))
  obtain ⟨t,ht,dh⟩:=((XAt.ok qQ):XAt p (i4+1) _ _ _).row
  refine ae.val (v:= .ptr p.ch (p.to+(i4+1) * 3)) (L.bQ rfl rfl (XAt.ok qQ).lt) (ae.val (v:= .agg [.n t.kind,L.str t.text, .n t.at_]) (L.dd rfl ((st.aS 1 rfl).dd dh)) (ae.dq st L.alloc (fun ch h st=> ?_)))
  refine ae.fV (row':=[.n t.kind,L.str t.text, .n t.at_]) st 0 rfl rfl rfl rfl rfl rfl rfl (fun h st=>rfl) (fun h st=> ?_)
  refine ae.nil (WP.seq (WP.af (I.v (.ptr p.aW 0) (I.f (.ptr p.aW 3) (I.b (.int .i64 0) (st.aF 1 rfl) (I.eo (L.neq rfl rfl) (fun ce=>by exfalso;omega) (fun ce=> ?_)))))))
  refine I.yes rfl (I.f (.ptr ch 0) (I.yes rfl (I.b (.n t.kind) (st.aF 0 rfl) (I.yes rfl ?_))))
  have k6:=((XAt.ok qQ):XAt p (i4+1) 0 0 (.ok ji.tail)).aX ht
  refine I.eo (L.neq rfl rfl) (fun ik=> ?_) (fun ik=> ?_)
  ·replace ik:t.kind≠2:=by omega
   refine I.az (.bool true) (I.bh (WP.af (I.bD rfl (uC (k:=11) D ((st.pick 2 rfl).pick 2 rfl) (XAt.ok qQ) (by decide)) ?_)))
   rintro _ h ⟨rfl,uE,uF,pQ,hi,st⟩
   refine I.af (I.val (v:= .agg [L.str x1,L.str b9, .int .i64 0, .int .i64 (a6 p i:Int)]) (L.eg rfl (st.aF 3 rfl) rfl rfl rfl) (I.cc [L.str x1,L.str b9, .int .i64 0, .int .i64 (a6 p i:Int)] st 4 rfl (fun h st=> ?_)))
   refine I.rt ?_
   exact ⟨_,(cT (fb (l:=[L.str x1,L.str b9, .int .i64 0, .int .i64 (a6 p i:Int)]) rfl (L.e6 (st.aF 4 rfl) rfl rfl rfl)) (fo _ _)),⟨x1,b9,0,(a6 p i)⟩,_,_,_,_,rfl,⟨hi,Par.EE (fun l e=>hx.here e) q1.res dn.res ea.res eL.res (Par.Te hm (Par.M5 (fun bF bu=>by cases bu;rw [k6];exact ik))),by omega⟩,(((st.pick 2 rfl).tail.pick 2 rfl).tail.pick 2 rfl).tail⟩
  ·replace ik:t.kind=2:=by omega
   refine I.az (.bool false) (I.aY (WP.skip (WP.af (I.v (.ptr p.aW 0) (I.f (.ptr p.aW 1) (I.b (.n (i4+1)) (st.aF 1 rfl) (I.val (v:= .n (i4+1+1)) L.cB (I.v (.ptr p.aW 0) (I.f (.ptr p.aW 1) (I.cc [.av p.ch p.to p.a8.length p.cap, .n (i4+1+1), .n d, .int .i64 0, .int .i64 0] st 1 rfl (fun h st=> ?_)))))))))))
   have r4:Left p (i4+1+1) (ji.tail).tail:=((XAt.ok qQ):XAt p _ 0 0 (.ok ji.tail)).ig.2.2.tail (by rw [k6];omega)
   have B5:=(XAt.ok qQ)
   refine I.af (I.f (.ptr ch 1) (I.b (L.str t.text) (st.aF 0 rfl) ?_))
   have Fs:=((XAt.ok qQ):XAt p _ 0 0 (.ok ji.tail)).Tl ht ik
   have Bi:=Fs.bound t.text.length
   rw [List.take_length] at Bi
   refine I.bD rfl (NB D st Fs) ?_
   rintro _ h ⟨rfl,st⟩
   refine I.f (.ptr s 2) (I.cc [L.str x1,L.str b9, .int .i64 (num t.text:Int), .int .i64 (a6 p i:Int)] st 3 rfl (fun h st=> ?_))
   refine I.nil (WP.seq (WP.af (I.az (.bool true) (I.bh (WP.aG (I.f (.ptr s 2) (I.b (.int .i64 (num t.text:Int)) (st.aF 3 rfl) (I.val (v:= .int .i64 (-(num t.text:Int))) (L.Z3 rfl rfl (And.intro (by omega) (by omega))) (I.f (.ptr s 2) (I.cc [L.str x1,L.str b9, .int .i64 (-(num t.text:Int)), .int .i64 (a6 p i:Int)] st 3 rfl (fun h st=> ?_)))))))))))
   refine I.af (I.bD rfl (fY (s:=[59]) D ((st.pick 2 rfl).pick 2 rfl) (XAt.ok r4)) ?_)
   rintro _ h ⟨dc,sZ,i7,sF,uI,rfl,gP,st⟩
   have B6:=gP.cL
   have B7:=gP.at_.lt
   refine I.af (I.val (v:= .agg [L.str x1,L.str b9, .int .i64 (-(num t.text:Int)), .int .i64 (a6 p i:Int)]) (L.eg rfl (st.aF 3 rfl) rfl rfl rfl) (I.cc [L.str x1,L.str b9, .int .i64 (-(num t.text:Int)), .int .i64 (a6 p i:Int)] st 4 rfl (fun h st=> ?_)))
   refine I.rt ?_
   exact ⟨_,(cT (fb (l:=[L.str x1,L.str b9, .int .i64 (-(num t.text:Int)), .int .i64 (a6 p i:Int)]) rfl (L.e6 (st.aF 4 rfl) rfl rfl rfl)) (fo _ _)),⟨x1,b9, -(num t.text:Int),(a6 p i)⟩,_,_,_,_,rfl,⟨gP.at_,Par.EE (fun l e=>hx.here e) q1.res dn.res ea.res eL.res (Par.Te hm (Par.Td (k:=num t.text) (neg:=true) (by rw [←k6];exact Par.Tc (by rw [k6];exact ik)) gP.res)),by omega⟩,(((st.pick 2 rfl).tail.pick 2 rfl).tail.pick 2 rfl).tail⟩
 ·replace st:ak ((p.cb i4 d gC a4)::p.toks:: .box s [L.str x1,L.str b9, .int .i64 0, .int .i64 (a6 p i:Int)]:: .box res [.str 0 0, .str 0 0, .int .i64 0, .int .i64 0]::fs) h:=cw
  refine I.nil (WP.seq (WP.draw (ae.v (.ptr p.aW 0) (ae.v (.ptr p.aW 0) (ae.f (.ptr p.aW 0) (ae.b (.av p.ch p.to p.a8.length p.cap) (st.aF 0 rfl) (ae.v (.ptr p.aW 0) (ae.v (.ptr p.aW 0) (ae.f (.ptr p.aW 1) (ae.b (.n i4) (st.aF 0 rfl) ?_))))))))))
  obtain ⟨t,ht,dh⟩:=(eL.at_:XAt p i4 _ _ _).row
  refine ae.val (v:= .ptr p.ch (p.to+i4 * 3)) (L.bQ rfl rfl eL.at_.lt) (ae.val (v:= .agg [.n t.kind,L.str t.text, .n t.at_]) (L.dd rfl ((st.aS 1 rfl).dd dh)) (ae.dq st L.alloc (fun ch h st=> ?_)))
  refine ae.fV (row':=[.n t.kind,L.str t.text, .n t.at_]) st 0 rfl rfl rfl rfl rfl rfl rfl (fun h st=>rfl) (fun h st=> ?_)
  refine ae.nil (WP.seq (WP.af (I.v (.ptr p.aW 0) (I.f (.ptr p.aW 3) (I.b (.n gC) (st.aF 1 rfl) (I.eo (L.neq rfl rfl) (fun ce=> ?_) (fun ce=> ?_)))))))
  ·replace ce:gC≠0:=by omega
   have jN:=eL.at_.bad ce
   refine I.eP (I.no rfl (I.az (.bool true) (I.bh (WP.af (I.bD rfl (uC (k:=11) D ((st.pick 2 rfl).pick 2 rfl) eL.at_ (by decide)) ?_)))))
   rintro _ h ⟨rfl,uE,uF,pQ,hi,st⟩
   refine I.af (I.val (v:= .agg [L.str x1,L.str b9, .int .i64 0, .int .i64 (a6 p i:Int)]) (L.eg rfl (st.aF 3 rfl) rfl rfl rfl) (I.cc [L.str x1,L.str b9, .int .i64 0, .int .i64 (a6 p i:Int)] st 4 rfl (fun h st=> ?_)))
   refine I.rt ?_
   exact ⟨_,(cT (fb (l:=[L.str x1,L.str b9, .int .i64 0, .int .i64 (a6 p i:Int)]) rfl (L.e6 (st.aF 4 rfl) rfl rfl rfl)) (fo _ _)),⟨x1,b9,0,(a6 p i)⟩,_,_,_,_,rfl,⟨hi,Par.EE (fun l e=>hx.here e) q1.res dn.res ea.res eL.res (Par.M6 hm (Par.M5 (fun bF bu=>by rw [jN] at bu;cases bu))),by omega⟩,(((st.pick 2 rfl).tail.pick 2 rfl).tail.pick 2 rfl).tail⟩
  ·replace ce:gC=0:=by omega
   obtain ⟨oY,zz,zA,l8⟩:=eL.at_.gm ce
   subst zz zA ce
   refine I.yes rfl (I.f (.ptr ch 0) (I.yes rfl (I.b (.n t.kind) (st.aF 0 rfl) (I.yes rfl ?_))))
   have k6:=((XAt.ok l8):XAt p i4 0 0 (.ok oY)).aX ht
   refine I.eo (L.neq rfl rfl) (fun ik=> ?_) (fun ik=> ?_)
   ·replace ik:t.kind≠2:=by omega
    refine I.az (.bool true) (I.bh (WP.af (I.bD rfl (uC (k:=11) D ((st.pick 2 rfl).pick 2 rfl) (XAt.ok l8) (by decide)) ?_)))
    rintro _ h ⟨rfl,uE,uF,pQ,hi,st⟩
    refine I.af (I.val (v:= .agg [L.str x1,L.str b9, .int .i64 0, .int .i64 (a6 p i:Int)]) (L.eg rfl (st.aF 3 rfl) rfl rfl rfl) (I.cc [L.str x1,L.str b9, .int .i64 0, .int .i64 (a6 p i:Int)] st 4 rfl (fun h st=> ?_)))
    refine I.rt ?_
    exact ⟨_,(cT (fb (l:=[L.str x1,L.str b9, .int .i64 0, .int .i64 (a6 p i:Int)]) rfl (L.e6 (st.aF 4 rfl) rfl rfl rfl)) (fo _ _)),⟨x1,b9,0,(a6 p i)⟩,_,_,_,_,rfl,⟨hi,Par.EE (fun l e=>hx.here e) q1.res dn.res ea.res eL.res (Par.M6 hm (Par.M5 (fun bF bu=>by cases bu;rw [k6];exact ik))),by omega⟩,(((st.pick 2 rfl).tail.pick 2 rfl).tail.pick 2 rfl).tail⟩
   ·replace ik:t.kind=2:=by omega
    refine I.az (.bool false) (I.aY (WP.skip (WP.af (I.v (.ptr p.aW 0) (I.f (.ptr p.aW 1) (I.b (.n i4) (st.aF 1 rfl) (I.val (v:= .n (i4+1)) L.cB (I.v (.ptr p.aW 0) (I.f (.ptr p.aW 1) (I.cc [.av p.ch p.to p.a8.length p.cap, .n (i4+1), .n d, .int .i64 0, .int .i64 0] st 1 rfl (fun h st=> ?_)))))))))))
    have zx:Left p (i4+1) (oY).tail:=((XAt.ok l8):XAt p _ 0 0 (.ok oY)).ig.2.2.tail (by rw [k6];omega)
    have IU:=(XAt.ok l8)
    refine I.af (I.f (.ptr ch 1) (I.b (L.str t.text) (st.aF 0 rfl) ?_))
    have Fs:=((XAt.ok l8):XAt p _ 0 0 (.ok oY)).Tl ht ik
    have Bi:=Fs.bound t.text.length
    rw [List.take_length] at Bi
    refine I.bD rfl (NB D st Fs) ?_
    rintro _ h ⟨rfl,st⟩
    refine I.f (.ptr s 2) (I.cc [L.str x1,L.str b9, .int .i64 (num t.text:Int), .int .i64 (a6 p i:Int)] st 3 rfl (fun h st=> ?_))
    refine I.nil (WP.seq (WP.af (I.az (.bool false) (I.aY (WP.skip (WP.af (I.bD rfl (fY (s:=[59]) D ((st.pick 2 rfl).pick 2 rfl) (XAt.ok zx)) ?_)))))))
    rintro _ h ⟨fN,xI,i10,xJ,xK,rfl,il,st⟩
    have Fb:=il.cL
    have Ca:=il.at_.lt
    refine I.af (I.val (v:= .agg [L.str x1,L.str b9, .int .i64 (num t.text:Int), .int .i64 (a6 p i:Int)]) (L.eg rfl (st.aF 3 rfl) rfl rfl rfl) (I.cc [L.str x1,L.str b9, .int .i64 (num t.text:Int), .int .i64 (a6 p i:Int)] st 4 rfl (fun h st=> ?_)))
    refine I.rt ?_
    exact ⟨_,(cT (fb (l:=[L.str x1,L.str b9, .int .i64 (num t.text:Int), .int .i64 (a6 p i:Int)]) rfl (L.e6 (st.aF 4 rfl) rfl rfl rfl)) (fo _ _)),⟨x1,b9,(num t.text:Int),(a6 p i)⟩,_,_,_,_,rfl,⟨il.at_,Par.EE (fun l e=>hx.here e) q1.res dn.res ea.res eL.res (Par.M6 hm (Par.Td (k:=num t.text) (neg:=false) (by rw [←k6];exact Par.Tc (by rw [k6];exact ik)) il.res)),by omega⟩,(((st.pick 2 rfl).tail.pick 2 rfl).tail.pick 2 rfl).tail⟩
theorem agi (D:gO c) {fs:List Fact} {h:ag} {p:eE} {i d e a:Nat} {S:Par.dz} (st:ak (p.cb i d e a::p.toks::fs) h) (hx:XAt p i e a S) (aX:d≤40):
 bU c 60 [.ptr p.aW 0] h fun v h1=>∃(x:eb) (b7:Par.dz) (cS bN bp:Nat) (row:List V),v= .agg row∧row.length=8∧nx p S i (Par.proc d) x b7 cS bN bp∧ak (.ay (fun h=>y8 h x row)::p.cb cS d bN bp::p.toks::fs) h1:=by
 have ob:=hx.small
 have hlt:=hx.lt
 refine bU.dR D.f60 rfl (WP.af (I.dq st L.alloc (fun res h st=> ?_)))
 refine I.af (I.bD rfl (s8 D ((st.pick 2 rfl).pick 2 rfl) hx) ?_)
 rintro _ h ⟨rfl,st⟩
 refine I.bD rfl (nA D st hx) ?_
 rintro _ h ⟨x1,S1,i1,aT,a1,rfl,q1,st⟩
 have nB:=q1.cL
 have r3:=q1.at_.lt
 refine I.val (v:= .agg [L.str x1, .U, .bool false, .str 0 0, .str 0 0, .U, .U, .int .i64 (a6 p i:Int)]) (L.build rfl) (I.dq st L.alloc (fun s h st=> ?_))
 refine I.cc [L.str x1, .U, .bool false, .str 0 0, .str 0 0, .U, .U, .int .i64 (a6 p i:Int)] st 0 rfl (fun h st=> ?_)
 refine I.af (I.bD rfl (fY (s:=[40]) D ((st.pick 2 rfl).pick 2 rfl) q1.at_) ?_)
 rintro _ h ⟨b2,cv,i2,bu,a2,rfl,dn,st⟩
 have xG:=dn.cL
 have xF:=dn.at_.lt
 replace st:ak (.acc 0 3 .U (([]:List cC).map cC.row):: .acc 0 1 .U (([]:List (List UInt8)).map iT)::(p.cb i2 d bu a2)::p.toks:: .box s [L.str x1, .U, .bool false, .str 0 0, .str 0 0, .U, .U, .int .i64 (a6 p i:Int)]:: .box res [.str 0 0, .U, .bool false, .str 0 0, .str 0 0, .U, .U, .int .i64 0]::fs) h:=(st.je 1).je 3
 refine I.nil (WP.yx (fun env h=>∃NZ ip Jf ap r7 vX jP z2 z3 z4 da,((∀z ez,Par.aD NZ (Par.must [41]) z ez→Par.aD cv (fun l=>Par.jL Par.pF [41] l []) r7 ez)∧XAt p ip Jf ap NZ∧i2+min bu 1≤ip+min Jf 1)∧env=cM [.ptr p.aW 0, .ptr res 0,z2,z3,z4, .ptr s 0,da] 0 Env.nil∧ak (.box s [L.str x1,jP, .bool false, .str 0 0, .str 0 0, .U, .U, .int .i64 (a6 p i:Int)]:: .acc vX 3 jP (r7.map cC.row):: .acc 0 1 .U (([]:List (List UInt8)).map iT):: .box res [.str 0 0, .U, .bool false, .str 0 0, .str 0 0, .U, .U, .int .i64 0]::(p.cb ip d Jf ap)::p.toks::fs) h) ?_ ?_)
 ·refine WP.af (I.bD rfl (s9 (s:=[41]) D ((st.pick 3 rfl).pick 3 rfl) dn.at_) ?_)
  rintro _ h ⟨rfl,st⟩
  cases Un:Par.gF [41] cv
  ·refine I.az (.bool true) (I.bh (WP.block (WP.dr (α:=Nat) (fun g env h=>∃fZ b1 cx fH eG xz jl c5 h6 r5 l3,((∀y b7,Par.aD fZ (Par.sY Par.pF [41] g eG xz) y b7→Par.aD cv (fun l=>Par.jL Par.pF [41] l []) y b7)∧XAt p b1 cx fH fZ∧(cx=0→p.a8.length≤b1+g+1)∧xz.length≤b1+min cx 1∧i2+min bu 1≤b1+min cx 1)∧env=cM [.ptr p.aW 0, .ptr res 0, .bool true,h6,r5, .ptr s 0,l3] 0 Env.nil∧ak (.box s [L.str x1,c5, .bool false, .str 0 0, .str 0 0, .U, .U, .int .i64 (a6 p i:Int)]:: .acc jl 3 c5 (xz.map cC.row):: .acc 0 1 .U (([]:List (List UInt8)).map iT):: .box res [.str 0 0, .U, .bool false, .str 0 0, .str 0 0, .U, .U, .int .i64 0]::(p.cb b1 d cx fH)::p.toks::fs) h) (fun g=>g) (Par.dz.len cv - 1) ?_ ?_)))
   ·exact ⟨cv,i2,bu,a2,0,[],0, .U, .bot, .bot, .bot,⟨fun _ _ r=>Par.Ih Un (fun l e=>by have:=dn.at_;rw [e] at this;exact List.length_pos_iff.2 this.ig.2.2.ne) r,dn.at_,(fun h0=>by have:=dn.at_.fuel h0;omega),Nat.zero_le _,Nat.le_refl _⟩,by kernel_rfl,((((st.pick 5 rfl).pick 4 rfl).pick 4 rfl).pick 5 rfl)⟩
   rintro g _ h ⟨fZ,b1,cx,fH,eG,xz,jl,c5,h6,r5,l3,⟨kh,hz,hk,Uo,N0⟩,rfl,st⟩
   have xD:=hz.lt
   have xE:=hz.small
   refine WP.seq (WP.af (I.v (.ptr p.aW 0) (I.f (.ptr p.aW 3) (I.b (.n cx) (st.aF 4 rfl) (I.bR (L.eql rfl rfl) (fun ce=> ?_) (fun ce=> ?_))))))
   ·replace ce:cx=0:=by omega
    obtain ⟨cV,E8,agj,xH⟩:=hz.gm ce
    subst E8 agj ce
    refine I.bh (WP.skip (WP.block (WP.af (I.bD rfl (s8 D ((st.pick 5 rfl).pick 5 rfl) (XAt.ok xH)) ?_))))
    rintro _ h ⟨rfl,st⟩
    refine I.bD rfl (nA D st (XAt.ok xH)) ?_
    rintro _ h ⟨ej,gW,i4,gC,a4,rfl,eL,st⟩
    have B9:=eL.cL
    have zw:=eL.at_.lt
    refine I.val (v:= .agg [L.str ej, .str 0 0, .int .i64 (a6 p b1:Int)]) (L.build rfl) (I.dq st L.alloc (fun Ft h st=> ?_))
    refine I.cc [L.str ej, .str 0 0, .int .i64 (a6 p b1:Int)] st 0 rfl (fun h st=> ?_)
    refine I.af (I.bD rfl (fY (s:=[58]) D ((st.pick 2 rfl).pick 2 rfl) eL.at_) ?_)
    rintro _ h ⟨eN,hG,i5,gY,a5,rfl,iE,st⟩
    have IJ:=iE.cL
    have B3:=iE.at_.lt
    refine I.af (I.bD rfl (nA D st iE.at_) ?_)
    rintro _ h ⟨c3,k2,i6,kL,uJ,rfl,hC,st⟩
    have IW:=hC.cL
    have zv:=hC.at_.lt
    refine I.f (.ptr Ft 1) (I.cc [L.str ej,L.str c3, .int .i64 (a6 p b1:Int)] st 2 rfl (fun h st=> ?_))
    refine I.af (I.f (.ptr s 1) (I.b c5 (st.aF 3 rfl) (I.val (v:= .agg [L.str ej,L.str c3, .int .i64 (a6 p b1:Int)]) (L.eg rfl (st.aF 2 rfl) rfl rfl rfl) (I.eI (rows:=[[L.str ej,L.str c3, .int .i64 (a6 p b1:Int)]]) st rfl (by decide) rfl (by simp) (fun fM h st=> ?_)))))
    refine I.nh st 5 rfl rfl rfl (st.aS 0 rfl) (by decide) (by simp;omega) (fun f7 II h st=> ?_)
    rw [show (xz.map cC.row)++[[L.str ej,L.str c3,V.int .i64 (a6 p b1:Int)]]=(xz++[cC.mk ej c3 (a6 p b1)]).map cC.row from by simp [cC.row]] at st
    obtain ⟨l6,rfl⟩:=(st.et 5 rfl).ne (by simp)
    refine I.f (.ptr s 1) (I.cc [L.str x1, .av l6 0 (((xz++[cC.mk ej c3 (a6 p b1)]).map cC.row).length) none, .bool false, .str 0 0, .str 0 0, .U, .U, .int .i64 (a6 p i:Int)] st 4 rfl (fun h st=> ?_))
    refine I.af (I.bD rfl (iV (s:=[44]) D ((st.pick 2 rfl).pick 2 rfl) hC.at_) ?_)
    rintro _ h (⟨rfl,⟨oY,zz,NM,zA,l9,l8⟩,cw⟩|⟨rfl,l9,cw⟩)
    ·subst zz NM zA
     replace st:ak ((p.cb (i6+1) d 0 0)::p.toks:: .ay (fun h=>Rows 3 h (.av fM 0 1 (some 1)) [[L.str ej,L.str c3, .int .i64 (a6 p b1:Int)]]):: .box Ft [L.str ej,L.str c3, .int .i64 (a6 p b1:Int)]:: .box s [L.str x1, .av l6 0 (((xz++[cC.mk ej c3 (a6 p b1)]).map cC.row).length) none, .bool false, .str 0 0, .str 0 0, .U, .U, .int .i64 (a6 p i:Int)]:: .acc f7 3 (.av l6 0 ((xz++[cC.mk ej c3 (a6 p b1)]).map cC.row).length none) ((xz++[cC.mk ej c3 (a6 p b1)]).map cC.row):: .acc 0 1 .U (([]:List (List UInt8)).map iT):: .box res [.str 0 0, .U, .bool false, .str 0 0, .str 0 0, .U, .U, .int .i64 0]::fs) h:=cw
     have NH:=l8.lt
     obtain ⟨g,rfl⟩:∃m,g=m+1:=⟨g - 1,by omega⟩
     refine I.az (.bool false) (I.aY (WP.skip ?_))
     exact ⟨g,(Nat.lt_succ_self _),(.ok oY.tail),i6+1,0,0,(eG+1),(xz++[cC.mk ej c3 (a6 p b1)]),f7,(.av l6 0 ((xz++[cC.mk ej c3 (a6 p b1)]).map cC.row).length none),(.bool true),(.ptr Ft 0),(.bool false),⟨fun y b7 r=>kh y b7 (Par.Ii (by decide) (Par.Tf (fun l e=>hz.here e) eL.res iE.res hC.res) l9 r), .ok l8,(by omega),(by simp;omega),(by omega)⟩,by kernel_rfl,((((((st.pick 2 rfl).tail.pick 2 rfl).tail.pick 5 rfl).pick 5 rfl).pick 5 rfl).pick 5 rfl)⟩
    ·replace st:ak ((p.cb i6 d kL uJ)::p.toks:: .ay (fun h=>Rows 3 h (.av fM 0 1 (some 1)) [[L.str ej,L.str c3, .int .i64 (a6 p b1:Int)]]):: .box Ft [L.str ej,L.str c3, .int .i64 (a6 p b1:Int)]:: .box s [L.str x1, .av l6 0 (((xz++[cC.mk ej c3 (a6 p b1)]).map cC.row).length) none, .bool false, .str 0 0, .str 0 0, .U, .U, .int .i64 (a6 p i:Int)]:: .acc f7 3 (.av l6 0 ((xz++[cC.mk ej c3 (a6 p b1)]).map cC.row).length none) ((xz++[cC.mk ej c3 (a6 p b1)]).map cC.row):: .acc 0 1 .U (([]:List (List UInt8)).map iT):: .box res [.str 0 0, .U, .bool false, .str 0 0, .str 0 0, .U, .U, .int .i64 0]::fs) h:=cw
     refine I.az (.bool true) (I.bh (WP.exit ?_))
     exact ⟨k2,i6,kL,uJ,(xz++[cC.mk ej c3 (a6 p b1)]),f7,(.av l6 0 ((xz++[cC.mk ej c3 (a6 p b1)]).map cC.row).length none),(.bool true),(.bool true),(.ptr Ft 0),(.bool true),⟨fun _ _ w=>kh _ _ (Par.Ij (Par.Tf (fun l e=>hz.here e) eL.res iE.res hC.res) l9 w (fun l e=>by have:=hC.at_;rw [e] at this;have bj:=this.ig.1;have cy:=this.ig.2.2.lt;omega)),hC.at_,(by omega)⟩,by kernel_rfl,((((((st.pick 2 rfl).tail.pick 2 rfl).tail.pick 5 rfl).pick 5 rfl).pick 5 rfl).pick 5 rfl)⟩
   ·replace ce:cx≠0:=by omega
    have jN:=hz.bad ce
    refine I.aY (WP.exit ?_)
    exact ⟨fZ,b1,cx,fH,xz,jl,c5,(.bool true),(.bool false),r5,l3,⟨fun _ _ w=>kh _ _ (Par.aD.any jN w),hz,N0⟩,by kernel_rfl,st⟩
  ·refine I.az (.bool false) (I.aY (WP.skip ?_))
   exact ⟨cv,i2,bu,a2,([]),0, .U,(.bool false), .bot, .bot, .bot,⟨fun _ _ w=>Par.Ig Un w,dn.at_,Nat.le_refl _⟩,by kernel_rfl,((((st.pick 5 rfl).pick 4 rfl).pick 4 rfl).pick 5 rfl)⟩
 ·rintro _ h ⟨NZ,ip,Jf,ap,r7,vX,jP,z2,z3,z4,da,⟨Up,Uq,N0⟩,rfl,st⟩
  have akF:=Uq.lt
  refine WP.af (I.bD rfl (fY (s:=[41]) D ((st.pick 5 rfl).pick 5 rfl) Uq) ?_)
  rintro _ h ⟨ic,E3,i9,sG,a9,rfl,k7,st⟩
  have IL:=k7.cL
  have E4:=k7.at_.lt
  refine I.nil (WP.yx (fun env h=>∃N1 Jg za G4 pS pT Jh,((∀x hG,Par.aD N1 (Par.lY d ⟨x1,r7,pS,pT,[],[],[],a6 p i⟩) x hG→Par.aD S (Par.proc d) x hG)∧XAt p Jg za G4 N1∧i9+min sG 1≤Jg+min za 1)∧env=cM [.ptr p.aW 0, .ptr res 0,z2,z3,z4, .ptr s 0,da,Jh] 0 Env.nil∧ak (.box s [L.str x1,jP, .bool pS,L.str pT, .str 0 0, .U, .U, .int .i64 (a6 p i:Int)]:: .acc vX 3 jP (r7.map cC.row):: .acc 0 1 .U (([]:List (List UInt8)).map iT):: .box res [.str 0 0, .U, .bool false, .str 0 0, .str 0 0, .U, .U, .int .i64 0]::(p.cb Jg d za G4)::p.toks::fs) h) ?_ ?_)
  ·refine WP.af (I.dU rfl (iV (s:=[45,62]) D st k7.at_) ?_)
   rintro _ h (⟨rfl,⟨akG,agk,agl,agm,N2,Ur⟩,cw⟩|⟨rfl,N2,cw⟩)
   ·subst agk agl agm
    replace st:ak ((p.cb (i9+1) d 0 0)::p.toks:: .box s [L.str x1,jP, .bool false, .str 0 0, .str 0 0, .U, .U, .int .i64 (a6 p i:Int)]:: .acc vX 3 jP (r7.map cC.row):: .acc 0 1 .U (([]:List (List UInt8)).map iT):: .box res [.str 0 0, .U, .bool false, .str 0 0, .str 0 0, .U, .U, .int .i64 0]::fs) h:=cw
    have Ca:=Ur.lt
    refine I.bh (WP.af (I.f (.ptr s 2) (I.cc [L.str x1,jP, .bool true, .str 0 0, .str 0 0, .U, .U, .int .i64 (a6 p i:Int)] st 2 rfl (fun h st=> ?_))))
    refine I.nil (WP.aG (I.bD rfl (nA D st (XAt.ok Ur)) ?_))
    rintro _ h ⟨gX,IX,i11,Fe,Ff,rfl,lJ,st⟩
    have NI:=lJ.cL
    have NJ:=lJ.at_.lt
    refine I.f (.ptr s 3) (I.cc [L.str x1,jP, .bool true,L.str gX, .str 0 0, .U, .U, .int .i64 (a6 p i:Int)] st 2 rfl (fun h st=> ?_))
    refine I.nil ?_
    exact ⟨IX,i11,Fe,Ff,true,gX,(.bool true),⟨fun _ _ v=>Par.adI (fun l e=>hx.here e) q1.res dn.res (Up _ _ k7.res) N2 lJ.res v,lJ.at_,(by omega)⟩,by kernel_rfl,((((st.pick 5 rfl).pick 5 rfl).pick 5 rfl).pick 5 rfl)⟩
   ·replace st:ak ((p.cb i9 d sG a9)::p.toks:: .box s [L.str x1,jP, .bool false, .str 0 0, .str 0 0, .U, .U, .int .i64 (a6 p i:Int)]:: .acc vX 3 jP (r7.map cC.row):: .acc 0 1 .U (([]:List (List UInt8)).map iT):: .box res [.str 0 0, .U, .bool false, .str 0 0, .str 0 0, .U, .U, .int .i64 0]::fs) h:=cw
    refine I.aY (WP.skip ?_)
    exact ⟨E3,i9,sG,a9,false,([]),(.bool false),⟨fun _ _ v=>Par.adJ (fun l e=>hx.here e) q1.res dn.res (Up _ _ k7.res) N2 v,k7.at_,(by omega)⟩,by kernel_rfl,((((st.pick 5 rfl).pick 5 rfl).pick 5 rfl).pick 5 rfl)⟩
  ·rintro _ h ⟨N1,Jg,za,G4,pS,pT,Jh,⟨agn,jG,Ee⟩,rfl,st⟩
   have akH:=jG.lt
   refine WP.af (I.bD rfl (fY (s:=[112,99]) D ((st.pick 5 rfl).pick 5 rfl) jG) ?_)
   rintro _ h ⟨jF,Fi,i12,IY,a12,rfl,oZ,st⟩
   have T9:=oZ.cL
   have NN:=oZ.at_.lt
   refine I.af (I.bD rfl (nA D st oZ.at_) ?_)
   rintro _ h ⟨e2,I4,i13,I5,I6,rfl,o0,st⟩
   have NV:=o0.cL
   have Uf:=o0.at_.lt
   refine I.f (.ptr s 4) (I.cc [L.str x1,jP, .bool pS,L.str pT,L.str e2, .U, .U, .int .i64 (a6 p i:Int)] st 2 rfl (fun h st=> ?_))
   refine I.af (I.bD rfl (fY (s:=[117,115,101,115]) D st o0.at_) ?_)
   rintro _ h ⟨l0,NP,i14,IZ,I0,rfl,mK,st⟩
   have NQ:=mK.cL
   have Ua:=mK.at_.lt
   refine I.af (I.bD rfl (fY (s:=[123]) D st mK.at_) ?_)
   rintro _ h ⟨l1,zD,i15,Fm,NW,rfl,qR,st⟩
   have Ug:=qR.cL
   have afS:=qR.at_.lt
   refine I.nil (WP.yx (fun env h=>∃Su Ji Jj N3 Fu Us zE Ut z9 Uu,((∀z ez,Par.aD Su (Par.must [125]) z ez→Par.aD zD (fun l=>Par.jL Par.use [125] l []) Fu ez)∧XAt p Ji Jj N3 Su∧i15+min Fm 1≤Ji+min Jj 1)∧env=cM [.ptr p.aW 0, .ptr res 0,z2,z3,z4, .ptr s 0,da,Jh,Ut,z9,Uu] 0 Env.nil∧ak (.box s [L.str x1,jP, .bool pS,L.str pT,L.str e2,zE, .U, .int .i64 (a6 p i:Int)]:: .acc vX 3 jP (r7.map cC.row):: .acc Us 1 zE (Fu.map iT):: .box res [.str 0 0, .U, .bool false, .str 0 0, .str 0 0, .U, .U, .int .i64 0]::(p.cb Ji d Jj N3)::p.toks::fs) h) ?_ ?_)
   ·refine WP.af (I.bD rfl (s9 (s:=[125]) D st qR.at_) ?_)
    rintro _ h ⟨rfl,st⟩
    cases Uv:Par.gF [125] zD
    ·refine I.az (.bool true) (I.bh (WP.block (WP.dr (α:=Nat) (fun g env h=>∃fZ b1 cx fH eG xz jl c5 rZ hI,((∀y b7,Par.aD fZ (Par.sY Par.use [125] g eG xz) y b7→Par.aD zD (fun l=>Par.jL Par.use [125] l []) y b7)∧XAt p b1 cx fH fZ∧(cx=0→p.a8.length≤b1+g+1)∧xz.length≤b1+min cx 1∧i15+min Fm 1≤b1+min cx 1)∧env=cM [.ptr p.aW 0, .ptr res 0,z2,z3,z4, .ptr s 0,da,Jh, .bool true,rZ,hI] 0 Env.nil∧ak (.box s [L.str x1,jP, .bool pS,L.str pT,L.str e2,c5, .U, .int .i64 (a6 p i:Int)]:: .acc vX 3 jP (r7.map cC.row):: .acc jl 1 c5 (xz.map iT):: .box res [.str 0 0, .U, .bool false, .str 0 0, .str 0 0, .U, .U, .int .i64 0]::(p.cb b1 d cx fH)::p.toks::fs) h) (fun g=>g) (Par.dz.len zD - 1) ?_ ?_)))
     ·exact ⟨zD,i15,Fm,NW,0,[],0, .U, .bot, .bot,⟨fun _ _ r=>Par.Ih Uv (fun l e=>by have:=qR.at_;rw [e] at this;exact List.length_pos_iff.2 this.ig.2.2.ne) r,qR.at_,(fun h0=>by have:=qR.at_.fuel h0;omega),Nat.zero_le _,Nat.le_refl _⟩,by kernel_rfl,((((st.pick 5 rfl).pick 5 rfl).pick 5 rfl).pick 5 rfl)⟩
     rintro g _ h ⟨fZ,b1,cx,fH,eG,xz,jl,c5,rZ,hI,⟨N4,hz,hk,Uo,N5⟩,rfl,st⟩
     have xD:=hz.lt
     have xE:=hz.small
     refine WP.seq (WP.af (I.v (.ptr p.aW 0) (I.f (.ptr p.aW 3) (I.b (.n cx) (st.aF 4 rfl) (I.bR (L.eql rfl rfl) (fun ce=> ?_) (fun ce=> ?_))))))
     ·replace ce:cx=0:=by omega
      obtain ⟨Ub,Fj,NT,zC⟩:=hz.gm ce
      subst Fj NT ce
      refine I.bh (WP.skip (WP.block (WP.seq (WP.draw (ae.f (.ptr s 5) (ae.b c5 (st.aF 0 rfl) (ae.v (.ptr p.aW 0) (ae.bD rfl (nA D ((st.pick 5 rfl).pick 5 rfl) (XAt.ok zC)) (fun _ h hp=> ?_) ?_))))))))
      ·obtain ⟨dx,I1,i17,Fk,a17,rfl,mL,st⟩:=hp
       exact h3 (ju (L.iM rfl (st.aF 2 rfl) rfl)) (lp _ _)
      rintro _ h ⟨dx,I1,i17,Fk,a17,rfl,mL,st⟩
      have Uc:=mL.cL
      have Ud:=mL.at_.lt
      refine ae.eI (rows:=[[L.str dx]]) st rfl (by decide) rfl (by simp) (fun mG h _ st=> ?_)
      refine ae.nh st 5 rfl rfl rfl (st.aS 0 rfl) (by decide) (by simp;omega) (fun _ _ h st=>rfl) (fun f18 akI h st=> ?_)
      rw [show (xz.map iT)++[[L.str dx]]=(xz++[dx]).map iT from by simp [iT]] at st
      obtain ⟨zF,rfl⟩:=(st.et 5 rfl).ne (by simp)
      refine ae.f (.ptr s 5) (ae.fV (row':=[L.str x1,jP, .bool pS,L.str pT,L.str e2, .av zF 0 (((xz++[dx]).map iT).length) none, .U, .int .i64 (a6 p i:Int)]) st 3 rfl rfl rfl rfl rfl rfl rfl (fun h st=>rfl) (fun h st=> ?_))
      refine ae.af (I.bD rfl (iV (s:=[44]) D ((st.pick 2 rfl).pick 2 rfl) mL.at_) ?_)
      rintro _ h (⟨rfl,⟨ago,NY,agp,agq,N6,Fo⟩,cw⟩|⟨rfl,N6,cw⟩)
      ·subst NY agp agq
       replace st:ak ((p.cb (i17+1) d 0 0)::p.toks:: .ay (fun h=>Rows 1 h (.av mG 0 1 (some 1)) [[L.str dx]]):: .box s [L.str x1,jP, .bool pS,L.str pT,L.str e2, .av zF 0 (((xz++[dx]).map iT).length) none, .U, .int .i64 (a6 p i:Int)]:: .acc vX 3 jP (r7.map cC.row):: .acc f18 1 (.av zF 0 ((xz++[dx]).map iT).length none) ((xz++[dx]).map iT):: .box res [.str 0 0, .U, .bool false, .str 0 0, .str 0 0, .U, .U, .int .i64 0]::fs) h:=cw
       have Ue:=Fo.lt
       obtain ⟨g,rfl⟩:∃m,g=m+1:=⟨g - 1,by omega⟩
       refine I.az (.bool false) (I.aY (WP.skip ?_))
       exact ⟨g,(Nat.lt_succ_self _),(.ok ago.tail),i17+1,0,0,(eG+1),(xz++[dx]),f18,(.av zF 0 ((xz++[dx]).map iT).length none),(.bool true),(.bool false),⟨fun y b7 r=>N4 y b7 (Par.Ii (by decide) (Par.Tg mL.res) N6 r), .ok Fo,(by omega),(by simp;omega),(by omega)⟩,by kernel_rfl,(((((st.pick 2 rfl).tail.pick 5 rfl).pick 5 rfl).pick 5 rfl).pick 5 rfl)⟩
      ·replace st:ak ((p.cb i17 d Fk a17)::p.toks:: .ay (fun h=>Rows 1 h (.av mG 0 1 (some 1)) [[L.str dx]]):: .box s [L.str x1,jP, .bool pS,L.str pT,L.str e2, .av zF 0 (((xz++[dx]).map iT).length) none, .U, .int .i64 (a6 p i:Int)]:: .acc vX 3 jP (r7.map cC.row):: .acc f18 1 (.av zF 0 ((xz++[dx]).map iT).length none) ((xz++[dx]).map iT):: .box res [.str 0 0, .U, .bool false, .str 0 0, .str 0 0, .U, .U, .int .i64 0]::fs) h:=cw
       refine I.az (.bool true) (I.bh (WP.exit ?_))
       exact ⟨I1,i17,Fk,a17,(xz++[dx]),f18,(.av zF 0 ((xz++[dx]).map iT).length none),(.bool true),(.bool true),(.bool true),⟨fun _ _ w=>N4 _ _ (Par.Ij (Par.Tg mL.res) N6 w (fun l e=>by have:=mL.at_;rw [e] at this;have bj:=this.ig.1;have cy:=this.ig.2.2.lt;omega)),mL.at_,(by omega)⟩,by kernel_rfl,(((((st.pick 2 rfl).tail.pick 5 rfl).pick 5 rfl).pick 5 rfl).pick 5 rfl)⟩
     ·replace ce:cx≠0:=by omega
      have jN:=hz.bad ce
      refine I.aY (WP.exit ?_)
      exact ⟨fZ,b1,cx,fH,xz,jl,c5,(.bool true),(.bool false),hI,⟨fun _ _ w=>N4 _ _ (Par.aD.any jN w),hz,N5⟩,by kernel_rfl,st⟩
    ·refine I.az (.bool false) (I.aY (WP.skip ?_))
     exact ⟨zD,i15,Fm,NW,([]),0, .U,(.bool false), .bot, .bot,⟨fun _ _ w=>Par.Ig Uv w,qR.at_,Nat.le_refl _⟩,by kernel_rfl,((((st.pick 5 rfl).pick 5 rfl).pick 5 rfl).pick 5 rfl)⟩
   ·rintro _ h ⟨Su,Ji,Jj,N3,Fu,Us,zE,Ut,z9,Uu,⟨agr,Uw,N5⟩,rfl,st⟩
    have akJ:=Uw.lt
    refine WP.af (I.bD rfl (fY (s:=[125]) D ((st.pick 5 rfl).pick 5 rfl) Uw) ?_)
    rintro _ h ⟨kz,afT,i20,afU,a20,rfl,vV,st⟩
    have Uh:=vV.cL
    have afV:=vV.at_.lt
    refine I.af (I.bD rfl (age D st vV.at_ (by omega)) ?_)
    rintro v21 h ⟨lZ,afW,i21,afX,a21,vW,st⟩
    have Ui:=vW.cL
    have afY:=vW.at_.lt
    have ags:=hS.vQ (st.aS 0 rfl)
    refine I.f (.ptr s 6) (I.fV (row':=[L.str x1,jP, .bool pS,L.str pT,L.str e2,zE,v21, .int .i64 (a6 p i:Int)]) st 3 rfl rfl ags rfl rfl rfl rfl (fun h st=> ?_))
    refine I.af (I.val (v:= .agg [L.str x1,jP, .bool pS,L.str pT,L.str e2,zE,v21, .int .i64 (a6 p i:Int)]) (L.eg rfl (st.aF 3 rfl) rfl rfl rfl) (I.cc [L.str x1,jP, .bool pS,L.str pT,L.str e2,zE,v21, .int .i64 (a6 p i:Int)] st 6 rfl (fun h st=> ?_)))
    refine I.rt ?_
    have gT:=nO.adR (st.et 5 rfl)
    have s1:=(((((st.pick 3 rfl).tail.pick 5 rfl).tail.pick 4 rfl).pick 4 rfl)).shut (by decide)
    have s2:=((s1.pick 1 rfl).shut (by decide)).and
    have gb:=((s2.pick 1 rfl)).and
    exact ⟨_,(cT (fb (l:=[L.str x1,jP, .bool pS,L.str pT,L.str e2,zE,v21, .int .i64 (a6 p i:Int)]) rfl (L.e6 (st.aF 6 rfl) rfl rfl rfl)) (fo _ _)),⟨x1,r7,pS,pT,e2,Fu,lZ,a6 p i⟩,_,_,_,_,_,rfl,rfl,⟨vW.at_,(agn _ _ (Par.adH oZ.res o0.res mK.res qR.res (agr _ _ vV.res) vW.res)),(rS (rS (Nat.le_trans (rS (rS (rS (rS (Nat.le_trans (rS (Nat.le_trans (rS nB xG) N0) IL) Ee) T9) NV) NQ) Ug) N5) Uh) Ui)⟩,gb.fD fun h hx=>y8.of hx.2.2 hx.2.1 hx.1 fun e=>gT (by rw [show Fu=[] from e];rfl)⟩
end
end Go.Eng.YtmcjcbldmoijiaaGreatDoor
namespace Go.Eng.YtmcjcbldmoijiaaGreatDoor
open Go.Eng
noncomputable section
variable {c:Ctx}
theorem agt (D:gO c) {fs:List Fact} {h:ag} {p:eE} {i d e a:Nat} {S:Par.dz} (st:ak (p.cb i d e a::p.toks::fs) h) (hx:XAt p i e a S) (aX:d≤40):
 bU c 24 [.ptr p.aW 0] h fun v h1=>∃(x:eK) (b7:Par.dz) (cS bN bp:Nat) (row:List V),v= .agg row∧row.length=5∧nx p S i (Par.y9 d) x b7 cS bN bp∧ak (.ay (fun h=>vH h x row)::p.cb cS d bN bp::p.toks::fs) h1:=by
 have ob:=hx.small
 have hlt:=hx.lt
 refine bU.dR D.f24 rfl (WP.af (I.dq st L.alloc (fun res h st=> ?_)))
 refine I.af (I.bD rfl (fY (s:=[109,111,100,117,108,101]) D ((st.pick 2 rfl).pick 2 rfl) hx) ?_)
 rintro _ h ⟨x1,S1,i1,aT,a1,rfl,q1,st⟩
 have nB:=q1.cL
 have r3:=q1.at_.lt
 refine I.af (I.bD rfl (s8 D st q1.at_) ?_)
 rintro _ h ⟨rfl,st⟩
 refine I.bD rfl (nA D st q1.at_) ?_
 rintro _ h ⟨b2,cv,i2,bu,a2,rfl,dn,st⟩
 have xG:=dn.cL
 have xF:=dn.at_.lt
 refine I.val (v:= .agg [L.str b2, .int .i64 (a6 p i1:Int), .U, .U, .U]) (L.build rfl) (I.dq st L.alloc (fun s h st=> ?_))
 refine I.cc [L.str b2, .int .i64 (a6 p i1:Int), .U, .U, .U] st 0 rfl (fun h st=> ?_)
 refine I.af (I.bD rfl (fY (s:=[59]) D ((st.pick 2 rfl).pick 2 rfl) dn.at_) ?_)
 rintro _ h ⟨b9,ez,i3,dH,a3,rfl,ea,st⟩
 have tb:=ea.cL
 have uG:=ea.at_.lt
 replace st:ak (.acc 0 2 .U (([]:List gA).map gA.row)::(p.cb i3 d dH a3)::p.toks:: .box s [L.str b2, .int .i64 (a6 p i1:Int), .U, .U, .U]:: .box res [.str 0 0, .int .i64 0, .U, .U, .U]::fs) h:=st.je 2
 refine I.nil (WP.seq (WP.block (WP.dr (α:=Nat) (fun g env h=>∃fZ b1 cx fH xz jl c5 fX,((∀y b7,Par.aD fZ (fun l=>Par.kY g l xz) y b7→Par.aD ez (fun l=>Par.kY l.length l []) y b7)∧XAt p b1 cx fH fZ∧(cx=0→p.a8.length≤b1+g)∧xz.length≤b1+min cx 1∧i3+min dH 1≤b1+min cx 1)∧env=cM [.ptr p.aW 0, .ptr res 0,fX, .ptr s 0] 0 Env.nil∧ak (.box s [L.str b2, .int .i64 (a6 p i1:Int),c5, .U, .U]:: .acc jl 2 c5 (xz.map gA.row):: .box res [.str 0 0, .int .i64 0, .U, .U, .U]::(p.cb b1 d cx fH)::p.toks::fs) h) (fun g=>g) (Par.dz.len ez) ?_ ?_)))
 ·exact ⟨ez,i3,dH,a3,[],0, .U, .bot,⟨fun _ _ r=>Par.aD.len (F:=fun n l=>Par.kY n l []) r,ea.at_,ea.at_.fuel,Nat.zero_le _,Nat.le_refl _⟩,by kernel_rfl,(((st.pick 4 rfl).pick 1 rfl).pick 4 rfl)⟩
 rintro g _ h ⟨fZ,b1,cx,fH,xz,jl,c5,fX,⟨aC,hz,hk,Uo,tf⟩,rfl,st⟩
 have xD:=hz.lt
 have xE:=hz.small
 refine WP.seq (WP.af (I.dU rfl (iV (s:=[105,109,112,111,114,116]) D ((st.pick 4 rfl).pick 4 rfl) hz) ?_))
 rintro _ h (⟨rfl,⟨eC,agu,agv,agw,himp,Jk⟩,cw⟩|⟨rfl,himp,cw⟩)
 ·subst agu agv agw
  replace st:ak ((p.cb (b1+1) d 0 0)::p.toks:: .box s [L.str b2, .int .i64 (a6 p i1:Int),c5, .U, .U]:: .acc jl 2 c5 (xz.map gA.row):: .box res [.str 0 0, .int .i64 0, .U, .U, .U]::fs) h:=cw
  have zw:=Jk.lt
  obtain ⟨g,rfl⟩:∃m,g=m+1:=⟨g - 1,by omega⟩
  refine I.bh (WP.skip (WP.block (WP.seq (WP.draw (ae.f (.ptr s 2) (ae.b c5 (st.aF 2 rfl) (ae.v (.ptr p.aW 0) (ae.v (.ptr p.aW 0) (ae.bD rfl (s8 D st (XAt.ok Jk)) (fun _ h hp=> ?_) ?_)))))))))
  ·obtain ⟨rfl,st⟩:=hp
   exact h3 (ju (L.iM rfl (st.aF 2 rfl) rfl)) (lp _ _)
  rintro _ h ⟨rfl,st⟩
  refine ae.bD rfl (nA D st (XAt.ok Jk)) (fun _ h hp=> ?_) ?_
  ·obtain ⟨eN,hG,i5,gY,a5,rfl,iE,st⟩:=hp
   exact h3 (ju (L.iM rfl (st.aF 2 rfl) rfl)) (lp _ _)
  rintro _ h ⟨eN,hG,i5,gY,a5,rfl,iE,st⟩
  have IJ:=iE.cL
  have B3:=iE.at_.lt
  refine ae.val (v:= .agg [L.str eN, .int .i64 (a6 p (b1+1):Int)]) (L.build rfl) (ae.eI (rows:=[[L.str eN, .int .i64 (a6 p (b1+1):Int)]]) st rfl (by decide) rfl (by simp) (fun fM h _ st=> ?_))
  refine ae.nh st 4 rfl rfl rfl (st.aS 0 rfl) (by decide) (by simp;omega) (fun _ _ h st=>rfl) (fun f6 v6 h st=> ?_)
  rw [show (xz.map gA.row)++[[L.str eN,V.int .i64 (a6 p (b1+1):Int)]]=(xz++[gA.mk eN (a6 p (b1+1))]).map gA.row from by simp [gA.row]] at st
  obtain ⟨IH,rfl⟩:=(st.et 4 rfl).ne (by simp)
  refine ae.f (.ptr s 2) (ae.fV (row':=[L.str b2, .int .i64 (a6 p i1:Int), .av IH 0 (((xz++[gA.mk eN (a6 p (b1+1))]).map gA.row).length) none, .U, .U]) st 3 rfl rfl rfl rfl rfl rfl rfl (fun h st=>rfl) (fun h st=> ?_))
  refine ae.nil (WP.aG (I.bD rfl (fY (s:=[59]) D ((st.pick 2 rfl).pick 2 rfl) iE.at_) ?_))
  rintro _ h ⟨dc,sZ,i7,sF,uI,rfl,gP,st⟩
  have B6:=gP.cL
  have B7:=gP.at_.lt
  refine I.nil ?_
  exact ⟨g,(Nat.lt_succ_self _),sZ,i7,sF,uI,(xz++[gA.mk eN (a6 p (b1+1))]),f6,(.av IH 0 ((xz++[gA.mk eN (a6 p (b1+1))]).map gA.row).length none),(.bool true),⟨fun y b7 r=>aC y b7 (Par.adK himp Jk.here iE.res gP.res r),gP.at_,(by omega),(by simp;omega),(by omega)⟩,by kernel_rfl,((((st.pick 2 rfl).tail.pick 4 rfl).pick 4 rfl).pick 4 rfl)⟩
 ·replace st:ak ((p.cb b1 d cx fH)::p.toks:: .box s [L.str b2, .int .i64 (a6 p i1:Int),c5, .U, .U]:: .acc jl 2 c5 (xz.map gA.row):: .box res [.str 0 0, .int .i64 0, .U, .U, .U]::fs) h:=cw
  have G7:=aC _ _ (Par.adL (x:=xz) himp (fun l e=>by subst e;have:=hz.ig.1;omega))
  replace st:ak (.acc 0 4 .U (([]:List eW).map eW.row):: .acc 0 8 .U ([]:List (List V)):: .ay (fun h=>ie h ([]) ([]))::(p.cb b1 d cx fH)::p.toks:: .box s [L.str b2, .int .i64 (a6 p i1:Int),c5, .U, .U]:: .acc jl 2 c5 (xz.map gA.row):: .box res [.str 0 0, .int .i64 0, .U, .U, .U]::fs) h:=(((ak.pure st (Q:=True) trivial).fD (Q:=fun h=>ie h [] []) (fun _ _=>ie.nil)).je 8).je 4
  refine I.aY (WP.exit (WP.seq (WP.block (WP.dr (α:=Nat) (fun j env h=>∃N7 oh uN Jl k8 oi ki uO eX uP dX r5 td l3,((∀y b7,Par.aD N7 (fun l=>Par.iu d j l k8 oi) y b7→Par.aD fZ (fun l=>Par.iu d l.length l [] []) y b7)∧XAt p oh uN Jl N7∧(uN=0→p.a8.length≤oh+j)∧k8.length+ki.length≤oh+min uN 1∧b1+min cx 1≤oh+min uN 1)∧env=cM [.ptr p.aW 0, .ptr res 0, .bool false, .ptr s 0,r5,td,l3] 0 Env.nil∧ak (.box s [L.str b2, .int .i64 (a6 p i1:Int),c5,eX,dX]:: .acc jl 2 c5 (xz.map gA.row):: .acc uO 4 eX (k8.map eW.row):: .acc uP 8 dX ki:: .ay (fun h=>ie h oi ki):: .box res [.str 0 0, .int .i64 0, .U, .U, .U]::(p.cb oh d uN Jl)::p.toks::fs) h) (fun j=>j) (Par.dz.len fZ) ?_ ?_))))
  ·exact ⟨fZ,b1,cx,fH,[],[],[],0, .U,0, .U, .bot, .bot, .bot,⟨fun _ _ r=>Par.aD.len (F:=fun n l=>Par.iu d n l [] []) r,hz,hz.fuel,Nat.zero_le _,Nat.le_refl _⟩,by kernel_rfl,((((((st.pick 7 rfl).pick 3 rfl).pick 3 rfl).pick 3 rfl).pick 7 rfl).pick 7 rfl)⟩
  rintro j _ h ⟨N7,oh,uN,Jl,k8,oi,ki,uO,eX,uP,dX,r5,td,l3,⟨Fv,hy,akK,Qv,Ux⟩,rfl,st⟩
  have akL:=hy.lt
  have akM:=hy.small
  refine WP.ss (WP.draw (ae.v (.ptr p.aW 0) (ae.v (.ptr p.aW 0) (ae.f (.ptr p.aW 3) (ae.b (.n uN) (st.aF 6 rfl) (ae.eo (L.eql rfl rfl) (fun _ ce=> ?_) (fun _ ce=> ?_)))))))
  ·replace ce:uN=0:=by omega
   obtain ⟨oY,zz,zA,l8⟩:=hy.gm ce
   subst zz zA ce
   refine ae.v (.bool true) (ae.yes rfl (ae.v (.ptr p.aW 0) (ae.yes rfl (ae.v (.ptr p.aW 0) (ae.yes rfl (ae.f (.ptr p.aW 0) (ae.yes rfl (ae.b (.av p.ch p.to p.a8.length p.cap) (st.aF 6 rfl) (ae.yes rfl (ae.v (.ptr p.aW 0) (ae.yes rfl (ae.v (.ptr p.aW 0) (ae.yes rfl (ae.f (.ptr p.aW 1) (ae.yes rfl (ae.b (.n oh) (st.aF 6 rfl) (ae.yes rfl (ae.val (v:= .ptr p.ch (p.to+oh * 3)) (L.bQ rfl rfl (XAt.ok l8).lt) (ae.yes rfl (ae.f (.ptr p.ch (p.to+oh * 3+0)) (ae.yes rfl ?_)))))))))))))))))))))
   obtain ⟨t,ht,dh⟩:=(XAt.ok l8).row
   have k6:=(XAt.ok l8).aX ht
   refine ae.val (v:= .int .i64 ((Par.aX oY).kind:Int)) (by rw [k6];exact L.load rfl ((st.aS 7 rfl).yy dh (show _=some _ from rfl))) (ae.yes rfl (ae.eo (L.neq rfl rfl) (fun _ pR=> ?_) (fun _ pR=> ?_)))
   ·replace pR:(Par.aX oY).kind≠0:=by omega
    obtain ⟨j,rfl⟩:∃m,j=m+1:=⟨j - 1,by omega⟩
    refine ae.az (.bool true) (ae.bh (WP.skip (WP.block (WP.af (I.dU rfl (iV (s:=[118,97,114]) D ((st.pick 7 rfl).pick 7 rfl) (XAt.ok l8)) ?_)))))
    rintro _ h (⟨rfl,⟨afn,IU,_,_,Cf,zx⟩,cw⟩|⟨rfl,Cf,cw⟩)
    ·cases IU
     replace st:ak ((p.cb (oh+1) d 0 0)::p.toks:: .box s [L.str b2, .int .i64 (a6 p i1:Int),c5,eX,dX]:: .acc jl 2 c5 (xz.map gA.row):: .acc uO 4 eX (k8.map eW.row):: .acc uP 8 dX ki:: .ay (fun h=>ie h oi ki):: .box res [.str 0 0, .int .i64 0, .U, .U, .U]::fs) h:=cw
     have E4:=zx.lt
     refine I.bh (WP.draw (ae.f (.ptr s 3) (ae.b eX (st.aF 2 rfl) (ae.v (.ptr p.aW 0) (ae.bD rfl (agf D st (XAt.ok zx)) (fun _ h hp=> ?_) ?_)))))
     ·obtain ⟨fN,xI,i10,xJ,xK,rfl,il,st⟩:=hp
      exact h3 (ju (L.iM rfl (st.aF 2 rfl) rfl)) (lp _ _)
     rintro _ h ⟨fN,xI,i10,xJ,xK,rfl,il,st⟩
     have Fb:=il.cL
     have Ca:=il.at_.lt
     refine ae.eI (rows:=[[L.str fN.name,L.str fN.label, .int .i64 fN.init, .n fN.at_]]) st rfl (by decide) rfl (by simp) (fun mG h _ st=> ?_)
     refine ae.nh st 5 rfl rfl rfl (st.aS 0 rfl) (by decide) (by simp;omega) (fun _ _ h st=>rfl) (fun f11 v11 h st=> ?_)
     rw [show (k8.map eW.row)++[[L.str fN.name,L.str fN.label,V.int .i64 fN.init,V.n fN.at_]]=(k8++[fN]).map eW.row from by simp [eW.row]] at st
     obtain ⟨Uy,rfl⟩:=(st.et 5 rfl).ne (by simp)
     refine ae.f (.ptr s 3) (ae.fV (row':=[L.str b2, .int .i64 (a6 p i1:Int),c5, .av Uy 0 (((k8++[fN]).map eW.row).length) none,dX]) st 3 rfl rfl rfl rfl rfl rfl rfl (fun h st=>rfl) (fun h st=> ?_))
     refine ae.nil ?_
     exact ⟨j,(Nat.lt_succ_self _),xI,i10,xJ,xK,(k8++[fN]),oi,ki,f11,(.av Uy 0 ((k8++[fN]).map eW.row).length none),uP,dX,(.bool true),(.bool true),l3,⟨fun y b7 r=>Fv y b7 (Par.adM pR Cf il.res r),il.at_,(by omega),(by first|omega|(simp;omega)),(by omega)⟩,by kernel_rfl,((((((st.tail.pick 7 rfl).pick 7 rfl).pick 7 rfl).pick 7 rfl).pick 7 rfl).pick 7 rfl)⟩
    ·replace st:ak ((p.cb oh d 0 0)::p.toks:: .box s [L.str b2, .int .i64 (a6 p i1:Int),c5,eX,dX]:: .acc jl 2 c5 (xz.map gA.row):: .acc uO 4 eX (k8.map eW.row):: .acc uP 8 dX ki:: .ay (fun h=>ie h oi ki):: .box res [.str 0 0, .int .i64 0, .U, .U, .U]::fs) h:=cw
     replace Cf:Par.is [118,97,114] oY=false:=Cf
     refine I.aY (WP.af (I.dU rfl (iV (s:=[112,114,111,99]) D st (XAt.ok l8)) ?_))
     rintro _ h (⟨rfl,⟨afR,NU,_,_,Fw,Fl⟩,cw⟩|⟨rfl,Fw,cw⟩)
     ·cases NU
      replace st:ak ((p.cb (oh+1) d 0 0)::p.toks:: .box s [L.str b2, .int .i64 (a6 p i1:Int),c5,eX,dX]:: .acc jl 2 c5 (xz.map gA.row):: .acc uO 4 eX (k8.map eW.row):: .acc uP 8 dX ki:: .ay (fun h=>ie h oi ki):: .box res [.str 0 0, .int .i64 0, .U, .U, .U]::fs) h:=cw
      have NN:=Fl.lt
      refine I.bh (WP.draw (ae.f (.ptr s 4) (ae.b dX (st.aF 2 rfl) (ae.v (.ptr p.aW 0) (ae.bD rfl (agi D st (XAt.ok Fl) (by omega)) (fun _ h hp=> ?_) ?_)))))
      ·obtain ⟨e2,I4,i13,I5,I6,Fx,rfl,N8,o0,st⟩:=hp
       exact h3 (ju (L.iM rfl (st.aF 3 rfl) rfl)) (lp _ _)
      rintro _ h ⟨e2,I4,i13,I5,I6,Fx,rfl,N8,o0,st⟩
      have NV:=o0.cL
      have Uf:=o0.at_.lt
      refine ae.eI (rows:=[Fx]) st (H5 rfl N8) (by decide) rfl (by simpa using N8) (fun TY h _ st=> ?_)
      refine ae.nh st 7 rfl rfl rfl (st.aS 0 rfl) (by decide) (by simp;omega) (fun _ _ h st=>rfl) (fun f14 jO h st=> ?_)
      obtain ⟨Uz,rfl⟩:=(st.et 7 rfl).ne (by simp)
      replace st:=((((st.pick 8 rfl).pick 2 rfl)).and).fD (fun h hx=>hx.2.snoc hx.1)
      refine ae.f (.ptr s 4) (ae.fV (row':=[L.str b2, .int .i64 (a6 p i1:Int),c5,eX, .av Uz 0 ((ki++[Fx]).length) none]) st 4 rfl rfl rfl rfl rfl rfl rfl (fun h st=>rfl) (fun h st=> ?_))
      refine ae.nil ?_
      exact ⟨j,(Nat.lt_succ_self _),I4,i13,I5,I6,k8,(oi++[e2]),(ki++[Fx]),uO,eX,f14,(.av Uz 0 (ki++[Fx]).length none),(.bool true),(.bool false),(.bool true),⟨fun y b7 r=>Fv y b7 (Par.adN pR Cf Fw o0.res r),o0.at_,(by omega),(by first|omega|(simp;omega)),(by omega)⟩,by kernel_rfl,(((((((st.pick 1 rfl).tail.pick 7 rfl).pick 1 rfl).pick 7 rfl).pick 7 rfl).pick 7 rfl).pick 7 rfl)⟩
     ·replace st:ak ((p.cb oh d 0 0)::p.toks:: .box s [L.str b2, .int .i64 (a6 p i1:Int),c5,eX,dX]:: .acc jl 2 c5 (xz.map gA.row):: .acc uO 4 eX (k8.map eW.row):: .acc uP 8 dX ki:: .ay (fun h=>ie h oi ki):: .box res [.str 0 0, .int .i64 0, .U, .U, .U]::fs) h:=cw
      replace Fw:Par.is [112,114,111,99] oY=false:=Fw
      refine I.aY (WP.aG (I.bD rfl (uC (k:=11) D st (XAt.ok l8) (by decide)) ?_))
      rintro _ h ⟨rfl,uE,uF,pQ,hi,st⟩
      refine I.nil ?_
      exact ⟨j,(Nat.lt_succ_self _),(Par.vK 11 (.ok oY)),oh,uE,uF,k8,oi,ki,uO,eX,uP,dX,(.bool true),(.bool false),(.bool false),⟨fun y b7 r=>Fv y b7 (Par.adO pR Cf Fw r),hi,(fun h0=>absurd h0 pQ),(by first|omega|(simp;omega)),(by omega)⟩,by kernel_rfl,((((((st.pick 7 rfl).pick 7 rfl).pick 7 rfl).pick 7 rfl).pick 7 rfl).pick 7 rfl)⟩
   ·replace pR:(Par.aX oY).kind=0:=by omega
    obtain ⟨j,rfl⟩:∃m,j=m+1:=⟨j - 1,by omega⟩
    refine ae.az (.bool false) (ae.aY (WP.exit (WP.af (I.val (v:= .agg [L.str b2, .int .i64 (a6 p i1:Int),c5,eX,dX]) (L.eg rfl (st.aF 0 rfl) rfl rfl rfl) (I.cc [L.str b2, .int .i64 (a6 p i1:Int),c5,eX,dX] st 5 rfl (fun h st=> ?_))))))
    refine I.rt ?_
    have kC:ak (.acc jl 2 c5 (xz.map gA.row):: .acc uO 4 eX (k8.map eW.row):: .acc uP 8 dX ki:: .ay (fun h=>ie h oi ki)::p.cb oh d 0 0::p.toks::fs) _:=(st.tail.pick 4 rfl).tail
    have s1:=kC.shut (by decide)
    have s2:=(s1.pick 1 rfl).shut (by decide)
    have gb:=(s2.pick 2 rfl).shut (by decide)
    have jo:=(gb.pick 3 rfl).and
    have kD:=(jo.pick 1 rfl).and
    have tj:=(kD.pick 1 rfl).and
    exact ⟨_,(cT (fb (l:=[L.str b2, .int .i64 (a6 p i1:Int),c5,eX,dX]) rfl (L.e6 (st.aF 5 rfl) rfl rfl rfl)) (fo _ _)),⟨b2,a6 p i1,xz,k8,oi⟩,_,_,_,_,_,rfl,rfl,⟨(XAt.ok l8),(Par.Tk q1.res (fun l e=>q1.at_.here e) dn.res ea.res G7 (Fv (k8,oi) _ (Par.adP pR))),(Nat.le_trans (Nat.le_trans (rS (rS nB xG) tb) tf) Ux)⟩,tj.fD fun h hx=>⟨c5,eX,dX,rfl,hx.1,hx.2.1,ki,hx.2.2.2,hx.2.2.1⟩⟩
  ·replace ce:uN≠0:=by omega
   have jN:=hy.bad ce
   refine ae.v (.bool false) (ae.no rfl (ae.no rfl (ae.no rfl (ae.no rfl (ae.no rfl (ae.no rfl (ae.no rfl (ae.no rfl (ae.no rfl (ae.no rfl (ae.no rfl (ae.no rfl (ae.az (.bool false) (ae.aY (WP.exit (WP.af (I.val (v:= .agg [L.str b2, .int .i64 (a6 p i1:Int),c5,eX,dX]) (L.eg rfl (st.aF 0 rfl) rfl rfl rfl) (I.cc [L.str b2, .int .i64 (a6 p i1:Int),c5,eX,dX] st 5 rfl (fun h st=> ?_)))))))))))))))))))
   refine I.rt ?_
   have kC:ak (.acc jl 2 c5 (xz.map gA.row):: .acc uO 4 eX (k8.map eW.row):: .acc uP 8 dX ki:: .ay (fun h=>ie h oi ki)::p.cb oh d uN Jl::p.toks::fs) _:=(st.tail.pick 4 rfl).tail
   have s1:=kC.shut (by decide)
   have s2:=(s1.pick 1 rfl).shut (by decide)
   have gb:=(s2.pick 2 rfl).shut (by decide)
   have jo:=(gb.pick 3 rfl).and
   have kD:=(jo.pick 1 rfl).and
   have tj:=(kD.pick 1 rfl).and
   exact ⟨_,(cT (fb (l:=[L.str b2, .int .i64 (a6 p i1:Int),c5,eX,dX]) rfl (L.e6 (st.aF 5 rfl) rfl rfl rfl)) (fo _ _)),⟨b2,a6 p i1,xz,k8,oi⟩,_,_,_,_,_,rfl,rfl,⟨hy,(Par.Tk q1.res (fun l e=>q1.at_.here e) dn.res ea.res G7 (Fv (k8,oi) _ (by rw [jN];rfl))),(Nat.le_trans (Nat.le_trans (rS (rS nB xG) tb) tf) Ux)⟩,tj.fD fun h hx=>⟨c5,eX,dX,rfl,hx.1,hx.2.1,ki,hx.2.2.2,hx.2.2.1⟩⟩
end
end Go.Eng.YtmcjcbldmoijiaaGreatDoor
namespace Go.Eng.YtmcjcbldmoijiaaGreatDoor
open Go.Eng
noncomputable section
variable {c:Ctx}
theorem agx (D:gO c) {fs:List Fact} {h:ag} {s:List UInt8} (st:ak fs h):
 bU c 7 [L.str s] h fun v h1=>match Par.text s with
  | .ok m=>∃row,v= .dD [.agg row, .int .i64 0, .int .i64 0]∧row.length=5∧ak (.ay (fun h=>vH h m row)::fs) h1
  | .error (e,a)=>e≠0∧v= .dD [.agg [.str 0 0, .int .i64 0, .U, .U, .U], .n e, .n a]∧ak fs h1:=by
 refine bU.dR D.f7 rfl (WP.af (I.dq st L.alloc (fun res h st=> ?_)))
 refine I.az (.int .i64 0) (I.az (.int .i64 0) (I.nil (WP.seq (WP.aG ?_))))
 have ax:=TW (s:=s) D st
 cases kh:Lex.lex s with
 |error z=>
  obtain ⟨ex,ta⟩:=z
  rw [kh] at ax
  refine I.bD rfl ax ?_
  rintro _ h ⟨rfl,st⟩
  have hex:=SP kh
  refine I.v .U (I.v (.n ex) (I.v (.n ta) (I.az .U (I.az (.n ex) (I.az (.n ta) (I.nil (WP.seq (WP.af (I.bR (L.neq rfl rfl) (fun oP=> ?_) (fun oP=>by exfalso;omega))))))))))
  refine I.bh (WP.af (I.val (v:= .agg [.str 0 0, .int .i64 0, .U, .U, .U]) (L.build rfl) (I.cc [.str 0 0, .int .i64 0, .U, .U, .U] st 0 rfl (fun h st=> ?_))))
  refine I.az (.n ex) (I.az (.n ta) (I.rt ?_))
  have cJ:Par.text s= .error (ex,ta):=by unfold Par.text;rw [kh]
  rw [cJ]
  exact ⟨_,(cT (fb (l:=[.str 0 0, .int .i64 0, .U, .U, .U]) rfl (L.e6 (st.aF 0 rfl) rfl rfl rfl)) (cT (fS (v:= .n ex) rfl) (ca (.n ta)))),hex,rfl,st.tail⟩
 |ok a8=>
  rw [kh] at ax
  refine I.bD rfl ax ?_
  rintro _ h ⟨y,rfl,st⟩
  obtain ⟨p0,rfl,rfl⟩:=SN st (Ib kh ⟨0,0,0,none,a8⟩ rfl).2
  replace st:ak (.ay (fun h=>Rows 3 h (.av p0.ch p0.to p0.a8.length p0.cap) (p0.a8.map Tok.row)):: .box res [.str 0 0, .int .i64 0, .U, .U, .U]::fs) h:=st
  refine I.v (.av p0.ch p0.to p0.a8.length p0.cap) (I.v (.int .i64 0) (I.v (.int .i64 0) (I.az (.av p0.ch p0.to p0.a8.length p0.cap) (I.az (.int .i64 0) (I.az (.int .i64 0) (I.nil (WP.seq (WP.af (I.bR (L.neq rfl rfl) (fun oP=>by exfalso;omega) (fun oP=> ?_))))))))))
  refine I.aY (WP.skip (WP.af (I.val (v:= .agg [.av p0.ch p0.to p0.a8.length p0.cap, .int .i64 0, .int .i64 0, .int .i64 0, .int .i64 0]) (L.build rfl) (I.dq st (L.box (l:=[.av p0.ch p0.to p0.a8.length p0.cap, .int .i64 0, .int .i64 0, .int .i64 0, .int .i64 0]) rfl rfl) (fun aW h st=> ?_)))))
  obtain ⟨p,hp,vO,EZ,E0,E1,NA⟩:∃p:eE,p.a8=p0.a8∧p.aW=aW∧p.ch=p0.ch∧p.to=p0.to∧p.cap=p0.cap∧Left p 0 p.a8:=⟨{p0 with aW:=aW},rfl,rfl,rfl,rfl,rfl,(Ib kh {p0 with aW:=aW} rfl).1⟩
  rw [←hp] at kh
  rw [←hp,←vO,←EZ,←E0,←E1] at st
  rw [←hp,←vO,←EZ,←E0,←E1]
  replace st:ak ((p.cb 0 0 0 0)::p.toks:: .box res [.str 0 0, .int .i64 0, .U, .U, .U]::fs) h:=st
  refine I.af (I.bD rfl (agt D st (XAt.ok NA) (by omega)) ?_)
  rintro _ h ⟨x1,S1,i1,aT,a1,Fy,rfl,rn,q1,st⟩
  refine I.dq st L.alloc (fun m2 h st=> ?_)
  refine I.fV (row':=Fy) st 0 rfl rfl rfl (by rw [me];exact rn) rfl rfl (QW rn) (fun h st=> ?_)
  refine I.nil (WP.seq (WP.af (I.v (.ptr p.aW 0) (I.f (.ptr p.aW 3) (I.b (.n aT) (st.aF 2 rfl) (I.bR (L.neq rfl rfl) (fun ce=> ?_) (fun ce=> ?_)))))))
  ·replace ce:aT≠0:=by omega
   have jN:=q1.at_.bad ce
   refine I.bh (WP.seq (WP.draw (ae.val (v:= .agg [.str 0 0, .int .i64 0, .U, .U, .U]) (L.build rfl) (ae.v (.ptr p.aW 0) (ae.v (.ptr p.aW 0) (ae.f (.ptr p.aW 3) (ae.b (.n aT) (st.aF 2 rfl) (ae.v (.ptr p.aW 0) (ae.v (.ptr p.aW 0) (ae.f (.ptr p.aW 4) (ae.b (.n a1) (st.aF 2 rfl) (ae.fV (row':=[.str 0 0, .int .i64 0, .U, .U, .U]) st 4 rfl rfl rfl rfl rfl rfl rfl (fun h st=>h3 (ju (L.iM rfl (st.aF 2 rfl) rfl)) (h3 (ju (L.iM rfl (st.aF 2 rfl) rfl)) (lp _ _))) (fun h st=> ?_)))))))))))))
   refine ae.az (.n aT) (ae.az (.n a1) (ae.nil (WP.ret ?_)))
   have vm:=q1.res
   rw [jN] at vm
   have cj:=Par.aD.out vm
   have cJ:Par.text s= .error (aT,a1):=by unfold Par.text;rw [kh];simp only [cj]
   rw [cJ]
   exact ⟨_,(cT (fb (l:=[.str 0 0, .int .i64 0, .U, .U, .U]) rfl (L.e6 (st.aF 4 rfl) rfl rfl rfl)) (cT (fS (v:= .n aT) rfl) (ca (.n a1)))),(by omega),rfl,st.tail.tail.tail.tail.tail⟩
  ·replace ce:aT=0:=by omega
   obtain ⟨bF,oW,oe,gp⟩:=q1.at_.gm ce
   subst oW oe ce
   refine I.aY (WP.skip (WP.af (I.val (v:= .agg Fy) (L.eg rfl (st.aF 0 rfl) rfl (by rw [me,rn];rfl) (QX rn)) (I.fV (row':=Fy) st 4 rfl rfl rfl (by rw [me];exact rn) rfl rfl (QW rn) (fun h st=> ?_)))))
   refine I.az (.int .i64 0) (I.az (.int .i64 0) (I.rt ?_))
   have cj:=Par.aD.out q1.res
   have cJ:Par.text s= .ok x1:=by unfold Par.text;rw [kh];simp only [cj]
   rw [cJ]
   exact ⟨_,(cT (fb (l:=Fy) rfl (L.e6 (st.aF 4 rfl) rfl (by rw [me,rn];rfl) (QX rn))) (cT (fS (v:= .int .i64 0) rfl) (ca (.int .i64 0)))),Fy,rfl,rn,(((st.tail.pick 1 rfl).tail.pick 1 rfl).tail.pick 1 rfl).tail⟩
end
end Go.Eng.YtmcjcbldmoijiaaGreatDoor
