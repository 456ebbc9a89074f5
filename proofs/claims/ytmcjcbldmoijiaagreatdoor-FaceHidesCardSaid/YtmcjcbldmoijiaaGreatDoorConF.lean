/- Part of a proof of a law: rules of an evaluator, contracts, plain laws. No condition of its own. -/
import Derived.Test.YtmcjcbldmoijiaaGreatDoorSymA
import Derived.Test.YtmcjcbldmoijiaaGreatDoorConE
import Derived.Test.YtmcjcbldmoijiaaGreatDoorSymM
set_option linter.unusedVariables false
set_option linter.unusedSimpArgs false
namespace Go.Eng.YtmcjcbldmoijiaaGreatDoor
open Go.Eng
noncomputable section
variable {c:Ctx}
structure yx (c:Ctx):Prop where
 f6:T.get 6 c.cE=some i6
 l:yB c
theorem afC (D:yx c) {h:ae} {s u:List UInt8} (st:aq [] h):
 bT c 6 [L.str s,L.str u] h fun v1 _=>v1= .bool true:=by
 refine bT.dN D.f6 rfl (WP.ak (I.aC (.bool false) (I.ak (I.bx rfl (afv D.l (s:=s) st) ?_))))
 rintro _ h ⟨w,rfl,ok,st⟩
 obtain ⟨m,hm⟩:∃m,m=oH s:=⟨_,rfl⟩
 rw [←hm] at st ok
 rw [←hm]
 refine I.v (.agg [L.str m.name, .n m.at_,w.i,w.v,w.p]) (I.v (.int .i64 (uM s:Int)) (I.v (.int .i64 (GA s:Int)) (I.dI st L.alloc (fun dz h st=> ?_))))
 refine I.bM (row':=[L.str m.name, .n m.at_,w.i,w.v,w.p]) st 0 rfl rfl rfl rfl rfl rfl rfl (fun h st=> ?_)
 refine I.aC (.int .i64 (uM s:Int)) (I.nil (WP.seq (WP.ak (I.ej (L.neq rfl rfl) (fun c1=> ?_) (fun c1=> ?_)))))
 ·replace c1:(uM s)≠0:=by omega
  refine I.no rfl (I.no rfl (I.no rfl (I.aC (.bool true) (I.bI (WP.ak (I.dK rfl (D.l.yes _) ?_))))))
  rintro _ h ⟨rfl,rfl⟩
  refine I.nil (WP.ret ?_)
  exact ⟨_,(b0 (.bool true)),rfl⟩
 ·replace c1:¬((uM s)≠0):=by omega
  refine I.yes rfl (I.v (L.str s) (I.yes rfl (I.val (v:= .n s.length) (L.pq rfl) (I.yes rfl (I.ej (L.gtr rfl rfl) (fun c2=> ?_) (fun c2=> ?_))))))
  ·replace c2:s.length>1500:=by omega
   refine I.aC (.bool true) (I.bI (WP.ak (I.dK rfl (D.l.yes _) ?_)))
   rintro _ h ⟨rfl,rfl⟩
   refine I.nil (WP.ret ?_)
   exact ⟨_,(b0 (.bool true)),rfl⟩
  ·replace c2:¬(s.length>1500):=by omega
   refine I.aC (.bool false) (I.bw (WP.skip (WP.seq (WP.draw (af.val (v:= .agg [L.str m.name, .n m.at_,w.i,w.v,w.p]) (L.ey rfl (st.aN 0 rfl) rfl rfl rfl) (af.v (L.str u) (af.dI st L.alloc (fun uX h st=> ?_))))))))
   refine af.bx rfl (Mi D.l (s:=u) st) (fun v3 h hp=> ?_) ?_
   ·obtain ⟨oV,uW,yC,yD,rfl,st⟩:=hp
    exact hN (jz (L.ey rfl (st.aN 2 rfl) rfl rfl rfl)) (hN (xp st 1 rfl) (j6 _ _))
   rintro _ h ⟨oV,uW,yC,yD,rfl,st⟩
   obtain ⟨az,iq⟩:∃az,az=(wC u).ns:=⟨_,rfl⟩
   have hj:az.length<4294967296:=by rw [iq];exact (afn u).N
   replace st:aq (.aE (fun h=>dU h oV az):: .box uX [.U, .U]:: .box dz [L.str m.name, .n m.at_,w.i,w.v,w.p]:: .aE (fun h=>cA h m w)::[]) h:=st.e4 fun h hx=>by rw [iq];exact hx.N.ak
   refine af.bx rfl (Lj D.l.o ok hj ((st.pick 3 rfl).pick 1 rfl)) (fun v3 h hp=> ?_) ?_
   ·obtain ⟨lX,lY,fG,rfl,st⟩:=hp
    exact hN (xp st 4 rfl) (j6 _ _)
   rintro _ h ⟨lX,lY,fG,rfl,st⟩
   refine af.v (.dh [.agg [lX,lY],fG]) (af.v (.agg [lX,lY]) (af.v fG (af.bM (row':=[lX,lY]) st 4 rfl rfl rfl rfl rfl rfl rfl (fun h st=>rfl) (fun h st=> ?_))))
   refine af.aC fG (af.ak (I.val (v:= .agg [L.str m.name, .n m.at_,w.i,w.v,w.p]) (L.ey rfl (st.aN 5 rfl) rfl rfl rfl) (I.dI st L.alloc (fun eG h st=> ?_))))
   refine I.bM (row':=[L.str m.name, .n m.at_,w.i,w.v,w.p]) st 0 rfl rfl rfl rfl rfl rfl rfl (fun h st=> ?_)
   refine I.ak (I.PS (rows:=[]) st rfl (by decide) rfl (fun row hm=>by cases hm) (fun k6 h fB st=> ?_))
   refine I.f (.ptr dz 4) (I.b w.p (st.aN 7 rfl) ?_)
   by_cases Hx:m.procs=[]
   ·refine I.afA rfl rfl (by have:=cA.procs (st.bt 5 rfl);rw [show oG m.procs w.dP=[] from by unfold oG;rw [Hx];rfl] at this;exact this) ?_
    refine I.f (.ptr eG 4) (I.bM (row':=[L.str m.name, .n m.at_,w.i,w.v, .au k6 0 0 (some 0)]) st 1 rfl rfl rfl rfl rfl rfl rfl (fun h st=> ?_))
    refine I.nil (WP.seq (WP.ak (I.aC (.int .i64 0) (I.nil (WP.block (WP.dS (α:=Nat) (fun i env h=>∃eo,(i=0)∧env=c6 [L.str s,L.str u, .bool false, .int .i64 (uM s:Int), .bool false, .ptr dz 0, .ptr eG 0, .n i,eo, .ptr uX 0, .bot,fG] 0 Env.nil∧aq (.aE (fun h=>Rows 8 h (.au k6 0 0 (some 0)) []):: .box eG [L.str m.name, .n m.at_,w.i,w.v, .au k6 0 0 (some 0)]:: .aE (fun h=>nQ h lX lY (Fc.rX m az) (Fc.qR m az)):: .aE (fun h=>Rows 4 h fG ((Fc.iS m az).map Fc.cM.row)):: .aE (fun h=>dU h oV az):: .aE (fun h=>cA h m w):: .box uX [lX,lY]:: .box dz [L.str m.name, .n m.at_,w.i,w.v,w.p]::[]) h) (fun i=>0) 0 ?_ ?_))))))
    ·exact ⟨.bot,rfl,by kernel_rfl,st⟩
    rintro i _ h ⟨eo,ag,rfl,st⟩
    refine WP.seq (WP.ak (I.f (.ptr eG 4) (I.b (.au k6 0 0 (some 0)) (st.aN 1 rfl) (I.val (v:= .int .i64 ((0:Nat):Int)) (L.pr rfl) (I.bV (L.lss rfl rfl) (fun c1=>by exfalso;omega) (fun c1=> ?_))))))
    have uC:pY w.dP []:=by
     have:=ok.len
     rw [Hx] at this
     have pt:w.dP=[]:=List.length_eq_zero_iff.1 this
     rw [pt];exact pY.Ta _
    have st2:=((st.pick 5 rfl))
    replace st:aq (.aE (fun h=>cA h m ⟨w.i,w.v, .au k6 0 0 (some 0),[]⟩):: .box eG [L.str m.name, .n m.at_,w.i,w.v, .au k6 0 0 (some 0)]:: .aE (fun h=>nQ h lX lY (Fc.rX m az) (Fc.qR m az)):: .aE (fun h=>Rows 4 h fG ((Fc.iS m az).map Fc.cM.row)):: .aE (fun h=>dU h oV az):: .box uX [lX,lY]:: .box dz [L.str m.name, .n m.at_,w.i,w.v,w.p]::[]) h:=by
     have s1:=(st2.pick 1 rfl)
     exact ((s1.and).e4 (Q:=fun h=>cA h m ⟨w.i,w.v, .au k6 0 0 (some 0),[]⟩) fun h hx=>uC.Tb hx.2 (by rw [Hx];exact hx.1))
    have Mj:lP m ⟨w.i,w.v, .au k6 0 0 (some 0),[]⟩:=uC.ok ok _
    refine I.bw (WP.exit (WP.seq (WP.draw (af.val (v:= .agg [L.str m.name, .n m.at_,w.i,w.v, .au k6 0 0 (some 0)]) (L.ey rfl (st.aN 1 rfl) rfl rfl rfl) (af.v (L.str u) (af.dI st L.alloc (fun Mk h st=> ?_)))))))
    refine af.bx rfl (Mi D.l (s:=u) st) (fun v3 h hp=> ?_) ?_
    ·obtain ⟨mC,nZ,n0,n1,rfl,st⟩:=hp
     exact hN (jz (L.ey rfl (st.aN 3 rfl) rfl rfl rfl)) (hN (xp st 1 rfl) (j6 _ _))
    rintro _ h ⟨mC,nZ,n0,n1,rfl,st⟩
    replace st:aq (.aE (fun h=>dU h mC az):: .box Mk [.U, .U]:: .aE (fun h=>cA h m ⟨w.i,w.v, .au k6 0 0 (some 0),[]⟩):: .box eG [L.str m.name, .n m.at_,w.i,w.v, .au k6 0 0 (some 0)]:: .aE (fun h=>nQ h lX lY (Fc.rX m az) (Fc.qR m az)):: .aE (fun h=>Rows 4 h fG ((Fc.iS m az).map Fc.cM.row)):: .aE (fun h=>dU h oV az):: .box uX [lX,lY]:: .box dz [L.str m.name, .n m.at_,w.i,w.v,w.p]::[]) h:=st.e4 fun h hx=>by rw [iq];exact hx.N.ak
    refine af.bx rfl (Lj D.l.o Mj hj ((st.pick 2 rfl).pick 1 rfl)) (fun v3 h hp=> ?_) ?_
    ·obtain ⟨sd,oK,se,rfl,st⟩:=hp
     exact hN (xp st 4 rfl) (j6 _ _)
    rintro _ h ⟨sd,oK,se,rfl,st⟩
    refine af.v (.dh [.agg [sd,oK],se]) (af.v (.agg [sd,oK]) (af.v se (af.bM (row':=[sd,oK]) st 4 rfl rfl rfl rfl rfl rfl rfl (fun h st=>rfl) (fun h st=> ?_))))
    refine af.aC se (af.ak (I.val (v:= .agg [lX,lY]) (L.ey rfl (st.aN 9 rfl) rfl rfl rfl) (I.val (v:= .agg [sd,oK]) (L.ey rfl (st.aN 4 rfl) rfl rfl rfl) (I.bx rfl (S9 D.l (by have:=Fc.S5 ok az;omega) (by have:=(Fc.Hw ok az).1;omega) (Fc.Hw ok az).2 (st.pick 6 rfl)) ?_))))
    rintro _ h ⟨rfl,st⟩
    refine I.yes rfl (I.v fG (I.yes rfl (I.v se (I.yes rfl (I.bx rfl (R0 D.l.r (Fc.S6 ok az) (st.bt 5 rfl) (st.bt 0 rfl)) ?_)))))
    rintro _ h ⟨rfl,rfl⟩
    refine I.v (.bool true) (I.yes rfl (I.bx rfl (D.l.yes _) ?_))
    rintro _ h ⟨rfl,rfl⟩
    refine I.aC (.bool true) (I.nil (WP.ret ?_))
    exact ⟨_,(b0 (.bool true)),rfl⟩
   ·have afD:0<m.procs.length:=List.length_pos_iff.2 Hx
    have aiE:=ok.jh
    refine I.afz st rfl fB rfl (cA.procs (st.bt 5 rfl)) (by decide) (by rw [nP ok.len];exact afD) (by rw [nP ok.len];omega) (fun bs f dv h st=> ?_)
    obtain ⟨fc,rfl⟩:∃fc,dv= .au fc 0 m.procs.length none:=F8 (st.xM 0 rfl) (nP ok.len) (by omega)
    refine I.f (.ptr eG 4) (I.bM (row':=[L.str m.name, .n m.at_,w.i,w.v, .au fc 0 m.procs.length none]) st 2 rfl rfl rfl rfl rfl rfl rfl (fun h st=> ?_))
    refine I.nil (WP.seq (WP.ak (I.aC (.int .i64 0) (I.nil (WP.block (WP.dS (α:=Nat) (fun i env h=>∃uY eo,(i≤m.procs.length∧pY w.dP uY)∧env=c6 [L.str s,L.str u, .bool false, .int .i64 (uM s:Int), .bool false, .ptr dz 0, .ptr eG 0, .n i,eo, .ptr uX 0, .bot,fG] 0 Env.nil∧aq (.cS bs f 8 (.au fc 0 m.procs.length none) (oG m.procs uY):: .aE (fun h=>Rows 8 h (.au k6 0 0 (some 0)) []):: .box eG [L.str m.name, .n m.at_,w.i,w.v, .au fc 0 m.procs.length none]:: .aE (fun h=>nQ h lX lY (Fc.rX m az) (Fc.qR m az)):: .aE (fun h=>Rows 4 h fG ((Fc.iS m az).map Fc.cM.row)):: .aE (fun h=>dU h oV az):: .aE (fun h=>cA h m w):: .box uX [lX,lY]:: .box dz [L.str m.name, .n m.at_,w.i,w.v,w.p]::[]) h) (fun i=>m.procs.length - i) 0 ?_ ?_))))))
    ·exact ⟨w.dP, .bot,⟨Nat.zero_le _,pY.Ta _⟩,by kernel_rfl,st⟩
    rintro i _ h ⟨uY,eo,⟨ag,uC⟩,rfl,st⟩
    refine WP.seq (WP.ak (I.f (.ptr eG 4) (I.b (.au fc 0 m.procs.length none) (st.aN 2 rfl) (I.val (v:= .n m.procs.length) (L.pr rfl) (I.bV (L.lss rfl rfl) (fun c1=> ?_) (fun c1=> ?_))))))
    ·replace c1:i<m.procs.length:=by omega
     obtain ⟨p,hp⟩:∃p,m.procs[i]? =some p:=⟨m.procs[i]'(by omega),List.getElem?_eq_getElem (by omega)⟩
     obtain ⟨q1,Ml⟩:∃q,uY[i]? =some q:=⟨uY[i]'(by rw [uC.len,ok.len];omega),List.getElem?_eq_getElem (by rw [uC.len,ok.len];omega)⟩
     refine I.bI (WP.skip (WP.seq (WP.block (WP.ad (I.f (.ptr eG 4) (I.b (.au fc 0 m.procs.length none) (st.aN 2 rfl) (I.val (v:= .agg [.int .i64 8, .int .i64 0, .str 0 0, .str 0 0, .str 0 0, .bool false, .str 0 0, .str 0 0, .U, .U, .U, .U]) (L.build rfl) (I.fS (rows:=[[.int .i64 8, .int .i64 0, .str 0 0, .str 0 0, .str 0 0, .bool false, .str 0 0, .str 0 0, .U, .U, .U, .U]]) st rfl (by decide) rfl (by simp) (fun Tc h st=> ?_)))))))))
     refine I.val (v:= .ptr fc (0+i * 8)) (L.bY rfl rfl c1) (I.f (.ptr fc (0+i * 8+6)) (I.afy (v:= .au Tc 0 1 (some 1)) (st.pick 1 rfl) rfl rfl (by decide) (by decide) (wc hp Ml) (fun h st=> ?_)))
     rw [afB hp Ml] at st
     refine I.nil (WP.ad (I.bS (v:= .int .i64 ((i+1:Nat):Int)) (L.cX rfl rfl (by omega) (And.intro (by omega) (by omega))) (I.nil ?_)))
     exact ⟨i+1,(by omega),(uY.set i ⟨q1.p,q1.u, .au Tc 0 1 (some 1)⟩),(.bool true),⟨by omega,uC.set Ml _⟩,by kernel_rfl,(st.pick 1 rfl).tail⟩
    ·replace c1:¬(i<m.procs.length):=by omega
     replace st:aq (.aE (fun h=>cA h m ⟨w.i,w.v, .au fc 0 m.procs.length none,uY⟩):: .aE (fun h=>Rows 8 h (.au k6 0 0 (some 0)) []):: .box eG [L.str m.name, .n m.at_,w.i,w.v, .au fc 0 m.procs.length none]:: .aE (fun h=>nQ h lX lY (Fc.rX m az) (Fc.qR m az)):: .aE (fun h=>Rows 4 h fG ((Fc.iS m az).map Fc.cM.row)):: .aE (fun h=>dU h oV az):: .box uX [lX,lY]:: .box dz [L.str m.name, .n m.at_,w.i,w.v,w.p]::[]) h:=((((st.pick 6 rfl).pick 1 rfl)).CC (by decide)).and.e4 fun h hx=>uC.Tb hx.2 hx.1
     have Mj:lP m ⟨w.i,w.v, .au fc 0 m.procs.length none,uY⟩:=uC.ok ok _
     refine I.bw (WP.exit (WP.seq (WP.draw (af.val (v:= .agg [L.str m.name, .n m.at_,w.i,w.v, .au fc 0 m.procs.length none]) (L.ey rfl (st.aN 2 rfl) rfl rfl rfl) (af.v (L.str u) (af.dI st L.alloc (fun Mk h st=> ?_)))))))
     refine af.bx rfl (Mi D.l (s:=u) st) (fun v3 h hp=> ?_) ?_
     ·obtain ⟨mC,nZ,n0,n1,rfl,st⟩:=hp
      exact hN (jz (L.ey rfl (st.aN 4 rfl) rfl rfl rfl)) (hN (xp st 1 rfl) (j6 _ _))
     rintro _ h ⟨mC,nZ,n0,n1,rfl,st⟩
     replace st:aq (.aE (fun h=>dU h mC az):: .box Mk [.U, .U]:: .aE (fun h=>cA h m ⟨w.i,w.v, .au fc 0 m.procs.length none,uY⟩):: .aE (fun h=>Rows 8 h (.au k6 0 0 (some 0)) []):: .box eG [L.str m.name, .n m.at_,w.i,w.v, .au fc 0 m.procs.length none]:: .aE (fun h=>nQ h lX lY (Fc.rX m az) (Fc.qR m az)):: .aE (fun h=>Rows 4 h fG ((Fc.iS m az).map Fc.cM.row)):: .aE (fun h=>dU h oV az):: .box uX [lX,lY]:: .box dz [L.str m.name, .n m.at_,w.i,w.v,w.p]::[]) h:=st.e4 fun h hx=>by rw [iq];exact hx.N.ak
     refine af.bx rfl (Lj D.l.o Mj hj ((st.pick 2 rfl).pick 1 rfl)) (fun v3 h hp=> ?_) ?_
     ·obtain ⟨sd,oK,se,rfl,st⟩:=hp
      exact hN (xp st 4 rfl) (j6 _ _)
     rintro _ h ⟨sd,oK,se,rfl,st⟩
     refine af.v (.dh [.agg [sd,oK],se]) (af.v (.agg [sd,oK]) (af.v se (af.bM (row':=[sd,oK]) st 4 rfl rfl rfl rfl rfl rfl rfl (fun h st=>rfl) (fun h st=> ?_))))
     refine af.aC se (af.ak (I.val (v:= .agg [lX,lY]) (L.ey rfl (st.aN 10 rfl) rfl rfl rfl) (I.val (v:= .agg [sd,oK]) (L.ey rfl (st.aN 4 rfl) rfl rfl rfl) (I.bx rfl (S9 D.l (by have:=Fc.S5 ok az;omega) (by have:=(Fc.Hw ok az).1;omega) (Fc.Hw ok az).2 (st.pick 7 rfl)) ?_))))
     rintro _ h ⟨rfl,st⟩
     refine I.yes rfl (I.v fG (I.yes rfl (I.v se (I.yes rfl (I.bx rfl (R0 D.l.r (Fc.S6 ok az) (st.bt 6 rfl) (st.bt 0 rfl)) ?_)))))
     rintro _ h ⟨rfl,rfl⟩
     refine I.v (.bool true) (I.yes rfl (I.bx rfl (D.l.yes _) ?_))
     rintro _ h ⟨rfl,rfl⟩
     refine I.aC (.bool true) (I.nil (WP.ret ?_))
     exact ⟨_,(b0 (.bool true)),rfl⟩
end
end Go.Eng.YtmcjcbldmoijiaaGreatDoor
