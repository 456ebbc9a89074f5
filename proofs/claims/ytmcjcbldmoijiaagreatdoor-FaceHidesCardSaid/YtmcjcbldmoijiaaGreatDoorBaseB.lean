/- Part of a proof of a law: rules of an evaluator, contracts, plain laws. No condition of its own. -/
import Derived.Test.YtmcjcbldmoijiaaGreatDoorSymA
import Derived.Test.YtmcjcbldmoijiaaGreatDoorBaseA
import Derived.Test.YtmcjcbldmoijiaaGreatDoorSymJ
import Derived.Test.YtmcjcbldmoijiaaGreatDoorSymF
set_option linter.unusedVariables false
set_option linter.unusedSimpArgs false
namespace Go.Eng.YtmcjcbldmoijiaaGreatDoor.Lt
open Go.Eng
noncomputable section
variable {c:Ctx}
structure Ht (c:Ctx):Prop where
 f120:T.get 120 c.cE=some i120
 f121:T.get 121 c.cE=some i121
 r:uO c
theorem SQ (D:Ht c) {fs:List Fact} {h:ae} {v:V} {n:Nat} {M:List (List Bool)} (hn:n<4294967296) (e5:eJ n M) (st:aq (.aE (fun h=>gb h v M)::fs) h):
 bT c 121 [v] h fun v1 h1=>aq (.aE (fun h=>gb h v1 (Lab.kI n M)):: .aE (fun h=>gb h v M)::fs) h1:=by
 refine bT.dN D.f121 rfl (WP.ak (I.aC .U (I.ak (I.aC .U (I.nil (WP.seq (WP.ak (I.aC (.int .i64 0) (I.nil (WP.block ?_))))))))))
 replace st:aq (.aE (fun h=>mr h ([]) ([])):: .acc 0 1 .U (([]:List V).map fun x=>[x]):: .aE (fun h=>gb h v M)::fs) h:=(st.kE 1).qB (P:=fun h=>mr h [] []) fun _=>trivial
 refine WP.dS (α:=Nat) (fun i env h=>∃Hu ei ks bW eM eO c4,(i≤n∧ks.length=i)∧env=c6 [v, .U, .n i,bW,eM,eO,c4,ei] 0 Env.nil∧aq (.aE (fun h=>mr h (Lab.uV n M i) ks):: .acc Hu 1 ei (ks.map fun x=>[x]):: .aE (fun h=>gb h v M)::fs) h) (fun i=>n - i) 0 ?_ ?_
 ·exact ⟨0, .U,[], .bot, .bot, .bot, .bot,⟨Nat.zero_le _,rfl⟩,by kernel_rfl,st⟩
 rintro i _ h ⟨Hu,ei,ks,bW,eM,eO,c4,⟨ag,Ez⟩,rfl,st⟩
 refine WP.seq (WP.ak (I.val (v:= .n n) (L.xU rfl (st.bt 2 rfl) e5.len) (I.bV (L.lss rfl rfl) (fun c1=> ?_) (fun c1=> ?_))))
 ·replace c1:i<n:=by omega
  refine I.bI (WP.skip (WP.seq (WP.block (WP.ak (I.val (v:= .n n) (L.xU rfl (st.bt 2 rfl) e5.len) (I.KA st rfl rfl (by decide) rfl (by omega) (fun eZ h st=> ?_)))))))
  rw [SN n (fun x=>Lab.cf M x i)] at st
  refine I.nil (WP.seq (WP.ak (I.aC (.int .i64 0) (I.nil (WP.block (WP.dS (α:=Nat) (fun k env h=>∃eO,(k≤n)∧env=c6 [v, .U, .n i, .bool true, .n k,eO, .au eZ 0 n (some n),ei] 0 Env.nil∧aq (.mV eZ 1 ((Lab.kR n (fun x=>Lab.cf M x i) k).map bv):: .aE (fun h=>mr h (Lab.uV n M i) ks):: .acc Hu 1 ei (ks.map fun x=>[x]):: .aE (fun h=>gb h v M)::fs) h) (fun k=>n - k) 0 ?_ ?_))))))
  ·exact ⟨eO,Nat.zero_le _,by kernel_rfl,st⟩
  rintro k _ h ⟨eO,hk,rfl,st⟩
  refine WP.seq (WP.ak (I.val (v:= .n n) (L.xU rfl (st.bt 3 rfl) e5.len) (I.bV (L.lss rfl rfl) (fun c2=> ?_) (fun c2=> ?_))))
  ·replace c2:k<n:=by omega
   obtain ⟨u,r,iJ,gm,vP,tA⟩:=zX e5 (st.bt 3 rfl) (show k<n by omega)
   refine I.bI (WP.skip (WP.seq (WP.block (WP.ad (I.val (v:= .ptr (cY v) (db v+k * 1)) (L.zV (st.bt 3 rfl) (by rw [e5.len];omega) rfl rfl) (I.val (v:=u) (L.load rfl iJ) (I.val (v:= .ptr (cY u) (db u+i * 1)) (L.nM gm (by rw [List.length_map];omega) rfl rfl) (I.val (v:= .bool (Lab.cf M k i)) (L.load rfl (pD gm (tA i (by omega)))) (I.val (v:= .ptr eZ (0+k * 1)) (L.bY rfl rfl (by omega)) (I.F7 st rfl (show _=some [V.bool ((fun x=>Lab.cf M x i) k)] from rfl) (by rw [List.length_map,Lab.yu];omega) (fun h st=> ?_)))))))))))
   rw [L3 c2] at st
   refine I.nil (WP.ad (I.bS (v:= .int .i64 ((k+1:Nat):Int)) (L.cX rfl rfl (by omega) (And.intro (by omega) (by omega))) (I.nil ?_)))
   exact ⟨k+1,(by omega),(.bool true),by omega,by kernel_rfl,st⟩
  ·have yv:k=n:=by omega
   rw [yv] at st
   rw [yv]
   replace st:aq (.aE (fun h=>Rows 1 h (.au eZ 0 n (some n)) ((Lab.kR n (fun x=>Lab.cf M x i) n).map bv)):: .aE (fun h=>mr h (Lab.uV n M i) ks):: .acc Hu 1 ei (ks.map fun x=>[x]):: .aE (fun h=>gb h v M)::fs) h:=ae7 (st) (Lab.yu _ _ _)
   refine I.bw (WP.exit (WP.ad (I.fS (rows:=[[.au eZ 0 n (some n)]]) st rfl (by decide) rfl (by simp) (fun ae8 h st=> ?_))))
   refine I.kF st 3 rfl rfl rfl (st.bt 0 rfl) (by decide) (by simp;omega) (fun yw cg h st=> ?_)
   rw [show (ks.map fun x=>[x])++[[V.au eZ 0 n (some n)]]=(ks++[V.au eZ 0 n (some n)]).map fun x=>[x] from by simp] at st
   replace st:aq (.aE (fun h=>mr h (Lab.uV n M i++[Lab.kR n (fun x=>Lab.cf M x i) n]) (ks++[V.au eZ 0 n (some n)])):: .aE (fun h=>Rows 1 h (.au ae8 0 1 (some 1)) [[.au eZ 0 n (some n)]]):: .acc yw 1 cg ((ks++[V.au eZ 0 n (some n)]).map fun x=>[x]):: .aE (fun h=>gb h v M)::fs) h:=(((st.pick 2 rfl).pick 2 rfl)).and.e4 fun h hx=>hx.2.snoc hx.1
   refine I.nil (WP.ad (I.bS (v:= .int .i64 ((i+1:Nat):Int)) (L.cX rfl rfl (by omega) (And.intro (by omega) (by omega))) (I.nil ?_)))
   rw [←Lab.aeJ] at st
   exact ⟨i+1,(by omega),yw,cg,(ks++[V.au eZ 0 n (some n)]),(.bool true),(.n n),(.bool false),(.au eZ 0 n (some n)),⟨by omega,by simp [Ez]⟩,by kernel_rfl,(st.pick 1 rfl).tail⟩
 ·have DJ:i=n:=by omega
  refine I.bw (WP.exit (WP.ak (I.aC ei (I.nil (WP.ret ?_)))))
  rw [DJ,Lab.aeK] at st
  exact ⟨_,(b0 ei),(((st.pick 1 rfl)).shut (by decide)).and.e4 fun h hx=>⟨_,hx.1,hx.2⟩⟩
theorem L5 (D:Ht c) {fs:List Fact} {h:ae} {v:V} {n:Nat} {M:List (List Bool)} (hn:n<4294967296) (e5:eJ n M) (st:aq (.aE (fun h=>gb h v M)::fs) h):
 bT c 120 [v] h fun v1 h1=>match Lab.nN n M n with
  |true=>∃dT,v1= .dh [dT, .bool true]∧aq (.aE (fun h=>oz h dT (Lab.jL n M n)):: .aE (fun h=>gb h v M)::fs) h1
  |false=>v1= .dh [.U, .bool false]∧aq (.aE (fun h=>gb h v M)::fs) h1:=by
 refine bT.dN D.f120 rfl (WP.ak (I.aC .U (I.aC (.bool false) (I.ak (I.aC .U (I.nil (WP.seq (WP.ak (I.aC (.int .i64 0) (I.nil (WP.block ?_)))))))))))
 replace st:aq (.aE (fun h=>mq h ([]) ([])):: .acc 0 1 .U (([]:List V).map fun x=>[x]):: .aE (fun h=>gb h v M)::fs) h:=(st.kE 1).qB (P:=fun h=>mq h [] []) fun _=>trivial
 refine WP.dS (α:=Nat) (fun a env h=>∃AO dT lB x1 bR eM eO c4 dH eo ih gw k9 pM,(a≤n∧lB.length=a∧Lab.nN n M a=true)∧env=c6 [v,x1,bR, .n a,eM,eO,c4,dH,eo,ih,gw,k9,pM,dT] 0 Env.nil∧aq (.aE (fun h=>mq h (Lab.jL n M a) lB):: .acc AO 1 dT (lB.map fun x=>[x]):: .aE (fun h=>gb h v M)::fs) h) (fun a=>n - a) 0 ?_ ?_
 ·exact ⟨0, .U,[], .U,(.bool false), .bot, .bot, .bot, .bot, .bot, .bot, .bot, .bot, .bot,⟨Nat.zero_le _,rfl,rfl⟩,by kernel_rfl,st⟩
 rintro a _ h ⟨AO,dT,lB,x1,bR,eM,eO,c4,dH,eo,ih,gw,k9,pM,⟨ha,mH,hok⟩,rfl,st⟩
 refine WP.seq (WP.ak (I.val (v:= .n n) (L.xU rfl (st.bt 2 rfl) e5.len) (I.bV (L.lss rfl rfl) (fun c1=> ?_) (fun c1=> ?_))))
 ·replace c1:a<n:=by omega
  refine I.bI (WP.skip (WP.seq (WP.block (WP.ak (I.aC .U (I.nil (WP.seq (WP.ak (I.aC (.int .i64 0) (I.nil (WP.block ?_)))))))))))
  replace st:aq (.acc 0 1 .U (([]:List Nat).map rJ):: .aE (fun h=>mq h (Lab.jL n M a) lB):: .acc AO 1 dT (lB.map fun x=>[x]):: .aE (fun h=>gb h v M)::fs) h:=st.kE 1
  refine WP.dS (α:=Nat) (fun b env h=>∃fr iC x1 bR c4 dH eo ih gw k9,(b≤n∧Lab.vS n M a b=true)∧env=c6 [v,x1,bR, .n a, .bool true, .n b,c4,dH,eo,ih,gw,k9,iC,dT] 0 Env.nil∧aq (.acc fr 1 iC ((Lab.lI n M a b).map rJ):: .aE (fun h=>mq h (Lab.jL n M a) lB):: .acc AO 1 dT (lB.map fun x=>[x]):: .aE (fun h=>gb h v M)::fs) h) (fun b=>n - b) 0 ?_ ?_
  ·exact ⟨0, .U,x1,bR,c4,dH,eo,ih,gw,k9,⟨Nat.zero_le _,rfl⟩,by kernel_rfl,st⟩
  rintro b _ h ⟨fr,iC,x1,bR,c4,dH,eo,ih,gw,k9,⟨hb,L6⟩,rfl,st⟩
  refine WP.seq (WP.ak (I.val (v:= .n n) (L.xU rfl (st.bt 3 rfl) e5.len) (I.bV (L.lss rfl rfl) (fun cG=> ?_) (fun cG=> ?_))))
  ·replace cG:b<n:=by omega
   refine I.bI (WP.skip (WP.seq (WP.block (WP.ak (I.val (v:= .n n) (L.xU rfl (st.bt 3 rfl) e5.len) (I.KA st rfl rfl (by decide) rfl (by omega) (fun eZ h st=> ?_)))))))
   rw [SN n (fun x=>Lab.cf M a x&&Lab.cf M b x)] at st
   refine I.nil (WP.seq (WP.ak (I.aC (.int .i64 0) (I.nil (WP.block (WP.dS (α:=Nat) (fun k env h=>∃eo,(k≤n)∧env=c6 [v,x1,bR, .n a, .bool true, .n b, .bool true, .n k,eo, .au eZ 0 n (some n),gw,k9,iC,dT] 0 Env.nil∧aq (.mV eZ 1 ((Lab.kR n (fun x=>Lab.cf M a x&&Lab.cf M b x) k).map bv):: .acc fr 1 iC ((Lab.lI n M a b).map rJ):: .aE (fun h=>mq h (Lab.jL n M a) lB):: .acc AO 1 dT (lB.map fun x=>[x]):: .aE (fun h=>gb h v M)::fs) h) (fun k=>n - k) 0 ?_ ?_))))))
   ·exact ⟨eo,Nat.zero_le _,by kernel_rfl,st⟩
   rintro k _ h ⟨eo,hk,rfl,st⟩
   refine WP.seq (WP.ak (I.val (v:= .n n) (L.xU rfl (st.bt 4 rfl) e5.len) (I.bV (L.lss rfl rfl) (fun c2=> ?_) (fun c2=> ?_))))
   ·replace c2:k<n:=by omega
    obtain ⟨u,r,iJ,gm,vP,tA⟩:=zX e5 (st.bt 4 rfl) (show a<n by omega)
    obtain ⟨we,fI,mg,th,ae9,Hv⟩:=zX e5 (st.bt 4 rfl) (show b<n by omega)
    refine I.bI (WP.skip (WP.seq (WP.block (WP.ad (I.val (v:= .ptr (cY v) (db v+a * 1)) (L.zV (st.bt 4 rfl) (by rw [e5.len];omega) rfl rfl) (I.val (v:=u) (L.load rfl iJ) (I.val (v:= .ptr (cY u) (db u+k * 1)) (L.nM gm (by rw [List.length_map];omega) rfl rfl) ?_)))))))
    rcases uz (Lab.cf M a k) with sa|sa
    ·refine I.val (v:= .bool false) (L.load rfl (by rw [pD gm (tA k c2),sa])) (I.no rfl (I.no rfl (I.no rfl (I.no rfl (I.no rfl (I.no rfl (I.no rfl (I.v (.bool false) (I.val (v:= .ptr eZ (0+k * 1)) (L.bY rfl rfl (by omega)) (I.F7 st rfl (show _=some [V.bool ((fun x=>Lab.cf M a x&&Lab.cf M b x) k)] from by rw [show (fun x=>Lab.cf M a x&&Lab.cf M b x) k=false from by simp [sa]];rfl) (by rw [List.length_map,Lab.yu];omega) (fun h st=> ?_)))))))))))
     rw [L3 c2] at st
     refine I.nil (WP.ad (I.bS (v:= .int .i64 ((k+1:Nat):Int)) (L.cX rfl rfl (by omega) (And.intro (by omega) (by omega))) (I.nil ?_)))
     exact ⟨k+1,(by omega),(.bool true),by omega,by kernel_rfl,st⟩
    ·refine I.val (v:= .bool true) (L.load rfl (by rw [pD gm (tA k c2),sa])) (I.yes rfl (I.v v (I.yes rfl (I.v (.n b) (I.yes rfl (I.val (v:= .ptr (cY v) (db v+b * 1)) (L.zV (st.bt 4 rfl) (by rw [e5.len];omega) rfl rfl) (I.yes rfl (I.val (v:=we) (L.load rfl mg) (I.yes rfl (I.v (.n k) (I.yes rfl (I.val (v:= .ptr (cY we) (db we+k * 1)) (L.nM th (by rw [List.length_map];omega) rfl rfl) (I.yes rfl (I.val (v:= .bool (Lab.cf M b k)) (L.load rfl (pD th (Hv k c2))) (I.v (.bool (Lab.cf M b k)) (I.val (v:= .ptr eZ (0+k * 1)) (L.bY rfl rfl (by omega)) (I.F7 st rfl (show _=some [V.bool ((fun x=>Lab.cf M a x&&Lab.cf M b x) k)] from by rw [show (fun x=>Lab.cf M a x&&Lab.cf M b x) k=Lab.cf M b k from by simp [sa]];rfl) (by rw [List.length_map,Lab.yu];omega) (fun h st=> ?_))))))))))))))))))
     rw [L3 c2] at st
     refine I.nil (WP.ad (I.bS (v:= .int .i64 ((k+1:Nat):Int)) (L.cX rfl rfl (by omega) (And.intro (by omega) (by omega))) (I.nil ?_)))
     exact ⟨k+1,(by omega),(.bool true),by omega,by kernel_rfl,st⟩
   ·have yv:k=n:=by omega
    rw [yv] at st
    rw [yv]
    refine I.bw (WP.exit (WP.seq (WP.ad ?_)))
    have afa:Rows 1 h (.au eZ 0 n (some n)) ((Lab.kR n (fun x=>Lab.cf M a x&&Lab.cf M b x) n).map bv):=by have:=st.Pa (cap:=some n) 0 rfl;rw [List.length_map,Lab.yu] at this;exact this
    refine I.dK rfl (aeE D.r hn e5 (st.bt 4 rfl) afa (Lab.yu _ _ _) (fun k hk=>Lab.aeI hk)) ?_
    rintro _ _ ⟨rfl,rfl⟩
    rw [show Lab.least n (Lab.cf M) (fun x=>Lab.cf M a x&&Lab.cf M b x)=Lab.join n M a b from rfl]
    cases aR:Lab.join n M a b with
    |none=>
     have cb:KI (none)=(-1):=rfl
     rw [cb]
     refine I.nil (WP.seq (WP.ak (I.bV (L.lss rfl rfl) (fun _=> ?_) (fun hv=>by exfalso;omega))))
     refine I.bI (WP.ak (I.aC .U (I.aC (.bool false) (I.nil (WP.ret ?_)))))
     rw [Lab.ZZ (by omega) (by omega) aR]
     exact ⟨_,(cH (fl (v:= .U) rfl) (b0 (.bool false))),rfl,st.tail.tail.tail.tail⟩
    |some DK=>
     have cb:KI (some DK)=(DK:Int):=rfl
     rw [cb]
     refine I.nil (WP.seq (WP.ak (I.bV (L.lss rfl rfl) (fun hv=>by exfalso;omega) (fun _=> ?_))))
     refine I.bw (WP.skip (WP.ad (I.fS (rows:=[[.n DK]]) st rfl (by decide) rfl (by simp) (fun aiz h st=> ?_))))
     refine I.kF st 2 rfl rfl rfl (st.bt 0 rfl) (by decide) (by rw [List.length_map,Lab.SJ];simp only [List.length_cons,List.length_nil];omega) (fun yw cg h st=> ?_)
     have aS:=Lab.Zk n M a b
     rw [aR] at aS
     rw [show (Lab.lI n M a b).map rJ++[[V.n DK]]=(Lab.lI n M a (b+1)).map rJ from by rw [aS,List.map_append];rfl] at st
     refine I.nil (WP.ad (I.bS (v:= .int .i64 ((b+1:Nat):Int)) (L.cX rfl rfl (by omega) (And.intro (by omega) (by omega))) (I.nil ?_)))
     exact ⟨b+1,(by omega),yw,cg,x1,bR,(.bool true),(.n n),(.bool false),(.au eZ 0 n (some n)),(.n DK),(.bool false),⟨by omega,by rw [Lab.ZX,L6,aR];rfl⟩,by kernel_rfl,st.tail.tail⟩
  ·have DL:b=n:=by omega
   rw [DL] at st L6
   rw [DL]
   have Li:=(st.gh 0 rfl).cells
   replace st:aq (.aE (fun h=>Rows 1 h iC ((Lab.lI n M a n).map rJ)):: .aE (fun h=>mq h (Lab.jL n M a) lB):: .acc AO 1 dT (lB.map fun x=>[x]):: .aE (fun h=>gb h v M)::fs) h:=(st).shut (by decide)
   refine I.bw (WP.exit (WP.ad (I.fS (rows:=[[iC]]) st (KV Li) (by decide) rfl (by simp) (fun SS h st=> ?_))))
   refine I.kF st 3 rfl rfl rfl (st.bt 0 rfl) (by decide) (by simp;omega) (fun yw cg h st=> ?_)
   rw [show (lB.map fun x=>[x])++[[iC]]=(lB++[iC]).map fun x=>[x] from by simp] at st
   replace st:aq (.aE (fun h=>mq h (Lab.jL n M a++[Lab.lI n M a n]) (lB++[iC])):: .aE (fun h=>Rows 1 h (.au SS 0 1 (some 1)) [[iC]]):: .acc yw 1 cg ((lB++[iC]).map fun x=>[x]):: .aE (fun h=>gb h v M)::fs) h:=(((st.pick 2 rfl).pick 2 rfl)).and.e4 fun h hx=>hx.2.snoc hx.1
   refine I.nil (WP.ad (I.bS (v:= .int .i64 ((a+1:Nat):Int)) (L.cX rfl rfl (by omega) (And.intro (by omega) (by omega))) (I.nil ?_)))
   rw [←Lab.Zl] at st
   exact ⟨a+1,(by omega),yw,cg,(lB++[iC]),x1,bR,(.bool true),(.n n),(.bool false),dH,eo,ih,gw,k9,iC,⟨by omega,by simp [mH],by rw [Lab.ZY,hok,L6];rfl⟩,by kernel_rfl,(st.pick 1 rfl).tail⟩
 ·have DJ:a=n:=by omega
  refine I.bw (WP.exit (WP.ak (I.aC dT (I.aC (.bool true) (I.nil (WP.ret ?_))))))
  rw [DJ] at st hok
  rw [hok]
  refine ⟨_,(cH (fl (v:=dT) rfl) (b0 (.bool true))),_,rfl, ?_⟩
  exact (((st.pick 1 rfl)).shut (by decide)).and.e4 fun h hx=>⟨_,hx.1,hx.2⟩
end
end Go.Eng.YtmcjcbldmoijiaaGreatDoor.Lt
namespace Go.Eng.YtmcjcbldmoijiaaGreatDoor.Lt
open Go.Eng
noncomputable section
variable {c:Ctx}
structure yx (c:Ctx):Prop where
 f47:T.get 47 c.cE=some i47
 f105:T.get 105 c.cE=some i105
 g:Ht c
theorem afb (D:yx c) {fs:List Fact} {h:ae} {eu v:V} {n:Nat} {M:List (List Bool)} {az:List Lab.aL} (hn:n<4294967296) (iq:az.length=n) (e5:eJ n M) (st:aq (.aE (fun h=>Rows 1 h eu (SR az)):: .aE (fun h=>gb h v M)::fs) h):
 bT c 105 [eu,v] h fun v1 h1=>match Lab.oA n M n with
  |true=>∃dT ei,v1= .dh [.agg [eu,v,dT,ei, .int .i64 (Lab.iZ n M n:Int), .int .i64 (Lab.iY n M n:Int)], .bool true]∧aq (.aE (fun h=>oz h dT (Lab.jL n M n)):: .aE (fun h=>oz h ei (Lab.qC n M n)):: .aE (fun h=>Rows 1 h eu (SR az)):: .aE (fun h=>gb h v M)::fs) h1
  |false=>v1= .dh [.agg [.U, .U, .U, .U, .int .i64 0, .int .i64 0], .bool false]∧aq (.aE (fun h=>Rows 1 h eu (SR az)):: .aE (fun h=>gb h v M)::fs) h1:=by
 refine bT.dN D.f105 rfl (WP.ak (I.dI st L.alloc (fun res h st=> ?_)))
 refine I.aC (.bool false) (I.ak (I.bS (v:= .n n) (L.fD rfl (st.bt 1 rfl) (by rw [gQ];exact iq)) (I.nil (WP.seq (WP.ak (I.aC (.int .i64 0) (I.nil (WP.block (WP.dS (α:=Nat) (fun a env h=>∃bW c4 dH eo ih,(a≤n∧Lab.L1 n M a)∧env=c6 [eu,v, .ptr res 0,bW, .n a, .n n,c4,dH,eo,ih] 0 Env.nil∧aq (.box res [.U, .U, .U, .U, .int .i64 0, .int .i64 0]:: .aE (fun h=>Rows 1 h eu (SR az)):: .aE (fun h=>gb h v M)::fs) h) (fun a=>n - a) 0 ?_ ?_)))))))))
 ·exact ⟨(.bool false), .bot, .bot, .bot, .bot,⟨Nat.zero_le _,fun x y hx=>absurd hx (by omega)⟩,by kernel_rfl,st⟩
 rintro a _ h ⟨bW,c4,dH,eo,ih,⟨ha,hp⟩,rfl,st⟩
 refine WP.seq (WP.ak (I.bV (L.lss rfl rfl) (fun c1=> ?_) (fun c1=> ?_)))
 ·replace c1:a<n:=by omega
  refine I.bI (WP.skip (WP.seq (WP.block (WP.ak (I.aC (.int .i64 0) (I.nil (WP.block (WP.dS (α:=Nat) (fun b env h=>∃bW eo ih,(b≤n∧Lab.Ho M a b)∧env=c6 [eu,v, .ptr res 0,bW, .n a, .n n, .bool true, .n b,eo,ih] 0 Env.nil∧aq (.box res [.U, .U, .U, .U, .int .i64 0, .int .i64 0]:: .aE (fun h=>Rows 1 h eu (SR az)):: .aE (fun h=>gb h v M)::fs) h) (fun b=>n - b) 0 ?_ ?_))))))))
  ·exact ⟨bW,eo,ih,⟨Nat.zero_le _,fun y hy=>absurd hy (by omega)⟩,by kernel_rfl,st⟩
  rintro b _ h ⟨bW,eo,ih,⟨hb,bB⟩,rfl,st⟩
  refine WP.seq (WP.ak (I.bV (L.lss rfl rfl) (fun c2=> ?_) (fun c2=> ?_)))
  ·replace c2:b<n:=by omega
   obtain ⟨u,r,iJ,gm,vP,tA⟩:=zX e5 (st.bt 2 rfl) (show a<n by omega)
   obtain ⟨we,fI,mg,th,ae9,Hv⟩:=zX e5 (st.bt 2 rfl) (show b<n by omega)
   refine I.bI (WP.skip (WP.seq (WP.block (WP.ak (I.ej (L.neq rfl rfl) (fun DM=> ?_) (fun DM=> ?_))))))
   ·replace DM:a≠b:=by omega
    refine I.yes rfl (I.v v (I.yes rfl (I.v (.n a) (I.yes rfl (I.val (v:= .ptr (cY v) (db v+a * 1)) (L.zV (st.bt 2 rfl) (by rw [e5.len];omega) rfl rfl) (I.yes rfl (I.val (v:=u) (L.load rfl iJ) (I.yes rfl (I.v (.n b) (I.yes rfl (I.val (v:= .ptr (cY u) (db u+b * 1)) (L.nM gm (by rw [List.length_map];omega) rfl rfl) (I.yes rfl ?_))))))))))))
    rcases uz (Lab.cf M a b) with sa|sa
    ·refine I.val (v:= .bool false) (L.load rfl (by rw [pD gm (tA b c2),sa])) (I.val (v:= .bool false) rfl (I.no rfl (I.no rfl (I.no rfl (I.no rfl (I.no rfl (I.no rfl (I.no rfl (I.bS (v:= .bool false) rfl (I.nil (WP.cond (t:=false) rfl (WP.skip (WP.ad (I.bS (v:= .int .i64 ((b+1:Nat):Int)) (L.cX rfl rfl (by omega) (And.intro (by omega) (by omega))) (I.nil ?_)))))))))))))))
     exact ⟨b+1,(by omega),bW,(.bool true),(.bool false),⟨by omega,Lab.L2 bB (fun _ h2=>by rw [sa] at h2;exact absurd h2.1 (by decide))⟩,by kernel_rfl,st⟩
    ·refine I.val (v:= .bool true) (L.load rfl (by rw [pD gm (tA b c2),sa])) (I.v (.bool true) (I.yes rfl (I.v v (I.yes rfl (I.v (.n b) (I.yes rfl (I.val (v:= .ptr (cY v) (db v+b * 1)) (L.zV (st.bt 2 rfl) (by rw [e5.len];omega) rfl rfl) (I.yes rfl (I.val (v:=we) (L.load rfl mg) (I.yes rfl (I.v (.n a) (I.yes rfl (I.val (v:= .ptr (cY we) (db we+a * 1)) (L.nM th (by rw [List.length_map];omega) rfl rfl) (I.yes rfl ?_))))))))))))))
     rcases uz (Lab.cf M b a) with DN|DN
     ·refine I.val (v:= .bool false) (L.load rfl (by rw [pD th (Hv a c1),DN])) (I.bS (v:= .bool false) rfl (I.nil (WP.cond (t:=false) rfl (WP.skip (WP.ad (I.bS (v:= .int .i64 ((b+1:Nat):Int)) (L.cX rfl rfl (by omega) (And.intro (by omega) (by omega))) (I.nil ?_)))))))
      exact ⟨b+1,(by omega),bW,(.bool true),(.bool false),⟨by omega,Lab.L2 bB (fun _ h2=>by rw [DN] at h2;exact absurd h2.2 (by decide))⟩,by kernel_rfl,st⟩
     ·refine I.val (v:= .bool true) (L.load rfl (by rw [pD th (Hv a c1),DN])) (I.aC (.bool true) (I.bI (WP.ak (I.val (v:= .agg [.U, .U, .U, .U, .int .i64 0, .int .i64 0]) (L.build rfl) (I.bM (row':=[.U, .U, .U, .U, .int .i64 0, .int .i64 0]) st 0 rfl rfl rfl rfl rfl rfl rfl (fun h st=> ?_))))))
      refine I.aC (.bool false) (I.nil (WP.ret ?_))
      rw [Lab.aeX e5 (by omega) (by omega) DM sa DN]
      exact ⟨_,(cH (eY (l:=[.U, .U, .U, .U, .int .i64 0, .int .i64 0]) rfl (L.eN (st.aN 0 rfl) rfl rfl rfl)) (b0 (.bool false))),rfl,st.tail⟩
   ·replace DM:a=b:=by omega
    refine I.no rfl (I.no rfl (I.no rfl (I.no rfl (I.no rfl (I.no rfl (I.no rfl (I.val (v:= .bool false) rfl (I.no rfl (I.no rfl (I.no rfl (I.no rfl (I.no rfl (I.no rfl (I.no rfl (I.bS (v:= .bool false) rfl (I.nil (WP.cond (t:=false) rfl (WP.skip (WP.ad (I.bS (v:= .int .i64 ((b+1:Nat):Int)) (L.cX rfl rfl (by omega) (And.intro (by omega) (by omega))) (I.nil ?_)))))))))))))))))))))
    exact ⟨b+1,(by omega),bW,(.bool true),(.bool false),⟨by omega,Lab.L2 bB (fun bG=>absurd DM bG)⟩,by kernel_rfl,st⟩
  ·have yv:b=n:=by omega
   rw [yv] at bB
   refine I.nil (WP.cond (t:=false) rfl (WP.exit (WP.ad (I.bS (v:= .int .i64 ((a+1:Nat):Int)) (L.cX rfl rfl (by omega) (And.intro (by omega) (by omega))) (I.nil ?_)))))
   exact ⟨a+1,(by omega),bW,(.bool true),(.n b),(.bool false),ih,⟨by omega,Lab.aeW hp bB⟩,by kernel_rfl,st⟩
 ·have DJ:a=n:=by omega
  have afc:Lab.KE n M:=fun x y hx hy=>hp x y (by omega) hy
  rw [DJ]
  refine I.bw (WP.exit (WP.ak (I.bx rfl (L5 D.g hn e5 (st.pick 2 rfl)) ?_)))
  rintro v1 h ln
  cases DP:Lab.nN n M n with
  |false=>
   rw [DP] at ln
   obtain ⟨rfl,st⟩:=ln
   refine I.v .U (I.v (.bool false) (I.aC .U (I.aC (.bool false) (I.ak (I.bx rfl (SQ D.g hn e5 st) ?_)))))
   rintro v2 h st
   refine I.bx rfl (L5 D.g hn (Lab.KC n M) st) ?_
   rintro v1 h ln
   cases rA:Lab.nN n (Lab.kI n M) n with
   |false=>
    rw [rA] at ln
    obtain ⟨rfl,st⟩:=ln
    refine I.v .U (I.v (.bool false) (I.aC .U (I.aC (.bool false) (I.nil (WP.seq (WP.ak (I.v (.bool true) (I.no rfl (I.no rfl (I.aC (.bool true) (I.bI (WP.ak (I.val (v:= .agg [.U, .U, .U, .U, .int .i64 0, .int .i64 0]) (L.build rfl) (I.bM (row':=[.U, .U, .U, .U, .int .i64 0, .int .i64 0]) st 2 rfl rfl rfl rfl rfl rfl rfl (fun h st=> ?_)))))))))))))))
    refine I.aC (.bool false) (I.nil (WP.ret ?_))
    rw [Lab.SK e5 DP]
    exact ⟨_,(cH (eY (l:=[.U, .U, .U, .U, .int .i64 0, .int .i64 0]) rfl (L.eN (st.aN 2 rfl) rfl rfl rfl)) (b0 (.bool false))),rfl,((st.tail.pick 1 rfl).tail.pick 1 rfl)⟩
   |true=>
    rw [rA] at ln
    obtain ⟨ei,rfl,st⟩:=ln
    rw [Lab.P2 e5] at st
    refine I.v ei (I.v (.bool true) (I.aC ei (I.aC (.bool true) (I.nil (WP.seq (WP.ak (I.v (.bool true) (I.no rfl (I.no rfl (I.aC (.bool true) (I.bI (WP.ak (I.val (v:= .agg [.U, .U, .U, .U, .int .i64 0, .int .i64 0]) (L.build rfl) (I.bM (row':=[.U, .U, .U, .U, .int .i64 0, .int .i64 0]) st 3 rfl rfl rfl rfl rfl rfl rfl (fun h st=> ?_)))))))))))))))
    refine I.aC (.bool false) (I.nil (WP.ret ?_))
    rw [Lab.SK e5 DP]
    exact ⟨_,(cH (eY (l:=[.U, .U, .U, .U, .int .i64 0, .int .i64 0]) rfl (L.eN (st.aN 3 rfl) rfl rfl rfl)) (b0 (.bool false))),rfl,((st.tail.tail.pick 1 rfl).tail.pick 1 rfl)⟩
  |true=>
   rw [DP] at ln
   obtain ⟨dT,rfl,st⟩:=ln
   refine I.v dT (I.v (.bool true) (I.aC dT (I.aC (.bool true) (I.ak (I.bx rfl (SQ D.g hn e5 (st.pick 1 rfl)) ?_)))))
   rintro v2 h st
   refine I.bx rfl (L5 D.g hn (Lab.KC n M) st) ?_
   rintro v1 h ln
   cases rA:Lab.nN n (Lab.kI n M) n with
   |false=>
    rw [rA] at ln
    obtain ⟨rfl,st⟩:=ln
    refine I.v .U (I.v (.bool false) (I.aC .U (I.aC (.bool false) (I.nil (WP.seq (WP.ak (I.v (.bool false) (I.yes rfl (I.v (.bool false) (I.yes rfl (I.v (.bool true) (I.aC (.bool true) (I.bI (WP.ak (I.val (v:= .agg [.U, .U, .U, .U, .int .i64 0, .int .i64 0]) (L.build rfl) (I.bM (row':=[.U, .U, .U, .U, .int .i64 0, .int .i64 0]) st 3 rfl rfl rfl rfl rfl rfl rfl (fun h st=> ?_)))))))))))))))))
    refine I.aC (.bool false) (I.nil (WP.ret ?_))
    rw [Lab.aeY e5 rA]
    exact ⟨_,(cH (eY (l:=[.U, .U, .U, .U, .int .i64 0, .int .i64 0]) rfl (L.eN (st.aN 3 rfl) rfl rfl rfl)) (b0 (.bool false))),rfl,(((st.tail.pick 1 rfl).tail.pick 1 rfl).tail.pick 1 rfl)⟩
   |true=>
    rw [rA] at ln
    obtain ⟨ei,rfl,st⟩:=ln
    rw [Lab.P2 e5] at st
    refine I.v ei (I.v (.bool true) (I.aC ei (I.aC (.bool true) (I.nil (WP.seq (WP.ak (I.v (.bool false) (I.yes rfl (I.v (.bool true) (I.yes rfl (I.v (.bool false) (I.aC (.bool false) (I.bw (WP.skip (WP.ak (I.val (v:= .agg [eu,v,dT,ei, .int .i64 0, .int .i64 0]) (L.build (ae6 (Rows.L4 (st.bt 5 rfl)) (gb.cells (st.bt 2 rfl)) (oz.cells (st.bt 3 rfl)) (oz.cells (st.bt 0 rfl)))) (I.dI st L.alloc (fun cr h st=> ?_))))))))))))))))))
    refine I.bM (row':=[eu,v,dT,ei, .int .i64 0, .int .i64 0]) st 0 rfl rfl rfl rfl rfl rfl rfl (fun h st=> ?_)
    refine I.nil (WP.seq (WP.ak (I.aC (.int .i64 0) (I.nil (WP.block (WP.dS (α:=Nat) (fun a env h=>∃oI,(a≤n)∧env=c6 [eu,v, .ptr res 0,bW, .n n, .n n, .bool false,dH,eo,ih, .bool true, .bool true, .bool false,dT,ei, .n a,oI, .ptr cr 0] 0 Env.nil∧aq (.box cr [eu,v,dT,ei, .int .i64 (Lab.iZ n M a:Int), .int .i64 (Lab.iY n M a:Int)]:: .box res [.U, .U, .U, .U, .int .i64 0, .int .i64 0]:: .aE (fun h=>oz h dT (Lab.jL n M n)):: .aE (fun h=>oz h ei (Lab.qC n M n)):: .aE (fun h=>Rows 1 h eu (SR az)):: .aE (fun h=>gb h v M)::fs) h) (fun a=>n - a) 0 ?_ ?_))))))
    ·exact ⟨.bot,Nat.zero_le _,by kernel_rfl,((((((st.pick 2 rfl).tail.pick 5 rfl).pick 2 rfl).pick 4 rfl).pick 5 rfl).pick 4 rfl)⟩
    rintro a _ h ⟨oI,ha,rfl,st⟩
    refine WP.seq (WP.ak (I.bV (L.lss rfl rfl) (fun cG=> ?_) (fun cG=> ?_)))
    ·replace cG:a<n:=by omega
     refine I.bI (WP.skip (WP.seq (WP.block (WP.ak (I.f (.ptr cr 5) (I.b (.int .i64 (Lab.iY n M a:Int)) (st.aN 0 rfl) ?_))))))
     have DQ:Lab.iY n M a<n:=Lab.aeU (by omega) a
     obtain ⟨u,iJ,gm⟩:=(st.bt 2 rfl).at (Lab.aeM DQ)
     refine I.val (v:= .ptr (cY dT) (db dT+Lab.iY n M a * 1)) (L.PZ (st.bt 2 rfl) (by rw [Lab.aeP];exact DQ) rfl rfl) (I.val (v:=u) (L.load rfl iJ) (I.val (v:= .ptr (cY u) (db u+a * 1)) (L.nM gm (by rw [List.length_map,Lab.SJ];omega) rfl rfl) (I.val (v:= .int .i64 (Lab.iY n M (a+1):Int)) (L.load rfl (by rw [Lab.KF];exact SP gm (Lab.aeL cG))) (I.f (.ptr cr 5) (I.bM (row':=[eu,v,dT,ei, .int .i64 (Lab.iZ n M a:Int), .int .i64 (Lab.iY n M (a+1):Int)]) st 0 rfl rfl rfl rfl rfl rfl rfl (fun h st=> ?_))))))
     refine I.nil (WP.ad (I.f (.ptr cr 4) (I.b (.int .i64 (Lab.iZ n M a:Int)) (st.aN 0 rfl) ?_)))
     have DQ:Lab.iZ n M a<n:=Lab.aeV (by omega) a
     obtain ⟨u,iJ,gm⟩:=(st.bt 3 rfl).at (Lab.aeO DQ)
     refine I.val (v:= .ptr (cY ei) (db ei+Lab.iZ n M a * 1)) (L.PZ (st.bt 3 rfl) (by rw [Lab.aeQ];exact DQ) rfl rfl) (I.val (v:=u) (L.load rfl iJ) (I.val (v:= .ptr (cY u) (db u+a * 1)) (L.nM gm (by rw [List.length_map,Lab.aeR];omega) rfl rfl) (I.val (v:= .int .i64 (Lab.iZ n M (a+1):Int)) (L.load rfl (by rw [Lab.KG];exact SP gm (Lab.aeN cG))) (I.f (.ptr cr 4) (I.bM (row':=[eu,v,dT,ei, .int .i64 (Lab.iZ n M (a+1):Int), .int .i64 (Lab.iY n M (a+1):Int)]) st 0 rfl rfl rfl rfl rfl rfl rfl (fun h st=> ?_))))))
     refine I.nil (WP.ad (I.bS (v:= .int .i64 ((a+1:Nat):Int)) (L.cX rfl rfl (by omega) (And.intro (by omega) (by omega))) (I.nil ?_)))
     exact ⟨a+1,(by omega),(.bool true),by omega,by kernel_rfl,st⟩
    ·have DL:a=n:=by omega
     rw [DL] at st
     rw [DL]
     refine I.bw (WP.exit (WP.ak (I.val (v:= .agg [eu,v,dT,ei, .int .i64 (Lab.iZ n M n:Int), .int .i64 (Lab.iY n M n:Int)]) (L.ey rfl (st.aN 0 rfl) rfl rfl rfl) (I.bM (row':=[eu,v,dT,ei, .int .i64 (Lab.iZ n M n:Int), .int .i64 (Lab.iY n M n:Int)]) st 1 rfl rfl rfl rfl rfl rfl rfl (fun h st=> ?_)))))
     refine I.aC (.bool true) (I.nil (WP.ret ?_))
     rw [(Lab.CQ e5).2 ⟨(by exact afc),DP,rA⟩]
     refine ⟨_,(cH (eY (l:=[eu,v,dT,ei, .int .i64 (Lab.iZ n M n:Int), .int .i64 (Lab.iY n M n:Int)]) rfl (L.eN (st.aN 1 rfl) rfl rfl rfl)) (b0 (.bool true))),_,_,rfl, ?_⟩
     exact st.tail.tail
theorem afd {S:List Lab.aL} {s x:Lab.aL} {i:Nat} (h:∀x∈S.take i,x<s) (hx:S[i]? =some x) (sJ:x<s):∀x∈S.take (i+1),x<s:=by
 intro y hy
 rw [List.take_add_one,hx] at hy
 rcases List.mem_append.1 hy with hy|hy
 ·exact h y hy
 ·have:y=x:=by simpa using hy
  exact this▸sJ
theorem SU {S:List Lab.aL} {w y:Lab.aL} {q:Nat} (hy:S[q]? =some y):(S.take (q+1)++w::S.drop (q+1))[q]? =some y:=by
 have ar:=(List.getElem?_eq_some_iff.1 hy).1
 rw [List.getElem?_append_left (by rw [List.length_take];omega),List.getElem?_take_of_lt (by omega)];exact hy
theorem L7 {S:List Lab.aL} {w s:Lab.aL} {k:Nat} (hk:k≤S.length):(S.take k++w::S.drop k).set k s=S.take k++s::S.drop k:=by
 have e:(S.take k).length=k:=by rw [List.length_take];omega
 rw [List.set_append_right _ _ (by omega),e,Nat.sub_self];rfl
theorem SV {S:List Lab.aL} {w y:Lab.aL} {q:Nat} (hy:S[q]? =some y):(S.take (q+1)++w::S.drop (q+1)).set (q+1) y=S.take q++y::S.drop q:=by
 have ar:=(List.getElem?_eq_some_iff.1 hy).1
 rw [L7 (by omega),List.take_add_one,hy,List.drop_eq_getElem_cons ar,(List.getElem?_eq_some_iff.1 hy).2];simp
theorem SX (D:yx c) {fs:List Fact} {h:ae} {bs:List Nat} {f:Nat} {v:V} {S:List Lab.aL} {s:Lab.aL} (hn:S.length<4294967296) (st:aq (.cS bs f 1 v (SR S)::fs) h):
 bT c 47 [v,L.str s] h fun v1 h1=>∃iT f1 S1,Lab.Ins S s S1∧aq (.cS iT f1 1 v1 (SR S1)::fs) h1:=by
 refine bT.dN D.f47 rfl (WP.ak (I.aC .U (I.ak (I.aC (.int .i64 0) (I.nil (WP.seq (WP.block (WP.dS (α:=Nat) (fun i env h=>∃eM,(i≤S.length∧∀x∈S.take i,x<s)∧env=c6 [v,L.str s, .U, .n i,eM] 0 Env.nil∧aq (.cS bs f 1 v (SR S)::fs) h) (fun i=>S.length - i) 0 ?_ ?_))))))))
 ·exact ⟨.bot,⟨Nat.zero_le _,fun x hx=>by simp at hx⟩,by kernel_rfl,st⟩
 rintro i _ h ⟨eM,⟨ag,hlt⟩,rfl,st⟩
 refine WP.seq (WP.ak (I.val (v:= .n S.length) (L.fD rfl (st.jK 0 rfl (by decide)) (gQ _)) (I.ej (L.lss rfl rfl) (fun c1=> ?_) (fun c1=> ?_))))
 ·replace c1:i<S.length:=by omega
  obtain ⟨x,hx⟩:∃y,S[i]? =some y:=⟨S[i]'(by omega),List.getElem?_eq_getElem (by omega)⟩
  refine I.yes rfl (I.v v (I.yes rfl (I.v (.n i) (I.yes rfl (I.val (v:= .ptr (cY v) (db v+i * 1)) (L.nM (st.jK 0 rfl (by decide)) (by rw [gQ];omega) rfl rfl) (I.yes rfl (I.val (v:=L.str x) (L.load rfl ((st.jK 0 rfl (by decide)).vA (qD hx))) (I.yes rfl (I.v (L.str s) (I.yes rfl (I.ej (L.Z7 rfl rfl) (fun c2=> ?_) (fun c2=> ?_))))))))))))
  ·refine I.bS (v:= .bool true) rfl (I.nil (WP.cond (t:=true) rfl (WP.skip (WP.block (WP.ad (I.bS (v:= .int .i64 ((i+1:Nat):Int)) (L.cX rfl rfl (by omega) (And.intro (by omega) (by omega))) (I.nil ?_)))))))
   exact ⟨i+1,(by omega),(.bool true),⟨by omega,afd hlt hx c2⟩,by kernel_rfl,st⟩
  ·have sH:∀z,S[i]? =some z→¬z<s:=fun z h=>by rw [hx] at h;cases h;exact c2
   refine I.aC (.bool false) (I.bw (WP.exit (WP.seq (WP.ak (I.val (v:= .n S.length) (L.fD rfl (st.jK 0 rfl (by decide)) (gQ _)) (I.ej (L.lss rfl rfl) (fun _=> ?_) (fun pV=>by exfalso;omega)))))))
   refine I.yes rfl (I.v v (I.yes rfl (I.v (.n i) (I.yes rfl (I.val (v:= .ptr (cY v) (db v+i * 1)) (L.nM (st.jK 0 rfl (by decide)) (by rw [gQ];omega) rfl rfl) (I.yes rfl (I.val (v:=L.str x) (L.load rfl ((st.jK 0 rfl (by decide)).vA (qD hx))) (I.yes rfl (I.v (L.str s) (I.yes rfl (I.ej (L.seq rfl rfl) (fun cG=> ?_) (fun cG=> ?_))))))))))))
   ·refine I.aC (.bool true) (I.bI (WP.ak (I.aC v (I.nil (WP.ret ?_)))))
    exact ⟨_,(b0 v),_,_,S,⟨i,ag,hlt,sH,(if_pos (by rw [hx,cG])).symm⟩,st⟩
   ·have bG:¬S[i]? =some s:=by rw [hx];intro e;exact cG (Option.some.inj e)
    refine I.aC (.bool false) (I.bw (WP.skip (WP.ak (I.fS (rows:=[[.str 0 0]]) st rfl (by decide) rfl (by simp) (fun RL h st=> ?_)))))
    refine I.Pu (st.pick 1 rfl) rfl rfl (new:=[[V.str 0 0]]) (st.bt 0 rfl) (by decide) (by rw [gQ];simp only [List.length_cons,List.length_nil];omega) (fun iT f1 v1 h st=> ?_)
    rw [show SR S++[[V.str 0 0]]=SR (S.take S.length++[]::S.drop S.length) from by rw [List.take_length,List.drop_length,CL];rfl] at st
    obtain ⟨b,rfl⟩:∃b,v1= .au b 0 (S.length+1) none:=F8 (st.xM 0 rfl) (by rw [gQ];simp) (by omega)
    refine I.nil (WP.seq (WP.seq (WP.ad (I.val (v:= .int .i64 ((S.length+1:Nat):Int)) (L.pr rfl) (I.bS (v:= .n S.length) (L.jA rfl rfl (by omega) (And.intro (by omega) (by omega))) (I.nil (WP.block (WP.dS (α:=Nat) (fun k env h=>∃w dH,(i≤k∧k≤S.length)∧env=c6 [.au b 0 (S.length+1) none,L.str s, .U, .n i, .bool false, .bool false, .n k,dH] 0 Env.nil∧aq (.cS iT f1 1 (.au b 0 (S.length+1) none) (SR (S.take k++w::S.drop k))::fs) h) (fun k=>k) S.length ?_ ?_))))))))
    ·exact ⟨[], .bot,⟨ag,Nat.le_refl _⟩,by kernel_rfl,(st.pick 1 rfl).tail⟩
    rintro k _ h ⟨w,dH,⟨MA,hk⟩,rfl,st⟩
    refine WP.seq (WP.ak (I.bV (L.gtr rfl rfl) (fun dm=> ?_) (fun dm=> ?_)))
    ·obtain ⟨q,rfl⟩:∃q,k=q+1:=⟨k - 1,by omega⟩
     obtain ⟨y,hy⟩:∃y,S[q]? =some y:=⟨S[q]'(by omega),List.getElem?_eq_getElem (by omega)⟩
     refine I.nil (WP.cond (t:=true) rfl (WP.skip (WP.seq (WP.block (WP.ad (I.val (v:= .n q) (L.jA rfl rfl (by omega) (And.intro (by omega) (by omega))) (I.val (v:= .ptr b (0+q * 1)) (L.bY rfl rfl (by omega)) (I.val (v:=L.str y) (L.load rfl ((st.jK 0 rfl (by decide)).eb (qD (SU hy)))) (I.val (v:= .ptr b (0+(q+1) * 1)) (L.bY rfl rfl (by omega)) (I.CH st rfl rfl (by decide) (by rw [gQ];simp;omega) rfl (fun h st=> ?_)))))))))))
     replace st:aq (.cS iT f1 1 (.au b 0 (S.length+1) none) (SR (S.take q++y::S.drop q))::fs) h:=by rw [←SV hy (w:=w),←CM];exact st
     refine I.nil (WP.ad (I.bS (v:= .n q) (L.jA rfl rfl (by omega) (And.intro (by omega) (by omega))) (I.nil ?_)))
     exact ⟨q,(by omega),y,(.bool true),⟨by omega,by omega⟩,by kernel_rfl,st⟩
    ·obtain rfl:k=i:=by omega
     refine I.bw (WP.exit (WP.ak (I.val (v:= .ptr b (0+k * 1)) (L.bY rfl rfl (by omega)) (I.CH st rfl rfl (by decide) (by rw [gQ];simp;omega) rfl (fun h st=> ?_)))))
     replace st:aq (.cS iT f1 1 (.au b 0 (S.length+1) none) (SR (S.take k++s::S.drop k))::fs) h:=by rw [←L7 (w:=w) (show k≤S.length by omega),←CM];exact st
     refine I.ak (I.aC (.au b 0 (S.length+1) none) (I.nil (WP.ret ?_)))
     exact ⟨_,(b0 (.au b 0 (S.length+1) none)),_,_,_,⟨k,by omega,hlt,sH,(if_neg bG).symm⟩,st⟩
 ·replace c1:¬i<S.length:=by omega
  have hx:S[i]? =none:=List.getElem?_eq_none (by omega)
  have sH:∀x,S[i]? =some x→¬x<s:=fun x h=>by rw [hx] at h;cases h
  have bG:¬S[i]? =some s:=by rw [hx];simp
  refine I.no rfl (I.no rfl (I.no rfl (I.no rfl (I.no rfl (I.no rfl (I.aC (.bool false) (I.bw (WP.exit (WP.seq (WP.ak (I.val (v:= .n S.length) (L.fD rfl (st.jK 0 rfl (by decide)) (gQ _)) (I.ej (L.lss rfl rfl) (fun pV=>by exfalso;omega) (fun _=> ?_)))))))))))))
  refine I.no rfl (I.no rfl (I.no rfl (I.no rfl (I.no rfl (I.no rfl (I.aC (.bool false) (I.bw (WP.skip (WP.ak (I.fS (rows:=[[.str 0 0]]) st rfl (by decide) rfl (by simp) (fun RM h st=> ?_)))))))))))
  refine I.Pu (st.pick 1 rfl) rfl rfl (new:=[[V.str 0 0]]) (st.bt 0 rfl) (by decide) (by rw [gQ];simp only [List.length_cons,List.length_nil];omega) (fun iT f1 v1 h st=> ?_)
  rw [show SR S++[[V.str 0 0]]=SR (S.take S.length++[]::S.drop S.length) from by rw [List.take_length,List.drop_length,CL];rfl] at st
  obtain ⟨b,rfl⟩:∃b,v1= .au b 0 (S.length+1) none:=F8 (st.xM 0 rfl) (by rw [gQ];simp) (by omega)
  refine I.nil (WP.seq (WP.seq (WP.ad (I.val (v:= .int .i64 ((S.length+1:Nat):Int)) (L.pr rfl) (I.bS (v:= .n S.length) (L.jA rfl rfl (by omega) (And.intro (by omega) (by omega))) (I.nil (WP.block (WP.dS (α:=Nat) (fun k env h=>∃w dH,(i≤k∧k≤S.length)∧env=c6 [.au b 0 (S.length+1) none,L.str s, .U, .n i, .bool false, .bool false, .n k,dH] 0 Env.nil∧aq (.cS iT f1 1 (.au b 0 (S.length+1) none) (SR (S.take k++w::S.drop k))::fs) h) (fun k=>k) S.length ?_ ?_))))))))
  ·exact ⟨[], .bot,⟨ag,Nat.le_refl _⟩,by kernel_rfl,(st.pick 1 rfl).tail⟩
  rintro k _ h ⟨w,dH,⟨MA,hk⟩,rfl,st⟩
  refine WP.seq (WP.ak (I.bV (L.gtr rfl rfl) (fun dm=> ?_) (fun dm=> ?_)))
  ·obtain ⟨q,rfl⟩:∃q,k=q+1:=⟨k - 1,by omega⟩
   obtain ⟨y,hy⟩:∃y,S[q]? =some y:=⟨S[q]'(by omega),List.getElem?_eq_getElem (by omega)⟩
   refine I.bI (WP.skip (WP.seq (WP.block (WP.ad (I.val (v:= .n q) (L.jA rfl rfl (by omega) (by omega)) (I.val (v:= .ptr b (0+q * 1)) (L.bY rfl rfl (by omega)) (I.val (v:=L.str y) (L.load rfl ((st.jK 0 rfl (by decide)).eb (qD (SU hy)))) (I.val (v:= .ptr b (0+(q+1) * 1)) (L.bY rfl rfl (by omega)) (I.CH st rfl rfl (by decide) (by rw [gQ];simp;omega) rfl (fun h st=> ?_))))))))))
   replace st:aq (.cS iT f1 1 (.au b 0 (S.length+1) none) (SR (S.take q++y::S.drop q))::fs) h:=by rw [←SV hy (w:=w),←CM];exact st
   refine I.nil (WP.ad (I.bS (v:= .n q) (L.jA rfl rfl (by omega) (by omega)) (I.nil ?_)))
   exact ⟨q,(by omega),y,(.bool true),⟨by omega,by omega⟩,by kernel_rfl,st⟩
  ·obtain rfl:k=i:=by omega
   refine I.bw (WP.exit (WP.ak (I.val (v:= .ptr b (0+k * 1)) (L.bY rfl rfl (by omega)) (I.CH st rfl rfl (by decide) (by rw [gQ];simp;omega) rfl (fun h st=> ?_)))))
   replace st:aq (.cS iT f1 1 (.au b 0 (S.length+1) none) (SR (S.take k++s::S.drop k))::fs) h:=by rw [←L7 (w:=w) (show k≤S.length by omega),←CM];exact st
   refine I.ak (I.aC (.au b 0 (S.length+1) none) (I.nil (WP.ret ?_)))
   exact ⟨_,(b0 (.au b 0 (S.length+1) none)),_,_,_,⟨k,by omega,hlt,sH,(if_neg bG).symm⟩,st⟩
end
end Go.Eng.YtmcjcbldmoijiaaGreatDoor.Lt
