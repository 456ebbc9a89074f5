/- Part of a proof of a law: rules of an evaluator, contracts, plain laws. No condition of its own. -/
import Derived.Test.YtjgmahbgfbkhnaaConG
import Derived.Test.YtjgmahbgfbkhnaaSymI
import Derived.Test.YtjgmahbgfbkhnaaConF
set_option linter.unusedVariables false
set_option linter.unusedSimpArgs false
namespace Go.Eng.Ytjgmahbgfbkhnaa
open Go.Eng
noncomputable section
variable {c:Ctx}
structure HasG (c:Ctx):Prop where
 f53:T.get 53 c.aR=some i53
 f54:T.get 54 c.aR=some i54
 r:HasR c
theorem CY (D:HasG c) {fs:List Fact} {h:Heap} {v:V} {n:Nat} {M:List (List Bool)} (hn:n<4294967296) (sq:Sq n M) (st:St (.stb (fun h=>fU h v M)::fs) h):
 aM c 54 [v] h fun v1 h1=>St (.stb (fun h=>fU h v1 (Lab.tr n M)):: .stb (fun h=>fU h v M)::fs) h1:=by
 refine aM.bX D.f54 rfl (WP.seq (WP.reg (WO.ak (v:= .slN) rfl (WO.nil (WP.seq (WP.reg (WO.ak (v:= .slN) rfl (WO.nil (WP.seq (WP.seq (WP.reg (WO.ak (v:= .int .i64 0) rfl (WO.nil (WP.block ?_))))))))))))))
 replace st:St (.stb (fun h=>jh h ([]) ([])):: .acc 0 1 .slN (([]:List V).map fun x=>[x]):: .stb (fun h=>fU h v M)::fs) h:=(st.acc0 1).triv (P:=fun h=>jh h [] []) fun _=>trivial
 refine WP.bT (α:=Nat) (fun i env h=>∃fK vK ks x3 x4 x5 x6,(i≤n∧ks.length=i)∧env=aO [v, .slN, .int .i64 (i:Int),x3,x4,x5,x6,vK] 0 Env.nil∧St (.stb (fun h=>jh h (Lab.trK n M i) ks):: .acc fK 1 vK (ks.map fun x=>[x]):: .stb (fun h=>fU h v M)::fs) h) (fun i=>n - i) 0 ?_ ?_
 ·exact ⟨0, .slN,[], .bot, .bot, .bot, .bot,⟨Nat.zero_le _,rfl⟩,by kernel_rfl,st⟩
 rintro i _ h ⟨fK,vK,ks,x3,x4,x5,x6,⟨hi,hkl⟩,rfl,st⟩
 refine WP.seq (WP.seq (WP.reg (WO.val (v:= .int .i64 (n:Int)) (L.nL rfl (st.aB 2 rfl) sq.len) (WO.ifS (L.lss rfl rfl) (fun c1=> ?_) (fun c1=> ?_)))))
 ·replace c1:i<n:=by omega
  refine WO.nil (WP.cond (t:=true) rfl (WP.skip (WP.seq (WP.block (WP.seq (WP.reg (WO.val (v:= .int .i64 (n:Int)) (L.nL rfl (st.aB 2 rfl) sq.len) (WO.ED st rfl rfl (by decide) rfl (by omega) (fun cb h st=> ?_)))))))))
  rw [KO n (fun x=>Lab.at2 M x i)] at st
  refine WO.nil (WP.seq (WP.seq (WP.reg (WO.ak (v:= .int .i64 0) rfl (WO.nil (WP.block (WP.bT (α:=Nat) (fun k env h=>∃x5,(k≤n)∧env=aO [v, .slN, .int .i64 (i:Int), .bool true, .int .i64 (k:Int),x5, .sl cb 0 n (some n),vK] 0 Env.nil∧St (.cel cb 1 ((Lab.iN n (fun x=>Lab.at2 M x i) k).map bv):: .stb (fun h=>jh h (Lab.trK n M i) ks):: .acc fK 1 vK (ks.map fun x=>[x]):: .stb (fun h=>fU h v M)::fs) h) (fun k=>n - k) 0 ?_ ?_)))))))
  ·exact ⟨x5,Nat.zero_le _,by kernel_rfl,st⟩
  rintro k _ h ⟨x5,hk,rfl,st⟩
  refine WP.seq (WP.seq (WP.reg (WO.val (v:= .int .i64 (n:Int)) (L.nL rfl (st.aB 3 rfl) sq.len) (WO.ifS (L.lss rfl rfl) (fun c2=> ?_) (fun c2=> ?_)))))
  ·replace c2:k<n:=by omega
   obtain ⟨u,r,hu1,hu2,hrl,hur⟩:=pY sq (st.aB 3 rfl) (show k<n by omega)
   refine WO.nil (WP.cond (t:=true) rfl (WP.skip (WP.seq (WP.block (WP.reg (WO.val (v:= .ptr (slB v) (slO v+k * 1)) (L.jb (st.aB 3 rfl) (by rw [sq.len];omega) rfl rfl) (WO.val (v:=u) (L.load rfl hu1) (WO.val (v:= .ptr (slB u) (slO u+i * 1)) (L.fB hu2 (by rw [List.length_map];omega) rfl rfl) (WO.val (v:= .bool (Lab.at2 M k i)) (L.load rfl (mO hu2 (hur i (by omega)))) (WO.val (v:= .ptr cb (0+k * 1)) (L.aC rfl rfl (by omega)) (WO.mK st rfl (show _=some [V.bool ((fun x=>Lab.at2 M x i) k)] from rfl) (by rw [List.length_map,Lab.jB];omega) (fun h st=> ?_))))))))))))
   rw [ES c2] at st
   refine WO.nil (WP.reg (WO.ak (v:= .int .i64 ((k+1:Nat):Int)) (L.bP rfl rfl (by omega) (And.intro (by omega) (by omega))) (WO.nil ?_)))
   exact ⟨k+1,(by omega),(.bool true),by omega,by kernel_rfl,st⟩
  ·have ec2:k=n:=by omega
   rw [ec2] at st
   rw [ec2]
   replace st:St (.stb (fun h=>Rows 1 h (.sl cb 0 n (some n)) ((Lab.iN n (fun x=>Lab.at2 M x i) n).map bv)):: .stb (fun h=>jh h (Lab.trK n M i) ks):: .acc fK 1 vK (ks.map fun x=>[x]):: .stb (fun h=>fU h v M)::fs) h:=cel_bv (st) (Lab.jB _ _ _)
   refine WO.nil (WP.cond (t:=false) rfl (WP.exit (WP.reg (WO.gJ (rows:=[[.sl cb 0 n (some n)]]) st rfl (by decide) rfl (by simp) (fun cl1 h st=> ?_)))))
   refine WO.gW st 3 rfl rfl rfl (st.aB 0 rfl) (by decide) (by simp;omega) (fun fN vN h st=> ?_)
   rw [show (ks.map fun x=>[x])++[[V.sl cb 0 n (some n)]]=(ks++[V.sl cb 0 n (some n)]).map fun x=>[x] from by simp] at st
   replace st:St (.stb (fun h=>jh h (Lab.trK n M i++[Lab.iN n (fun x=>Lab.at2 M x i) n]) (ks++[V.sl cb 0 n (some n)])):: .stb (fun h=>Rows 1 h (.sl cl1 0 1 (some 1)) [[.sl cb 0 n (some n)]]):: .acc fN 1 vN ((ks++[V.sl cb 0 n (some n)]).map fun x=>[x]):: .stb (fun h=>fU h v M)::fs) h:=(((st.pick 2 rfl).pick 2 rfl)).and.o6 fun h hx=>hx.2.snoc hx.1
   refine WO.nil (WP.reg (WO.ak (v:= .int .i64 ((i+1:Nat):Int)) (L.bP rfl rfl (by omega) (And.intro (by omega) (by omega))) (WO.nil ?_)))
   rw [←Lab.KG] at st
   exact ⟨i+1,(by omega),fN,vN,(ks++[V.sl cb 0 n (some n)]),(.bool true),(.int .i64 (n:Int)),(.bool false),(.sl cb 0 n (some n)),⟨by omega,by simp [hkl]⟩,by kernel_rfl,(st.pick 1 rfl).tail⟩
 ·have ec1:i=n:=by omega
  refine WO.nil (WP.cond (t:=false) rfl (WP.exit (WP.seq (WP.reg (WO.ak (v:=vK) rfl (WO.nil (WP.ret ?_)))))))
  rw [ec1,Lab.trK_all] at st
  exact ⟨_,(aj (au (v:=vK) rfl) (ay _ _)),(((st.pick 1 rfl)).shut (by decide)).and.o6 fun h hx=>⟨_,hx.1,hx.2⟩⟩
theorem Av (D:HasG c) {fs:List Fact} {h:Heap} {v:V} {n:Nat} {M:List (List Bool)} (hn:n<4294967296) (sq:Sq n M) (st:St (.stb (fun h=>fU h v M)::fs) h):
 aM c 53 [v] h fun v1 h1=>match Lab.okJ n M n with
  |true=>∃vJ,v1= .tup [vJ, .bool true]∧St (.stb (fun h=>kV h vJ (Lab.fu n M n)):: .stb (fun h=>fU h v M)::fs) h1
  |false=>v1= .tup [.slN, .bool false]∧St (.stb (fun h=>fU h v M)::fs) h1:=by
 refine aM.bX D.f53 rfl (WP.seq (WP.reg (WO.ak (v:= .slN) rfl (WO.ak (v:= .bool false) rfl (WO.nil (WP.seq (WP.reg (WO.ak (v:= .slN) rfl (WO.nil (WP.seq (WP.seq (WP.reg (WO.ak (v:= .int .i64 0) rfl (WO.nil (WP.block ?_)))))))))))))))
 replace st:St (.stb (fun h=>fo h ([]) ([])):: .acc 0 1 .slN (([]:List V).map fun x=>[x]):: .stb (fun h=>fU h v M)::fs) h:=(st.acc0 1).triv (P:=fun h=>fo h [] []) fun _=>trivial
 refine WP.bT (α:=Nat) (fun a env h=>∃fJ vJ js x1 x2 x4 x5 x6 x7 x8 x9 x10 x11 x12,(a≤n∧js.length=a∧Lab.okJ n M a=true)∧env=aO [v,x1,x2, .int .i64 (a:Int),x4,x5,x6,x7,x8,x9,x10,x11,x12,vJ] 0 Env.nil∧St (.stb (fun h=>fo h (Lab.fu n M a) js):: .acc fJ 1 vJ (js.map fun x=>[x]):: .stb (fun h=>fU h v M)::fs) h) (fun a=>n - a) 0 ?_ ?_
 ·exact ⟨0, .slN,[], .slN,(.bool false), .bot, .bot, .bot, .bot, .bot, .bot, .bot, .bot, .bot,⟨Nat.zero_le _,rfl,rfl⟩,by kernel_rfl,st⟩
 rintro a _ h ⟨fJ,vJ,js,x1,x2,x4,x5,x6,x7,x8,x9,x10,x11,x12,⟨ha,hjl,hok⟩,rfl,st⟩
 refine WP.seq (WP.seq (WP.reg (WO.val (v:= .int .i64 (n:Int)) (L.nL rfl (st.aB 2 rfl) sq.len) (WO.ifS (L.lss rfl rfl) (fun c1=> ?_) (fun c1=> ?_)))))
 ·replace c1:a<n:=by omega
  refine WO.nil (WP.cond (t:=true) rfl (WP.skip (WP.seq (WP.block (WP.seq (WP.reg (WO.ak (v:= .slN) rfl (WO.nil (WP.seq (WP.seq (WP.reg (WO.ak (v:= .int .i64 0) rfl (WO.nil (WP.block ?_))))))))))))))
  replace st:St (.acc 0 1 .slN (([]:List Nat).map iv):: .stb (fun h=>fo h (Lab.fu n M a) js):: .acc fJ 1 vJ (js.map fun x=>[x]):: .stb (fun h=>fU h v M)::fs) h:=st.acc0 1
  refine WP.bT (α:=Nat) (fun b env h=>∃fr vr x1 x2 x6 x7 x8 x9 x10 x11,(b≤n∧Lab.CO n M a b=true)∧env=aO [v,x1,x2, .int .i64 (a:Int), .bool true, .int .i64 (b:Int),x6,x7,x8,x9,x10,x11,vr,vJ] 0 Env.nil∧St (.acc fr 1 vr ((Lab.bQ n M a b).map iv):: .stb (fun h=>fo h (Lab.fu n M a) js):: .acc fJ 1 vJ (js.map fun x=>[x]):: .stb (fun h=>fU h v M)::fs) h) (fun b=>n - b) 0 ?_ ?_
  ·exact ⟨0, .slN,x1,x2,x6,x7,x8,x9,x10,x11,⟨Nat.zero_le _,rfl⟩,by kernel_rfl,st⟩
  rintro b _ h ⟨fr,vr,x1,x2,x6,x7,x8,x9,x10,x11,⟨hb,hokr⟩,rfl,st⟩
  refine WP.seq (WP.seq (WP.reg (WO.val (v:= .int .i64 (n:Int)) (L.nL rfl (st.aB 3 rfl) sq.len) (WO.ifS (L.lss rfl rfl) (fun c3=> ?_) (fun c3=> ?_)))))
  ·replace c3:b<n:=by omega
   refine WO.nil (WP.cond (t:=true) rfl (WP.skip (WP.seq (WP.block (WP.seq (WP.reg (WO.val (v:= .int .i64 (n:Int)) (L.nL rfl (st.aB 3 rfl) sq.len) (WO.ED st rfl rfl (by decide) rfl (by omega) (fun cb h st=> ?_)))))))))
   rw [KO n (fun x=>Lab.at2 M a x&&Lab.at2 M b x)] at st
   refine WO.nil (WP.seq (WP.seq (WP.reg (WO.ak (v:= .int .i64 0) rfl (WO.nil (WP.block (WP.bT (α:=Nat) (fun k env h=>∃x8,(k≤n)∧env=aO [v,x1,x2, .int .i64 (a:Int), .bool true, .int .i64 (b:Int), .bool true, .int .i64 (k:Int),x8, .sl cb 0 n (some n),x10,x11,vr,vJ] 0 Env.nil∧St (.cel cb 1 ((Lab.iN n (fun x=>Lab.at2 M a x&&Lab.at2 M b x) k).map bv):: .acc fr 1 vr ((Lab.bQ n M a b).map iv):: .stb (fun h=>fo h (Lab.fu n M a) js):: .acc fJ 1 vJ (js.map fun x=>[x]):: .stb (fun h=>fU h v M)::fs) h) (fun k=>n - k) 0 ?_ ?_)))))))
   ·exact ⟨x8,Nat.zero_le _,by kernel_rfl,st⟩
   rintro k _ h ⟨x8,hk,rfl,st⟩
   refine WP.seq (WP.seq (WP.reg (WO.val (v:= .int .i64 (n:Int)) (L.nL rfl (st.aB 4 rfl) sq.len) (WO.ifS (L.lss rfl rfl) (fun c2=> ?_) (fun c2=> ?_)))))
   ·replace c2:k<n:=by omega
    obtain ⟨u,r,hu1,hu2,hrl,hur⟩:=pY sq (st.aB 4 rfl) (show a<n by omega)
    obtain ⟨u2,r2,hw1,hw2,hrl2,hur2⟩:=pY sq (st.aB 4 rfl) (show b<n by omega)
    refine WO.nil (WP.cond (t:=true) rfl (WP.skip (WP.seq (WP.block (WP.reg (WO.val (v:= .ptr (slB v) (slO v+a * 1)) (L.jb (st.aB 4 rfl) (by rw [sq.len];omega) rfl rfl) (WO.val (v:=u) (L.load rfl hu1) (WO.val (v:= .ptr (slB u) (slO u+k * 1)) (L.fB hu2 (by rw [List.length_map];omega) rfl rfl) ?_))))))))
    rcases kD (Lab.at2 M a k) with hqa|hqa
    ·refine WO.val (v:= .bool false) (L.load rfl (by rw [mO hu2 (hur k c2),hqa])) (WO.no rfl (WO.no rfl (WO.no rfl (WO.no rfl (WO.no rfl (WO.no rfl (WO.no rfl (WO.val (v:= .bool false) rfl (WO.val (v:= .ptr cb (0+k * 1)) (L.aC rfl rfl (by omega)) (WO.mK st rfl (show _=some [V.bool ((fun x=>Lab.at2 M a x&&Lab.at2 M b x) k)] from by rw [show (fun x=>Lab.at2 M a x&&Lab.at2 M b x) k=false from by simp [hqa]];rfl) (by rw [List.length_map,Lab.jB];omega) (fun h st=> ?_)))))))))))
     rw [ES c2] at st
     refine WO.nil (WP.reg (WO.ak (v:= .int .i64 ((k+1:Nat):Int)) (L.bP rfl rfl (by omega) (And.intro (by omega) (by omega))) (WO.nil ?_)))
     exact ⟨k+1,(by omega),(.bool true),by omega,by kernel_rfl,st⟩
    ·refine WO.val (v:= .bool true) (L.load rfl (by rw [mO hu2 (hur k c2),hqa])) (WO.yes rfl (WO.val (v:=v) rfl (WO.yes rfl (WO.val (v:= .int .i64 (b:Int)) rfl (WO.yes rfl (WO.val (v:= .ptr (slB v) (slO v+b * 1)) (L.jb (st.aB 4 rfl) (by rw [sq.len];omega) rfl rfl) (WO.yes rfl (WO.val (v:=u2) (L.load rfl hw1) (WO.yes rfl (WO.val (v:= .int .i64 (k:Int)) rfl (WO.yes rfl (WO.val (v:= .ptr (slB u2) (slO u2+k * 1)) (L.fB hw2 (by rw [List.length_map];omega) rfl rfl) (WO.yes rfl (WO.val (v:= .bool (Lab.at2 M b k)) (L.load rfl (mO hw2 (hur2 k c2))) (WO.val (v:= .bool (Lab.at2 M b k)) rfl (WO.val (v:= .ptr cb (0+k * 1)) (L.aC rfl rfl (by omega)) (WO.mK st rfl (show _=some [V.bool ((fun x=>Lab.at2 M a x&&Lab.at2 M b x) k)] from by rw [show (fun x=>Lab.at2 M a x&&Lab.at2 M b x) k=Lab.at2 M b k from by simp [hqa]];rfl) (by rw [List.length_map,Lab.jB];omega) (fun h st=> ?_))))))))))))))))))
     rw [ES c2] at st
     refine WO.nil (WP.reg (WO.ak (v:= .int .i64 ((k+1:Nat):Int)) (L.bP rfl rfl (by omega) (And.intro (by omega) (by omega))) (WO.nil ?_)))
     exact ⟨k+1,(by omega),(.bool true),by omega,by kernel_rfl,st⟩
   ·have ec2:k=n:=by omega
    rw [ec2] at st
    rw [ec2]
    refine WO.nil (WP.cond (t:=false) rfl (WP.exit (WP.seq (WP.reg ?_))))
    have hRc:Rows 1 h (.sl cb 0 n (some n)) ((Lab.iN n (fun x=>Lab.at2 M a x&&Lab.at2 M b x) n).map bv):=by have:=st.FT (cap:=some n) 0 rfl;rw [List.length_map,Lab.jB] at this;exact this
    refine WO.dB rfl (KE D.r hn sq (st.aB 4 rfl) hRc (Lab.jB _ _ _) (fun k hk=>Lab.KF hk)) ?_
    rintro _ _ ⟨rfl,rfl⟩
    rw [show Lab.least n (Lab.at2 M) (fun x=>Lab.at2 M a x&&Lab.at2 M b x)=Lab.join n M a b from rfl]
    cases hj:Lab.join n M a b with
    |none=>
     have ez:EM (none)=(-1):=rfl
     rw [ez]
     refine WO.nil (WP.seq (WP.seq (WP.reg (WO.ifS (L.lss rfl rfl) (fun _=> ?_) (fun c9=>by exfalso;omega)))))
     refine WO.nil (WP.cond (t:=true) rfl (WP.seq (WP.reg (WO.ak (v:= .slN) rfl (WO.ak (v:= .bool false) rfl (WO.nil (WP.ret ?_)))))))
     rw [Lab.okJ_no (by omega) (by omega) hj]
     exact ⟨_,(aj (au (v:= .slN) rfl) (aj (au (v:= .bool false) rfl) (ay _ _))),rfl,st.tail.tail.tail.tail⟩
    |some jx=>
     have ez:EM (some jx)=(jx:Int):=rfl
     rw [ez]
     refine WO.nil (WP.seq (WP.seq (WP.reg (WO.ifS (L.lss rfl rfl) (fun c9=>by exfalso;omega) (fun _=> ?_)))))
     refine WO.nil (WP.cond (t:=false) rfl (WP.skip (WP.reg (WO.gJ (rows:=[[.int .i64 (jx:Int)]]) st rfl (by decide) rfl (by simp) (fun il1 h st=> ?_)))))
     refine WO.gW st 2 rfl rfl rfl (st.aB 0 rfl) (by decide) (by rw [List.length_map,Lab.uR];simp only [List.length_cons,List.length_nil];omega) (fun fN vN h st=> ?_)
     have e1:=Lab.ku n M a b
     rw [hj] at e1
     rw [show (Lab.bQ n M a b).map iv++[[V.int .i64 (jx:Int)]]=(Lab.bQ n M a (b+1)).map iv from by rw [e1,List.map_append];rfl] at st
     refine WO.nil (WP.reg (WO.ak (v:= .int .i64 ((b+1:Nat):Int)) (L.bP rfl rfl (by omega) (And.intro (by omega) (by omega))) (WO.nil ?_)))
     exact ⟨b+1,(by omega),fN,vN,x1,x2,(.bool true),(.int .i64 (n:Int)),(.bool false),(.sl cb 0 n (some n)),(.int .i64 (jx:Int)),(.bool false),⟨by omega,by rw [Lab.Iy,hokr,hj];rfl⟩,by kernel_rfl,st.tail.tail⟩
  ·have ec3:b=n:=by omega
   rw [ec3] at st hokr
   rw [ec3]
   have hcr:=(st.dK 0 rfl).cells
   replace st:St (.stb (fun h=>Rows 1 h vr ((Lab.bQ n M a n).map iv)):: .stb (fun h=>fo h (Lab.fu n M a) js):: .acc fJ 1 vJ (js.map fun x=>[x]):: .stb (fun h=>fU h v M)::fs) h:=(st).shut (by decide)
   refine WO.nil (WP.cond (t:=false) rfl (WP.exit (WP.reg (WO.gJ (rows:=[[vr]]) st (xD hcr) (by decide) rfl (by simp) (fun rl1 h st=> ?_)))))
   refine WO.gW st 3 rfl rfl rfl (st.aB 0 rfl) (by decide) (by simp;omega) (fun fN vN h st=> ?_)
   rw [show (js.map fun x=>[x])++[[vr]]=(js++[vr]).map fun x=>[x] from by simp] at st
   replace st:St (.stb (fun h=>fo h (Lab.fu n M a++[Lab.bQ n M a n]) (js++[vr])):: .stb (fun h=>Rows 1 h (.sl rl1 0 1 (some 1)) [[vr]]):: .acc fN 1 vN ((js++[vr]).map fun x=>[x]):: .stb (fun h=>fU h v M)::fs) h:=(((st.pick 2 rfl).pick 2 rfl)).and.o6 fun h hx=>hx.2.snoc hx.1
   refine WO.nil (WP.reg (WO.ak (v:= .int .i64 ((a+1:Nat):Int)) (L.bP rfl rfl (by omega) (And.intro (by omega) (by omega))) (WO.nil ?_)))
   rw [←Lab.xg] at st
   exact ⟨a+1,(by omega),fN,vN,(js++[vr]),x1,x2,(.bool true),(.int .i64 (n:Int)),(.bool false),x7,x8,x9,x10,x11,vr,⟨by omega,by simp [hjl],by rw [Lab.Kz,hok,hokr];rfl⟩,by kernel_rfl,(st.pick 1 rfl).tail⟩
 ·have ec1:a=n:=by omega
  refine WO.nil (WP.cond (t:=false) rfl (WP.exit (WP.seq (WP.reg (WO.ak (v:=vJ) rfl (WO.ak (v:= .bool true) rfl (WO.nil (WP.ret ?_))))))))
  rw [ec1] at st hok
  rw [hok]
  refine ⟨_,(aj (au (v:=vJ) rfl) (aj (au (v:= .bool true) rfl) (ay _ _))),_,rfl, ?_⟩
  exact (((st.pick 1 rfl)).shut (by decide)).and.o6 fun h hx=>⟨_,hx.1,hx.2⟩
end
end Go.Eng.Ytjgmahbgfbkhnaa
namespace Go.Eng.Ytjgmahbgfbkhnaa
open Go.Eng
noncomputable section
variable {c:Ctx}
structure HasH (c:Ctx):Prop where
 f28:T.get 28 c.aR=some i28
 f30:T.get 30 c.aR=some i30
 g:HasG c
theorem IJ (D:HasH c) {fs:List Fact} {h:Heap} {vn v:V} {n:Nat} {M:List (List Bool)} {NS:List Lab.Txt} (hn:n<4294967296) (hNS:NS.length=n) (sq:Sq n M) (st:St (.stb (fun h=>Rows 1 h vn (SR NS)):: .stb (fun h=>fU h v M)::fs) h):
 aM c 30 [vn,v] h fun v1 h1=>match Lab.okT n M n with
  |true=>∃vJ vK,v1= .tup [.agg [vn,v,vJ,vK, .int .i64 (Lab.loF n M n:Int), .int .i64 (Lab.hiF n M n:Int)], .bool true]∧St (.stb (fun h=>kV h vJ (Lab.fu n M n)):: .stb (fun h=>kV h vK (Lab.gX n M n)):: .stb (fun h=>Rows 1 h vn (SR NS)):: .stb (fun h=>fU h v M)::fs) h1
  |false=>v1= .tup [.agg [.slN, .slN, .slN, .slN, .int .i64 0, .int .i64 0], .bool false]∧St (.stb (fun h=>Rows 1 h vn (SR NS)):: .stb (fun h=>fU h v M)::fs) h1:=by
 refine aM.bX D.f30 rfl (WP.seq (WP.reg (WO.dz st L.alloc (fun res h st=> ?_))))
 refine WO.ak (v:= .bool false) rfl (WO.nil (WP.seq (WP.reg (WO.ak (v:= .int .i64 (n:Int)) (L.dU rfl (st.aB 1 rfl) (by rw [bY];exact hNS)) (WO.nil (WP.seq (WP.seq (WP.reg (WO.ak (v:= .int .i64 0) rfl (WO.nil (WP.block (WP.bT (α:=Nat) (fun a env h=>∃x3 x6 x7 x8 x9,(a≤n∧Lab.KJ n M a)∧env=aO [vn,v, .ptr res 0,x3, .int .i64 (a:Int), .int .i64 (n:Int),x6,x7,x8,x9] 0 Env.nil∧St (.box res [.slN, .slN, .slN, .slN, .int .i64 0, .int .i64 0]:: .stb (fun h=>Rows 1 h vn (SR NS)):: .stb (fun h=>fU h v M)::fs) h) (fun a=>n - a) 0 ?_ ?_))))))))))))
 ·exact ⟨(.bool false), .bot, .bot, .bot, .bot,⟨Nat.zero_le _,fun x y hx=>absurd hx (by omega)⟩,by kernel_rfl,st⟩
 rintro a _ h ⟨x3,x6,x7,x8,x9,⟨ha,hp⟩,rfl,st⟩
 refine WP.seq (WP.seq (WP.reg (WO.ifS (L.lss rfl rfl) (fun c1=> ?_) (fun c1=> ?_))))
 ·replace c1:a<n:=by omega
  refine WO.nil (WP.cond (t:=true) rfl (WP.skip (WP.seq (WP.block (WP.seq (WP.reg (WO.ak (v:= .int .i64 0) rfl (WO.nil (WP.block (WP.bT (α:=Nat) (fun b env h=>∃x3 x8 x9,(b≤n∧Lab.Gf M a b)∧env=aO [vn,v, .ptr res 0,x3, .int .i64 (a:Int), .int .i64 (n:Int), .bool true, .int .i64 (b:Int),x8,x9] 0 Env.nil∧St (.box res [.slN, .slN, .slN, .slN, .int .i64 0, .int .i64 0]:: .stb (fun h=>Rows 1 h vn (SR NS)):: .stb (fun h=>fU h v M)::fs) h) (fun b=>n - b) 0 ?_ ?_))))))))))
  ·exact ⟨x3,x8,x9,⟨Nat.zero_le _,fun y hy=>absurd hy (by omega)⟩,by kernel_rfl,st⟩
  rintro b _ h ⟨x3,x8,x9,⟨hb,hq⟩,rfl,st⟩
  refine WP.seq (WP.seq (WP.reg (WO.ifS (L.lss rfl rfl) (fun c2=> ?_) (fun c2=> ?_))))
  ·replace c2:b<n:=by omega
   obtain ⟨u,r,hu1,hu2,hrl,hur⟩:=pY sq (st.aB 2 rfl) (show a<n by omega)
   obtain ⟨u2,r2,hw1,hw2,hrl2,hur2⟩:=pY sq (st.aB 2 rfl) (show b<n by omega)
   refine WO.nil (WP.cond (t:=true) rfl (WP.skip (WP.seq (WP.block (WP.seq (WP.reg (WO.ifV (L.neq rfl rfl) (fun cn=> ?_) (fun cn=> ?_))))))))
   ·replace cn:a≠b:=by omega
    refine WO.yes rfl (WO.val (v:=v) rfl (WO.yes rfl (WO.val (v:= .int .i64 (a:Int)) rfl (WO.yes rfl (WO.val (v:= .ptr (slB v) (slO v+a * 1)) (L.jb (st.aB 2 rfl) (by rw [sq.len];omega) rfl rfl) (WO.yes rfl (WO.val (v:=u) (L.load rfl hu1) (WO.yes rfl (WO.val (v:= .int .i64 (b:Int)) rfl (WO.yes rfl (WO.val (v:= .ptr (slB u) (slO u+b * 1)) (L.fB hu2 (by rw [List.length_map];omega) rfl rfl) (WO.yes rfl ?_))))))))))))
    rcases kD (Lab.at2 M a b) with hqa|hqa
    ·refine WO.val (v:= .bool false) (L.load rfl (by rw [mO hu2 (hur b c2),hqa])) (WO.val (v:= .bool false) rfl (WO.no rfl (WO.no rfl (WO.no rfl (WO.no rfl (WO.no rfl (WO.no rfl (WO.no rfl (WO.ak (v:= .bool false) rfl (WO.nil (WP.cond (t:=false) rfl (WP.skip (WP.reg (WO.ak (v:= .int .i64 ((b+1:Nat):Int)) (L.bP rfl rfl (by omega) (And.intro (by omega) (by omega))) (WO.nil ?_)))))))))))))))
     exact ⟨b+1,(by omega),x3,(.bool true),(.bool false),⟨by omega,Lab.qR hq (fun _ h2=>by rw [hqa] at h2;exact absurd h2.1 (by decide))⟩,by kernel_rfl,st⟩
    ·refine WO.val (v:= .bool true) (L.load rfl (by rw [mO hu2 (hur b c2),hqa])) (WO.val (v:= .bool true) rfl (WO.yes rfl (WO.val (v:=v) rfl (WO.yes rfl (WO.val (v:= .int .i64 (b:Int)) rfl (WO.yes rfl (WO.val (v:= .ptr (slB v) (slO v+b * 1)) (L.jb (st.aB 2 rfl) (by rw [sq.len];omega) rfl rfl) (WO.yes rfl (WO.val (v:=u2) (L.load rfl hw1) (WO.yes rfl (WO.val (v:= .int .i64 (a:Int)) rfl (WO.yes rfl (WO.val (v:= .ptr (slB u2) (slO u2+a * 1)) (L.fB hw2 (by rw [List.length_map];omega) rfl rfl) (WO.yes rfl ?_))))))))))))))
     rcases kD (Lab.at2 M b a) with hqb|hqb
     ·refine WO.val (v:= .bool false) (L.load rfl (by rw [mO hw2 (hur2 a c1),hqb])) (WO.ak (v:= .bool false) rfl (WO.nil (WP.cond (t:=false) rfl (WP.skip (WP.reg (WO.ak (v:= .int .i64 ((b+1:Nat):Int)) (L.bP rfl rfl (by omega) (And.intro (by omega) (by omega))) (WO.nil ?_)))))))
      exact ⟨b+1,(by omega),x3,(.bool true),(.bool false),⟨by omega,Lab.qR hq (fun _ h2=>by rw [hqb] at h2;exact absurd h2.2 (by decide))⟩,by kernel_rfl,st⟩
     ·refine WO.val (v:= .bool true) (L.load rfl (by rw [mO hw2 (hur2 a c1),hqb])) (WO.ak (v:= .bool true) rfl (WO.nil (WP.cond (t:=true) rfl (WP.seq (WP.reg (WO.val (v:= .agg [.slN, .slN, .slN, .slN, .int .i64 0, .int .i64 0]) (L.build rfl) (WO.aI (row':=[.slN, .slN, .slN, .slN, .int .i64 0, .int .i64 0]) st 0 rfl rfl rfl rfl rfl rfl rfl (fun h st=> ?_))))))))
      refine WO.ak (v:= .bool false) rfl (WO.nil (WP.ret ?_))
      rw [Lab.KL sq (by omega) (by omega) cn hqa hqb]
      exact ⟨_,(aj (aY (l:=[.slN, .slN, .slN, .slN, .int .i64 0, .int .i64 0]) rfl (L.bC (st.av 0 rfl) rfl rfl rfl)) (aj (au (v:= .bool false) rfl) (ay _ _))),rfl,st.tail⟩
   ·replace cn:a=b:=by omega
    refine WO.no rfl (WO.no rfl (WO.no rfl (WO.no rfl (WO.no rfl (WO.no rfl (WO.no rfl (WO.val (v:= .bool false) rfl (WO.no rfl (WO.no rfl (WO.no rfl (WO.no rfl (WO.no rfl (WO.no rfl (WO.no rfl (WO.ak (v:= .bool false) rfl (WO.nil (WP.cond (t:=false) rfl (WP.skip (WP.reg (WO.ak (v:= .int .i64 ((b+1:Nat):Int)) (L.bP rfl rfl (by omega) (And.intro (by omega) (by omega))) (WO.nil ?_)))))))))))))))))))))
    exact ⟨b+1,(by omega),x3,(.bool true),(.bool false),⟨by omega,Lab.qR hq (fun hne=>absurd cn hne)⟩,by kernel_rfl,st⟩
  ·have ec2:b=n:=by omega
   rw [ec2] at hq
   refine WO.nil (WP.cond (t:=false) rfl (WP.exit (WP.reg (WO.ak (v:= .int .i64 ((a+1:Nat):Int)) (L.bP rfl rfl (by omega) (And.intro (by omega) (by omega))) (WO.nil ?_)))))
   exact ⟨a+1,(by omega),x3,(.bool true),(.int .i64 (b:Int)),(.bool false),x9,⟨by omega,Lab.EQ hp hq⟩,by kernel_rfl,st⟩
 ·have ec1:a=n:=by omega
  have hanti:Lab.anti n M:=fun x y hx hy=>hp x y (by omega) hy
  rw [ec1]
  refine WO.nil (WP.cond (t:=false) rfl (WP.exit (WP.seq (WP.reg (WO.aP rfl (Av D.g hn sq (st.pick 2 rfl)) ?_)))))
  rintro v1 h hp1
  cases hJ:Lab.okJ n M n with
  |false=>
   rw [hJ] at hp1
   obtain ⟨rfl,st⟩:=hp1
   refine WO.val (v:= .slN) rfl (WO.val (v:= .bool false) rfl (WO.ak (v:= .slN) rfl (WO.ak (v:= .bool false) rfl (WO.nil (WP.seq (WP.reg (WO.aP rfl (CY D.g hn sq st) ?_)))))))
   rintro v2 h st
   refine WO.aP rfl (Av D.g hn (Lab.Ky n M) st) ?_
   rintro v1 h hp1
   cases hK:Lab.okJ n (Lab.tr n M) n with
   |false=>
    rw [hK] at hp1
    obtain ⟨rfl,st⟩:=hp1
    refine WO.val (v:= .slN) rfl (WO.val (v:= .bool false) rfl (WO.ak (v:= .slN) rfl (WO.ak (v:= .bool false) rfl (WO.nil (WP.seq (WP.seq (WP.reg (WO.val (v:= .bool true) rfl (WO.no rfl (WO.no rfl (WO.ak (v:= .bool true) rfl (WO.nil (WP.cond (t:=true) rfl (WP.seq (WP.reg (WO.val (v:= .agg [.slN, .slN, .slN, .slN, .int .i64 0, .int .i64 0]) (L.build rfl) (WO.aI (row':=[.slN, .slN, .slN, .slN, .int .i64 0, .int .i64 0]) st 2 rfl rfl rfl rfl rfl rfl rfl (fun h st=> ?_))))))))))))))))))
    refine WO.ak (v:= .bool false) rfl (WO.nil (WP.ret ?_))
    rw [Lab.CW sq hJ]
    exact ⟨_,(aj (aY (l:=[.slN, .slN, .slN, .slN, .int .i64 0, .int .i64 0]) rfl (L.bC (st.av 2 rfl) rfl rfl rfl)) (aj (au (v:= .bool false) rfl) (ay _ _))),rfl,((st.tail.pick 1 rfl).tail.pick 1 rfl)⟩
   |true=>
    rw [hK] at hp1
    obtain ⟨vK,rfl,st⟩:=hp1
    rw [Lab.CK sq] at st
    refine WO.val (v:=vK) rfl (WO.val (v:= .bool true) rfl (WO.ak (v:=vK) rfl (WO.ak (v:= .bool true) rfl (WO.nil (WP.seq (WP.seq (WP.reg (WO.val (v:= .bool true) rfl (WO.no rfl (WO.no rfl (WO.ak (v:= .bool true) rfl (WO.nil (WP.cond (t:=true) rfl (WP.seq (WP.reg (WO.val (v:= .agg [.slN, .slN, .slN, .slN, .int .i64 0, .int .i64 0]) (L.build rfl) (WO.aI (row':=[.slN, .slN, .slN, .slN, .int .i64 0, .int .i64 0]) st 3 rfl rfl rfl rfl rfl rfl rfl (fun h st=> ?_))))))))))))))))))
    refine WO.ak (v:= .bool false) rfl (WO.nil (WP.ret ?_))
    rw [Lab.CW sq hJ]
    exact ⟨_,(aj (aY (l:=[.slN, .slN, .slN, .slN, .int .i64 0, .int .i64 0]) rfl (L.bC (st.av 3 rfl) rfl rfl rfl)) (aj (au (v:= .bool false) rfl) (ay _ _))),rfl,((st.tail.tail.pick 1 rfl).tail.pick 1 rfl)⟩
  |true=>
   rw [hJ] at hp1
   obtain ⟨vJ,rfl,st⟩:=hp1
   refine WO.val (v:=vJ) rfl (WO.val (v:= .bool true) rfl (WO.ak (v:=vJ) rfl (WO.ak (v:= .bool true) rfl (WO.nil (WP.seq (WP.reg (WO.aP rfl (CY D.g hn sq (st.pick 1 rfl)) ?_)))))))
   rintro v2 h st
   refine WO.aP rfl (Av D.g hn (Lab.Ky n M) st) ?_
   rintro v1 h hp1
   cases hK:Lab.okJ n (Lab.tr n M) n with
   |false=>
    rw [hK] at hp1
    obtain ⟨rfl,st⟩:=hp1
    refine WO.val (v:= .slN) rfl (WO.val (v:= .bool false) rfl (WO.ak (v:= .slN) rfl (WO.ak (v:= .bool false) rfl (WO.nil (WP.seq (WP.seq (WP.reg (WO.val (v:= .bool false) rfl (WO.yes rfl (WO.val (v:= .bool false) rfl (WO.yes rfl (WO.val (v:= .bool true) rfl (WO.ak (v:= .bool true) rfl (WO.nil (WP.cond (t:=true) rfl (WP.seq (WP.reg (WO.val (v:= .agg [.slN, .slN, .slN, .slN, .int .i64 0, .int .i64 0]) (L.build rfl) (WO.aI (row':=[.slN, .slN, .slN, .slN, .int .i64 0, .int .i64 0]) st 3 rfl rfl rfl rfl rfl rfl rfl (fun h st=> ?_))))))))))))))))))))
    refine WO.ak (v:= .bool false) rfl (WO.nil (WP.ret ?_))
    rw [Lab.KM sq hK]
    exact ⟨_,(aj (aY (l:=[.slN, .slN, .slN, .slN, .int .i64 0, .int .i64 0]) rfl (L.bC (st.av 3 rfl) rfl rfl rfl)) (aj (au (v:= .bool false) rfl) (ay _ _))),rfl,(((st.tail.pick 1 rfl).tail.pick 1 rfl).tail.pick 1 rfl)⟩
   |true=>
    rw [hK] at hp1
    obtain ⟨vK,rfl,st⟩:=hp1
    rw [Lab.CK sq] at st
    refine WO.val (v:=vK) rfl (WO.val (v:= .bool true) rfl (WO.ak (v:=vK) rfl (WO.ak (v:= .bool true) rfl (WO.nil (WP.seq (WP.seq (WP.reg (WO.val (v:= .bool false) rfl (WO.yes rfl (WO.val (v:= .bool true) rfl (WO.yes rfl (WO.val (v:= .bool false) rfl (WO.ak (v:= .bool false) rfl (WO.nil (WP.cond (t:=false) rfl (WP.skip (WP.seq (WP.reg (WO.val (v:= .agg [vn,v,vJ,vK, .int .i64 0, .int .i64 0]) (L.build (II (Rows.ET (st.aB 5 rfl)) (fU.cells (st.aB 2 rfl)) (kV.cells (st.aB 3 rfl)) (kV.cells (st.aB 0 rfl)))) (WO.dz st L.alloc (fun tb h st=> ?_)))))))))))))))))))))
    refine WO.aI (row':=[vn,v,vJ,vK, .int .i64 0, .int .i64 0]) st 0 rfl rfl rfl rfl rfl rfl rfl (fun h st=> ?_)
    refine WO.nil (WP.seq (WP.seq (WP.reg (WO.ak (v:= .int .i64 0) rfl (WO.nil (WP.block (WP.bT (α:=Nat) (fun a env h=>∃x16,(a≤n)∧env=aO [vn,v, .ptr res 0,x3, .int .i64 (n:Int), .int .i64 (n:Int), .bool false,x7,x8,x9, .bool true, .bool true, .bool false,vJ,vK, .int .i64 (a:Int),x16, .ptr tb 0] 0 Env.nil∧St (.box tb [vn,v,vJ,vK, .int .i64 (Lab.loF n M a:Int), .int .i64 (Lab.hiF n M a:Int)]:: .box res [.slN, .slN, .slN, .slN, .int .i64 0, .int .i64 0]:: .stb (fun h=>kV h vJ (Lab.fu n M n)):: .stb (fun h=>kV h vK (Lab.gX n M n)):: .stb (fun h=>Rows 1 h vn (SR NS)):: .stb (fun h=>fU h v M)::fs) h) (fun a=>n - a) 0 ?_ ?_)))))))
    ·exact ⟨.bot,Nat.zero_le _,by kernel_rfl,((((((st.pick 2 rfl).tail.pick 5 rfl).pick 2 rfl).pick 4 rfl).pick 5 rfl).pick 4 rfl)⟩
    rintro a _ h ⟨x16,ha,rfl,st⟩
    refine WP.seq (WP.seq (WP.reg (WO.ifS (L.lss rfl rfl) (fun c3=> ?_) (fun c3=> ?_))))
    ·replace c3:a<n:=by omega
     refine WO.nil (WP.cond (t:=true) rfl (WP.skip (WP.seq (WP.block (WP.seq (WP.reg (WO.val (v:= .ptr tb 5) (L.aA rfl) (WO.val (v:= .int .i64 (Lab.hiF n M a:Int)) (L.aG rfl (st.av 0 rfl) rfl) ?_))))))))
     have hx0:Lab.hiF n M a<n:=Lab.hiF_lt (by omega) a
     obtain ⟨u,hu1,hu2⟩:=(st.aB 2 rfl).at (Lab.KH hx0)
     refine WO.val (v:= .ptr (slB vJ) (slO vJ+Lab.hiF n M a * 1)) (L.nK (st.aB 2 rfl) (by rw [Lab.IC];exact hx0) rfl rfl) (WO.val (v:=u) (L.load rfl hu1) (WO.val (v:= .ptr (slB u) (slO u+a * 1)) (L.fB hu2 (by rw [List.length_map,Lab.uR];omega) rfl rfl) (WO.val (v:= .int .i64 (Lab.hiF n M (a+1):Int)) (L.load rfl (by rw [Lab.xU];exact iv_at hu2 (Lab.EO c3))) (WO.val (v:= .ptr tb 5) (L.aA rfl) (WO.aI (row':=[vn,v,vJ,vK, .int .i64 (Lab.loF n M a:Int), .int .i64 (Lab.hiF n M (a+1):Int)]) st 0 rfl rfl rfl rfl rfl rfl rfl (fun h st=> ?_))))))
     refine WO.nil (WP.reg (WO.val (v:= .ptr tb 4) (L.aA rfl) (WO.val (v:= .int .i64 (Lab.loF n M a:Int)) (L.aG rfl (st.av 0 rfl) rfl) ?_)))
     have hx0:Lab.loF n M a<n:=Lab.loF_lt (by omega) a
     obtain ⟨u,hu1,hu2⟩:=(st.aB 3 rfl).at (Lab.KI hx0)
     refine WO.val (v:= .ptr (slB vK) (slO vK+Lab.loF n M a * 1)) (L.nK (st.aB 3 rfl) (by rw [Lab.IE];exact hx0) rfl rfl) (WO.val (v:=u) (L.load rfl hu1) (WO.val (v:= .ptr (slB u) (slO u+a * 1)) (L.fB hu2 (by rw [List.length_map,Lab.CV];omega) rfl rfl) (WO.val (v:= .int .i64 (Lab.loF n M (a+1):Int)) (L.load rfl (by rw [Lab.xV];exact iv_at hu2 (Lab.EP c3))) (WO.val (v:= .ptr tb 4) (L.aA rfl) (WO.aI (row':=[vn,v,vJ,vK, .int .i64 (Lab.loF n M (a+1):Int), .int .i64 (Lab.hiF n M (a+1):Int)]) st 0 rfl rfl rfl rfl rfl rfl rfl (fun h st=> ?_))))))
     refine WO.nil (WP.reg (WO.ak (v:= .int .i64 ((a+1:Nat):Int)) (L.bP rfl rfl (by omega) (And.intro (by omega) (by omega))) (WO.nil ?_)))
     exact ⟨a+1,(by omega),(.bool true),by omega,by kernel_rfl,st⟩
    ·have ec3:a=n:=by omega
     rw [ec3] at st
     rw [ec3]
     refine WO.nil (WP.cond (t:=false) rfl (WP.exit (WP.seq (WP.reg (WO.val (v:= .agg [vn,v,vJ,vK, .int .i64 (Lab.loF n M n:Int), .int .i64 (Lab.hiF n M n:Int)]) (L.aZ rfl (st.av 0 rfl) rfl rfl rfl) (WO.aI (row':=[vn,v,vJ,vK, .int .i64 (Lab.loF n M n:Int), .int .i64 (Lab.hiF n M n:Int)]) st 1 rfl rfl rfl rfl rfl rfl rfl (fun h st=> ?_)))))))
     refine WO.ak (v:= .bool true) rfl (WO.nil (WP.ret ?_))
     rw [(Lab.rZ sq).2 ⟨(by exact hanti),hJ,hK⟩]
     refine ⟨_,(aj (aY (l:=[vn,v,vJ,vK, .int .i64 (Lab.loF n M n:Int), .int .i64 (Lab.hiF n M n:Int)]) rfl (L.bC (st.av 1 rfl) rfl rfl rfl)) (aj (au (v:= .bool true) rfl) (ay _ _))),_,_,rfl, ?_⟩
     exact st.tail.tail
theorem lt_take {S:List Lab.Txt} {s x:Lab.Txt} {i:Nat} (h:∀x∈S.take i,x<s) (hx:S[i]? =some x) (hxs:x<s):∀x∈S.take (i+1),x<s:=by
 intro y hy
 rw [List.take_add_one,hx] at hy
 rcases List.mem_append.1 hy with hy|hy
 ·exact h y hy
 ·have:y=x:=by simpa using hy
  exact this▸hxs
theorem zm {S:List Lab.Txt} {w y:Lab.Txt} {q:Nat} (hy:S[q]? =some y):(S.take (q+1)++w::S.drop (q+1))[q]? =some y:=by
 have hl:=(List.getElem?_eq_some_iff.1 hy).1
 rw [List.getElem?_append_left (by rw [List.length_take];omega),List.getElem?_take_of_lt (by omega)];exact hy
theorem Aw {S:List Lab.Txt} {w s:Lab.Txt} {k:Nat} (hk:k≤S.length):(S.take k++w::S.drop k).set k s=S.take k++s::S.drop k:=by
 have e:(S.take k).length=k:=by rw [List.length_take];omega
 rw [List.set_append_right _ _ (by omega),e,Nat.sub_self];rfl
theorem zn {S:List Lab.Txt} {w y:Lab.Txt} {q:Nat} (hy:S[q]? =some y):(S.take (q+1)++w::S.drop (q+1)).set (q+1) y=S.take q++y::S.drop q:=by
 have hl:=(List.getElem?_eq_some_iff.1 hy).1
 rw [Aw (by omega),List.take_add_one,hy,List.drop_eq_getElem_cons hl,(List.getElem?_eq_some_iff.1 hy).2];simp
theorem CZ (D:HasH c) {fs:List Fact} {h:Heap} {bs:List Nat} {f:Nat} {v:V} {S:List Lab.Txt} {s:Lab.Txt} (hn:S.length<4294967296) (st:St (.acu bs f 1 v (SR S)::fs) h):
 aM c 28 [v,L.str s] h fun v1 h1=>∃bs1 f1 S1,Lab.Ins S s S1∧St (.acu bs1 f1 1 v1 (SR S1)::fs) h1:=by
 refine aM.bX D.f28 rfl (WP.seq (WP.reg (WO.ak (v:= .slN) rfl (WO.nil (WP.seq (WP.reg (WO.ak (v:= .int .i64 0) rfl (WO.nil (WP.seq (WP.block (WP.bT (α:=Nat) (fun i env h=>∃x4,(i≤S.length∧∀x∈S.take i,x<s)∧env=aO [v,L.str s, .slN, .int .i64 (i:Int),x4] 0 Env.nil∧St (.acu bs f 1 v (SR S)::fs) h) (fun i=>S.length - i) 0 ?_ ?_)))))))))))
 ·exact ⟨.bot,⟨Nat.zero_le _,fun x hx=>by simp at hx⟩,by kernel_rfl,st⟩
 rintro i _ h ⟨x4,⟨hi,hlt⟩,rfl,st⟩
 refine WP.seq (WP.seq (WP.reg (WO.val (v:= .int .i64 (S.length:Int)) (L.dU rfl (st.dH 0 rfl (by decide)) (bY _)) (WO.ifV (L.lss rfl rfl) (fun c1=> ?_) (fun c1=> ?_)))))
 ·replace c1:i<S.length:=by omega
  obtain ⟨x,hx⟩:∃y,S[i]? =some y:=⟨S[i]'(by omega),List.getElem?_eq_getElem (by omega)⟩
  refine WO.yes rfl (WO.val (v:=v) rfl (WO.yes rfl (WO.val (v:= .int .i64 (i:Int)) rfl (WO.yes rfl (WO.val (v:= .ptr (slB v) (slO v+i * 1)) (L.fB (st.dH 0 rfl (by decide)) (by rw [bY];omega) rfl rfl) (WO.yes rfl (WO.val (v:=L.str x) (L.load rfl ((st.dH 0 rfl (by decide)).iF (mJ hx))) (WO.yes rfl (WO.val (v:=L.str s) rfl (WO.yes rfl (WO.ifV (L.slss rfl rfl) (fun c2=> ?_) (fun c2=> ?_))))))))))))
  ·refine WO.ak (v:= .bool true) rfl (WO.nil (WP.cond (t:=true) rfl (WP.skip (WP.block (WP.reg (WO.ak (v:= .int .i64 ((i+1:Nat):Int)) (L.bP rfl rfl (by omega) (And.intro (by omega) (by omega))) (WO.nil ?_)))))))
   exact ⟨i+1,(by omega),(.bool true),⟨by omega,lt_take hlt hx c2⟩,by kernel_rfl,st⟩
  ·have hge:∀z,S[i]? =some z→¬z<s:=fun z h=>by rw [hx] at h;cases h;exact c2
   refine WO.ak (v:= .bool false) rfl (WO.nil (WP.cond (t:=false) rfl (WP.exit (WP.seq (WP.seq (WP.reg (WO.val (v:= .int .i64 (S.length:Int)) (L.dU rfl (st.dH 0 rfl (by decide)) (bY _)) (WO.ifV (L.lss rfl rfl) (fun _=> ?_) (fun c_=>by exfalso;omega)))))))))
   refine WO.yes rfl (WO.val (v:=v) rfl (WO.yes rfl (WO.val (v:= .int .i64 (i:Int)) rfl (WO.yes rfl (WO.val (v:= .ptr (slB v) (slO v+i * 1)) (L.fB (st.dH 0 rfl (by decide)) (by rw [bY];omega) rfl rfl) (WO.yes rfl (WO.val (v:=L.str x) (L.load rfl ((st.dH 0 rfl (by decide)).iF (mJ hx))) (WO.yes rfl (WO.val (v:=L.str s) rfl (WO.yes rfl (WO.ifV (L.seq rfl rfl) (fun c3=> ?_) (fun c3=> ?_))))))))))))
   ·refine WO.ak (v:= .bool true) rfl (WO.nil (WP.cond (t:=true) rfl (WP.seq (WP.reg (WO.ak (v:=v) rfl (WO.nil (WP.ret ?_)))))))
    exact ⟨_,(aj (au (v:=v) rfl) (ay _ _)),_,_,S,⟨i,hi,hlt,hge,(if_pos (by rw [hx,c3])).symm⟩,st⟩
   ·have hne:¬S[i]? =some s:=by rw [hx];intro e;exact c3 (Option.some.inj e)
    refine WO.ak (v:= .bool false) rfl (WO.nil (WP.cond (t:=false) rfl (WP.skip (WP.seq (WP.reg (WO.gJ (rows:=[[.str 0 0]]) st rfl (by decide) rfl (by simp) (fun lit1 h st=> ?_)))))))
    refine WO.F3 (st.pick 1 rfl) rfl rfl (new:=[[V.str 0 0]]) (st.aB 0 rfl) (by decide) (by rw [bY];simp only [List.length_cons,List.length_nil];omega) (fun bs1 f1 v1 h st=> ?_)
    rw [show SR S++[[V.str 0 0]]=SR (S.take S.length++[]::S.drop S.length) from by rw [List.take_length,List.drop_length,Al];rfl] at st
    obtain ⟨b,rfl⟩:∃b,v1= .sl b 0 (S.length+1) none:=EF (st.Ai 0 rfl) (by rw [bY];simp) (by omega)
    refine WO.nil (WP.seq (WP.seq (WP.reg (WO.val (v:= .int .i64 ((S.length+1:Nat):Int)) (L.llen rfl) (WO.ak (v:= .int .i64 (S.length:Int)) (L.uV rfl rfl (by omega) (And.intro (by omega) (by omega))) (WO.nil (WP.block (WP.bT (α:=Nat) (fun k env h=>∃w x7,(i≤k∧k≤S.length)∧env=aO [.sl b 0 (S.length+1) none,L.str s, .slN, .int .i64 (i:Int), .bool false, .bool false, .int .i64 (k:Int),x7] 0 Env.nil∧St (.acu bs1 f1 1 (.sl b 0 (S.length+1) none) (SR (S.take k++w::S.drop k))::fs) h) (fun k=>k) S.length ?_ ?_))))))))
    ·exact ⟨[], .bot,⟨hi,Nat.le_refl _⟩,by kernel_rfl,(st.pick 1 rfl).tail⟩
    rintro k _ h ⟨w,x7,⟨hik,hk⟩,rfl,st⟩
    refine WP.seq (WP.seq (WP.reg (WO.ifS (L.gtr rfl rfl) (fun c4=> ?_) (fun c4=> ?_))))
    ·obtain ⟨q,rfl⟩:∃q,k=q+1:=⟨k - 1,by omega⟩
     obtain ⟨y,hy⟩:∃y,S[q]? =some y:=⟨S[q]'(by omega),List.getElem?_eq_getElem (by omega)⟩
     refine WO.nil (WP.cond (t:=true) rfl (WP.skip (WP.seq (WP.block (WP.reg (WO.val (v:= .int .i64 (q:Int)) (L.uV rfl rfl (by omega) (And.intro (by omega) (by omega))) (WO.val (v:= .ptr b (0+q * 1)) (L.aC rfl rfl (by omega)) (WO.val (v:=L.str y) (L.load rfl ((st.dH 0 rfl (by decide)).bE (mJ (zm hy)))) (WO.val (v:= .ptr b (0+(q+1) * 1)) (L.aC rfl rfl (by omega)) (WO.xJ st rfl rfl (by decide) (by rw [bY];simp;omega) rfl (fun h st=> ?_)))))))))))
     replace st:St (.acu bs1 f1 1 (.sl b 0 (S.length+1) none) (SR (S.take q++y::S.drop q))::fs) h:=by rw [←zn hy (w:=w),←xO];exact st
     refine WO.nil (WP.reg (WO.ak (v:= .int .i64 (q:Int)) (L.uV rfl rfl (by omega) (And.intro (by omega) (by omega))) (WO.nil ?_)))
     exact ⟨q,(by omega),y,(.bool true),⟨by omega,by omega⟩,by kernel_rfl,st⟩
    ·obtain rfl:k=i:=by omega
     refine WO.nil (WP.cond (t:=false) rfl (WP.exit (WP.seq (WP.reg (WO.val (v:= .ptr b (0+k * 1)) (L.aC rfl rfl (by omega)) (WO.xJ st rfl rfl (by decide) (by rw [bY];simp;omega) rfl (fun h st=> ?_)))))))
     replace st:St (.acu bs1 f1 1 (.sl b 0 (S.length+1) none) (SR (S.take k++s::S.drop k))::fs) h:=by rw [←Aw (w:=w) (show k≤S.length by omega),←xO];exact st
     refine WO.nil (WP.seq (WP.reg (WO.ak (v:= .sl b 0 (S.length+1) none) rfl (WO.nil (WP.ret ?_)))))
     exact ⟨_,(aj (au (v:= .sl b 0 (S.length+1) none) rfl) (ay _ _)),_,_,_,⟨k,by omega,hlt,hge,(if_neg hne).symm⟩,st⟩
 ·replace c1:¬i<S.length:=by omega
  have hx:S[i]? =none:=List.getElem?_eq_none (by omega)
  have hge:∀x,S[i]? =some x→¬x<s:=fun x h=>by rw [hx] at h;cases h
  have hne:¬S[i]? =some s:=by rw [hx];simp
  refine WO.no rfl (WO.no rfl (WO.no rfl (WO.no rfl (WO.no rfl (WO.no rfl (WO.ak (v:= .bool false) rfl (WO.nil (WP.cond (t:=false) rfl (WP.exit (WP.seq (WP.seq (WP.reg (WO.val (v:= .int .i64 (S.length:Int)) (L.dU rfl (st.dH 0 rfl (by decide)) (bY _)) (WO.ifV (L.lss rfl rfl) (fun c_=>by exfalso;omega) (fun _=> ?_)))))))))))))))
  refine WO.no rfl (WO.no rfl (WO.no rfl (WO.no rfl (WO.no rfl (WO.no rfl (WO.ak (v:= .bool false) rfl (WO.nil (WP.cond (t:=false) rfl (WP.skip (WP.seq (WP.reg (WO.gJ (rows:=[[.str 0 0]]) st rfl (by decide) rfl (by simp) (fun lit2 h st=> ?_)))))))))))))
  refine WO.F3 (st.pick 1 rfl) rfl rfl (new:=[[V.str 0 0]]) (st.aB 0 rfl) (by decide) (by rw [bY];simp only [List.length_cons,List.length_nil];omega) (fun bs1 f1 v1 h st=> ?_)
  rw [show SR S++[[V.str 0 0]]=SR (S.take S.length++[]::S.drop S.length) from by rw [List.take_length,List.drop_length,Al];rfl] at st
  obtain ⟨b,rfl⟩:∃b,v1= .sl b 0 (S.length+1) none:=EF (st.Ai 0 rfl) (by rw [bY];simp) (by omega)
  refine WO.nil (WP.seq (WP.seq (WP.reg (WO.val (v:= .int .i64 ((S.length+1:Nat):Int)) (L.llen rfl) (WO.ak (v:= .int .i64 (S.length:Int)) (L.uV rfl rfl (by omega) (And.intro (by omega) (by omega))) (WO.nil (WP.block (WP.bT (α:=Nat) (fun k env h=>∃w x7,(i≤k∧k≤S.length)∧env=aO [.sl b 0 (S.length+1) none,L.str s, .slN, .int .i64 (i:Int), .bool false, .bool false, .int .i64 (k:Int),x7] 0 Env.nil∧St (.acu bs1 f1 1 (.sl b 0 (S.length+1) none) (SR (S.take k++w::S.drop k))::fs) h) (fun k=>k) S.length ?_ ?_))))))))
  ·exact ⟨[], .bot,⟨hi,Nat.le_refl _⟩,by kernel_rfl,(st.pick 1 rfl).tail⟩
  rintro k _ h ⟨w,x7,⟨hik,hk⟩,rfl,st⟩
  refine WP.seq (WP.seq (WP.reg (WO.ifS (L.gtr rfl rfl) (fun c4=> ?_) (fun c4=> ?_))))
  ·obtain ⟨q,rfl⟩:∃q,k=q+1:=⟨k - 1,by omega⟩
   obtain ⟨y,hy⟩:∃y,S[q]? =some y:=⟨S[q]'(by omega),List.getElem?_eq_getElem (by omega)⟩
   refine WO.nil (WP.cond (t:=true) rfl (WP.skip (WP.seq (WP.block (WP.reg (WO.val (v:= .int .i64 (q:Int)) (L.uV rfl rfl (by omega) (And.intro (by omega) (by omega))) (WO.val (v:= .ptr b (0+q * 1)) (L.aC rfl rfl (by omega)) (WO.val (v:=L.str y) (L.load rfl ((st.dH 0 rfl (by decide)).bE (mJ (zm hy)))) (WO.val (v:= .ptr b (0+(q+1) * 1)) (L.aC rfl rfl (by omega)) (WO.xJ st rfl rfl (by decide) (by rw [bY];simp;omega) rfl (fun h st=> ?_)))))))))))
   replace st:St (.acu bs1 f1 1 (.sl b 0 (S.length+1) none) (SR (S.take q++y::S.drop q))::fs) h:=by rw [←zn hy (w:=w),←xO];exact st
   refine WO.nil (WP.reg (WO.ak (v:= .int .i64 (q:Int)) (L.uV rfl rfl (by omega) (And.intro (by omega) (by omega))) (WO.nil ?_)))
   exact ⟨q,(by omega),y,(.bool true),⟨by omega,by omega⟩,by kernel_rfl,st⟩
  ·obtain rfl:k=i:=by omega
   refine WO.nil (WP.cond (t:=false) rfl (WP.exit (WP.seq (WP.reg (WO.val (v:= .ptr b (0+k * 1)) (L.aC rfl rfl (by omega)) (WO.xJ st rfl rfl (by decide) (by rw [bY];simp;omega) rfl (fun h st=> ?_)))))))
   replace st:St (.acu bs1 f1 1 (.sl b 0 (S.length+1) none) (SR (S.take k++s::S.drop k))::fs) h:=by rw [←Aw (w:=w) (show k≤S.length by omega),←xO];exact st
   refine WO.nil (WP.seq (WP.reg (WO.ak (v:= .sl b 0 (S.length+1) none) rfl (WO.nil (WP.ret ?_)))))
   exact ⟨_,(aj (au (v:= .sl b 0 (S.length+1) none) rfl) (ay _ _)),_,_,_,⟨k,by omega,hlt,hge,(if_neg hne).symm⟩,st⟩
end
end Go.Eng.Ytjgmahbgfbkhnaa
namespace Go.Eng.Ytjgmahbgfbkhnaa
open Go.Eng
noncomputable section
variable {c:Ctx}
structure HasI (c:Ctx):Prop where
 f13:T.get 13 c.aR=some i13
 h:HasH c
theorem Gg (D:HasI c) {fs:List Fact} {h:Heap} {v:V} {ps:List Prm} (hn:ps.length<2147483648) (st:St (.stb (fun h=>bD h v ps)::fs) h):
 aM c 13 [v] h fun v1 h1=>∃vN vL vJ vK,v1= .tup [.agg ((bN (pr ps)).num vN vL vJ vK), .int .i64 ((Lab.made (pr ps)).1:Int)]∧St (.stb (fun h=>gV h vN vL vJ vK (bN (pr ps))):: .stb (fun h=>bD h v ps)::fs) h1:=by
 refine aM.bX D.f13 rfl (WP.seq (WP.reg (WO.dz st L.alloc (fun res h st=> ?_))))
 refine WO.ak (v:= .int .i64 0) rfl (WO.nil (WP.seq (WP.reg (WO.ak (v:= .slN) rfl (WO.nil (WP.seq (WP.seq (WP.reg (WO.ak (v:= .int .i64 0) rfl (WO.nil (WP.block ?_)))))))))))
 replace st:St (.acu ([]) 0 1 .slN ([]):: .box res [.slN, .slN, .slN, .slN, .int .i64 0, .int .i64 0]:: .stb (fun h=>bD h v ps)::fs) h:=st.acu0 1
 refine WP.bT (α:=Nat) (fun i env h=>∃bs f vn S x4 x6 x7,(i≤ps.length∧Lab.Seen (pr (ps.take i)) S∧S.length≤13)∧env=aO [v, .ptr res 0, .int .i64 0, .int .i64 (i:Int),x4,vn,x6,x7] 0 Env.nil∧St (.acu bs f 1 vn (SR S):: .box res [.slN, .slN, .slN, .slN, .int .i64 0, .int .i64 0]:: .stb (fun h=>bD h v ps)::fs) h) (fun i=>ps.length - i) 0 ?_ ?_
 ·exact ⟨[],0, .slN,[], .bot, .bot, .bot,⟨Nat.zero_le _,Lab.Seen.nil,Nat.zero_le _⟩,by kernel_rfl,st⟩
 rintro i _ h ⟨bs,f,vn,S,x4,x6,x7,⟨hi,hseen,hS⟩,rfl,st⟩
 refine WP.seq (WP.seq (WP.reg (WO.val (v:= .int .i64 (ps.length:Int)) (L.xQ rfl (st.aB 2 rfl)) (WO.ifS (L.lss rfl rfl) (fun c1=> ?_) (fun c1=> ?_)))))
 ·replace c1:i<ps.length:=by omega
  obtain ⟨p,hp⟩:∃y,ps[i]? =some y:=⟨ps[i]'(by omega),List.getElem?_eq_getElem (by omega)⟩
  refine WO.nil (WP.cond (t:=true) rfl (WP.skip (WP.seq (WP.block (WP.seq (WP.reg (WO.val (v:= .ptr (slB v) (slO v+i * 3)) (L.lU (st.aB 2 rfl) c1 rfl rfl) (WO.val (v:= .ptr (slB v) (slO v+i * 3+0)) (L.aA rfl) (WO.val (v:=L.str p.1) (L.load rfl (bD.at1 (j:=0) (st.aB 2 rfl) hp rfl)) (WO.dB rfl (CZ D.h (by omega) st) ?_))))))))))
  rintro w1 h ⟨bs1,f1,S1,hi1,st⟩
  have hl1:=hi1.len
  refine WO.nil (WP.seq (WP.seq (WP.reg (WO.val (v:= .ptr (slB v) (slO v+i * 3)) (L.lU (st.aB 2 rfl) c1 rfl rfl) (WO.val (v:= .ptr (slB v) (slO v+i * 3+1)) (L.aA rfl) (WO.val (v:=L.str p.2.1) (L.load rfl (bD.at1 (j:=1) (st.aB 2 rfl) hp rfl)) (WO.ifS (L.sne (m:=[]) rfl rfl) (fun cl=> ?_) (fun cl=> ?_))))))))
  ·refine WO.nil (WP.cond (t:=true) rfl (WP.reg (WO.val (v:= .ptr (slB v) (slO v+i * 3)) (L.lU (st.aB 2 rfl) c1 rfl rfl) (WO.val (v:= .ptr (slB v) (slO v+i * 3+1)) (L.aA rfl) (WO.val (v:=L.str p.2.1) (L.load rfl (bD.at1 (j:=1) (st.aB 2 rfl) hp rfl)) (WO.dB rfl (CZ D.h (by omega) st) ?_))))))
   rintro w2 h ⟨bs2,f2,S2,hi2,st⟩
   have hl2:=hi2.len
   refine WO.nil (WP.seq (WP.reg (WO.val (v:= .int .i64 (S2.length:Int)) (L.dU rfl (st.dH 0 rfl (by decide)) (bY _)) (WO.ifS (L.gtr rfl rfl) (fun cg=> ?_) (fun cg=> ?_)))))
   ·replace cg:13<S2.length:=by omega
    have hmany:=(hseen.two (p:=(p.1,p.2.1)) hi1 hi2 cl).many (rest:=(pr ps).drop (i+1))
    rw [←vC hp,CX] at hmany
    refine WO.nil (WP.cond (t:=true) rfl (WP.exit (WP.seq (WP.reg (WO.ak (v:= .int .i64 (S2.length:Int)) (L.dU rfl (st.dH 0 rfl (by decide)) (bY _)) (WO.nil (WP.seq (WP.seq (WP.reg (WO.ifS (L.eql rfl rfl) (fun c_=>by exfalso;omega) (fun _=> ?_)))))))))))
    refine WO.nil (WP.cond (t:=false) rfl (WP.skip (WP.seq (WP.seq (WP.reg (WO.ifS (L.gtr rfl rfl) (fun _=> ?_) (fun c_=>by exfalso;omega)))))))
    refine WO.nil (WP.cond (t:=true) rfl (WP.seq (WP.reg (WO.val (v:= .agg [.slN, .slN, .slN, .slN, .int .i64 0, .int .i64 0]) (L.build rfl) (WO.aI (row':=[.slN, .slN, .slN, .slN, .int .i64 0, .int .i64 0]) st 1 rfl rfl rfl rfl rfl rfl rfl (fun h st=> ?_))))))
    refine WO.ak (v:= .int .i64 14) rfl (WO.nil (WP.ret ?_))
    rw [show bN (pr ps)=Lat.none from by unfold bN;rw [Lab.jA (by omega)],Lab.jA (by omega)]
    exact ⟨_,(aj (aY (l:=[.slN, .slN, .slN, .slN, .int .i64 0, .int .i64 0]) rfl (L.bC (st.av 1 rfl) rfl rfl rfl)) (aj (au (v:= .int .i64 14) rfl) (ay _ _))), .slN, .slN, .slN, .slN,rfl,St.triv (P:=fun h=>gV h .slN .slN .slN .slN Lat.none) (st.tail.tail) fun h=>gV.none h⟩
   ·replace cg:¬13<S2.length:=by omega
    refine WO.nil (WP.cond (t:=false) rfl (WP.skip (WP.reg (WO.ak (v:= .int .i64 ((i+1:Nat):Int)) (L.bP rfl rfl (by omega) (And.intro (by omega) (by omega))) (WO.nil ?_)))))
    exact ⟨i+1,(by omega),bs2,f2,w2,S2,(.bool true),(.bool true),(.bool false),⟨by omega,(by have:=hseen.two (p:=(p.1,p.2.1)) hi1 hi2 cl;rw [←vC hp] at this;exact this),by omega⟩,by kernel_rfl,st⟩
  ·refine WO.nil (WP.cond (t:=false) rfl (WP.skip (WP.seq (WP.reg (WO.val (v:= .int .i64 (S1.length:Int)) (L.dU rfl (st.dH 0 rfl (by decide)) (bY _)) (WO.ifS (L.gtr rfl rfl) (fun cg=> ?_) (fun cg=> ?_)))))))
   ·replace cg:13<S1.length:=by omega
    have hmany:=(hseen.one (p:=(p.1,p.2.1)) hi1 (Decidable.not_not.1 cl)).many (rest:=(pr ps).drop (i+1))
    rw [←vC hp,CX] at hmany
    refine WO.nil (WP.cond (t:=true) rfl (WP.exit (WP.seq (WP.reg (WO.ak (v:= .int .i64 (S1.length:Int)) (L.dU rfl (st.dH 0 rfl (by decide)) (bY _)) (WO.nil (WP.seq (WP.seq (WP.reg (WO.ifS (L.eql rfl rfl) (fun c_=>by exfalso;omega) (fun _=> ?_)))))))))))
    refine WO.nil (WP.cond (t:=false) rfl (WP.skip (WP.seq (WP.seq (WP.reg (WO.ifS (L.gtr rfl rfl) (fun _=> ?_) (fun c_=>by exfalso;omega)))))))
    refine WO.nil (WP.cond (t:=true) rfl (WP.seq (WP.reg (WO.val (v:= .agg [.slN, .slN, .slN, .slN, .int .i64 0, .int .i64 0]) (L.build rfl) (WO.aI (row':=[.slN, .slN, .slN, .slN, .int .i64 0, .int .i64 0]) st 1 rfl rfl rfl rfl rfl rfl rfl (fun h st=> ?_))))))
    refine WO.ak (v:= .int .i64 14) rfl (WO.nil (WP.ret ?_))
    rw [show bN (pr ps)=Lat.none from by unfold bN;rw [Lab.jA (by omega)],Lab.jA (by omega)]
    exact ⟨_,(aj (aY (l:=[.slN, .slN, .slN, .slN, .int .i64 0, .int .i64 0]) rfl (L.bC (st.av 1 rfl) rfl rfl rfl)) (aj (au (v:= .int .i64 14) rfl) (ay _ _))), .slN, .slN, .slN, .slN,rfl,St.triv (P:=fun h=>gV h .slN .slN .slN .slN Lat.none) (st.tail.tail) fun h=>gV.none h⟩
   ·replace cg:¬13<S1.length:=by omega
    refine WO.nil (WP.cond (t:=false) rfl (WP.skip (WP.reg (WO.ak (v:= .int .i64 ((i+1:Nat):Int)) (L.bP rfl rfl (by omega) (And.intro (by omega) (by omega))) (WO.nil ?_)))))
    exact ⟨i+1,(by omega),bs1,f1,w1,S1,(.bool true),(.bool false),(.bool false),⟨by omega,(by have:=hseen.one (p:=(p.1,p.2.1)) hi1 (Decidable.not_not.1 cl);rw [←vC hp] at this;exact this),by omega⟩,by kernel_rfl,st⟩
 ·replace c1:¬i<ps.length:=by omega
  rw [List.take_of_length_le (by omega)] at hseen
  obtain rfl:i=ps.length:=by omega
  have hnS:S=Lab.names (pr ps):=hseen.is
  obtain ⟨NS,hNS⟩:∃NS,NS=Lab.names (pr ps):=⟨_,rfl⟩
  rw [hnS,←hNS] at st
  have hN13:NS.length≤13:=by rw [hNS,←hnS];exact hS
  have hN32:NS.length<4294967296:=by omega
  refine WO.nil (WP.cond (t:=false) rfl (WP.exit (WP.seq (WP.reg (WO.ak (v:= .int .i64 (NS.length:Int)) (L.dU rfl (st.dH 0 rfl (by decide)) (bY _)) (WO.nil (WP.seq (WP.seq (WP.reg (WO.ifS (L.eql rfl rfl) (fun e0=> ?_) (fun e0=> ?_)))))))))))
  ·replace e0:NS.length=0:=by omega
   refine WO.nil (WP.cond (t:=true) rfl (WP.seq (WP.reg (WO.val (v:= .agg [.slN, .slN, .slN, .slN, .int .i64 0, .int .i64 0]) (L.build rfl) (WO.aI (row':=[.slN, .slN, .slN, .slN, .int .i64 0, .int .i64 0]) st 1 rfl rfl rfl rfl rfl rfl rfl (fun h st=> ?_))))))
   refine WO.ak (v:= .int .i64 13) rfl (WO.nil (WP.ret ?_))
   rw [show bN (pr ps)=Lat.none from by unfold bN;rw [Lab.tN (by rw [←hNS];exact e0)],Lab.tN (by rw [←hNS];exact e0)]
   exact ⟨_,(aj (aY (l:=[.slN, .slN, .slN, .slN, .int .i64 0, .int .i64 0]) rfl (L.bC (st.av 1 rfl) rfl rfl rfl)) (aj (au (v:= .int .i64 13) rfl) (ay _ _))), .slN, .slN, .slN, .slN,rfl,St.triv (P:=fun h=>gV h .slN .slN .slN .slN Lat.none) (st.tail.tail) fun h=>gV.none h⟩
  ·replace e0:¬NS.length=0:=by omega
   refine WO.nil (WP.cond (t:=false) rfl (WP.skip (WP.seq (WP.seq (WP.reg (WO.ifS (L.gtr rfl rfl) (fun e1=> ?_) (fun e1=> ?_)))))))
   ·replace e1:12<NS.length:=by omega
    refine WO.nil (WP.cond (t:=true) rfl (WP.seq (WP.reg (WO.val (v:= .agg [.slN, .slN, .slN, .slN, .int .i64 0, .int .i64 0]) (L.build rfl) (WO.aI (row':=[.slN, .slN, .slN, .slN, .int .i64 0, .int .i64 0]) st 1 rfl rfl rfl rfl rfl rfl rfl (fun h st=> ?_))))))
    refine WO.ak (v:= .int .i64 14) rfl (WO.nil (WP.ret ?_))
    rw [show bN (pr ps)=Lat.none from by unfold bN;rw [Lab.jA (by rw [←hNS];exact e1)],Lab.jA (by rw [←hNS];exact e1)]
    exact ⟨_,(aj (aY (l:=[.slN, .slN, .slN, .slN, .int .i64 0, .int .i64 0]) rfl (L.bC (st.av 1 rfl) rfl rfl rfl)) (aj (au (v:= .int .i64 14) rfl) (ay _ _))), .slN, .slN, .slN, .slN,rfl,St.triv (P:=fun h=>gV h .slN .slN .slN .slN Lat.none) (st.tail.tail) fun h=>gV.none h⟩
   ·replace e1:¬12<NS.length:=by omega
    refine WO.nil (WP.cond (t:=false) rfl (WP.skip (WP.seq (WP.reg (WO.ak (v:= .slN) rfl (WO.nil (WP.seq (WP.seq (WP.reg (WO.ak (v:= .int .i64 0) rfl (WO.nil (WP.block ?_))))))))))))
    replace st:St (.stb (fun h=>Rows 1 h vn (SR NS)):: .box res [.slN, .slN, .slN, .slN, .int .i64 0, .int .i64 0]:: .stb (fun h=>bD h v ps)::fs) h:=(st).shutU (by decide)
    replace st:St (.acc 0 1 .slN ([]):: .stb (fun h=>Rows 1 h vn (SR NS)):: .box res [.slN, .slN, .slN, .slN, .int .i64 0, .int .i64 0]:: .stb (fun h=>bD h v ps)::fs) h:=st.acc0 1
    refine WP.bT (α:=Nat) (fun a env h=>∃bl fL vL x12 x13,(a≤NS.length∧bl.length=a)∧env=aO [v, .ptr res 0, .int .i64 0, .int .i64 (ps.length:Int), .bool false,vn,x6,x7, .int .i64 (NS.length:Int), .bool false, .bool false, .int .i64 (a:Int),x12,x13,vL] 0 Env.nil∧St (.acc fL 1 vL (bl.map fun b=>[V.sl b 0 NS.length (some NS.length)]):: .stb (fun h=>Rows 1 h vn (SR NS)):: .box res [.slN, .slN, .slN, .slN, .int .i64 0, .int .i64 0]:: .stb (fun h=>bD h v ps)::(dN bl (Lab.mM NS.length a)++fs)) h) (fun a=>NS.length - a) 0 ?_ ?_
    ·exact ⟨[],0, .slN, .bot, .bot,⟨Nat.zero_le _,rfl⟩,by kernel_rfl,st⟩
    rintro a _ h ⟨bl,fL,vL,x12,x13,⟨ha,hbl⟩,rfl,st⟩
    refine WP.seq (WP.seq (WP.reg (WO.ifS (L.lss rfl rfl) (fun ca=> ?_) (fun ca=> ?_))))
    ·replace ca:a<NS.length:=by omega
     refine WO.nil (WP.cond (t:=true) rfl (WP.skip (WP.seq (WP.block (WP.seq (WP.reg (WO.ED st rfl rfl (by decide) rfl (by omega) (fun rb h st=> ?_))))))))
     refine WO.nil (WP.seq (WP.reg (WO.val (v:= .ptr rb (0+a * 1)) (L.aC rfl rfl (by omega)) (WO.mK st rfl rfl (by simp;omega) (fun h st=> ?_)))))
     refine WO.nil (WP.reg (WO.gJ (rows:=[[.sl rb 0 NS.length (some NS.length)]]) st rfl (by decide) rfl (by simp) (fun rl1 h st=> ?_)))
     refine WO.gW st 2 rfl rfl rfl (st.aB 0 rfl) (by decide) (by simp;omega) (fun fL1 vL1 h st=> ?_)
     rw [show (bl.map fun b=>[V.sl b 0 NS.length (some NS.length)])++[[V.sl rb 0 NS.length (some NS.length)]]=(bl++[rb]).map fun b=>[V.sl b 0 NS.length (some NS.length)] from by simp] at st
     refine WO.nil (WP.reg (WO.ak (v:= .int .i64 ((a+1:Nat):Int)) (L.bP rfl rfl (by omega) (And.intro (by omega) (by omega))) (WO.nil ?_)))
     have st2:=St.snocG (gs:=[_,_,_,_]) (l:=dN bl (Lab.mM NS.length a)) st.tail
     rw [show dN bl (Lab.mM NS.length a)++[_]=dN (bl++[rb]) (Lab.mM NS.length (a+1)) from by rw [Lab.xR,zi (by rw [Lab.zk];exact hbl)];unfold yA;rw [List.map_set,List.map_replicate]] at st2
     replace st:=st2
     exact ⟨a+1,(by omega),(bl++[rb]),fL1,vL1,(.bool true),(.sl rb 0 NS.length (some NS.length)),⟨by omega,by simp [hbl]⟩,by kernel_rfl,st⟩
    ·obtain rfl:a=NS.length:=by omega
     obtain ⟨lb,rfl⟩:=Kt (st.dK 0 rfl) (by rw [List.length_map];exact hbl) e0
     replace st:St (.stb (fun h=>Rows 1 h (.sl lb 0 NS.length none) (bl.map fun b=>[V.sl b 0 NS.length (some NS.length)])):: .stb (fun h=>Rows 1 h vn (SR NS)):: .box res [.slN, .slN, .slN, .slN, .int .i64 0, .int .i64 0]:: .stb (fun h=>bD h v ps)::(dN bl (Lab.table NS (pr (ps.take 0)))++fs)) h:=(st).shut (by decide)
     replace st:St (.stb (gL lb 0 NS.length bl):: .stb (fun h=>Rows 1 h (.sl lb 0 NS.length none) (bl.map fun b=>[V.sl b 0 NS.length (some NS.length)])):: .stb (fun h=>Rows 1 h vn (SR NS)):: .box res [.slN, .slN, .slN, .slN, .int .i64 0, .int .i64 0]:: .stb (fun h=>bD h v ps)::(dN bl (Lab.table NS (pr (ps.take 0)))++fs)) h:=st.imp fun h hx a b hb=>⟨_,hx.bE (by rw [List.getElem?_map,hb];rfl)⟩
     replace st:St (.stb (fun h=>Rows 1 h (.sl lb 0 NS.length none) (bl.map fun b=>[V.sl b 0 NS.length (some NS.length)])):: .stb (fun h=>Rows 1 h vn (SR NS)):: .box res [.slN, .slN, .slN, .slN, .int .i64 0, .int .i64 0]:: .stb (fun h=>bD h v ps):: .stb (gL lb 0 NS.length bl)::(dN bl (Lab.table NS (pr (ps.take 0)))++fs)) h:=((((st.pick 4 rfl).pick 4 rfl).pick 4 rfl).pick 4 rfl)
     refine WO.nil (WP.cond (t:=false) rfl (WP.exit (WP.seq (WP.seq (WP.reg (WO.ak (v:= .int .i64 0) rfl (WO.nil (WP.block (WP.bT (α:=Nat) (fun i env h=>∃x16 x17,(i≤ps.length)∧env=aO [v, .ptr res 0, .int .i64 0, .int .i64 (ps.length:Int), .bool false,vn,x6,x7, .int .i64 (NS.length:Int), .bool false, .bool false, .int .i64 (NS.length:Int), .bool false,x13, .sl lb 0 NS.length none, .int .i64 (i:Int),x16,x17] 0 Env.nil∧St (.stb (fun h=>Rows 1 h (.sl lb 0 NS.length none) (bl.map fun b=>[V.sl b 0 NS.length (some NS.length)])):: .stb (fun h=>Rows 1 h vn (SR NS)):: .box res [.slN, .slN, .slN, .slN, .int .i64 0, .int .i64 0]:: .stb (fun h=>bD h v ps):: .stb (gL lb 0 NS.length bl)::(dN bl (Lab.table NS (pr (ps.take i)))++fs)) h) (fun i=>ps.length - i) 0 ?_ ?_)))))))))
     ·exact ⟨.bot, .bot,Nat.zero_le _,by kernel_rfl,st⟩
     rintro i _ h ⟨x16,x17,hi,rfl,st⟩
     refine WP.seq (WP.seq (WP.reg (WO.val (v:= .int .i64 (ps.length:Int)) (L.xQ rfl (st.aB 3 rfl)) (WO.ifS (L.lss rfl rfl) (fun c1=> ?_) (fun c1=> ?_)))))
     ·replace c1:i<ps.length:=by omega
      obtain ⟨p,hp⟩:∃y,ps[i]? =some y:=⟨ps[i]'(by omega),List.getElem?_eq_getElem (by omega)⟩
      refine WO.nil (WP.cond (t:=true) rfl (WP.skip (WP.seq (WP.block (WP.seq (WP.reg (WO.val (v:= .ptr (slB v) (slO v+i * 3)) (L.lU (st.aB 3 rfl) c1 rfl rfl) (WO.val (v:= .ptr (slB v) (slO v+i * 3+1)) (L.aA rfl) (WO.val (v:=L.str p.2.1) (L.load rfl (bD.at1 (j:=1) (st.aB 3 rfl) hp rfl)) (WO.ifS (L.sne (m:=[]) rfl rfl) (fun cl=> ?_) (fun cl=> ?_)))))))))))
      ·have hm:p.1∈NS∧p.2.1∈NS:=by rw [hNS];exact Lab.iM (p.1,p.2.1) (List.mem_map.2 ⟨p,List.mem_of_getElem? hp,rfl⟩) cl
       have h1l:NS.idxOf p.1<NS.length:=List.idxOf_lt_length_of_mem hm.1
       have h2l:NS.idxOf p.2.1<NS.length:=List.idxOf_lt_length_of_mem hm.2
       obtain ⟨rb,hrb⟩:∃b,bl[NS.idxOf p.1]? =some b:=⟨bl[NS.idxOf p.1]'(by omega),List.getElem?_eq_getElem (by omega)⟩
       have hrow:(bl.map fun b=>[V.sl b 0 NS.length (some NS.length)])[NS.idxOf p.1]? =some [.sl rb 0 NS.length (some NS.length)]:=by rw [List.getElem?_map,hrb];rfl
       obtain ⟨rr,hrr,hrl⟩:=(Lab.fw NS (pr (ps.take i))).at h1l
       refine WO.nil (WP.cond (t:=true) rfl (WP.draw (WD.val (v:= .sl lb 0 NS.length none) rfl (WD.val (v:=vn) rfl (WD.val (v:=v) rfl (WD.val (v:= .int .i64 (i:Int)) rfl (WD.val (v:= .ptr (slB v) (slO v+i * 3)) (L.lU (st.aB 3 rfl) c1 rfl rfl) (WD.val (v:= .ptr (slB v) (slO v+i * 3+0)) (L.aA rfl) (WD.val (v:=L.str p.1) (L.load rfl (bD.at1 (j:=0) (st.aB 3 rfl) hp rfl)) (WD.val (v:=vn) rfl (WD.val (v:=v) rfl (WD.val (v:= .int .i64 (i:Int)) rfl (WD.val (v:= .ptr (slB v) (slO v+i * 3)) (L.lU (st.aB 3 rfl) c1 rfl rfl) (WD.val (v:= .ptr (slB v) (slO v+i * 3+1)) (L.aA rfl) (WD.val (v:=L.str p.2.1) (L.load rfl (bD.at1 (j:=1) (st.aB 3 rfl) hp rfl)) (WD.aP rfl (xW D.h.g.r hN32 (st.aB 1 rfl)) (fun _ h1_ hp2=> ?_) ?_))))))))))))))))
       ·obtain ⟨_,rfl⟩:=hp2
        exact dm (by first|exact aD (L.load rfl (bD.at1 (j:=1) (st.aB 3 rfl) hp rfl))|exact aD (L.load rfl ((st.aB 0 rfl).bE hrow))|exact aD (L.aG rfl (st.av 2 rfl) rfl)|exact aT st 2 rfl|exact aD (L.aZ rfl (st.av 2 rfl) rfl rfl rfl)) (gy _ _)
       rintro _ _ ⟨rfl,rfl⟩
       rw [show jU NS p.1=(NS.idxOf p.1:Int) from if_pos hm.1]
       refine WD.val (v:= .ptr lb (0+NS.idxOf p.1 * 1)) (L.aC rfl rfl (by omega)) (WD.val (v:= .sl rb 0 NS.length (some NS.length)) (L.load rfl ((st.aB 0 rfl).bE hrow)) (WD.aP rfl (xW D.h.g.r hN32 (st.aB 1 rfl)) (fun _ h1_ hp2=> ?_) ?_))
       ·obtain ⟨_,rfl⟩:=hp2
        exact dm (by first|exact aD (L.load rfl (bD.at1 (j:=1) (st.aB 3 rfl) hp rfl))|exact aD (L.load rfl ((st.aB 0 rfl).bE hrow))|exact aD (L.aG rfl (st.av 2 rfl) rfl)|exact aT st 2 rfl|exact aD (L.aZ rfl (st.av 2 rfl) rfl rfl rfl)) (gy _ _)
       rintro _ _ ⟨rfl,rfl⟩
       rw [show jU NS p.2.1=(NS.idxOf p.2.1:Int) from if_pos hm.2]
       refine WD.val (v:= .ptr rb (0+NS.idxOf p.2.1 * 1)) (L.aC rfl rfl (by omega)) (WD.storeT (St.rot (gs:=[_,_,_,_]) st) rfl rfl hrb hrr (by rw [hrl];omega) (fun h st=> ?_))
       have epu:(Lab.table NS (pr (ps.take i))).set (NS.idxOf p.1) (rr.set (NS.idxOf p.2.1) true)=Lab.put (Lab.table NS (pr (ps.take i))) (NS.idxOf p.1) (NS.idxOf p.2.1):=by unfold Lab.put;rw [hrr];rfl
       rw [epu] at st
       replace st:St (.stb (fun h=>Rows 1 h (.sl lb 0 NS.length none) (bl.map fun b=>[V.sl b 0 NS.length (some NS.length)])):: .stb (fun h=>Rows 1 h vn (SR NS)):: .box res [.slN, .slN, .slN, .slN, .int .i64 0, .int .i64 0]:: .stb (fun h=>bD h v ps):: .stb (gL lb 0 NS.length bl)::(dN bl (Lab.put (Lab.table NS (pr (ps.take i))) (NS.idxOf p.1) (NS.idxOf p.2.1))++fs)) h:=St.uP (gs:=[_,_,_,_]) st
       refine WD.nil (WP.reg (WO.ak (v:= .int .i64 ((i+1:Nat):Int)) (L.bP rfl rfl (by omega) (And.intro (by omega) (by omega))) (WO.nil ?_)))
       have et:=Lab.nJ (ns:=NS) hp
       unfold Lab.xM at et
       rw [if_neg cl] at et
       rw [←et] at st
       exact ⟨i+1,(by omega),(.bool true),(.bool true),by omega,by kernel_rfl,st⟩
      ·refine WO.nil (WP.cond (t:=false) rfl (WP.skip (WP.reg (WO.ak (v:= .int .i64 ((i+1:Nat):Int)) (L.bP rfl rfl (by omega) (And.intro (by omega) (by omega))) (WO.nil ?_)))))
       have et:=Lab.nJ (ns:=NS) hp
       unfold Lab.xM at et
       rw [if_pos (Decidable.not_not.1 cl)] at et
       rw [←et] at st
       exact ⟨i+1,(by omega),(.bool true),(.bool false),by omega,by kernel_rfl,st⟩
     ·obtain rfl:i=ps.length:=by omega
      rw [List.take_of_length_le (by omega)] at st
      obtain ⟨M0,hM0⟩:∃M0,M0=Lab.table NS (pr ps):=⟨_,rfl⟩
      have sq0:Sq NS.length M0:=by rw [hM0];exact Lab.fw NS (pr ps)
      rw [←hM0] at st
      refine WO.nil (WP.cond (t:=false) rfl (WP.exit (WP.seq (WP.seq (WP.reg (WO.ak (v:= .int .i64 0) rfl (WO.nil (WP.block (WP.bT (α:=Nat) (fun k env h=>∃x19 x20 x21 x22 x23,(k≤NS.length)∧env=aO [v, .ptr res 0, .int .i64 0, .int .i64 (ps.length:Int), .bool false,vn,x6,x7, .int .i64 (NS.length:Int), .bool false, .bool false, .int .i64 (NS.length:Int), .bool false,x13, .sl lb 0 NS.length none, .int .i64 (ps.length:Int), .bool false,x17, .int .i64 (k:Int),x19,x20,x21,x22,x23] 0 Env.nil∧St (.stb (fun h=>Rows 1 h (.sl lb 0 NS.length none) (bl.map fun b=>[V.sl b 0 NS.length (some NS.length)])):: .stb (fun h=>Rows 1 h vn (SR NS)):: .box res [.slN, .slN, .slN, .slN, .int .i64 0, .int .i64 0]:: .stb (fun h=>bD h v ps):: .stb (gL lb 0 NS.length bl)::(dN bl (Lab.closed k M0)++fs)) h) (fun k=>NS.length - k) 0 ?_ ?_)))))))))
      ·exact ⟨.bot, .bot, .bot, .bot, .bot,Nat.zero_le _,by kernel_rfl,st⟩
      rintro k _ h ⟨x19,x20,x21,x22,x23,hk,rfl,st⟩
      refine WP.seq (WP.seq (WP.reg (WO.ifS (L.lss rfl rfl) (fun ck=> ?_) (fun ck=> ?_))))
      ·replace ck:k<NS.length:=by omega
       obtain ⟨Mk,hMk⟩:∃Mk,Mk=Lab.closed k M0:=⟨_,rfl⟩
       have sqk:Sq NS.length Mk:=hMk▸Lab.eU sq0 k hk
       rw [←hMk] at st
       obtain ⟨rk,hrk,hrkl⟩:=sqk.at ck
       rw [show Mk=Lab.bS k 0 Mk from (Lab.uI k Mk).symm] at st
       refine WO.nil (WP.cond (t:=true) rfl (WP.skip (WP.seq (WP.block (WP.seq (WP.reg (WO.ak (v:= .int .i64 0) rfl (WO.nil (WP.block (WP.bT (α:=Nat) (fun a env h=>∃x21 x22 x23,(a≤NS.length)∧env=aO [v, .ptr res 0, .int .i64 0, .int .i64 (ps.length:Int), .bool false,vn,x6,x7, .int .i64 (NS.length:Int), .bool false, .bool false, .int .i64 (NS.length:Int), .bool false,x13, .sl lb 0 NS.length none, .int .i64 (ps.length:Int), .bool false,x17, .int .i64 (k:Int), .bool true, .int .i64 (a:Int),x21,x22,x23] 0 Env.nil∧St (.stb (fun h=>Rows 1 h (.sl lb 0 NS.length none) (bl.map fun b=>[V.sl b 0 NS.length (some NS.length)])):: .stb (fun h=>Rows 1 h vn (SR NS)):: .box res [.slN, .slN, .slN, .slN, .int .i64 0, .int .i64 0]:: .stb (fun h=>bD h v ps):: .stb (gL lb 0 NS.length bl)::(dN bl (Lab.bS k a Mk)++fs)) h) (fun a=>NS.length - a) 0 ?_ ?_))))))))))
       ·exact ⟨x21,x22,x23,Nat.zero_le _,by kernel_rfl,st⟩
       rintro a _ h ⟨x21,x22,x23,ha2,rfl,st⟩
       refine WP.seq (WP.seq (WP.reg (WO.ifS (L.lss rfl rfl) (fun ca=> ?_) (fun ca=> ?_))))
       ·replace ca:a<NS.length:=by omega
        obtain ⟨ra,hra,hral⟩:=sqk.at ca
        obtain ⟨ab,hab⟩:∃b,bl[a]? =some b:=⟨bl[a]'(by omega),List.getElem?_eq_getElem (by omega)⟩
        obtain ⟨kb,hkb⟩:∃b,bl[k]? =some b:=⟨bl[k]'(by omega),List.getElem?_eq_getElem (by omega)⟩
        have hrowa:(bl.map fun b=>[V.sl b 0 NS.length (some NS.length)])[a]? =some [.sl ab 0 NS.length (some NS.length)]:=by rw [List.getElem?_map,hab];rfl
        have hrowk:(bl.map fun b=>[V.sl b 0 NS.length (some NS.length)])[k]? =some [.sl kb 0 NS.length (some NS.length)]:=by rw [List.getElem?_map,hkb];rfl
        obtain ⟨y,hy⟩:∃y,ra[k]? =some y:=⟨ra[k]'(by omega),List.getElem?_eq_getElem (by omega)⟩
        rw [show Lab.bS k a Mk=(Lab.bS k a Mk).set a (Lab.kE y 0 ra rk) from (Lab.IG sqk ca hra y rk).symm] at st
        refine WO.nil (WP.cond (t:=true) rfl (WP.skip (WP.seq (WP.block (WP.seq (WP.reg (WO.ak (v:= .int .i64 0) rfl (WO.nil (WP.block (WP.bT (α:=Nat) (fun b env h=>∃x23,(b≤NS.length)∧env=aO [v, .ptr res 0, .int .i64 0, .int .i64 (ps.length:Int), .bool false,vn,x6,x7, .int .i64 (NS.length:Int), .bool false, .bool false, .int .i64 (NS.length:Int), .bool false,x13, .sl lb 0 NS.length none, .int .i64 (ps.length:Int), .bool false,x17, .int .i64 (k:Int), .bool true, .int .i64 (a:Int), .bool true, .int .i64 (b:Int),x23] 0 Env.nil∧St (.stb (fun h=>Rows 1 h (.sl lb 0 NS.length none) (bl.map fun b=>[V.sl b 0 NS.length (some NS.length)])):: .stb (fun h=>Rows 1 h vn (SR NS)):: .box res [.slN, .slN, .slN, .slN, .int .i64 0, .int .i64 0]:: .stb (fun h=>bD h v ps):: .stb (gL lb 0 NS.length bl)::(dN bl ((Lab.bS k a Mk).set a (Lab.kE y b ra rk))++fs)) h) (fun b=>NS.length - b) 0 ?_ ?_))))))))))
        ·exact ⟨x23,Nat.zero_le _,by kernel_rfl,st⟩
        rintro b _ h ⟨x23,hb2,rfl,st⟩
        refine WP.seq (WP.seq (WP.reg (WO.ifS (L.lss rfl rfl) (fun cb=> ?_) (fun cb=> ?_))))
        ·replace cb:b<NS.length:=by omega
         obtain ⟨x,hx⟩:∃x,ra[b]? =some x:=⟨ra[b]'(by omega),List.getElem?_eq_getElem (by omega)⟩
         obtain ⟨z,hz⟩:∃z,rk[b]? =some z:=⟨rk[b]'(by omega),List.getElem?_eq_getElem (by omega)⟩
         have hA:=(wX (St.rot (gs:=[_,_,_,_]) st) hab (Lab.pE sqk ca)).2
         have hK:=(wX (St.rot (gs:=[_,_,_,_]) st) hkb (Lab.rowB_k sqk ca ck hrk (ra:=ra) hra)).2
         have hAb:=hA b x (Lab.rowB_at hral hrkl cb (by omega) hx (Nat.le_refl _))
         have hAk:=hA k y (Lab.ER hral hrkl ck hy (by omega))
         have hKb:=hK b z (Lab.rowB_kb hrkl hz (by omega))
         refine WO.nil (WP.cond (t:=true) rfl (WP.skip (WP.seq (WP.block (WP.draw (WD.val (v:= .sl lb 0 NS.length none) rfl (WD.val (v:= .int .i64 (a:Int)) rfl (WD.val (v:= .ptr lb (0+a * 1)) (L.aC rfl rfl (by omega)) (WD.val (v:= .sl ab 0 NS.length (some NS.length)) (L.load rfl ((st.aB 0 rfl).bE hrowa)) (WD.val (v:= .int .i64 (b:Int)) rfl (WD.val (v:= .sl lb 0 NS.length none) rfl (WD.val (v:= .int .i64 (a:Int)) rfl (WD.val (v:= .ptr lb (0+a * 1)) (L.aC rfl rfl (by omega)) (WD.val (v:= .sl ab 0 NS.length (some NS.length)) (L.load rfl ((st.aB 0 rfl).bE hrowa)) (WD.val (v:= .int .i64 (b:Int)) rfl (WD.val (v:= .ptr ab (0+b * 1)) (L.aC rfl rfl (by omega)) ?_))))))))))))))))
         rcases kD x with hxv|hxv
         ·refine WD.val (v:= .bool false) (L.load rfl (by rw [hAb,hxv])) (WD.val (v:= .bool false) rfl (WD.yes rfl (WD.val (v:= .sl lb 0 NS.length none) rfl (WD.yes rfl (WD.val (v:= .int .i64 (a:Int)) rfl (WD.yes rfl (WD.val (v:= .ptr lb (0+a * 1)) (L.aC rfl rfl (by omega)) (WD.yes rfl (WD.val (v:= .sl ab 0 NS.length (some NS.length)) (L.load rfl ((st.aB 0 rfl).bE hrowa)) (WD.yes rfl (WD.val (v:= .int .i64 (k:Int)) rfl (WD.yes rfl (WD.val (v:= .ptr ab (0+k * 1)) (L.aC rfl rfl (by omega)) (WD.yes rfl ?_))))))))))))))
          rcases kD y with hyv|hyv
          ·refine WD.val (v:= .bool false) (L.load rfl (by rw [hAk,hyv])) (WD.yes rfl (WD.val (v:= .bool false) rfl (WD.no rfl (WD.no rfl (WD.no rfl (WD.no rfl (WD.no rfl (WD.no rfl (WD.no rfl (WD.yes rfl (WD.val (v:= .bool false) rfl (WD.val (v:= .bool false) rfl (WD.val (v:= .ptr ab (0+b * 1)) (L.aC rfl rfl (by omega)) (WD.storeT (t:=x||(y&&z)) (St.rot (gs:=[_,_,_,_]) st) rfl (by rw [hxv,hyv];rfl) hab (Lab.pE sqk ca) (by rw [Lab.r9 hral hrkl (by omega)];omega) (fun h st=> ?_)))))))))))))))
           rw [List.set_set,Lab.p8 hral hrkl cb hx hz] at st
           replace st:St (.stb (fun h=>Rows 1 h (.sl lb 0 NS.length none) (bl.map fun b=>[V.sl b 0 NS.length (some NS.length)])):: .stb (fun h=>Rows 1 h vn (SR NS)):: .box res [.slN, .slN, .slN, .slN, .int .i64 0, .int .i64 0]:: .stb (fun h=>bD h v ps):: .stb (gL lb 0 NS.length bl)::(dN bl ((Lab.bS k a Mk).set a (Lab.kE y (b+1) ra rk))++fs)) h:=St.uP (gs:=[_,_,_,_]) st
           refine WD.nil (WP.reg (WO.ak (v:= .int .i64 ((b+1:Nat):Int)) (L.bP rfl rfl (by omega) (And.intro (by omega) (by omega))) (WO.nil ?_)))
           exact ⟨b+1,(by omega),(.bool true),by omega,by kernel_rfl,st⟩
          ·refine WD.val (v:= .bool true) (L.load rfl (by rw [hAk,hyv])) (WD.yes rfl (WD.val (v:= .bool true) rfl (WD.yes rfl (WD.val (v:= .sl lb 0 NS.length none) rfl (WD.yes rfl (WD.val (v:= .int .i64 (k:Int)) rfl (WD.yes rfl (WD.val (v:= .ptr lb (0+k * 1)) (L.aC rfl rfl (by omega)) (WD.yes rfl (WD.val (v:= .sl kb 0 NS.length (some NS.length)) (L.load rfl ((st.aB 0 rfl).bE hrowk)) (WD.yes rfl (WD.val (v:= .int .i64 (b:Int)) rfl (WD.yes rfl (WD.val (v:= .ptr kb (0+b * 1)) (L.aC rfl rfl (by omega)) (WD.yes rfl ?_)))))))))))))))
           rcases kD z with hzv|hzv
           ·refine WD.val (v:= .bool false) (L.load rfl (by rw [hKb,hzv])) (WD.yes rfl (WD.val (v:= .bool false) rfl (WD.val (v:= .bool false) rfl (WD.val (v:= .ptr ab (0+b * 1)) (L.aC rfl rfl (by omega)) (WD.storeT (t:=x||(y&&z)) (St.rot (gs:=[_,_,_,_]) st) rfl (by rw [hxv,hyv,hzv];rfl) hab (Lab.pE sqk ca) (by rw [Lab.r9 hral hrkl (by omega)];omega) (fun h st=> ?_))))))
            rw [List.set_set,Lab.p8 hral hrkl cb hx hz] at st
            replace st:St (.stb (fun h=>Rows 1 h (.sl lb 0 NS.length none) (bl.map fun b=>[V.sl b 0 NS.length (some NS.length)])):: .stb (fun h=>Rows 1 h vn (SR NS)):: .box res [.slN, .slN, .slN, .slN, .int .i64 0, .int .i64 0]:: .stb (fun h=>bD h v ps):: .stb (gL lb 0 NS.length bl)::(dN bl ((Lab.bS k a Mk).set a (Lab.kE y (b+1) ra rk))++fs)) h:=St.uP (gs:=[_,_,_,_]) st
            refine WD.nil (WP.reg (WO.ak (v:= .int .i64 ((b+1:Nat):Int)) (L.bP rfl rfl (by omega) (And.intro (by omega) (by omega))) (WO.nil ?_)))
            exact ⟨b+1,(by omega),(.bool true),by omega,by kernel_rfl,st⟩
           ·refine WD.val (v:= .bool true) (L.load rfl (by rw [hKb,hzv])) (WD.yes rfl (WD.val (v:= .bool true) rfl (WD.val (v:= .bool true) rfl (WD.val (v:= .ptr ab (0+b * 1)) (L.aC rfl rfl (by omega)) (WD.storeT (t:=x||(y&&z)) (St.rot (gs:=[_,_,_,_]) st) rfl (by rw [hxv,hyv,hzv];rfl) hab (Lab.pE sqk ca) (by rw [Lab.r9 hral hrkl (by omega)];omega) (fun h st=> ?_))))))
            rw [List.set_set,Lab.p8 hral hrkl cb hx hz] at st
            replace st:St (.stb (fun h=>Rows 1 h (.sl lb 0 NS.length none) (bl.map fun b=>[V.sl b 0 NS.length (some NS.length)])):: .stb (fun h=>Rows 1 h vn (SR NS)):: .box res [.slN, .slN, .slN, .slN, .int .i64 0, .int .i64 0]:: .stb (fun h=>bD h v ps):: .stb (gL lb 0 NS.length bl)::(dN bl ((Lab.bS k a Mk).set a (Lab.kE y (b+1) ra rk))++fs)) h:=St.uP (gs:=[_,_,_,_]) st
            refine WD.nil (WP.reg (WO.ak (v:= .int .i64 ((b+1:Nat):Int)) (L.bP rfl rfl (by omega) (And.intro (by omega) (by omega))) (WO.nil ?_)))
            exact ⟨b+1,(by omega),(.bool true),by omega,by kernel_rfl,st⟩
         ·refine WD.val (v:= .bool true) (L.load rfl (by rw [hAb,hxv])) (WD.val (v:= .bool true) rfl (WD.no rfl (WD.no rfl (WD.no rfl (WD.no rfl (WD.no rfl (WD.no rfl (WD.no rfl (WD.no rfl (WD.no rfl (WD.no rfl (WD.no rfl (WD.no rfl (WD.no rfl (WD.no rfl (WD.no rfl (WD.no rfl (WD.val (v:= .bool true) rfl (WD.val (v:= .ptr ab (0+b * 1)) (L.aC rfl rfl (by omega)) (WD.storeT (t:=x||(y&&z)) (St.rot (gs:=[_,_,_,_]) st) rfl (by rw [hxv];rfl) hab (Lab.pE sqk ca) (by rw [Lab.r9 hral hrkl (by omega)];omega) (fun h st=> ?_)))))))))))))))))))))
          rw [List.set_set,Lab.p8 hral hrkl cb hx hz] at st
          replace st:St (.stb (fun h=>Rows 1 h (.sl lb 0 NS.length none) (bl.map fun b=>[V.sl b 0 NS.length (some NS.length)])):: .stb (fun h=>Rows 1 h vn (SR NS)):: .box res [.slN, .slN, .slN, .slN, .int .i64 0, .int .i64 0]:: .stb (fun h=>bD h v ps):: .stb (gL lb 0 NS.length bl)::(dN bl ((Lab.bS k a Mk).set a (Lab.kE y (b+1) ra rk))++fs)) h:=St.uP (gs:=[_,_,_,_]) st
          refine WD.nil (WP.reg (WO.ak (v:= .int .i64 ((b+1:Nat):Int)) (L.bP rfl rfl (by omega) (And.intro (by omega) (by omega))) (WO.nil ?_)))
          exact ⟨b+1,(by omega),(.bool true),by omega,by kernel_rfl,st⟩
        ·have eb:b=NS.length:=by omega
         rw [eb,Lab.KN hral hrkl,Lab.rowB_cl hrk hy,Lab.o8 sqk ca hra] at st
         refine WO.nil (WP.cond (t:=false) rfl (WP.exit (WP.reg (WO.ak (v:= .int .i64 ((a+1:Nat):Int)) (L.bP rfl rfl (by omega) (And.intro (by omega) (by omega))) (WO.nil ?_)))))
         exact ⟨a+1,(by omega),(.bool true),(.int .i64 (b:Int)),(.bool false),by omega,by kernel_rfl,st⟩
       ·have ea:a=NS.length:=by omega
        rw [ea,Lab.wZ sqk,hMk,←Lab.iL] at st
        refine WO.nil (WP.cond (t:=false) rfl (WP.exit (WP.reg (WO.ak (v:= .int .i64 ((k+1:Nat):Int)) (L.bP rfl rfl (by omega) (And.intro (by omega) (by omega))) (WO.nil ?_)))))
        exact ⟨k+1,(by omega),(.bool true),(.int .i64 (a:Int)),(.bool false),x22,x23,by omega,by kernel_rfl,st⟩
      ·have ek:k=NS.length:=by omega
       rw [ek] at st
       rw [ek]
       refine WO.nil (WP.cond (t:=false) rfl (WP.exit (WP.seq (WP.reg ?_))))
       obtain ⟨M,hM⟩:∃M,M=Lab.order (pr ps):=⟨_,rfl⟩
       have hM2:M=Lab.closed NS.length M0:=by rw [hM,hM0,hNS];rfl
       rw [←hM2] at st
       have sq:Sq NS.length M:=by rw [hM2];exact Lab.eU sq0 _ (Nat.le_refl _)
       replace st:=(qP (n:=NS.length) (by rw [hbl,sq.len]) sq.row (St.rot (gs:=[_,_,_,_]) st).tail)
       replace st:St (.stb (fun h=>Rows 1 h (.sl lb 0 NS.length none) (bl.map fun b=>[V.sl b 0 NS.length (some NS.length)])):: .stb (fun h=>Rows 1 h vn (SR NS)):: .box res [.slN, .slN, .slN, .slN, .int .i64 0, .int .i64 0]:: .stb (fun h=>bD h v ps):: .stb (fun h=>jh h M (bl.map fun b=> .sl b 0 NS.length (some NS.length)))::fs) h:=St.uP (gs:=[_,_,_,_]) (l:=[]) (fs:=fs) st
       replace st:St (.stb (fun h=>fU h (.sl lb 0 NS.length none) M):: .stb (fun h=>Rows 1 h vn (SR NS)):: .box res [.slN, .slN, .slN, .slN, .int .i64 0, .int .i64 0]:: .stb (fun h=>bD h v ps)::fs) h:=(((st.pick 4 rfl).pick 1 rfl)).and.o6 fun h hx=>⟨_,by have:=hx.1;rw [List.map_map];exact this,hx.2⟩
       refine WO.aP rfl (IJ D.h (n:=NS.length) hN32 rfl sq (st.pick 1 rfl)) ?_
       rintro _ h hp1
       have tr_:∀a b c,Lab.at2 M a b=true→Lab.at2 M b c=true→Lab.at2 M a c=true:=fun a b c h1 h2=>by rw [hM2] at h1 h2 ⊢;exact Lab.kz sq0 h1 h2
       have hcis:=Lab.CQ sq (by omega) tr_
       cases hT:Lab.okT NS.length M NS.length with
       |false=>
        rw [hT] at hp1 hcis
        obtain ⟨rfl,st⟩:=hp1
        refine WO.val (v:= .agg [.slN, .slN, .slN, .slN, .int .i64 0, .int .i64 0]) rfl (WO.val (v:= .bool false) rfl (WO.dz st L.alloc (fun tb h st=> ?_)))
        refine WO.aI (row':=[.slN, .slN, .slN, .slN, .int .i64 0, .int .i64 0]) st 0 rfl rfl rfl rfl rfl rfl rfl (fun h st=> ?_)
        refine WO.ak (v:= .bool false) rfl (WO.nil (WP.seq (WP.seq (WP.reg (WO.ak (v:= .bool true) rfl (WO.nil (WP.cond (t:=true) rfl (WP.seq (WP.reg (WO.val (v:= .agg [.slN, .slN, .slN, .slN, .int .i64 0, .int .i64 0]) (L.build rfl) (WO.aI (row':=[.slN, .slN, .slN, .slN, .int .i64 0, .int .i64 0]) st 3 rfl rfl rfl rfl rfl rfl rfl (fun h st=> ?_))))))))))))
        refine WO.ak (v:= .int .i64 13) rfl (WO.nil (WP.ret ?_))
        rw [show bN (pr ps)=Lat.none from by unfold bN;rw [Lab.Ak (by rw [←hNS];exact e0) (by rw [←hNS];exact e1) (by rw [←hNS,←hM];exact hcis)],Lab.Ak (by rw [←hNS];exact e0) (by rw [←hNS];exact e1) (by rw [←hNS,←hM];exact hcis)]
        exact ⟨_,(aj (aY (l:=[.slN, .slN, .slN, .slN, .int .i64 0, .int .i64 0]) rfl (L.bC (st.av 3 rfl) rfl rfl rfl)) (aj (au (v:= .int .i64 13) rfl) (ay _ _))), .slN, .slN, .slN, .slN,rfl,St.triv (P:=fun h=>gV h .slN .slN .slN .slN Lat.none) (st.tail.tail.tail.tail) fun h=>gV.none h⟩
       |true=>
        rw [hT] at hp1 hcis
        obtain ⟨vJ,vK,rfl,st⟩:=hp1
        refine WO.val (v:= .agg [vn, .sl lb 0 NS.length none,vJ,vK, .int .i64 (Lab.loF NS.length M NS.length:Int), .int .i64 (Lab.hiF NS.length M NS.length:Int)]) rfl (WO.val (v:= .bool true) rfl (WO.dz st L.alloc (fun tb h st=> ?_)))
        refine WO.aI (row':=[vn, .sl lb 0 NS.length none,vJ,vK, .int .i64 (Lab.loF NS.length M NS.length:Int), .int .i64 (Lab.hiF NS.length M NS.length:Int)]) st 0 rfl rfl rfl rfl rfl rfl rfl (fun h st=> ?_)
        refine WO.ak (v:= .bool true) rfl (WO.nil (WP.seq (WP.seq (WP.reg (WO.ak (v:= .bool false) rfl (WO.nil (WP.cond (t:=false) rfl (WP.skip (WP.seq (WP.reg (WO.val (v:= .agg [vn, .sl lb 0 NS.length none,vJ,vK, .int .i64 (Lab.loF NS.length M NS.length:Int), .int .i64 (Lab.hiF NS.length M NS.length:Int)]) (L.aZ rfl (st.av 0 rfl) rfl rfl rfl) (WO.aI (row':=[vn, .sl lb 0 NS.length none,vJ,vK, .int .i64 (Lab.loF NS.length M NS.length:Int), .int .i64 (Lab.hiF NS.length M NS.length:Int)]) st 5 rfl rfl rfl rfl rfl rfl rfl (fun h st=> ?_)))))))))))))
        refine WO.ak (v:= .int .i64 0) rfl (WO.nil (WP.ret ?_))
        have s0:=(((st.tail.pick 4 rfl).tail.pick 3 rfl).pick 3 rfl)
        have s1:=((s0.pick 3 rfl).pick 3 rfl).and
        have s2:=(s1.pick 2 rfl).and
        have s3:=(s2.pick 1 rfl).and
        have e9:bN (pr ps)=⟨NS,M,Lab.fu NS.length M NS.length,Lab.gX NS.length M NS.length,Lab.loF NS.length M NS.length,Lab.hiF NS.length M NS.length⟩:=by unfold bN;rw [Lab.tO (by rw [←hNS];exact e0) (by rw [←hNS];exact e1) (by rw [←hNS,←hM];exact hcis),←hNS,←hM]
        rw [Lab.tO (by rw [←hNS];exact e0) (by rw [←hNS];exact e1) (by rw [←hNS,←hM];exact hcis),e9]
        exact ⟨_,(aj (aY (l:=[vn, .sl lb 0 NS.length none,vJ,vK, .int .i64 (Lab.loF NS.length M NS.length:Int), .int .i64 (Lab.hiF NS.length M NS.length:Int)]) rfl (L.bC (st.av 5 rfl) rfl rfl rfl)) (aj (au (v:= .int .i64 0) rfl) (ay _ _))),_,_,_,_,rfl,s3.o6 fun h hx=>⟨hx.1,hx.2.1,hx.2.2.1,hx.2.2.2⟩⟩
end
end Go.Eng.Ytjgmahbgfbkhnaa
namespace Go.Eng.Ytjgmahbgfbkhnaa
open Go.Eng
noncomputable section
variable {c:Ctx}
structure HasK (c:Ctx):Prop where
 f3:T.get 3 c.aR=some i3
 f10:T.get 10 c.aR=some i10
 f11:∀h,aM c 11 [] h fun v h1=>v= .bool true∧h1=h
 f15:T.get 15 c.aR=some i15
 m:yD c
 s:EI c
 i:HasI c
theorem great_c (D:HasK c) {h0:Heap} {v:V} {ps:List Prm} (a:bD h0 v ps):
 aM c 10 [v] h0 fun v1 h1=>∃g,v1= .bool g∧(g=false→ps.length≤150)∧h1=h0:=by
 refine aM.bX D.f10 rfl (WP.seq (WP.reg (WO.ak (v:= .bool false) rfl (WO.nil (WP.seq (WP.seq (WP.reg (WO.ak (v:= .int .i64 0) rfl (WO.nil (WP.block (WP.bT (α:=Nat) (fun i env h_=>∃x1 x3 x4,(i≤ps.length)∧env=aO [v,x1, .int .i64 (i:Int),x3,x4] 0 Env.nil∧h_=h0) (fun i=>ps.length - i) 0 ?_ ?_)))))))))))
 ·exact ⟨(.bool false), .bot, .bot,Nat.zero_le _,by kernel_rfl,rfl⟩
 rintro i _ h ⟨x1,x3,x4,hi,rfl,rfl⟩
 refine WP.seq (WP.seq (WP.reg (WO.val (v:= .int .i64 (ps.length:Int)) (L.xQ rfl a) (WO.ifV (L.lss rfl rfl) (fun c1=> ?_) (fun c1=> ?_)))))
 ·replace c1:i<ps.length:=by omega
  obtain ⟨p,hp⟩:∃y,ps[i]? =some y:=⟨ps[i]'(by omega),List.getElem?_eq_getElem (by omega)⟩
  refine WO.yes rfl (WO.val (v:= .int .i64 (i:Int)) rfl (WO.yes rfl (WO.ifV (L.lss rfl rfl) (fun c2=> ?_) (fun c2=> ?_))))
  ·refine WO.ak (v:= .bool true) rfl (WO.nil (WP.cond (t:=true) rfl (WP.skip (WP.seq (WP.block (WP.seq (WP.reg (WO.val (v:= .ptr (slB v) (slO v+i * 3)) (L.lU a c1 rfl rfl) (WO.val (v:= .ptr (slB v) (slO v+i * 3+0)) (L.aA rfl) (WO.val (v:=L.str p.1) (L.load rfl (bD.at1 (j:=0) a hp rfl)) (WO.val (v:= .int .i64 (p.1.length:Int)) (L.jo rfl) (WO.ifV (L.gtr rfl rfl) (fun c3=> ?_) (fun c3=> ?_)))))))))))))
   ·refine WO.no rfl (WO.no rfl (WO.no rfl (WO.no rfl (WO.no rfl (WO.no rfl (WO.no rfl (WO.ak (v:= .bool true) rfl (WO.nil (WP.cond (t:=true) rfl (WP.seq (WP.reg (WO.ak (v:= .bool true) rfl (WO.nil (WP.ret ?_))))))))))))))
    exact ⟨_,(aj (au (v:= .bool true) rfl) (ay _ _)),true,rfl,fun h=>absurd h (by decide),rfl⟩
   ·refine WO.yes rfl (WO.val (v:=v) rfl (WO.yes rfl (WO.val (v:= .int .i64 (i:Int)) rfl (WO.yes rfl (WO.val (v:= .ptr (slB v) (slO v+i * 3)) (L.lU a c1 rfl rfl) (WO.yes rfl (WO.val (v:= .ptr (slB v) (slO v+i * 3+1)) (L.aA rfl) (WO.yes rfl (WO.val (v:=L.str p.2.1) (L.load rfl (bD.at1 (j:=1) a hp rfl)) (WO.yes rfl (WO.val (v:= .int .i64 (p.2.1.length:Int)) (L.jo rfl) (WO.yes rfl (WO.ifV (L.gtr rfl rfl) (fun c4=> ?_) (fun c4=> ?_))))))))))))))
    ·refine WO.ak (v:= .bool true) rfl (WO.nil (WP.cond (t:=true) rfl (WP.seq (WP.reg (WO.ak (v:= .bool true) rfl (WO.nil (WP.ret ?_)))))))
     exact ⟨_,(aj (au (v:= .bool true) rfl) (ay _ _)),true,rfl,fun h=>absurd h (by decide),rfl⟩
    ·refine WO.ak (v:= .bool false) rfl (WO.nil (WP.cond (t:=false) rfl (WP.skip (WP.reg (WO.ak (v:= .int .i64 ((i+1:Nat):Int)) (L.bP rfl rfl (by omega) (And.intro (by omega) (by omega))) (WO.nil ?_))))))
     exact ⟨i+1,(by omega),x1,(.bool true),(.bool false),by omega,by kernel_rfl,rfl⟩
  ·refine WO.ak (v:= .bool false) rfl (WO.nil (WP.cond (t:=false) rfl (WP.exit (WP.seq (WP.reg (WO.val (v:= .int .i64 (ps.length:Int)) (L.xQ rfl a) (WO.ak (v:= .bool (decide ((150:Int)<(ps.length:Int)))) (L.gtr rfl rfl) (WO.nil (WP.ret ?_)))))))))
   exact ⟨_,(aj (au (v:= .bool (decide ((150:Int)<(ps.length:Int)))) rfl) (ay _ _)),_,rfl,fun h=>by have:=of_decide_eq_false h;omega,rfl⟩
 ·replace c1:¬i<ps.length:=by omega
  refine WO.no rfl (WO.no rfl (WO.ak (v:= .bool false) rfl (WO.nil (WP.cond (t:=false) rfl (WP.exit (WP.seq (WP.reg (WO.val (v:= .int .i64 (ps.length:Int)) (L.xQ rfl a) (WO.ak (v:= .bool (decide ((150:Int)<(ps.length:Int)))) (L.gtr rfl rfl) (WO.nil (WP.ret ?_)))))))))))
  exact ⟨_,(aj (au (v:= .bool (decide ((150:Int)<(ps.length:Int)))) rfl) (ay _ _)),_,rfl,fun h=>by have:=of_decide_eq_false h;omega,rfl⟩
theorem KP (H:T.get 15 c.aR=some i15) {h0:Heap} {x:Int}:aM c 15 [.int .i64 x] h0 fun v1 h1=>v1= .int .i64 x∧h1=h0:=by
 refine aM.bX H rfl (WP.seq (WP.reg (WO.ak (v:= .int .i64 0) rfl (WO.nil (WP.seq (WP.reg (WO.ak (v:= .int .i64 x) rfl (WO.nil (WP.ret ?_)))))))))
 exact ⟨_,(aj (au (v:= .int .i64 x) rfl) (ay _ _)),rfl,rfl⟩
theorem makes_c (D:HasK c) {h:Heap} {v:V} {ps:List Prm} (st:St [.stb (fun h=>bD h v ps)] h):
 aM c 3 [v] h fun v1 _=>v1= .bool true:=by
 refine aM.bX D.f3 rfl (WP.seq (WP.reg (WO.ak (v:= .bool false) rfl (WO.nil (WP.seq (WP.seq (WP.reg (WO.dB rfl (great_c D ((st.aB 0 rfl))) ?_))))))))
 rintro _ _ ⟨g,rfl,hg,rfl⟩
 rcases kD g with rfl|rfl
 ·have hps:=hg rfl
  refine WO.nil (WP.cond (t:=false) rfl (WP.skip (WP.seq (WP.reg (WO.aP rfl (Kw D.m (by omega) st) ?_)))))
  rintro _ h ⟨n1,l1,j1,k1,rfl,st⟩
  refine WO.val (v:= .agg [n1,l1,j1,k1, .int .i64 ((bN (pr ps)).lo:Int), .int .i64 ((bN (pr ps)).hi:Int)]) rfl (WO.val (v:= .int .i64 ((Lab.made (pr ps)).1:Int)) rfl (WO.dz st L.alloc (fun b1 h st=> ?_)))
  refine WO.aI (row':=[n1,l1,j1,k1, .int .i64 ((bN (pr ps)).lo:Int), .int .i64 ((bN (pr ps)).hi:Int)]) st 0 rfl rfl rfl rfl rfl rfl rfl (fun h st=> ?_)
  refine WO.ak (v:= .int .i64 ((Lab.made (pr ps)).1:Int)) rfl (WO.nil (WP.seq (WP.reg (WO.aP rfl (Gg D.i (by omega) (st.pick 2 rfl)) ?_))))
  rintro _ h ⟨n2,l2,j2,k2,rfl,st⟩
  refine WO.val (v:= .agg [n2,l2,j2,k2, .int .i64 ((bN (pr ps)).lo:Int), .int .i64 ((bN (pr ps)).hi:Int)]) rfl (WO.val (v:= .int .i64 ((Lab.made (pr ps)).1:Int)) rfl (WO.dz st L.alloc (fun b2 h st=> ?_)))
  refine WO.aI (row':=[n2,l2,j2,k2, .int .i64 ((bN (pr ps)).lo:Int), .int .i64 ((bN (pr ps)).hi:Int)]) st 0 rfl rfl rfl rfl rfl rfl rfl (fun h st=> ?_)
  refine WO.ak (v:= .int .i64 ((Lab.made (pr ps)).1:Int)) rfl (WO.nil (WP.seq (WP.reg (WO.val (v:= .agg [n1,l1,j1,k1, .int .i64 ((bN (pr ps)).lo:Int), .int .i64 ((bN (pr ps)).hi:Int)]) (L.aZ rfl (st.av 3 rfl) rfl rfl rfl) (WO.val (v:= .agg [n2,l2,j2,k2, .int .i64 ((bN (pr ps)).lo:Int), .int .i64 ((bN (pr ps)).hi:Int)]) (L.aZ rfl (st.av 0 rfl) rfl rfl rfl) (WO.aP rfl (EJ D.s (uQ (pr ps)) ((st.pick 1 rfl).pick 4 rfl)) ?_))))))
  rintro _ h ⟨rfl,st⟩
  refine WO.yes rfl (WO.val (v:= .int .i64 ((Lab.made (pr ps)).1:Int)) rfl (WO.yes rfl (WO.aP rfl (KP D.f15) ?_)))
  rintro _ _ ⟨rfl,rfl⟩
  refine WO.yes rfl (WO.val (v:= .int .i64 ((Lab.made (pr ps)).1:Int)) rfl (WO.yes rfl (WO.ifV (L.eql rfl rfl) (fun c1=> ?_) (fun c1=>by exfalso;exact c1 rfl))))
  refine WO.val (v:= .bool true) rfl (WO.yes rfl (WO.aP rfl (D.f11 _) ?_))
  rintro _ _ ⟨rfl,rfl⟩
  refine WO.ak (v:= .bool true) rfl (WO.nil (WP.ret ?_))
  exact ⟨_,(aj (au (v:= .bool true) rfl) (ay _ _)),rfl⟩
 ·have _:=trivial
  refine WO.nil (WP.cond (t:=true) rfl (WP.seq (WP.reg (WO.dB rfl (D.f11 _) ?_))))
  rintro _ _ ⟨rfl,rfl⟩
  refine WO.nil (WP.ret ?_)
  exact ⟨_,(aj (au (v:= .bool true) rfl) (ay _ _)),rfl⟩
end
end Go.Eng.Ytjgmahbgfbkhnaa
