/- Part of a proof of a law: rules of an evaluator, contracts, plain laws. No condition of its own. -/
import Derived.Test.YtjgmahbgfbkhnaaConA
import Derived.Test.YtjgmahbgfbkhnaaConB
import Derived.Test.YtjgmahbgfbkhnaaSymB
import Derived.Test.YtjgmahbgfbkhnaaSymC
set_option linter.unusedVariables false
set_option linter.unusedSimpArgs false
namespace Go.Eng.Ytjgmahbgfbkhnaa
open Go.Eng
noncomputable section
variable {c:Ctx}
structure HasF (c:Ctx):Prop where
 f12:T.get 12 c.aR=some i12
 f18:T.get 18 c.aR=some i18
 f25:T.get 25 c.aR=some i25
 f26:T.get 26 c.aR=some i26
 f27:T.get 27 c.aR=some i27
 f35:T.get 35 c.aR=some i35
 f46:T.get 46 c.aR=some i46
 f47:T.get 47 c.aR=some i47
 f48:T.get 48 c.aR=some i48
 f49:T.get 49 c.aR=some i49
 f50:T.get 50 c.aR=some i50
 f51:T.get 51 c.aR=some i51
 f52:T.get 52 c.aR=some i52
theorem eD {h:Heap} {tb lb lo n:Nat} {cap:Option Nat} {row:List V} {M:List (List Bool)} (hb:T.get tb h.t=some (.box row)) (hr:hd (fH 1 row)=some (.sl lb lo n cap)) (m:yB lb lo n M h):J8 h tb n (Lab.at2 M):=
 ⟨lb,lo,cap,L.aW hb hr,fun a ha=>m a ha⟩
theorem Es (D:HasF c) {fs:List Fact} {h:Heap} {vn w2 w3 w4 w5:V} {nb no lb lo_ n:Nat} {ncap lcap:Option Nat} {M:List (List Bool)} (hn:n<4294967296) (st:St (.stb (yB lb lo_ n M)::fs) h):
 aM c 27 [.agg [.sl nb no n ncap, .sl lb lo_ n lcap,w2,w3,w4,w5]] h fun v h1=>∃row,v= .tup [.agg row, .bool (Lab.complete n M).isSome]∧row.length=6∧match Lab.complete n M with
  |none=>St fs h1
  |some (lo,hi)=>∃vJ vK,row=[.sl nb no n ncap, .sl lb lo_ n lcap,vJ,vK, .int .i64 (lo:Int), .int .i64 (hi:Int)]∧St (.stb (fun h=>kV h vJ (Lab.fu n M n)):: .stb (fun h=>kV h vK (Lab.gX n M n))::fs) h1:=by
 refine aM.bX D.f27 rfl (WP.seq (WP.reg (WO.dz st (L.box (l:=[.sl nb no n ncap, .sl lb lo_ n lcap,w2,w3,w4,w5]) rfl rfl) (fun tb h st=> ?_))))
 refine WO.dz st L.alloc (fun res h st=> ?_)
 refine WO.ak (v:= .bool false) rfl (WO.nil (WP.seq (WP.reg (WO.val (v:= .ptr tb 0) (L.aA rfl) (WO.val (v:= .sl nb no n ncap) (L.aG rfl (st.av 1 rfl) rfl) (WO.ak (v:= .int .i64 (n:Int)) (L.llen rfl) (WO.nil (WP.seq (WP.reg (WO.val (v:= .fn 46 [] [.ptr tb 0]) rfl (WO.dz st L.alloc (fun le h st=> ?_))))))))))))
 refine WO.aI (row':=[.fn 46 [] [.ptr tb 0]]) st 0 rfl rfl rfl rfl rfl rfl rfl (fun h st=> ?_)
 refine WO.nil (WP.seq (WP.reg (WO.ak (v:= .fn 47 [] [.ptr tb 0]) rfl (WO.nil (WP.seq (WP.reg (WO.val (v:= .ptr tb 2) (L.aA rfl) (WO.aI (row':=[.sl nb no n ncap, .sl lb lo_ n lcap, .slN,w3,w4,w5]) st 2 rfl rfl rfl rfl rfl rfl rfl (fun h st=> ?_)))))))))
 refine WO.val (v:= .ptr tb 3) (L.aA rfl) (WO.aI (row':=[.sl nb no n ncap, .sl lb lo_ n lcap, .slN, .slN,w4,w5]) st 2 rfl rfl rfl rfl rfl rfl rfl (fun h st=> ?_))
 refine WO.nil (WP.seq (WP.seq (WP.reg (WO.ak (v:= .int .i64 (n:Int)) rfl (WO.ak (v:= .int .i64 0) rfl (WO.nil (WP.block ?_)))))))
 replace st:St (.stb (fun h=>fo h ([]) ([])):: .acc 0 1 .slN (([]:List V).map fun x=>[x]):: .stb (fun h=>fo h ([]) ([])):: .acc 0 1 .slN (([]:List V).map fun x=>[x]):: .box le [.fn 46 [] [.ptr tb 0]]:: .box res [.slN, .slN, .slN, .slN, .int .i64 0, .int .i64 0]:: .box tb [.sl nb no n ncap, .sl lb lo_ n lcap, .slN, .slN,w4,w5]:: .stb (yB lb lo_ n M)::fs) h:=(((st.acc0 1).triv (P:=fun h=>fo h [] []) (fun _=>trivial)).acc0 1).triv (P:=fun h=>fo h [] []) (fun _=>trivial)
 refine WP.bT (α:=Nat) (fun a env h=>∃fJ vJ js fK vK ks x2 x7 x8 x9 x10 x11 x12 x14 x16 x17 x18 x19 x20 x21 x22,(a≤n∧Lab.okT n M a=true∧(js.length=a∧ks.length=a))∧env=aO [.agg [.sl nb no n ncap, .sl lb lo_ n lcap,w2,w3,w4,w5], .ptr res 0,x2, .ptr tb 0, .int .i64 (n:Int), .int .i64 (a:Int), .int .i64 (n:Int),x7,x8,x9,x10,x11,x12, .ptr le 0,x14, .fn 47 [] [.ptr tb 0],x16,x17,x18,x19,x20,x21,x22] 0 Env.nil∧St (.stb (fun h=>fo h (Lab.gX n M a) ks):: .acc fK 1 vK (ks.map fun x=>[x]):: .stb (fun h=>fo h (Lab.fu n M a) js):: .acc fJ 1 vJ (js.map fun x=>[x]):: .box res [.slN, .slN, .slN, .slN, .int .i64 0, .int .i64 0]:: .box le [.fn 46 [] [.ptr tb 0]]:: .box tb [.sl nb no n ncap, .sl lb lo_ n lcap,vJ,vK,w4,w5]:: .stb (yB lb lo_ n M)::fs) h) (fun a=>n - a) 0 ?_ ?_
 ·exact ⟨0, .slN,[],0, .slN,[],(.bool false), .bot, .bot, .bot, .bot, .bot, .bot, .bot, .bot, .bot, .bot, .bot, .bot, .bot, .bot,⟨Nat.zero_le _,rfl,rfl,rfl⟩,by kernel_rfl,(((((st.pick 5 rfl).pick 4 rfl).pick 4 rfl).pick 4 rfl).pick 4 rfl)⟩
 rintro a _ h ⟨fJ,vJ,js,fK,vK,ks,x2,x7,x8,x9,x10,x11,x12,x14,x16,x17,x18,x19,x20,x21,x22,⟨han,hok,hjl,hkl⟩,rfl,st⟩
 refine WP.seq (WP.reg (WO.ifS (L.lss rfl rfl) (fun c_=> ?_) (fun c_=> ?_)))
 ·have ha:a<n:=by omega
  refine WO.nil (WP.seq (WP.cond (t:=true) rfl (WP.skip (WP.seq (WP.block (WP.seq (WP.reg (WO.dz st L.alloc (fun ab h st=> ?_)))))))))
  refine WO.aI (row':=[.int .i64 (a:Int)]) st 0 rfl rfl rfl rfl rfl rfl rfl (fun h st=> ?_)
  refine WO.nil (WP.seq (WP.reg (WO.ak (v:= .slN) rfl (WO.ak (v:= .slN) rfl (WO.nil (WP.seq (WP.seq (WP.reg (WO.ak (v:= .int .i64 (n:Int)) rfl (WO.ak (v:= .int .i64 0) rfl (WO.nil (WP.block ?_))))))))))))
  replace st:St (.acc 0 1 .slN (([]:List Nat).map iv):: .acc 0 1 .slN (([]:List Nat).map iv):: .box ab [.int .i64 (a:Int)]:: .stb (fun h=>fo h (Lab.gX n M a) ks):: .acc fK 1 vK (ks.map fun x=>[x]):: .stb (fun h=>fo h (Lab.fu n M a) js):: .acc fJ 1 vJ (js.map fun x=>[x]):: .box res [.slN, .slN, .slN, .slN, .int .i64 0, .int .i64 0]:: .box le [.fn 46 [] [.ptr tb 0]]:: .box tb [.sl nb no n ncap, .sl lb lo_ n lcap,vJ,vK,w4,w5]:: .stb (yB lb lo_ n M)::fs) h:=(st.acc0 1).acc0 1
  refine WP.bT (α:=Nat) (fun b env h=>∃fj vj fm vm x2 x10 x12 x14 x16 x17 x18 x19 x21,(b≤n∧Lab.okR n M a b=true)∧env=aO [.agg [.sl nb no n ncap, .sl lb lo_ n lcap,w2,w3,w4,w5], .ptr res 0,x2, .ptr tb 0, .int .i64 (n:Int), .int .i64 (a:Int), .int .i64 (n:Int), .bool true, .int .i64 (b:Int), .int .i64 (n:Int),x10, .ptr ab 0,x12, .ptr le 0,x14, .fn 47 [] [.ptr tb 0],x16,x17,x18,x19,vj,x21,vm] 0 Env.nil∧St (.acc fm 1 vm ((Lab.dn n M a b).map iv):: .acc fj 1 vj ((Lab.bQ n M a b).map iv):: .box ab [.int .i64 (a:Int)]:: .stb (fun h=>fo h (Lab.gX n M a) ks):: .acc fK 1 vK (ks.map fun x=>[x]):: .stb (fun h=>fo h (Lab.fu n M a) js):: .acc fJ 1 vJ (js.map fun x=>[x]):: .box res [.slN, .slN, .slN, .slN, .int .i64 0, .int .i64 0]:: .box le [.fn 46 [] [.ptr tb 0]]:: .box tb [.sl nb no n ncap, .sl lb lo_ n lcap,vJ,vK,w4,w5]:: .stb (yB lb lo_ n M)::fs) h) (fun b=>n - b) 0 ?_ ?_
  ·exact ⟨0, .slN,0, .slN,x2,x10,x12,x14,x16,x17,x18,x19,x21,⟨Nat.zero_le _,rfl⟩,by kernel_rfl,st⟩
  rintro b _ h ⟨fj,vj,fm,vm,x2,x10,x12,x14,x16,x17,x18,x19,x21,⟨hbn,hokr⟩,rfl,st⟩
  refine WP.seq (WP.reg (WO.ifS (L.lss rfl rfl) (fun c_=> ?_) (fun c_=> ?_)))
  ·have hb:b<n:=by omega
   refine WO.nil (WP.seq (WP.cond (t:=true) rfl (WP.skip (WP.seq (WP.block (WP.seq (WP.reg (WO.dz st L.alloc (fun bb h st=> ?_)))))))))
   refine WO.aI (row':=[.int .i64 (b:Int)]) st 0 rfl rfl rfl rfl rfl rfl rfl (fun h st=> ?_)
   refine WO.nil (WP.seq (WP.seq (WP.reg (WO.val (v:= .int .i64 (a:Int)) (L.aG rfl (st.av 3 rfl) rfl) (WO.val (v:= .int .i64 (b:Int)) (L.aG rfl (st.av 0 rfl) rfl) (WO.ifV (L.neq rfl rfl) (fun c_=> ?_) (fun c_=> ?_)))))))
   ·have cne:a≠b:=by omega
    refine WO.yes rfl (WO.val (v:= .fn 46 [] [.ptr tb 0]) (L.aG rfl (st.av 9 rfl) rfl) (WO.yes rfl (WO.val (v:= .int .i64 (a:Int)) (L.aG rfl (st.av 3 rfl) rfl) (WO.yes rfl (WO.val (v:= .int .i64 (b:Int)) (L.aG rfl (st.av 0 rfl) rfl) (WO.yes rfl (WO.kS rfl rfl (yC D.f46 (eD (st.av 10 rfl) rfl (st.aB 11 rfl)) ha hb) ?_)))))))
    rintro _ h ⟨rfl,rfl⟩
    cases qab:Lab.at2 M a b
    ·refine WO.val (v:= .bool false) rfl (WO.no rfl (WO.no rfl (WO.no rfl (WO.no rfl (WO.ak (v:= .bool false) rfl (WO.nil (WP.cond (t:=false) rfl (WP.skip (WP.seq (WP.reg (WO.val (v:= .fn 46 [] [.ptr tb 0]) (L.aG rfl (st.av 9 rfl) rfl) (WO.val (v:= .fn 49 [] [.ptr le 0, .ptr ab 0, .ptr bb 0]) rfl (WO.aP rfl (iC (le:=Lab.at2 M) (is:=fun x=>Lab.at2 M a x&&Lab.at2 M b x) D.f48 hn (fun x y hx hy=>yC D.f46 (eD (st.av 10 rfl) rfl (st.aB 11 rfl)) hx hy) (fun x hx=>up_c D.f49 D.f46 (eD (st.av 10 rfl) rfl (st.aB 11 rfl)) (L.aW (st.av 9 rfl) rfl) (L.aW (st.av 3 rfl) rfl) (L.aW (st.av 0 rfl) rfl) ha hb hx)) ?_)))))))))))))
     rintro _ h ⟨rfl,rfl⟩
     cases hj:Lab.join n M a b with
     |none=>
      rw [show Lab.least n (Lab.at2 M) (fun x=>Lab.at2 M a x&&Lab.at2 M b x)=_ from hj]
      refine WO.val (v:= .int .i64 0) rfl (WO.val (v:= .bool false) rfl (WO.ak (v:= .int .i64 0) rfl (WO.ak (v:= .bool false) rfl (WO.nil (WP.seq (WP.reg (WO.val (v:= .fn 50 [] [.ptr le 0, .ptr ab 0, .ptr bb 0]) rfl (WO.aP rfl (iC (le:=fun x y=>Lab.at2 M y x) (is:=fun x=>Lab.at2 M x a&&Lab.at2 M x b) D.f48 hn (fun x y hx hy=>Ca D.f47 (eD (st.av 10 rfl) rfl (st.aB 11 rfl)) hx hy) (fun x hx=>sZ D.f50 D.f46 (eD (st.av 10 rfl) rfl (st.aB 11 rfl)) (L.aW (st.av 9 rfl) rfl) (L.aW (st.av 3 rfl) rfl) (L.aW (st.av 0 rfl) rfl) ha hb hx)) ?_))))))))
      rintro _ h ⟨rfl,rfl⟩
      cases hm:Lab.meet n M a b with
      |none=>
       rw [show Lab.least n (fun x y=>Lab.at2 M y x) (fun x=>Lab.at2 M x a&&Lab.at2 M x b)=_ from hm]
       refine WO.val (v:= .int .i64 0) rfl (WO.val (v:= .bool false) rfl (WO.ak (v:= .int .i64 0) rfl (WO.ak (v:= .bool false) rfl (WO.nil (WP.seq (WP.seq (WP.reg (WO.val (v:= .bool true) rfl (WO.no rfl (WO.no rfl (WO.ak (v:= .bool true) rfl (WO.nil (WP.cond (t:=true) rfl (WP.seq (WP.reg (WO.val (v:= .agg [.slN, .slN, .slN, .slN, .int .i64 0, .int .i64 0]) (L.build rfl) (WO.aI (row':=[.slN, .slN, .slN, .slN, .int .i64 0, .int .i64 0]) st 8 rfl rfl rfl rfl rfl rfl rfl (fun h st=> ?_))))))))))))))))))
       refine WO.ak (v:= .bool false) rfl (WO.nil (WP.ret ?_))
       have hno:Lab.okC n M a b=false:=by unfold Lab.okC;rw [hj,hm];simp
       rw [Lab.d9 ha hb hno]
       exact ⟨_,(aj (aY (l:=[.slN, .slN, .slN, .slN, .int .i64 0, .int .i64 0]) rfl (L.bC (st.av 8 rfl) rfl rfl rfl)) (aj (au (v:= .bool false) rfl) (ay _ _))),_,rfl,rfl,st.tail.tail.tail.tail.tail.tail.tail.tail.tail.tail.tail.tail⟩
      |some mx=>
       rw [show Lab.least n (fun x y=>Lab.at2 M y x) (fun x=>Lab.at2 M x a&&Lab.at2 M x b)=_ from hm]
       refine WO.val (v:= .int .i64 (mx:Int)) rfl (WO.val (v:= .bool true) rfl (WO.ak (v:= .int .i64 (mx:Int)) rfl (WO.ak (v:= .bool true) rfl (WO.nil (WP.seq (WP.seq (WP.reg (WO.val (v:= .bool true) rfl (WO.no rfl (WO.no rfl (WO.ak (v:= .bool true) rfl (WO.nil (WP.cond (t:=true) rfl (WP.seq (WP.reg (WO.val (v:= .agg [.slN, .slN, .slN, .slN, .int .i64 0, .int .i64 0]) (L.build rfl) (WO.aI (row':=[.slN, .slN, .slN, .slN, .int .i64 0, .int .i64 0]) st 8 rfl rfl rfl rfl rfl rfl rfl (fun h st=> ?_))))))))))))))))))
       refine WO.ak (v:= .bool false) rfl (WO.nil (WP.ret ?_))
       have hno:Lab.okC n M a b=false:=by unfold Lab.okC;rw [hj,hm];simp
       rw [Lab.d9 ha hb hno]
       exact ⟨_,(aj (aY (l:=[.slN, .slN, .slN, .slN, .int .i64 0, .int .i64 0]) rfl (L.bC (st.av 8 rfl) rfl rfl rfl)) (aj (au (v:= .bool false) rfl) (ay _ _))),_,rfl,rfl,st.tail.tail.tail.tail.tail.tail.tail.tail.tail.tail.tail.tail⟩
     |some jx=>
      rw [show Lab.least n (Lab.at2 M) (fun x=>Lab.at2 M a x&&Lab.at2 M b x)=_ from hj]
      refine WO.val (v:= .int .i64 (jx:Int)) rfl (WO.val (v:= .bool true) rfl (WO.ak (v:= .int .i64 (jx:Int)) rfl (WO.ak (v:= .bool true) rfl (WO.nil (WP.seq (WP.reg (WO.val (v:= .fn 50 [] [.ptr le 0, .ptr ab 0, .ptr bb 0]) rfl (WO.aP rfl (iC (le:=fun x y=>Lab.at2 M y x) (is:=fun x=>Lab.at2 M x a&&Lab.at2 M x b) D.f48 hn (fun x y hx hy=>Ca D.f47 (eD (st.av 10 rfl) rfl (st.aB 11 rfl)) hx hy) (fun x hx=>sZ D.f50 D.f46 (eD (st.av 10 rfl) rfl (st.aB 11 rfl)) (L.aW (st.av 9 rfl) rfl) (L.aW (st.av 3 rfl) rfl) (L.aW (st.av 0 rfl) rfl) ha hb hx)) ?_))))))))
      rintro _ h ⟨rfl,rfl⟩
      cases hm:Lab.meet n M a b with
      |none=>
       rw [show Lab.least n (fun x y=>Lab.at2 M y x) (fun x=>Lab.at2 M x a&&Lab.at2 M x b)=_ from hm]
       refine WO.val (v:= .int .i64 0) rfl (WO.val (v:= .bool false) rfl (WO.ak (v:= .int .i64 0) rfl (WO.ak (v:= .bool false) rfl (WO.nil (WP.seq (WP.seq (WP.reg (WO.val (v:= .bool false) rfl (WO.yes rfl (WO.val (v:= .bool false) rfl (WO.yes rfl (WO.val (v:= .bool true) rfl (WO.ak (v:= .bool true) rfl (WO.nil (WP.cond (t:=true) rfl (WP.seq (WP.reg (WO.val (v:= .agg [.slN, .slN, .slN, .slN, .int .i64 0, .int .i64 0]) (L.build rfl) (WO.aI (row':=[.slN, .slN, .slN, .slN, .int .i64 0, .int .i64 0]) st 8 rfl rfl rfl rfl rfl rfl rfl (fun h st=> ?_))))))))))))))))))))
       refine WO.ak (v:= .bool false) rfl (WO.nil (WP.ret ?_))
       have hno:Lab.okC n M a b=false:=by unfold Lab.okC;rw [hj,hm];simp
       rw [Lab.d9 ha hb hno]
       exact ⟨_,(aj (aY (l:=[.slN, .slN, .slN, .slN, .int .i64 0, .int .i64 0]) rfl (L.bC (st.av 8 rfl) rfl rfl rfl)) (aj (au (v:= .bool false) rfl) (ay _ _))),_,rfl,rfl,st.tail.tail.tail.tail.tail.tail.tail.tail.tail.tail.tail.tail⟩
      |some mx=>
       rw [show Lab.least n (fun x y=>Lab.at2 M y x) (fun x=>Lab.at2 M x a&&Lab.at2 M x b)=_ from hm]
       refine WO.val (v:= .int .i64 (mx:Int)) rfl (WO.val (v:= .bool true) rfl (WO.ak (v:= .int .i64 (mx:Int)) rfl (WO.ak (v:= .bool true) rfl (WO.nil (WP.seq (WP.seq (WP.reg (WO.val (v:= .bool false) rfl (WO.yes rfl (WO.val (v:= .bool true) rfl (WO.yes rfl (WO.val (v:= .bool false) rfl (WO.ak (v:= .bool false) rfl (WO.nil (WP.cond (t:=false) rfl (WP.skip (WP.reg (WO.gJ (rows:=[[.int .i64 (jx:Int)]]) st rfl (by decide) rfl (by simp) (fun bj1 h st=> ?_)))))))))))))))))))
       refine WO.wS st 3 rfl rfl rfl (st.aB 0 rfl) (by decide) (by simp [Lab.bQ,Lab.dn];omega) (fun f1 v1 h st=> ?_)
       refine WO.gJ (rows:=[[.int .i64 (mx:Int)]]) st rfl (by decide) rfl (by simp) (fun bm1 h st=> ?_)
       refine WO.wS st 3 rfl rfl rfl (st.aB 0 rfl) (by decide) (by simp [Lab.bQ,Lab.dn];omega) (fun f2 v2 h st=> ?_)
       refine WO.ak (v:=v1) rfl (WO.ak (v:=v2) rfl (WO.nil (WP.reg (WO.ak (L.add rfl rfl (And.intro (by omega) (by omega))) (WO.nil ?_)))))
       have hokc:Lab.okC n M a b=true:=by unfold Lab.okC;rw [hj,hm];simp [cne,qab]
       have e1:=Lab.ku n M a b
       have e2:=Lab.nD n M a b
       rw [hj] at e1
       rw [hm] at e2
       rw [show (Lab.bQ n M a b).map iv++[[.int .i64 (jx:Int)]]=(Lab.bQ n M a (b+1)).map iv from by rw [e1,List.map_append];rfl,show (Lab.dn n M a b).map iv++[[.int .i64 (mx:Int)]]=(Lab.dn n M a (b+1)).map iv from by rw [e2,List.map_append];rfl] at st
       exact ⟨b+1,(by omega),f1,v1,f2,v2,x2,(.bool true),(.ptr bb 0),(.bool false),(.bool true),(.bool true),(.bool false),(.int .i64 (jx:Int)),(.int .i64 (mx:Int)),⟨by omega,by rw [Lab.xk,hokr,hokc];rfl⟩,by kernel_rfl,st.tail.tail.tail⟩
    ·refine WO.val (v:= .bool true) rfl (WO.yes rfl (WO.val (v:= .fn 46 [] [.ptr tb 0]) (L.aG rfl (st.av 9 rfl) rfl) (WO.yes rfl (WO.val (v:= .int .i64 (b:Int)) (L.aG rfl (st.av 0 rfl) rfl) (WO.yes rfl (WO.val (v:= .int .i64 (a:Int)) (L.aG rfl (st.av 3 rfl) rfl) (WO.yes rfl (WO.kS rfl rfl (yC D.f46 (eD (st.av 10 rfl) rfl (st.aB 11 rfl)) hb ha) ?_))))))))
     rintro _ h ⟨rfl,rfl⟩
     cases qba:Lab.at2 M b a
     ·refine WO.ak (v:= .bool false) rfl (WO.nil (WP.cond (t:=false) rfl (WP.skip (WP.seq (WP.reg (WO.val (v:= .fn 46 [] [.ptr tb 0]) (L.aG rfl (st.av 9 rfl) rfl) (WO.val (v:= .fn 49 [] [.ptr le 0, .ptr ab 0, .ptr bb 0]) rfl (WO.aP rfl (iC (le:=Lab.at2 M) (is:=fun x=>Lab.at2 M a x&&Lab.at2 M b x) D.f48 hn (fun x y hx hy=>yC D.f46 (eD (st.av 10 rfl) rfl (st.aB 11 rfl)) hx hy) (fun x hx=>up_c D.f49 D.f46 (eD (st.av 10 rfl) rfl (st.aB 11 rfl)) (L.aW (st.av 9 rfl) rfl) (L.aW (st.av 3 rfl) rfl) (L.aW (st.av 0 rfl) rfl) ha hb hx)) ?_))))))))
      rintro _ h ⟨rfl,rfl⟩
      cases hj:Lab.join n M a b with
      |none=>
       rw [show Lab.least n (Lab.at2 M) (fun x=>Lab.at2 M a x&&Lab.at2 M b x)=_ from hj]
       refine WO.val (v:= .int .i64 0) rfl (WO.val (v:= .bool false) rfl (WO.ak (v:= .int .i64 0) rfl (WO.ak (v:= .bool false) rfl (WO.nil (WP.seq (WP.reg (WO.val (v:= .fn 50 [] [.ptr le 0, .ptr ab 0, .ptr bb 0]) rfl (WO.aP rfl (iC (le:=fun x y=>Lab.at2 M y x) (is:=fun x=>Lab.at2 M x a&&Lab.at2 M x b) D.f48 hn (fun x y hx hy=>Ca D.f47 (eD (st.av 10 rfl) rfl (st.aB 11 rfl)) hx hy) (fun x hx=>sZ D.f50 D.f46 (eD (st.av 10 rfl) rfl (st.aB 11 rfl)) (L.aW (st.av 9 rfl) rfl) (L.aW (st.av 3 rfl) rfl) (L.aW (st.av 0 rfl) rfl) ha hb hx)) ?_))))))))
       rintro _ h ⟨rfl,rfl⟩
       cases hm:Lab.meet n M a b with
       |none=>
        rw [show Lab.least n (fun x y=>Lab.at2 M y x) (fun x=>Lab.at2 M x a&&Lab.at2 M x b)=_ from hm]
        refine WO.val (v:= .int .i64 0) rfl (WO.val (v:= .bool false) rfl (WO.ak (v:= .int .i64 0) rfl (WO.ak (v:= .bool false) rfl (WO.nil (WP.seq (WP.seq (WP.reg (WO.val (v:= .bool true) rfl (WO.no rfl (WO.no rfl (WO.ak (v:= .bool true) rfl (WO.nil (WP.cond (t:=true) rfl (WP.seq (WP.reg (WO.val (v:= .agg [.slN, .slN, .slN, .slN, .int .i64 0, .int .i64 0]) (L.build rfl) (WO.aI (row':=[.slN, .slN, .slN, .slN, .int .i64 0, .int .i64 0]) st 8 rfl rfl rfl rfl rfl rfl rfl (fun h st=> ?_))))))))))))))))))
        refine WO.ak (v:= .bool false) rfl (WO.nil (WP.ret ?_))
        have hno:Lab.okC n M a b=false:=by unfold Lab.okC;rw [hj,hm];simp
        rw [Lab.d9 ha hb hno]
        exact ⟨_,(aj (aY (l:=[.slN, .slN, .slN, .slN, .int .i64 0, .int .i64 0]) rfl (L.bC (st.av 8 rfl) rfl rfl rfl)) (aj (au (v:= .bool false) rfl) (ay _ _))),_,rfl,rfl,st.tail.tail.tail.tail.tail.tail.tail.tail.tail.tail.tail.tail⟩
       |some mx=>
        rw [show Lab.least n (fun x y=>Lab.at2 M y x) (fun x=>Lab.at2 M x a&&Lab.at2 M x b)=_ from hm]
        refine WO.val (v:= .int .i64 (mx:Int)) rfl (WO.val (v:= .bool true) rfl (WO.ak (v:= .int .i64 (mx:Int)) rfl (WO.ak (v:= .bool true) rfl (WO.nil (WP.seq (WP.seq (WP.reg (WO.val (v:= .bool true) rfl (WO.no rfl (WO.no rfl (WO.ak (v:= .bool true) rfl (WO.nil (WP.cond (t:=true) rfl (WP.seq (WP.reg (WO.val (v:= .agg [.slN, .slN, .slN, .slN, .int .i64 0, .int .i64 0]) (L.build rfl) (WO.aI (row':=[.slN, .slN, .slN, .slN, .int .i64 0, .int .i64 0]) st 8 rfl rfl rfl rfl rfl rfl rfl (fun h st=> ?_))))))))))))))))))
        refine WO.ak (v:= .bool false) rfl (WO.nil (WP.ret ?_))
        have hno:Lab.okC n M a b=false:=by unfold Lab.okC;rw [hj,hm];simp
        rw [Lab.d9 ha hb hno]
        exact ⟨_,(aj (aY (l:=[.slN, .slN, .slN, .slN, .int .i64 0, .int .i64 0]) rfl (L.bC (st.av 8 rfl) rfl rfl rfl)) (aj (au (v:= .bool false) rfl) (ay _ _))),_,rfl,rfl,st.tail.tail.tail.tail.tail.tail.tail.tail.tail.tail.tail.tail⟩
      |some jx=>
       rw [show Lab.least n (Lab.at2 M) (fun x=>Lab.at2 M a x&&Lab.at2 M b x)=_ from hj]
       refine WO.val (v:= .int .i64 (jx:Int)) rfl (WO.val (v:= .bool true) rfl (WO.ak (v:= .int .i64 (jx:Int)) rfl (WO.ak (v:= .bool true) rfl (WO.nil (WP.seq (WP.reg (WO.val (v:= .fn 50 [] [.ptr le 0, .ptr ab 0, .ptr bb 0]) rfl (WO.aP rfl (iC (le:=fun x y=>Lab.at2 M y x) (is:=fun x=>Lab.at2 M x a&&Lab.at2 M x b) D.f48 hn (fun x y hx hy=>Ca D.f47 (eD (st.av 10 rfl) rfl (st.aB 11 rfl)) hx hy) (fun x hx=>sZ D.f50 D.f46 (eD (st.av 10 rfl) rfl (st.aB 11 rfl)) (L.aW (st.av 9 rfl) rfl) (L.aW (st.av 3 rfl) rfl) (L.aW (st.av 0 rfl) rfl) ha hb hx)) ?_))))))))
       rintro _ h ⟨rfl,rfl⟩
       cases hm:Lab.meet n M a b with
       |none=>
        rw [show Lab.least n (fun x y=>Lab.at2 M y x) (fun x=>Lab.at2 M x a&&Lab.at2 M x b)=_ from hm]
        refine WO.val (v:= .int .i64 0) rfl (WO.val (v:= .bool false) rfl (WO.ak (v:= .int .i64 0) rfl (WO.ak (v:= .bool false) rfl (WO.nil (WP.seq (WP.seq (WP.reg (WO.val (v:= .bool false) rfl (WO.yes rfl (WO.val (v:= .bool false) rfl (WO.yes rfl (WO.val (v:= .bool true) rfl (WO.ak (v:= .bool true) rfl (WO.nil (WP.cond (t:=true) rfl (WP.seq (WP.reg (WO.val (v:= .agg [.slN, .slN, .slN, .slN, .int .i64 0, .int .i64 0]) (L.build rfl) (WO.aI (row':=[.slN, .slN, .slN, .slN, .int .i64 0, .int .i64 0]) st 8 rfl rfl rfl rfl rfl rfl rfl (fun h st=> ?_))))))))))))))))))))
        refine WO.ak (v:= .bool false) rfl (WO.nil (WP.ret ?_))
        have hno:Lab.okC n M a b=false:=by unfold Lab.okC;rw [hj,hm];simp
        rw [Lab.d9 ha hb hno]
        exact ⟨_,(aj (aY (l:=[.slN, .slN, .slN, .slN, .int .i64 0, .int .i64 0]) rfl (L.bC (st.av 8 rfl) rfl rfl rfl)) (aj (au (v:= .bool false) rfl) (ay _ _))),_,rfl,rfl,st.tail.tail.tail.tail.tail.tail.tail.tail.tail.tail.tail.tail⟩
       |some mx=>
        rw [show Lab.least n (fun x y=>Lab.at2 M y x) (fun x=>Lab.at2 M x a&&Lab.at2 M x b)=_ from hm]
        refine WO.val (v:= .int .i64 (mx:Int)) rfl (WO.val (v:= .bool true) rfl (WO.ak (v:= .int .i64 (mx:Int)) rfl (WO.ak (v:= .bool true) rfl (WO.nil (WP.seq (WP.seq (WP.reg (WO.val (v:= .bool false) rfl (WO.yes rfl (WO.val (v:= .bool true) rfl (WO.yes rfl (WO.val (v:= .bool false) rfl (WO.ak (v:= .bool false) rfl (WO.nil (WP.cond (t:=false) rfl (WP.skip (WP.reg (WO.gJ (rows:=[[.int .i64 (jx:Int)]]) st rfl (by decide) rfl (by simp) (fun bj2 h st=> ?_)))))))))))))))))))
        refine WO.wS st 3 rfl rfl rfl (st.aB 0 rfl) (by decide) (by simp [Lab.bQ,Lab.dn];omega) (fun f3 v3 h st=> ?_)
        refine WO.gJ (rows:=[[.int .i64 (mx:Int)]]) st rfl (by decide) rfl (by simp) (fun bm2 h st=> ?_)
        refine WO.wS st 3 rfl rfl rfl (st.aB 0 rfl) (by decide) (by simp [Lab.bQ,Lab.dn];omega) (fun f4 v4 h st=> ?_)
        refine WO.ak (v:=v3) rfl (WO.ak (v:=v4) rfl (WO.nil (WP.reg (WO.ak (L.add rfl rfl (And.intro (by omega) (by omega))) (WO.nil ?_)))))
        have hokc:Lab.okC n M a b=true:=by unfold Lab.okC;rw [hj,hm];simp [cne,qab,qba]
        have e1:=Lab.ku n M a b
        have e2:=Lab.nD n M a b
        rw [hj] at e1
        rw [hm] at e2
        rw [show (Lab.bQ n M a b).map iv++[[.int .i64 (jx:Int)]]=(Lab.bQ n M a (b+1)).map iv from by rw [e1,List.map_append];rfl,show (Lab.dn n M a b).map iv++[[.int .i64 (mx:Int)]]=(Lab.dn n M a (b+1)).map iv from by rw [e2,List.map_append];rfl] at st
        exact ⟨b+1,(by omega),f3,v3,f4,v4,x2,(.bool true),(.ptr bb 0),(.bool false),(.bool true),(.bool true),(.bool false),(.int .i64 (jx:Int)),(.int .i64 (mx:Int)),⟨by omega,by rw [Lab.xk,hokr,hokc];rfl⟩,by kernel_rfl,st.tail.tail.tail⟩
     ·refine WO.ak (v:= .bool true) rfl (WO.nil (WP.cond (t:=true) rfl (WP.seq (WP.reg (WO.val (v:= .agg [.slN, .slN, .slN, .slN, .int .i64 0, .int .i64 0]) (L.build rfl) (WO.aI (row':=[.slN, .slN, .slN, .slN, .int .i64 0, .int .i64 0]) st 8 rfl rfl rfl rfl rfl rfl rfl (fun h st=> ?_)))))))
      refine WO.ak (v:= .bool false) rfl (WO.nil (WP.ret ?_))
      have hno:Lab.okC n M a b=false:=by unfold Lab.okC;simp [cne,qab,qba]
      rw [Lab.d9 ha hb hno]
      exact ⟨_,(aj (aY (l:=[.slN, .slN, .slN, .slN, .int .i64 0, .int .i64 0]) rfl (L.bC (st.av 8 rfl) rfl rfl rfl)) (aj (au (v:= .bool false) rfl) (ay _ _))),_,rfl,rfl,st.tail.tail.tail.tail.tail.tail.tail.tail.tail.tail.tail.tail⟩
   ·have cne:a=b:=by omega
    refine WO.no rfl (WO.no rfl (WO.no rfl (WO.no rfl (WO.val (v:= .bool false) rfl (WO.no rfl (WO.no rfl (WO.no rfl (WO.no rfl (WO.ak (v:= .bool false) rfl (WO.nil (WP.cond (t:=false) rfl (WP.skip (WP.seq (WP.reg (WO.val (v:= .fn 46 [] [.ptr tb 0]) (L.aG rfl (st.av 9 rfl) rfl) (WO.val (v:= .fn 49 [] [.ptr le 0, .ptr ab 0, .ptr bb 0]) rfl (WO.aP rfl (iC (le:=Lab.at2 M) (is:=fun x=>Lab.at2 M a x&&Lab.at2 M b x) D.f48 hn (fun x y hx hy=>yC D.f46 (eD (st.av 10 rfl) rfl (st.aB 11 rfl)) hx hy) (fun x hx=>up_c D.f49 D.f46 (eD (st.av 10 rfl) rfl (st.aB 11 rfl)) (L.aW (st.av 9 rfl) rfl) (L.aW (st.av 3 rfl) rfl) (L.aW (st.av 0 rfl) rfl) ha hb hx)) ?_)))))))))))))))))
    rintro _ h ⟨rfl,rfl⟩
    cases hj:Lab.join n M a b with
    |none=>
     rw [show Lab.least n (Lab.at2 M) (fun x=>Lab.at2 M a x&&Lab.at2 M b x)=_ from hj]
     refine WO.val (v:= .int .i64 0) rfl (WO.val (v:= .bool false) rfl (WO.ak (v:= .int .i64 0) rfl (WO.ak (v:= .bool false) rfl (WO.nil (WP.seq (WP.reg (WO.val (v:= .fn 50 [] [.ptr le 0, .ptr ab 0, .ptr bb 0]) rfl (WO.aP rfl (iC (le:=fun x y=>Lab.at2 M y x) (is:=fun x=>Lab.at2 M x a&&Lab.at2 M x b) D.f48 hn (fun x y hx hy=>Ca D.f47 (eD (st.av 10 rfl) rfl (st.aB 11 rfl)) hx hy) (fun x hx=>sZ D.f50 D.f46 (eD (st.av 10 rfl) rfl (st.aB 11 rfl)) (L.aW (st.av 9 rfl) rfl) (L.aW (st.av 3 rfl) rfl) (L.aW (st.av 0 rfl) rfl) ha hb hx)) ?_))))))))
     rintro _ h ⟨rfl,rfl⟩
     cases hm:Lab.meet n M a b with
     |none=>
      rw [show Lab.least n (fun x y=>Lab.at2 M y x) (fun x=>Lab.at2 M x a&&Lab.at2 M x b)=_ from hm]
      refine WO.val (v:= .int .i64 0) rfl (WO.val (v:= .bool false) rfl (WO.ak (v:= .int .i64 0) rfl (WO.ak (v:= .bool false) rfl (WO.nil (WP.seq (WP.seq (WP.reg (WO.val (v:= .bool true) rfl (WO.no rfl (WO.no rfl (WO.ak (v:= .bool true) rfl (WO.nil (WP.cond (t:=true) rfl (WP.seq (WP.reg (WO.val (v:= .agg [.slN, .slN, .slN, .slN, .int .i64 0, .int .i64 0]) (L.build rfl) (WO.aI (row':=[.slN, .slN, .slN, .slN, .int .i64 0, .int .i64 0]) st 8 rfl rfl rfl rfl rfl rfl rfl (fun h st=> ?_))))))))))))))))))
      refine WO.ak (v:= .bool false) rfl (WO.nil (WP.ret ?_))
      have hno:Lab.okC n M a b=false:=by unfold Lab.okC;rw [hj,hm];simp
      rw [Lab.d9 ha hb hno]
      exact ⟨_,(aj (aY (l:=[.slN, .slN, .slN, .slN, .int .i64 0, .int .i64 0]) rfl (L.bC (st.av 8 rfl) rfl rfl rfl)) (aj (au (v:= .bool false) rfl) (ay _ _))),_,rfl,rfl,st.tail.tail.tail.tail.tail.tail.tail.tail.tail.tail.tail.tail⟩
     |some mx=>
      rw [show Lab.least n (fun x y=>Lab.at2 M y x) (fun x=>Lab.at2 M x a&&Lab.at2 M x b)=_ from hm]
      refine WO.val (v:= .int .i64 (mx:Int)) rfl (WO.val (v:= .bool true) rfl (WO.ak (v:= .int .i64 (mx:Int)) rfl (WO.ak (v:= .bool true) rfl (WO.nil (WP.seq (WP.seq (WP.reg (WO.val (v:= .bool true) rfl (WO.no rfl (WO.no rfl (WO.ak (v:= .bool true) rfl (WO.nil (WP.cond (t:=true) rfl (WP.seq (WP.reg (WO.val (v:= .agg [.slN, .slN, .slN, .slN, .int .i64 0, .int .i64 0]) (L.build rfl) (WO.aI (row':=[.slN, .slN, .slN, .slN, .int .i64 0, .int .i64 0]) st 8 rfl rfl rfl rfl rfl rfl rfl (fun h st=> ?_))))))))))))))))))
      refine WO.ak (v:= .bool false) rfl (WO.nil (WP.ret ?_))
      have hno:Lab.okC n M a b=false:=by unfold Lab.okC;rw [hj,hm];simp
      rw [Lab.d9 ha hb hno]
      exact ⟨_,(aj (aY (l:=[.slN, .slN, .slN, .slN, .int .i64 0, .int .i64 0]) rfl (L.bC (st.av 8 rfl) rfl rfl rfl)) (aj (au (v:= .bool false) rfl) (ay _ _))),_,rfl,rfl,st.tail.tail.tail.tail.tail.tail.tail.tail.tail.tail.tail.tail⟩
    |some jx=>
     rw [show Lab.least n (Lab.at2 M) (fun x=>Lab.at2 M a x&&Lab.at2 M b x)=_ from hj]
     refine WO.val (v:= .int .i64 (jx:Int)) rfl (WO.val (v:= .bool true) rfl (WO.ak (v:= .int .i64 (jx:Int)) rfl (WO.ak (v:= .bool true) rfl (WO.nil (WP.seq (WP.reg (WO.val (v:= .fn 50 [] [.ptr le 0, .ptr ab 0, .ptr bb 0]) rfl (WO.aP rfl (iC (le:=fun x y=>Lab.at2 M y x) (is:=fun x=>Lab.at2 M x a&&Lab.at2 M x b) D.f48 hn (fun x y hx hy=>Ca D.f47 (eD (st.av 10 rfl) rfl (st.aB 11 rfl)) hx hy) (fun x hx=>sZ D.f50 D.f46 (eD (st.av 10 rfl) rfl (st.aB 11 rfl)) (L.aW (st.av 9 rfl) rfl) (L.aW (st.av 3 rfl) rfl) (L.aW (st.av 0 rfl) rfl) ha hb hx)) ?_))))))))
     rintro _ h ⟨rfl,rfl⟩
     cases hm:Lab.meet n M a b with
     |none=>
      rw [show Lab.least n (fun x y=>Lab.at2 M y x) (fun x=>Lab.at2 M x a&&Lab.at2 M x b)=_ from hm]
      refine WO.val (v:= .int .i64 0) rfl (WO.val (v:= .bool false) rfl (WO.ak (v:= .int .i64 0) rfl (WO.ak (v:= .bool false) rfl (WO.nil (WP.seq (WP.seq (WP.reg (WO.val (v:= .bool false) rfl (WO.yes rfl (WO.val (v:= .bool false) rfl (WO.yes rfl (WO.val (v:= .bool true) rfl (WO.ak (v:= .bool true) rfl (WO.nil (WP.cond (t:=true) rfl (WP.seq (WP.reg (WO.val (v:= .agg [.slN, .slN, .slN, .slN, .int .i64 0, .int .i64 0]) (L.build rfl) (WO.aI (row':=[.slN, .slN, .slN, .slN, .int .i64 0, .int .i64 0]) st 8 rfl rfl rfl rfl rfl rfl rfl (fun h st=> ?_))))))))))))))))))))
      refine WO.ak (v:= .bool false) rfl (WO.nil (WP.ret ?_))
      have hno:Lab.okC n M a b=false:=by unfold Lab.okC;rw [hj,hm];simp
      rw [Lab.d9 ha hb hno]
      exact ⟨_,(aj (aY (l:=[.slN, .slN, .slN, .slN, .int .i64 0, .int .i64 0]) rfl (L.bC (st.av 8 rfl) rfl rfl rfl)) (aj (au (v:= .bool false) rfl) (ay _ _))),_,rfl,rfl,st.tail.tail.tail.tail.tail.tail.tail.tail.tail.tail.tail.tail⟩
     |some mx=>
      rw [show Lab.least n (fun x y=>Lab.at2 M y x) (fun x=>Lab.at2 M x a&&Lab.at2 M x b)=_ from hm]
      refine WO.val (v:= .int .i64 (mx:Int)) rfl (WO.val (v:= .bool true) rfl (WO.ak (v:= .int .i64 (mx:Int)) rfl (WO.ak (v:= .bool true) rfl (WO.nil (WP.seq (WP.seq (WP.reg (WO.val (v:= .bool false) rfl (WO.yes rfl (WO.val (v:= .bool true) rfl (WO.yes rfl (WO.val (v:= .bool false) rfl (WO.ak (v:= .bool false) rfl (WO.nil (WP.cond (t:=false) rfl (WP.skip (WP.reg (WO.gJ (rows:=[[.int .i64 (jx:Int)]]) st rfl (by decide) rfl (by simp) (fun bj3 h st=> ?_)))))))))))))))))))
      refine WO.wS st 3 rfl rfl rfl (st.aB 0 rfl) (by decide) (by simp [Lab.bQ,Lab.dn];omega) (fun f5 v5 h st=> ?_)
      refine WO.gJ (rows:=[[.int .i64 (mx:Int)]]) st rfl (by decide) rfl (by simp) (fun bm3 h st=> ?_)
      refine WO.wS st 3 rfl rfl rfl (st.aB 0 rfl) (by decide) (by simp [Lab.bQ,Lab.dn];omega) (fun f6 v6 h st=> ?_)
      refine WO.ak (v:=v5) rfl (WO.ak (v:=v6) rfl (WO.nil (WP.reg (WO.ak (L.add rfl rfl (And.intro (by omega) (by omega))) (WO.nil ?_)))))
      have hokc:Lab.okC n M a b=true:=by unfold Lab.okC;rw [hj,hm];simp [cne]
      have e1:=Lab.ku n M a b
      have e2:=Lab.nD n M a b
      rw [hj] at e1
      rw [hm] at e2
      rw [show (Lab.bQ n M a b).map iv++[[.int .i64 (jx:Int)]]=(Lab.bQ n M a (b+1)).map iv from by rw [e1,List.map_append];rfl,show (Lab.dn n M a b).map iv++[[.int .i64 (mx:Int)]]=(Lab.dn n M a (b+1)).map iv from by rw [e2,List.map_append];rfl] at st
      exact ⟨b+1,(by omega),f5,v5,f6,v6,x2,(.bool true),(.ptr bb 0),(.bool false),(.bool true),(.bool true),(.bool false),(.int .i64 (jx:Int)),(.int .i64 (mx:Int)),⟨by omega,by rw [Lab.xk,hokr,hokc];rfl⟩,by kernel_rfl,st.tail.tail.tail⟩
  ·have hb:b=n:=by omega
   refine WO.nil (WP.seq (WP.cond (t:=false) rfl (WP.exit (WP.draw ?_))))
   have hcj:=(st.dK 1 rfl).cells
   have hcm:=(st.dK 0 rfl).cells
   replace st:=((st.pick 1 rfl)).shut (by decide)
   replace st:=((((st.pick 5 rfl).pick 1 rfl)).and).o6 (Q:=fun h=>fo h (Lab.fu n M a++[Lab.bQ n M a b]) (js++[vj])) (fun h hx=>hx.2.snoc hx.1)
   replace st:=((st.pick 1 rfl)).shut (by decide)
   replace st:=((((st.pick 3 rfl).pick 1 rfl)).and).o6 (Q:=fun h=>fo h (Lab.gX n M a++[Lab.dn n M a b]) (ks++[vm])) (fun h hx=>hx.2.snoc hx.1)
   rw [hb] at st hokr
   refine WD.val (v:= .ptr tb 2) (L.aA rfl) (WD.val (v:=vJ) (L.aG rfl (st.av 7 rfl) rfl) (WD.val (v:=vj) rfl (WD.bslO (rows:=[[vj]]) st (xD hcj) (by decide) (fun bx1 h st=> ?_))))
   refine WD.val (v:= .ptr tb 3) (L.aA rfl) (WD.val (v:=vK) (L.aG rfl (st.av 8 rfl) rfl) (WD.val (v:=vm) rfl (WD.bslO (rows:=[[vm]]) st (xD hcm) (by decide) (fun by_1 h st=> ?_))))
   refine WD.wS st 6 rfl rfl rfl (st.Ci 1 rfl (by decide) rfl (by simp)) (by decide) (by simp;omega) (fun _ _ h st=>dm (by first|exact aD (L.aG rfl (st.av 4 rfl) rfl)|exact aT st 4 rfl|exact aD (L.aZ rfl (st.av 4 rfl) rfl rfl rfl)|exact aD (L.aG rfl (st.av 7 rfl) rfl)|exact aT st 7 rfl|exact aD (L.aZ rfl (st.av 7 rfl) rfl rfl rfl)|exact aD (L.aG rfl (st.av 8 rfl) rfl)|exact aT st 8 rfl|exact aD (L.aZ rfl (st.av 8 rfl) rfl rfl rfl)|exact aD (L.aG rfl (st.av 9 rfl) rfl)|exact aT st 9 rfl|exact aD (L.aZ rfl (st.av 9 rfl) rfl rfl rfl)) (dm (Ig st 0 rfl rfl rfl) (gy _ _))) (fun f7 v7 h st=> ?_)
   have hcv7:=(st.dK 6 rfl).cells
   refine WD.val (v:= .ptr tb 2) (L.aA rfl) (WD.wS st 5 rfl rfl rfl (st.Ci 0 rfl (by decide) rfl (by simp)) (by decide) (by simp;omega) (fun _ _ h st=>rfl) (fun f8 v8 h st=> ?_))
   have hcv8:=(st.dK 5 rfl).cells
   refine WD.aI (row':=[.sl nb no n ncap, .sl lb lo_ n lcap,v7,vK,w4,w5]) st 9 rfl rfl hcv7 rfl rfl rfl rfl (fun h st=>rfl) (fun h st=> ?_)
   refine WD.val (v:= .ptr tb 3) (L.aA rfl) (WD.aI (row':=[.sl nb no n ncap, .sl lb lo_ n lcap,v7,v8,w4,w5]) st 9 rfl rfl hcv8 rfl rfl rfl rfl (fun h st=>rfl) (fun h st=> ?_))
   rw [show (js.map fun x=>[x])++[[vj]]=(js++[vj]).map fun x=>[x] from by simp] at st
   rw [show (ks.map fun x=>[x])++[[vm]]=(ks++[vm]).map fun x=>[x] from by simp] at st
   refine WD.nil (WP.reg (WO.ak (L.add rfl rfl (And.intro (by omega) (by omega))) (WO.nil ?_)))
   have e1:=Lab.xg n M a
   have e2:=Lab.Em n M a
   rw [←e1,←e2] at st
   exact ⟨a+1,(by omega),f7,v7,(js++[vj]),f8,v8,(ks++[vm]),x2,(.bool true),(.int .i64 (b:Int)),(.int .i64 (n:Int)),(.bool false),(.ptr ab 0),x12,x14,x16,x17,x18,x19,vj,x21,vm,⟨by omega,by rw [Lab.J7,hok,hokr];rfl,by simp [hjl],by simp [hkl]⟩,by kernel_rfl,(((st.tail.tail.pick 2 rfl).tail.pick 2 rfl).pick 1 rfl)⟩
 ·have ha:a=n:=by omega
  refine WO.nil (WP.seq (WP.cond (t:=false) rfl (WP.exit (WP.seq (WP.reg (WO.val (v:= .fn 46 [] [.ptr tb 0]) (L.aG rfl (st.av 5 rfl) rfl) (WO.aP rfl (iC (le:=Lab.at2 M) (is:=fun _=>true) D.f48 hn (fun x y hx hy=>yC D.f46 (eD (st.av 6 rfl) rfl (st.aB 7 rfl)) hx hy) (fun x hx=>Eo D.f51 (.inl rfl))) ?_)))))))
  rintro _ h ⟨rfl,rfl⟩
  cases hlo:Lab.low n M with
  |none=>
   rw [show Lab.least n (Lab.at2 M) (fun _=>true)=_ from hlo]
   refine WO.val (v:= .int .i64 0) rfl (WO.val (v:= .bool false) rfl (WO.ak (v:= .int .i64 0) rfl (WO.ak (v:= .bool false) rfl (WO.nil (WP.seq (WP.reg (WO.aP rfl (iC (le:=fun x y=>Lab.at2 M y x) (is:=fun _=>true) D.f48 hn (fun x y hx hy=>Ca D.f47 (eD (st.av 6 rfl) rfl (st.aB 7 rfl)) hx hy) (fun x hx=>Eo D.f52 (.inr rfl))) ?_)))))))
   rintro _ h ⟨rfl,rfl⟩
   cases hhi:Lab.high n M with
   |none=>
    rw [show Lab.least n (fun x y=>Lab.at2 M y x) (fun _=>true)=_ from hhi]
    refine WO.val (v:= .int .i64 0) rfl (WO.val (v:= .bool false) rfl (WO.ak (v:= .int .i64 0) rfl (WO.ak (v:= .bool false) rfl (WO.nil (WP.seq (WP.reg (WO.val (v:= .ptr tb 4) (L.aA rfl) (WO.aI (row':=[.sl nb no n ncap, .sl lb lo_ n lcap,vJ,vK, .int .i64 0,w5]) st 6 rfl rfl rfl rfl rfl rfl rfl (fun h st=> ?_)))))))))
    refine WO.val (v:= .ptr tb 5) (L.aA rfl) (WO.aI (row':=[.sl nb no n ncap, .sl lb lo_ n lcap,vJ,vK, .int .i64 0, .int .i64 0]) st 6 rfl rfl rfl rfl rfl rfl rfl (fun h st=> ?_))
    refine WO.nil (WP.seq (WP.reg (WO.val (v:= .agg [.sl nb no n ncap, .sl lb lo_ n lcap,vJ,vK, .int .i64 0, .int .i64 0]) (L.aZ rfl (st.av 6 rfl) rfl rfl rfl) (WO.no rfl (WO.val (v:= .bool false) rfl (WO.aI (row':=[.sl nb no n ncap, .sl lb lo_ n lcap,vJ,vK, .int .i64 0, .int .i64 0]) st 4 rfl rfl rfl rfl rfl rfl rfl (fun h st=> ?_)))))))
    refine WO.ak (v:= .bool false) rfl (WO.nil (WP.ret ?_))
    have hokT:Lab.okT n M n=true:=by rw [ha] at hok;exact hok
    have hcm:Lab.complete n M=none:=by unfold Lab.complete;rw [hlo,hhi];simp
    rw [hcm]
    exact ⟨_,(aj (aY (l:=[.sl nb no n ncap, .sl lb lo_ n lcap,vJ,vK, .int .i64 0, .int .i64 0]) rfl (L.bC (st.av 4 rfl) rfl rfl rfl)) (aj (au (v:= .bool false) rfl) (ay _ _))),_,rfl,rfl,st.tail.tail.tail.tail.tail.tail.tail.tail⟩
   |some hi=>
    rw [show Lab.least n (fun x y=>Lab.at2 M y x) (fun _=>true)=_ from hhi]
    refine WO.val (v:= .int .i64 (hi:Int)) rfl (WO.val (v:= .bool true) rfl (WO.ak (v:= .int .i64 (hi:Int)) rfl (WO.ak (v:= .bool true) rfl (WO.nil (WP.seq (WP.reg (WO.val (v:= .ptr tb 4) (L.aA rfl) (WO.aI (row':=[.sl nb no n ncap, .sl lb lo_ n lcap,vJ,vK, .int .i64 0,w5]) st 6 rfl rfl rfl rfl rfl rfl rfl (fun h st=> ?_)))))))))
    refine WO.val (v:= .ptr tb 5) (L.aA rfl) (WO.aI (row':=[.sl nb no n ncap, .sl lb lo_ n lcap,vJ,vK, .int .i64 0, .int .i64 (hi:Int)]) st 6 rfl rfl rfl rfl rfl rfl rfl (fun h st=> ?_))
    refine WO.nil (WP.seq (WP.reg (WO.val (v:= .agg [.sl nb no n ncap, .sl lb lo_ n lcap,vJ,vK, .int .i64 0, .int .i64 (hi:Int)]) (L.aZ rfl (st.av 6 rfl) rfl rfl rfl) (WO.no rfl (WO.val (v:= .bool false) rfl (WO.aI (row':=[.sl nb no n ncap, .sl lb lo_ n lcap,vJ,vK, .int .i64 0, .int .i64 (hi:Int)]) st 4 rfl rfl rfl rfl rfl rfl rfl (fun h st=> ?_)))))))
    refine WO.ak (v:= .bool false) rfl (WO.nil (WP.ret ?_))
    have hokT:Lab.okT n M n=true:=by rw [ha] at hok;exact hok
    have hcm:Lab.complete n M=none:=by unfold Lab.complete;rw [hlo,hhi];simp
    rw [hcm]
    exact ⟨_,(aj (aY (l:=[.sl nb no n ncap, .sl lb lo_ n lcap,vJ,vK, .int .i64 0, .int .i64 (hi:Int)]) rfl (L.bC (st.av 4 rfl) rfl rfl rfl)) (aj (au (v:= .bool false) rfl) (ay _ _))),_,rfl,rfl,st.tail.tail.tail.tail.tail.tail.tail.tail⟩
  |some lo=>
   rw [show Lab.least n (Lab.at2 M) (fun _=>true)=_ from hlo]
   refine WO.val (v:= .int .i64 (lo:Int)) rfl (WO.val (v:= .bool true) rfl (WO.ak (v:= .int .i64 (lo:Int)) rfl (WO.ak (v:= .bool true) rfl (WO.nil (WP.seq (WP.reg (WO.aP rfl (iC (le:=fun x y=>Lab.at2 M y x) (is:=fun _=>true) D.f48 hn (fun x y hx hy=>Ca D.f47 (eD (st.av 6 rfl) rfl (st.aB 7 rfl)) hx hy) (fun x hx=>Eo D.f52 (.inr rfl))) ?_)))))))
   rintro _ h ⟨rfl,rfl⟩
   cases hhi:Lab.high n M with
   |none=>
    rw [show Lab.least n (fun x y=>Lab.at2 M y x) (fun _=>true)=_ from hhi]
    refine WO.val (v:= .int .i64 0) rfl (WO.val (v:= .bool false) rfl (WO.ak (v:= .int .i64 0) rfl (WO.ak (v:= .bool false) rfl (WO.nil (WP.seq (WP.reg (WO.val (v:= .ptr tb 4) (L.aA rfl) (WO.aI (row':=[.sl nb no n ncap, .sl lb lo_ n lcap,vJ,vK, .int .i64 (lo:Int),w5]) st 6 rfl rfl rfl rfl rfl rfl rfl (fun h st=> ?_)))))))))
    refine WO.val (v:= .ptr tb 5) (L.aA rfl) (WO.aI (row':=[.sl nb no n ncap, .sl lb lo_ n lcap,vJ,vK, .int .i64 (lo:Int), .int .i64 0]) st 6 rfl rfl rfl rfl rfl rfl rfl (fun h st=> ?_))
    refine WO.nil (WP.seq (WP.reg (WO.val (v:= .agg [.sl nb no n ncap, .sl lb lo_ n lcap,vJ,vK, .int .i64 (lo:Int), .int .i64 0]) (L.aZ rfl (st.av 6 rfl) rfl rfl rfl) (WO.yes rfl (WO.val (v:= .bool false) rfl (WO.val (v:= .bool false) rfl (WO.aI (row':=[.sl nb no n ncap, .sl lb lo_ n lcap,vJ,vK, .int .i64 (lo:Int), .int .i64 0]) st 4 rfl rfl rfl rfl rfl rfl rfl (fun h st=> ?_))))))))
    refine WO.ak (v:= .bool false) rfl (WO.nil (WP.ret ?_))
    have hokT:Lab.okT n M n=true:=by rw [ha] at hok;exact hok
    have hcm:Lab.complete n M=none:=by unfold Lab.complete;rw [hlo,hhi];simp
    rw [hcm]
    exact ⟨_,(aj (aY (l:=[.sl nb no n ncap, .sl lb lo_ n lcap,vJ,vK, .int .i64 (lo:Int), .int .i64 0]) rfl (L.bC (st.av 4 rfl) rfl rfl rfl)) (aj (au (v:= .bool false) rfl) (ay _ _))),_,rfl,rfl,st.tail.tail.tail.tail.tail.tail.tail.tail⟩
   |some hi=>
    rw [show Lab.least n (fun x y=>Lab.at2 M y x) (fun _=>true)=_ from hhi]
    refine WO.val (v:= .int .i64 (hi:Int)) rfl (WO.val (v:= .bool true) rfl (WO.ak (v:= .int .i64 (hi:Int)) rfl (WO.ak (v:= .bool true) rfl (WO.nil (WP.seq (WP.reg (WO.val (v:= .ptr tb 4) (L.aA rfl) (WO.aI (row':=[.sl nb no n ncap, .sl lb lo_ n lcap,vJ,vK, .int .i64 (lo:Int),w5]) st 6 rfl rfl rfl rfl rfl rfl rfl (fun h st=> ?_)))))))))
    refine WO.val (v:= .ptr tb 5) (L.aA rfl) (WO.aI (row':=[.sl nb no n ncap, .sl lb lo_ n lcap,vJ,vK, .int .i64 (lo:Int), .int .i64 (hi:Int)]) st 6 rfl rfl rfl rfl rfl rfl rfl (fun h st=> ?_))
    refine WO.nil (WP.seq (WP.reg (WO.val (v:= .agg [.sl nb no n ncap, .sl lb lo_ n lcap,vJ,vK, .int .i64 (lo:Int), .int .i64 (hi:Int)]) (L.aZ rfl (st.av 6 rfl) rfl rfl rfl) (WO.yes rfl (WO.val (v:= .bool true) rfl (WO.val (v:= .bool true) rfl (WO.aI (row':=[.sl nb no n ncap, .sl lb lo_ n lcap,vJ,vK, .int .i64 (lo:Int), .int .i64 (hi:Int)]) st 4 rfl rfl rfl rfl rfl rfl rfl (fun h st=> ?_))))))))
    refine WO.ak (v:= .bool true) rfl (WO.nil (WP.ret ?_))
    have hokT:Lab.okT n M n=true:=by rw [ha] at hok;exact hok
    have hcm:Lab.complete n M=some (lo,hi):=by unfold Lab.complete;rw [hokT,hlo,hhi];rfl
    rw [hcm]
    rw [ha] at st
    refine ⟨_,(aj (aY (l:=[.sl nb no n ncap, .sl lb lo_ n lcap,vJ,vK, .int .i64 (lo:Int), .int .i64 (hi:Int)]) rfl (L.bC (st.av 4 rfl) rfl rfl rfl)) (aj (au (v:= .bool true) rfl) (ay _ _))),_,rfl,rfl,⟨_,_,rfl, ?_⟩⟩
    replace st:=((((st.pick 2 rfl).pick 3 rfl)).shut (by decide)).and.o6 (Q:=fun h=>kV h vJ (Lab.fu n M n)) (fun h hx=>⟨_,hx.1,hx.2⟩)
    replace st:=((((st.pick 1 rfl).pick 2 rfl)).shut (by decide)).and.o6 (Q:=fun h=>kV h vK (Lab.gX n M n)) (fun h hx=>⟨_,hx.1,hx.2⟩)
    exact (((((st.pick 2 rfl).tail.pick 2 rfl).tail.pick 2 rfl).tail.pick 2 rfl).tail.pick 1 rfl)
end
end Go.Eng.Ytjgmahbgfbkhnaa
