/- Part of a proof of a law: rules of an evaluator, contracts, plain laws. No condition of its own. -/
import Derived.Test.YtjgmahbgfbkhnaaConE
import Derived.Test.YtjgmahbgfbkhnaaSymG
set_option linter.unusedVariables false
set_option linter.unusedSimpArgs false
namespace Go.Eng.Ytjgmahbgfbkhnaa
open Go.Eng
noncomputable section
variable {c:Ctx}
structure EI (c:Ctx):Prop where
 f14:T.get 14 c.aR=some i14
 f20:T.get 20 c.aR=some i20
 f31:T.get 31 c.aR=some i31
 f32:T.get 32 c.aR=some i32
theorem texts_t (D:EI c) {h0:Heap} {v w:V} {ns:List Lab.Txt} (hn:ns.length<4294967296) (R:Rows 1 h0 v (SR ns)) (R2:Rows 1 h0 w (SR ns)):
 aM c 31 [v,w] h0 fun v1 h1=>v1= .bool true∧h1=h0:=by
 refine aM.bX D.f31 rfl (WP.seq (WP.reg (WO.ak (v:= .bool false) rfl (WO.nil (WP.seq (WP.seq (WP.reg (WO.val (v:= .int .i64 (ns.length:Int)) (L.dU rfl R (bY _)) (WO.val (v:= .int .i64 (ns.length:Int)) (L.dU rfl R2 (bY _)) (WO.ifS (L.neq rfl rfl) (fun c1=>by exfalso;omega) (fun c1=> ?_)))))))))))
 refine WO.nil (WP.cond (t:=false) rfl (WP.skip (WP.seq (WP.seq (WP.reg (WO.ak (v:= .int .i64 0) rfl (WO.nil (WP.block (WP.bT (α:=Nat) (fun k env h_=>∃x2 x5 x6,(k≤ns.length)∧env=aO [v,w,x2, .bool false, .int .i64 (k:Int),x5,x6] 0 Env.nil∧h_=h0) (fun k=>ns.length - k) 0 ?_ ?_)))))))))
 ·exact ⟨(.bool false), .bot, .bot,Nat.zero_le _,by kernel_rfl,rfl⟩
 rintro k _ h ⟨x2,x5,x6,hk,rfl,rfl⟩
 refine WP.seq (WP.seq (WP.reg (WO.val (v:= .int .i64 (ns.length:Int)) (L.dU rfl R (bY _)) (WO.ifS (L.lss rfl rfl) (fun c1=> ?_) (fun c1=> ?_)))))
 ·replace c1:k<ns.length:=by omega
  obtain ⟨x,hx⟩:∃y,ns[k]? =some y:=⟨ns[k]'(by omega),List.getElem?_eq_getElem (by omega)⟩
  refine WO.nil (WP.cond (t:=true) rfl (WP.skip (WP.seq (WP.block (WP.seq (WP.draw (WD.val (v:=v) rfl (WD.val (v:= .int .i64 (k:Int)) rfl (WD.val (v:= .ptr (slB v) (slO v+k * 1)) (L.fB R (by rw [bY];omega) rfl rfl) (WD.val (v:=L.str x) (L.load rfl (R.iF (mJ hx))) (WD.val (v:=w) rfl (WD.val (v:= .int .i64 (k:Int)) rfl (WD.val (v:= .ptr (slB w) (slO w+k * 1)) (L.fB R2 (by rw [bY];omega) rfl rfl) (WD.val (v:=L.str x) (L.load rfl (R2.iF (mJ hx))) (WD.ifS (L.sne rfl rfl) (fun _ c2=>by exfalso;exact c2 rfl) (fun _ c2=> ?_))))))))))))))))
  refine WD.nil (WP.cond (t:=false) rfl (WP.skip (WP.reg (WO.ak (v:= .int .i64 ((k+1:Nat):Int)) (L.bP rfl rfl (by omega) (And.intro (by omega) (by omega))) (WO.nil ?_)))))
  exact ⟨k+1,(by omega),x2,(.bool true),(.bool false),by omega,by kernel_rfl,rfl⟩
 ·replace c1:¬(k<ns.length):=by omega
  refine WO.nil (WP.cond (t:=false) rfl (WP.exit (WP.seq (WP.reg (WO.ak (v:= .bool true) rfl (WO.nil (WP.ret ?_)))))))
  exact ⟨_,(aj (au (v:= .bool true) rfl) (ay _ _)),rfl,rfl⟩
theorem Kv (D:EI c) {h0:Heap} {v w:V} {J:List (List Nat)} (sm:tQ J) (a:kV h0 v J) (b:kV h0 w J):
 aM c 32 [v,w] h0 fun v1 h1=>v1= .bool true∧h1=h0:=by
 obtain ⟨sm1,sm2⟩:tQ J:=sm
 have sm:tQ J:=⟨sm1,sm2⟩
 refine aM.bX D.f32 rfl (WP.seq (WP.reg (WO.ak (v:= .bool false) rfl (WO.nil (WP.seq (WP.seq (WP.reg (WO.val (v:= .int .i64 (J.length:Int)) (L.qQ rfl a) (WO.val (v:= .int .i64 (J.length:Int)) (L.qQ rfl b) (WO.ifS (L.neq rfl rfl) (fun c1=>by exfalso;omega) (fun c1=> ?_)))))))))))
 refine WO.nil (WP.cond (t:=false) rfl (WP.skip (WP.seq (WP.seq (WP.reg (WO.ak (v:= .int .i64 0) rfl (WO.nil (WP.block (WP.bT (α:=Nat) (fun i env h_=>∃x2 x5 x6 x7 x8 x9,(i≤J.length)∧env=aO [v,w,x2, .bool false, .int .i64 (i:Int),x5,x6,x7,x8,x9] 0 Env.nil∧h_=h0) (fun i=>J.length - i) 0 ?_ ?_)))))))))
 ·exact ⟨(.bool false), .bot, .bot, .bot, .bot, .bot,Nat.zero_le _,by kernel_rfl,rfl⟩
 rintro i _ h ⟨x2,x5,x6,x7,x8,x9,hi,rfl,rfl⟩
 refine WP.seq (WP.seq (WP.reg (WO.val (v:= .int .i64 (J.length:Int)) (L.qQ rfl a) (WO.ifS (L.lss rfl rfl) (fun c1=> ?_) (fun c1=> ?_)))))
 ·replace c1:i<J.length:=by omega
  obtain ⟨r,hr⟩:∃y,J[i]? =some y:=⟨J[i]'(by omega),List.getElem?_eq_getElem (by omega)⟩
  obtain ⟨u,hu1,hu2⟩:=a.at hr
  obtain ⟨u2,hw1,hw2⟩:=b.at hr
  have hrl:r.length<4294967296:=sm.2 r (List.mem_of_getElem? hr)
  refine WO.nil (WP.cond (t:=true) rfl (WP.skip (WP.seq (WP.block (WP.seq (WP.seq (WP.draw (WD.val (v:=v) rfl (WD.val (v:= .int .i64 (i:Int)) rfl (WD.val (v:= .ptr (slB v) (slO v+i * 1)) (L.nK a (by omega) rfl rfl) (WD.val (v:=u) (L.load rfl hu1) (WD.val (v:= .int .i64 (r.length:Int)) (L.dU rfl hu2 (List.length_map _)) (WD.val (v:=w) rfl (WD.val (v:= .int .i64 (i:Int)) rfl (WD.val (v:= .ptr (slB w) (slO w+i * 1)) (L.nK b (by omega) rfl rfl) (WD.val (v:=u2) (L.load rfl hw1) (WD.val (v:= .int .i64 (r.length:Int)) (L.dU rfl hw2 (List.length_map _)) (WD.ifS (L.neq rfl rfl) (fun _ c2=>by exfalso;exact c2 rfl) (fun _ c2=> ?_)))))))))))))))))))
  refine WD.nil (WP.cond (t:=false) rfl (WP.skip (WP.seq (WP.reg (WO.ak (v:= .int .i64 0) rfl (WO.nil (WP.block (WP.bT (α:=Nat) (fun k env h_=>∃x2 x8 x9,(k≤r.length)∧env=aO [v,w,x2, .bool false, .int .i64 (i:Int), .bool true, .bool false, .int .i64 (k:Int),x8,x9] 0 Env.nil∧h_=h) (fun k=>r.length - k) 0 ?_ ?_))))))))
  ·exact ⟨x2,x8,x9,Nat.zero_le _,by kernel_rfl,rfl⟩
  rintro k _ h ⟨x2,x8,x9,hk,rfl,rfl⟩
  refine WP.seq (WP.seq (WP.reg (WO.val (v:= .ptr (slB v) (slO v+i * 1)) (L.nK a (by omega) rfl rfl) (WO.val (v:=u) (L.load rfl hu1) (WO.val (v:= .int .i64 (r.length:Int)) (L.dU rfl hu2 (List.length_map _)) (WO.ifS (L.lss rfl rfl) (fun c2=> ?_) (fun c2=> ?_)))))))
  ·replace c2:k<r.length:=by omega
   obtain ⟨x,hx⟩:∃y,r[k]? =some y:=⟨r[k]'(by omega),List.getElem?_eq_getElem (by omega)⟩
   refine WO.nil (WP.cond (t:=true) rfl (WP.skip (WP.seq (WP.block (WP.seq (WP.draw (WD.val (v:=v) rfl (WD.val (v:= .int .i64 (i:Int)) rfl (WD.val (v:= .ptr (slB v) (slO v+i * 1)) (L.nK a (by omega) rfl rfl) (WD.val (v:=u) (L.load rfl hu1) (WD.val (v:= .int .i64 (k:Int)) rfl (WD.val (v:= .ptr (slB u) (slO u+k * 1)) (L.fB hu2 (by rw [List.length_map];omega) rfl rfl) (WD.val (v:= .int .i64 (x:Int)) (L.load rfl (hu2.iF (show _=some (iv x) by rw [List.getElem?_map,hx];rfl))) ?_)))))))))))))
   refine WD.val (v:=w) rfl (WD.val (v:= .int .i64 (i:Int)) rfl (WD.val (v:= .ptr (slB w) (slO w+i * 1)) (L.nK b (by omega) rfl rfl) (WD.val (v:=u2) (L.load rfl hw1) (WD.val (v:= .int .i64 (k:Int)) rfl (WD.val (v:= .ptr (slB u2) (slO u2+k * 1)) (L.fB hw2 (by rw [List.length_map];omega) rfl rfl) (WD.val (v:= .int .i64 (x:Int)) (L.load rfl (hw2.iF (show _=some (iv x) by rw [List.getElem?_map,hx];rfl))) ?_))))))
   refine WD.ifS (L.neq rfl rfl) (fun _ c3=>by exfalso;exact c3 rfl) (fun _ c3=> ?_)
   refine WD.nil (WP.cond (t:=false) rfl (WP.skip (WP.reg (WO.ak (v:= .int .i64 ((k+1:Nat):Int)) (L.bP rfl rfl (by omega) (And.intro (by omega) (by omega))) (WO.nil ?_)))))
   exact ⟨k+1,(by omega),x2,(.bool true),(.bool false),by omega,by kernel_rfl,rfl⟩
  ·replace c2:¬(k<r.length):=by omega
   refine WO.nil (WP.cond (t:=false) rfl (WP.exit (WP.reg (WO.ak (v:= .int .i64 ((i+1:Nat):Int)) (L.bP rfl rfl (by omega) (And.intro (by omega) (by omega))) (WO.nil ?_)))))
   exact ⟨i+1,(by omega),x2,(.bool true),(.bool false),(.int .i64 (k:Int)),(.bool false),x9,by omega,by kernel_rfl,rfl⟩
 ·replace c1:¬(i<J.length):=by omega
  refine WO.nil (WP.cond (t:=false) rfl (WP.exit (WP.seq (WP.reg (WO.ak (v:= .bool true) rfl (WO.nil (WP.ret ?_)))))))
  exact ⟨_,(aj (au (v:= .bool true) rfl) (ay _ _)),rfl,rfl⟩
theorem EJ (D:EI c) {fs:List Fact} {h:Heap} {vN vL vJ vK wN wL wJ wK:V} {t:Lat} (sm:t.small) (st:St (.stb (fun h=>gV h vN vL vJ vK t):: .stb (fun h=>gV h wN wL wJ wK t)::fs) h):
 aM c 14 [.agg (t.num vN vL vJ vK), .agg (t.num wN wL wJ wK)] h fun v1 h1=>v1= .bool true∧St (.stb (fun h=>gV h vN vL vJ vK t):: .stb (fun h=>gV h wN wL wJ wK t)::fs) h1:=by
 obtain ⟨sm1,sm2,sm3,sm4⟩:=sm
 have smL:=sm2.1
 refine aM.bX D.f14 rfl (WP.seq (WP.reg (WO.dz st (L.box (l:=[vN,vL,vJ,vK, .int .i64 (t.lo:Int), .int .i64 (t.hi:Int)]) rfl rfl) (fun p1 h st=> ?_))))
 refine WO.dz st (L.box (l:=[wN,wL,wJ,wK, .int .i64 (t.lo:Int), .int .i64 (t.hi:Int)]) rfl rfl) (fun p2 h st=> ?_)
 refine WO.ak (v:= .bool false) rfl (WO.nil (WP.seq (WP.seq (WP.reg (WO.val (v:= .ptr p1 0) (L.aA rfl) (WO.val (v:=vN) (L.aG rfl (st.av 1 rfl) rfl) (WO.val (v:= .ptr p2 0) (L.aA rfl) (WO.val (v:=wN) (L.aG rfl (st.av 0 rfl) rfl) (WO.aP rfl (texts_t D sm1 (st.aB 2 rfl).N (st.aB 3 rfl).N) ?_)))))))))
 rintro _ _ ⟨rfl,rfl⟩
 refine WO.val (v:= .bool false) rfl (WO.yes rfl (WO.val (v:= .ptr p1 4) (L.aA rfl) (WO.yes rfl (WO.val (v:= .int .i64 (t.lo:Int)) (L.aG rfl (st.av 1 rfl) rfl) (WO.yes rfl (WO.val (v:= .ptr p2 4) (L.aA rfl) (WO.yes rfl (WO.val (v:= .int .i64 (t.lo:Int)) (L.aG rfl (st.av 0 rfl) rfl) (WO.yes rfl (WO.ifV (L.neq rfl rfl) (fun c1=>by exfalso;exact c1 rfl) (fun c1=> ?_)))))))))))
 refine WO.val (v:= .bool false) rfl (WO.yes rfl (WO.val (v:= .ptr p1 5) (L.aA rfl) (WO.yes rfl (WO.val (v:= .int .i64 (t.hi:Int)) (L.aG rfl (st.av 1 rfl) rfl) (WO.yes rfl (WO.val (v:= .ptr p2 5) (L.aA rfl) (WO.yes rfl (WO.val (v:= .int .i64 (t.hi:Int)) (L.aG rfl (st.av 0 rfl) rfl) (WO.yes rfl (WO.ifV (L.neq rfl rfl) (fun c2=>by exfalso;exact c2 rfl) (fun c2=> ?_)))))))))))
 refine WO.val (v:= .bool false) rfl (WO.yes rfl (WO.val (v:= .ptr p1 1) (L.aA rfl) (WO.yes rfl (WO.val (v:=vL) (L.aG rfl (st.av 1 rfl) rfl) (WO.yes rfl (WO.val (v:= .int .i64 (t.M.length:Int)) (L.Aq rfl (st.aB 2 rfl).L) (WO.yes rfl (WO.val (v:= .ptr p2 1) (L.aA rfl) (WO.yes rfl (WO.val (v:=wL) (L.aG rfl (st.av 0 rfl) rfl) (WO.yes rfl (WO.val (v:= .int .i64 (t.M.length:Int)) (L.Aq rfl (st.aB 3 rfl).L) (WO.yes rfl (WO.ifV (L.neq rfl rfl) (fun c3=>by exfalso;exact c3 rfl) (fun c3=> ?_)))))))))))))))
 refine WO.val (v:= .bool false) rfl (WO.yes rfl (WO.val (v:= .ptr p1 2) (L.aA rfl) (WO.yes rfl (WO.val (v:=vJ) (L.aG rfl (st.av 1 rfl) rfl) (WO.yes rfl (WO.val (v:= .int .i64 (t.J.length:Int)) (L.qQ rfl (st.aB 2 rfl).J) (WO.yes rfl (WO.val (v:= .ptr p2 2) (L.aA rfl) (WO.yes rfl (WO.val (v:=wJ) (L.aG rfl (st.av 0 rfl) rfl) (WO.yes rfl (WO.val (v:= .int .i64 (t.J.length:Int)) (L.qQ rfl (st.aB 3 rfl).J) (WO.yes rfl (WO.ifV (L.neq rfl rfl) (fun c4=>by exfalso;exact c4 rfl) (fun c4=> ?_)))))))))))))))
 refine WO.val (v:= .bool false) rfl (WO.yes rfl (WO.val (v:= .ptr p1 3) (L.aA rfl) (WO.yes rfl (WO.val (v:=vK) (L.aG rfl (st.av 1 rfl) rfl) (WO.yes rfl (WO.val (v:= .int .i64 (t.K.length:Int)) (L.qQ rfl (st.aB 2 rfl).K) (WO.yes rfl (WO.val (v:= .ptr p2 3) (L.aA rfl) (WO.yes rfl (WO.val (v:=wK) (L.aG rfl (st.av 0 rfl) rfl) (WO.yes rfl (WO.val (v:= .int .i64 (t.K.length:Int)) (L.qQ rfl (st.aB 3 rfl).K) (WO.yes rfl (WO.ifV (L.neq rfl rfl) (fun c5=>by exfalso;exact c5 rfl) (fun c5=> ?_)))))))))))))))
 refine WO.ak (v:= .bool false) rfl (WO.nil (WP.cond (t:=false) rfl (WP.skip (WP.seq (WP.seq (WP.reg (WO.ak (v:= .int .i64 0) rfl (WO.nil (WP.block (WP.bT (α:=Nat) (fun i env h=>∃x2 x7 x8 x9 x10 x11,(i≤t.M.length)∧env=aO [.agg [vN,vL,vJ,vK, .int .i64 (t.lo:Int), .int .i64 (t.hi:Int)], .agg [wN,wL,wJ,wK, .int .i64 (t.lo:Int), .int .i64 (t.hi:Int)],x2, .ptr p1 0, .ptr p2 0, .bool false, .int .i64 (i:Int),x7,x8,x9,x10,x11] 0 Env.nil∧St (.box p1 [vN,vL,vJ,vK, .int .i64 (t.lo:Int), .int .i64 (t.hi:Int)]:: .box p2 [wN,wL,wJ,wK, .int .i64 (t.lo:Int), .int .i64 (t.hi:Int)]:: .stb (fun h=>gV h vN vL vJ vK t):: .stb (fun h=>gV h wN wL wJ wK t)::fs) h) (fun i=>t.M.length - i) 0 ?_ ?_))))))))))
 ·exact ⟨(.bool false), .bot, .bot, .bot, .bot, .bot,Nat.zero_le _,by kernel_rfl,(st.pick 1 rfl)⟩
 rintro i _ h ⟨x2,x7,x8,x9,x10,x11,hi,rfl,st⟩
 refine WP.seq (WP.seq (WP.reg (WO.val (v:= .ptr p1 1) (L.aA rfl) (WO.val (v:=vL) (L.aG rfl (st.av 0 rfl) rfl) (WO.val (v:= .int .i64 (t.M.length:Int)) (L.Aq rfl (st.aB 2 rfl).L) (WO.ifS (L.lss rfl rfl) (fun c1=> ?_) (fun c1=> ?_)))))))
 ·replace c1:i<t.M.length:=by omega
  obtain ⟨r,hr⟩:∃y,t.M[i]? =some y:=⟨t.M[i]'(by omega),List.getElem?_eq_getElem (by omega)⟩
  have hrl:r.length<4294967296:=sm2.2 r (List.mem_of_getElem? hr)
  refine WO.nil (WP.cond (t:=true) rfl (WP.skip (WP.seq (WP.block (WP.seq (WP.seq (WP.draw ?_)))))))
  obtain ⟨u,hu1,hu2⟩:=(st.aB 2 rfl).L.at hr
  obtain ⟨u2,hw1,hw2⟩:=(st.aB 3 rfl).L.at hr
  refine WD.val (v:= .ptr p1 1) (L.aA rfl) (WD.val (v:=vL) (L.aG rfl (st.av 0 rfl) rfl) (WD.val (v:= .int .i64 (i:Int)) rfl (WD.val (v:= .ptr (slB vL) (slO vL+i * 1)) (L.jb (st.aB 2 rfl).L (by omega) rfl rfl) (WD.val (v:=u) (L.load rfl hu1) (WD.val (v:= .int .i64 (r.length:Int)) (L.dU rfl hu2 (List.length_map _)) (WD.val (v:= .ptr p2 1) (L.aA rfl) (WD.val (v:=wL) (L.aG rfl (st.av 1 rfl) rfl) (WD.val (v:= .int .i64 (i:Int)) rfl (WD.val (v:= .ptr (slB wL) (slO wL+i * 1)) (L.jb (st.aB 3 rfl).L (by omega) rfl rfl) (WD.val (v:=u2) (L.load rfl hw1) (WD.val (v:= .int .i64 (r.length:Int)) (L.dU rfl hw2 (List.length_map _)) (WD.ifS (L.neq rfl rfl) (fun _ c6=>by exfalso;exact c6 rfl) (fun _ c6=> ?_)))))))))))))
  refine WD.nil (WP.cond (t:=false) rfl (WP.skip (WP.seq (WP.reg (WO.ak (v:= .int .i64 0) rfl (WO.nil (WP.block (WP.bT (α:=Nat) (fun k env h=>∃x2 x10 x11,(k≤r.length)∧env=aO [.agg [vN,vL,vJ,vK, .int .i64 (t.lo:Int), .int .i64 (t.hi:Int)], .agg [wN,wL,wJ,wK, .int .i64 (t.lo:Int), .int .i64 (t.hi:Int)],x2, .ptr p1 0, .ptr p2 0, .bool false, .int .i64 (i:Int), .bool true, .bool false, .int .i64 (k:Int),x10,x11] 0 Env.nil∧St (.box p1 [vN,vL,vJ,vK, .int .i64 (t.lo:Int), .int .i64 (t.hi:Int)]:: .box p2 [wN,wL,wJ,wK, .int .i64 (t.lo:Int), .int .i64 (t.hi:Int)]:: .stb (fun h=>gV h vN vL vJ vK t):: .stb (fun h=>gV h wN wL wJ wK t)::fs) h) (fun k=>r.length - k) 0 ?_ ?_))))))))
  ·exact ⟨x2,x10,x11,Nat.zero_le _,by kernel_rfl,st⟩
  rintro k _ h ⟨x2,x10,x11,hk,rfl,st⟩
  refine WP.seq (WP.seq (WP.reg ?_))
  obtain ⟨u,hu1,hu2⟩:=(st.aB 2 rfl).L.at hr
  obtain ⟨u2,hw1,hw2⟩:=(st.aB 3 rfl).L.at hr
  refine WO.val (v:= .ptr p1 1) (L.aA rfl) (WO.val (v:=vL) (L.aG rfl (st.av 0 rfl) rfl) (WO.val (v:= .ptr (slB vL) (slO vL+i * 1)) (L.jb (st.aB 2 rfl).L (by omega) rfl rfl) (WO.val (v:=u) (L.load rfl hu1) (WO.val (v:= .int .i64 (r.length:Int)) (L.dU rfl hu2 (List.length_map _)) (WO.ifS (L.lss rfl rfl) (fun c2=> ?_) (fun c2=> ?_))))))
  ·replace c2:k<r.length:=by omega
   obtain ⟨x,hx⟩:∃y,r[k]? =some y:=⟨r[k]'(by omega),List.getElem?_eq_getElem (by omega)⟩
   refine WO.nil (WP.cond (t:=true) rfl (WP.skip (WP.seq (WP.block (WP.seq (WP.draw (WD.val (v:= .ptr p1 1) (L.aA rfl) (WD.val (v:=vL) (L.aG rfl (st.av 0 rfl) rfl) (WD.val (v:= .int .i64 (i:Int)) rfl (WD.val (v:= .ptr (slB vL) (slO vL+i * 1)) (L.jb (st.aB 2 rfl).L (by omega) rfl rfl) (WD.val (v:=u) (L.load rfl hu1) (WD.val (v:= .int .i64 (k:Int)) rfl (WD.val (v:= .ptr (slB u) (slO u+k * 1)) (L.fB hu2 (by rw [List.length_map];omega) rfl rfl) (WD.val (v:= .bool x) (L.load rfl (hu2.iF (show _=some (bv x) by rw [List.getElem?_map,hx];rfl))) ?_))))))))))))))
   refine WD.val (v:= .ptr p2 1) (L.aA rfl) (WD.val (v:=wL) (L.aG rfl (st.av 1 rfl) rfl) (WD.val (v:= .int .i64 (i:Int)) rfl (WD.val (v:= .ptr (slB wL) (slO wL+i * 1)) (L.jb (st.aB 3 rfl).L (by omega) rfl rfl) (WD.val (v:=u2) (L.load rfl hw1) (WD.val (v:= .int .i64 (k:Int)) rfl (WD.val (v:= .ptr (slB u2) (slO u2+k * 1)) (L.fB hw2 (by rw [List.length_map];omega) rfl rfl) (WD.val (v:= .bool x) (L.load rfl (hw2.iF (show _=some (bv x) by rw [List.getElem?_map,hx];rfl))) ?_)))))))
   refine WD.ak (v:= .bool false) (L.BU rfl rfl) (WD.nil (WP.cond (t:=false) rfl (WP.skip (WP.reg (WO.ak (v:= .int .i64 ((k+1:Nat):Int)) (L.bP rfl rfl (by omega) (And.intro (by omega) (by omega))) (WO.nil ?_))))))
   exact ⟨k+1,(by omega),x2,(.bool true),(.bool false),by omega,by kernel_rfl,st⟩
  ·replace c2:¬(k<r.length):=by omega
   refine WO.nil (WP.cond (t:=false) rfl (WP.exit (WP.reg (WO.ak (v:= .int .i64 ((i+1:Nat):Int)) (L.bP rfl rfl (by omega) (And.intro (by omega) (by omega))) (WO.nil ?_)))))
   exact ⟨i+1,(by omega),x2,(.bool true),(.bool false),(.int .i64 (k:Int)),(.bool false),x11,by omega,by kernel_rfl,st⟩
 ·replace c1:¬(i<t.M.length):=by omega
  refine WO.nil (WP.cond (t:=false) rfl (WP.exit (WP.seq (WP.reg (WO.val (v:= .ptr p1 2) (L.aA rfl) (WO.val (v:=vJ) (L.aG rfl (st.av 0 rfl) rfl) (WO.val (v:= .ptr p2 2) (L.aA rfl) (WO.val (v:=wJ) (L.aG rfl (st.av 1 rfl) rfl) (WO.aP rfl (Kv D sm3 (st.aB 2 rfl).J (st.aB 3 rfl).J) ?_)))))))))
  rintro _ _ ⟨rfl,rfl⟩
  refine WO.yes rfl (WO.val (v:= .ptr p1 3) (L.aA rfl) (WO.yes rfl (WO.val (v:=vK) (L.aG rfl (st.av 0 rfl) rfl) (WO.yes rfl (WO.val (v:= .ptr p2 3) (L.aA rfl) (WO.yes rfl (WO.val (v:=wK) (L.aG rfl (st.av 1 rfl) rfl) (WO.yes rfl (WO.aP rfl (Kv D sm4 (st.aB 2 rfl).K (st.aB 3 rfl).K) ?_)))))))))
  rintro _ _ ⟨rfl,rfl⟩
  refine WO.ak (v:= .bool true) rfl (WO.nil (WP.ret ?_))
  exact ⟨_,(aj (au (v:= .bool true) rfl) (ay _ _)),rfl,st.tail.tail⟩
theorem pairs_c (D:EI c) {fs:List Fact} {h:Heap} {a:V} {ns:List UInt8} (hn:ns.length<4294967296) (st:St (.stb (fun h=>jV h a ns)::fs) h):
 aM c 20 [a] h fun v1 h1=>St (.stb (fun h=>bD h v1 (p0 (Lab.pairs ns))):: .stb (fun h=>jV h a ns)::fs) h1:=by
 refine aM.bX D.f20 rfl (WP.seq (WP.reg (WO.ak (v:= .slN) rfl (WO.nil (WP.seq (WP.reg (WO.ak (v:= .slN) rfl (WO.nil (WP.seq (WP.seq (WP.reg (WO.ak (v:= .int .i64 0) rfl (WO.nil (WP.block ?_))))))))))))))
 replace st:St (.acc 0 3 .slN ([]):: .stb (fun h=>jV h a ns)::fs) h:=st.acc0 3
 refine WP.bT (α:=Nat) (fun j env h=>∃fa va x3,(2 * j≤ns.length)∧env=aO [a, .slN, .int .i64 ((2 * j:Nat):Int),x3,va] 0 Env.nil∧St (.acc fa 3 va (QPr (Lab.lV ns j)):: .stb (fun h=>jV h a ns)::fs) h) (fun j=>ns.length - j) 0 ?_ ?_
 ·exact ⟨0, .slN, .bot,Nat.zero_le _,by kernel_rfl,st⟩
 rintro j _ h ⟨fa,va,x3,hj,rfl,st⟩
 refine WP.seq (WP.seq (WP.reg (WO.val (v:= .int .i64 ((2 * j+1:Nat):Int)) (L.bP rfl rfl (by omega) (And.intro (by omega) (by omega))) (WO.val (v:= .int .i64 (ns.length:Int)) (L.llenBy rfl (st.aB 1 rfl)) (WO.ifS (L.lss rfl rfl) (fun c1=> ?_) (fun c1=> ?_))))))
 ·replace c1:2 * j+1<ns.length:=by omega
  obtain ⟨x,hx⟩:∃y,ns[2 * j]? =some y:=⟨ns[2 * j]'(by omega),List.getElem?_eq_getElem (by omega)⟩
  obtain ⟨y,hy⟩:∃y,ns[2 * j+1]? =some y:=⟨ns[2 * j+1]'(by omega),List.getElem?_eq_getElem (by omega)⟩
  have hx6:x.toNat<256:=x.toNat_lt
  have hy6:y.toNat<256:=y.toNat_lt
  refine WO.nil (WP.cond (t:=true) rfl (WP.skip (WP.seq (WP.block (WP.draw (WD.val (v:=va) rfl (WD.val (v:=a) rfl (WD.val (v:= .int .i64 ((2 * j:Nat):Int)) rfl (WD.val (v:= .ptr (slB a) (slO a+(2 * j) * 1)) (L.Ga (st.aB 1 rfl) (by omega) rfl rfl) (WD.val (v:= .int .u8 (x.toNat:Int)) (L.load rfl ((st.aB 1 rfl).at hx)) (WD.val (v:= .int .u8 ((x.toNat % 6:Nat):Int)) (L.rem (b:=6) rfl rfl rfl (by decide)) (WD.val (v:= .int .u8 ((97+x.toNat % 6:Nat):Int)) (L.addU8 (a:=97) rfl rfl rfl (by omega)) (WD.gJ (rows:=[[.int .u8 ((97+x.toNat % 6:Nat):Int)]]) st rfl (by decide) rfl (by simp) (fun bs1 h _ st=> ?_))))))))))))))
  refine WD.val (v:=L.str [UInt8.ofNat (97+x.toNat % 6)]) (L.bstrK (k:=97+x.toNat % 6) rfl (by omega) (st.aB 0 rfl)) (WD.val (v:=a) rfl (WD.val (v:= .int .i64 ((2 * j:Nat):Int)) rfl (WD.val (v:= .int .i64 ((2 * j+1:Nat):Int)) (L.bP rfl rfl (by omega) (And.intro (by omega) (by omega))) (WD.val (v:= .ptr (slB a) (slO a+(2 * j+1) * 1)) (L.Ga (st.aB 2 rfl) (by omega) rfl rfl) (WD.val (v:= .int .u8 (y.toNat:Int)) (L.load rfl ((st.aB 2 rfl).at hy)) (WD.val (v:= .int .u8 ((y.toNat % 6:Nat):Int)) (L.rem (b:=6) rfl rfl rfl (by decide)) (WD.val (v:= .int .u8 ((97+y.toNat % 6:Nat):Int)) (L.addU8 (a:=97) rfl rfl rfl (by omega)) (WD.gJ (rows:=[[.int .u8 ((97+y.toNat % 6:Nat):Int)]]) st rfl (by decide) rfl (by simp) (fun bs2 h _ st=> ?_)))))))))
  refine WD.val (v:=L.str [UInt8.ofNat (97+y.toNat % 6)]) (L.bstrK (k:=97+y.toNat % 6) rfl (by omega) (st.aB 0 rfl)) (WD.val (v:= .agg [L.str [UInt8.ofNat (97+x.toNat % 6)],L.str [UInt8.ofNat (97+y.toNat % 6)], .int .i64 0]) (L.build rfl) (WD.gJ (rows:=[[L.str [UInt8.ofNat (97+x.toNat % 6)],L.str [UInt8.ofNat (97+y.toNat % 6)], .int .i64 0]]) st rfl (by decide) rfl (by simp) (fun pl1 h _ st=> ?_)))
  refine WD.wS st 3 rfl rfl rfl (st.aB 0 rfl) (by decide) (by rw [QPr_len,Lab.EG];simp only [List.length_cons,List.length_nil];omega) (fun _ _ h st=>rfl) (fun fb vb h st=> ?_)
  rw [show QPr (Lab.lV ns j)++[[L.str [UInt8.ofNat (97+x.toNat % 6)],L.str [UInt8.ofNat (97+y.toNat % 6)],V.int .i64 0]]=QPr (Lab.lV ns (j+1)) from by rw [Lab.CJ,QPr_app,Lab.lt_at hx,Lab.lt_at hy];rfl] at st
  refine WD.ak (v:=vb) rfl (WD.nil (WP.reg (WO.ak (v:= .int .i64 ((2 * (j+1):Nat):Int)) (L.bP rfl rfl (by omega) (And.intro (by omega) (by omega))) (WO.nil ?_))))
  exact ⟨j+1,(by omega),fb,vb,(.bool true),by omega,by kernel_rfl,st.tail.tail.tail⟩
 ·replace c1:¬(2 * j+1<ns.length):=by omega
  refine WO.nil (WP.cond (t:=false) rfl (WP.exit (WP.seq (WP.reg (WO.ak (v:=va) rfl (WO.nil (WP.ret ?_)))))))
  have ej:Lab.lV ns j=Lab.pairs ns:=by unfold Lab.pairs;rw [show j=ns.length / 2 by omega]
  rw [ej] at st
  exact ⟨_,(aj (au (v:=va) rfl) (ay _ _)),((st).shut (by decide)).o6 fun h hx=>bD.of hx⟩
end
end Go.Eng.Ytjgmahbgfbkhnaa
namespace Go.Eng.Ytjgmahbgfbkhnaa
open Go.Eng
noncomputable section
variable {c:Ctx}
theorem Kw (D:yD c) {fs:List Fact} {h:Heap} {v:V} {ps:List Prm} (hn:ps.length<2147483648) (st:St (.stb (fun h=>bD h v ps)::fs) h):
 aM c 12 [v] h fun v1 h1=>∃vN vL vJ vK,v1= .tup [.agg ((bN (pr ps)).num vN vL vJ vK), .int .i64 ((Lab.made (pr ps)).1:Int)]∧St (.stb (fun h=>gV h vN vL vJ vK (bN (pr ps))):: .stb (fun h=>bD h v ps)::fs) h1:=by
 obtain ⟨v1,h1,er,hp⟩:=make_c D hn st
 refine ⟨v1,h1,er, ?_⟩
 unfold bN
 have hz:∀x,(Lab.made (pr ps)).2=some x→(Lab.made (pr ps)).1=0:=by
  intro x hx
  unfold Lab.made at hx ⊢
  split at hx
  ·cases hx
  ·split at hx
   ·cases hx
   ·rename_i h0 h1
    rw [if_neg h0,if_neg h1]
    split at hx
    ·cases hx
    ·rfl
 generalize hm:Lab.made (pr ps)=m at hp hz
 obtain ⟨e,o⟩:=m
 cases o with
 |none=>
  obtain ⟨rfl,s⟩:=hp
  exact ⟨_,_,_,_,rfl,(s.triv (P:=fun h=>gV h .slN .slN .slN .slN Lat.none) fun h=>gV.none h)⟩
 |some x=>
  obtain ⟨lo,hi⟩:=x
  obtain ⟨vN,vL,vJ,vK,rfl,s⟩:=hp
  have hz:e=0:=hz _ rfl
  subst hz
  refine ⟨vN,vL,vJ,vK,rfl, ?_⟩
  have s1:=((s.pick 3 rfl).pick 3 rfl).and
  have s2:=(s1.pick 2 rfl).and
  have s3:=(s2.pick 1 rfl).and
  exact s3.o6 fun h hx=>⟨hx.1,hx.2.1,hx.2.2.1,hx.2.2.2⟩
end
end Go.Eng.Ytjgmahbgfbkhnaa
