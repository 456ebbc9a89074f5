/- Part of a proof of a law: rules of an evaluator, contracts, plain laws. No condition of its own. -/
import Derived.Test.YtjgmahbgfbkhnaaConH
import Derived.Test.YtjgmahbgfbkhnaaConI
import Derived.Test.YtjgmahbgfbkhnaaSymK
set_option linter.unusedVariables false
set_option linter.unusedSimpArgs false
namespace Go.Eng.Ytjgmahbgfbkhnaa
open Go.Eng
noncomputable section
variable {c:Ctx}
structure zy (c:Ctx):Prop where
 x:qZ c
 p:Pq.jd c
 q:Pq.uS c
 m:yD c
 s:EI c
 i:HasI c
 f11:∀h,aM c 11 [] h fun v h1=>v= .bool true∧h1=h
 f15:T.get 15 c.aR=some i15
 f4:T.get 4 c.aR=some i4
 f16:T.get 16 c.aR=some i16
 f17:T.get 17 c.aR=some i17
 f19:T.get 19 c.aR=some i19
theorem Dj {s:List UInt8} {e a:Nat} (D:zy c) {fs:List Fact} {h:Heap} (st:St fs h) (hs:Par.rows s= .error (e,a)):e≠0:=by
 obtain ⟨_,_,_,hp⟩:=zw (s:=s) D.x st
 rw [hs] at hp
 exact hp.1
theorem K3 (D:zy c) {fs:List Fact} {h:Heap} {s:List UInt8} (st:St fs h):
 aM c 16 [L.str s] h fun v h1=>∃vN vL vJ vK,v= .tup [.agg ((bR s).num vN vL vJ vK), .int .i64 (rdE s:Int), .int .i64 (rdA s:Int)]∧St (.stb (fun h=>gV h vN vL vJ vK (bR s))::fs) h1:=by
 refine aM.bX D.f16 rfl (WP.seq (WP.reg (WO.dz st L.alloc (fun b h st=> ?_))))
 refine WO.ak (v:= .int .i64 0) rfl (WO.ak (v:= .int .i64 0) rfl (WO.nil (WP.seq (WP.reg ?_))))
 have hc:=Pq.KY (s:=s) D.p D.q st
 cases hsp:Par.rows s with
 |error z=>
  obtain ⟨e,a⟩:=z
  have he0:=Dj D st hsp
  rw [hsp] at hc
  obtain ⟨q1,q2,q3⟩:=zx hsp
  refine WO.aP rfl hc ?_
  rintro _ h ⟨rfl,st⟩
  refine WO.val (v:= .slN) rfl (WO.val (v:= .int .i64 (e:Int)) rfl (WO.val (v:= .int .i64 (a:Int)) rfl (WO.ak (v:= .slN) rfl (WO.ak (v:= .int .i64 (e:Int)) rfl (WO.ak (v:= .int .i64 (a:Int)) rfl (WO.nil (WP.seq (WP.seq (WP.reg (WO.ifS (L.neq rfl rfl) (fun c_=> ?_) (fun c_=>by exfalso;omega)))))))))))
  refine WO.nil (WP.cond (t:=true) rfl (WP.seq (WP.reg (WO.val (v:= .agg [.slN, .slN, .slN, .slN, .int .i64 0, .int .i64 0]) (L.build rfl) (WO.aI (row':=[.slN, .slN, .slN, .slN, .int .i64 0, .int .i64 0]) st 0 rfl rfl rfl rfl rfl rfl rfl (fun h st=> ?_))))))
  refine WO.ak (v:= .int .i64 (e:Int)) rfl (WO.ak (v:= .int .i64 (a:Int)) rfl (WO.nil (WP.ret ?_)))
  rw [q1,q2,q3]
  exact ⟨_,(aj (aY (l:=[.slN, .slN, .slN, .slN, .int .i64 0, .int .i64 0]) rfl (L.bC (st.av 0 rfl) rfl rfl rfl)) (aj (au (v:= .int .i64 (e:Int)) rfl) (aj (au (v:= .int .i64 (a:Int)) rfl) (ay _ _)))), .slN, .slN, .slN, .slN,rfl,st.tail.triv fun h=>gV.none h⟩
 |ok m=>
  rw [hsp] at hc
  obtain ⟨q1,q2,q3⟩:=Di hsp
  have hml:=Dh hsp
  refine WO.aP rfl hc ?_
  rintro _ h ⟨x,rfl,hcx,st⟩
  replace st:St (.stb (fun h=>bD h x (m.map prm)):: .box b [.slN, .slN, .slN, .slN, .int .i64 0, .int .i64 0]::fs) h:=st.o6 fun h hx=>bD.pm hx
  refine WO.val (v:=x) rfl (WO.val (v:= .int .i64 0) rfl (WO.val (v:= .int .i64 0) rfl (WO.ak (v:=x) rfl (WO.ak (v:= .int .i64 0) rfl (WO.ak (v:= .int .i64 0) rfl (WO.nil (WP.seq (WP.seq (WP.reg (WO.ifS (L.neq rfl rfl) (fun c_=>by exfalso;omega) (fun c_=> ?_)))))))))))
  refine WO.nil (WP.cond (t:=false) rfl (WP.skip (WP.seq (WP.reg (WO.aP rfl (Kw D.m (by rw [List.length_map];exact hml) st) ?_)))))
  rintro _ h ⟨n1,l1,j1,k1,rfl,st⟩
  refine WO.val (v:= .agg [n1,l1,j1,k1, .int .i64 ((bN (pr (m.map prm))).lo:Int), .int .i64 ((bN (pr (m.map prm))).hi:Int)]) rfl (WO.val (v:= .int .i64 ((Lab.made (pr (m.map prm))).1:Int)) rfl (WO.dz st L.alloc (fun b2 h st=> ?_)))
  refine WO.aI (row':=[n1,l1,j1,k1, .int .i64 ((bN (pr (m.map prm))).lo:Int), .int .i64 ((bN (pr (m.map prm))).hi:Int)]) st 0 rfl rfl rfl rfl rfl rfl rfl (fun h st=> ?_)
  refine WO.ak (v:= .int .i64 ((Lab.made (pr (m.map prm))).1:Int)) rfl (WO.nil (WP.seq (WP.reg (WO.val (v:= .agg [n1,l1,j1,k1, .int .i64 ((bN (pr (m.map prm))).lo:Int), .int .i64 ((bN (pr (m.map prm))).hi:Int)]) (L.aZ rfl (st.av 0 rfl) rfl rfl rfl) (WO.aI (row':=[n1,l1,j1,k1, .int .i64 ((bN (pr (m.map prm))).lo:Int), .int .i64 ((bN (pr (m.map prm))).hi:Int)]) st 3 rfl rfl rfl rfl rfl rfl rfl (fun h st=> ?_))))))
  refine WO.ak (v:= .int .i64 ((Lab.made (pr (m.map prm))).1:Int)) rfl (WO.ak (v:= .int .i64 0) rfl (WO.nil (WP.ret ?_)))
  rw [q1,q2,q3]
  exact ⟨_,(aj (aY (l:=[n1,l1,j1,k1, .int .i64 ((bN (pr (m.map prm))).lo:Int), .int .i64 ((bN (pr (m.map prm))).hi:Int)]) rfl (L.bC (st.av 3 rfl) rfl rfl rfl)) (aj (au (v:= .int .i64 ((Lab.made (pr (m.map prm))).1:Int)) rfl) (aj (au (v:= .int .i64 0) rfl) (ay _ _)))),n1,l1,j1,k1,rfl,((st.tail.pick 1 rfl).tail.pick 1 rfl).tail⟩
theorem Gt (D:zy c) {fs:List Fact} {h:Heap} {s:List UInt8} (st:St fs h):
 aM c 17 [L.str s] h fun v h1=>∃vN vL vJ vK,v= .tup [.agg ((bR s).num vN vL vJ vK), .int .i64 (rdE s:Int), .int .i64 (rdA s:Int)]∧St (.stb (fun h=>gV h vN vL vJ vK (bR s))::fs) h1:=by
 refine aM.bX D.f17 rfl (WP.seq (WP.reg (WO.dz st L.alloc (fun b h st=> ?_))))
 refine WO.ak (v:= .int .i64 0) rfl (WO.ak (v:= .int .i64 0) rfl (WO.nil (WP.seq (WP.reg ?_))))
 have hc:=zw (s:=s) D.x st
 cases hsp:Par.rows s with
 |error z=>
  obtain ⟨e,a⟩:=z
  have he0:=Dj D st hsp
  rw [hsp] at hc
  obtain ⟨q1,q2,q3⟩:=zx hsp
  refine WO.aP rfl hc ?_
  rintro _ h ⟨_,rfl,st⟩
  refine WO.val (v:= .slN) rfl (WO.val (v:= .int .i64 (e:Int)) rfl (WO.val (v:= .int .i64 (a:Int)) rfl (WO.ak (v:= .slN) rfl (WO.ak (v:= .int .i64 (e:Int)) rfl (WO.ak (v:= .int .i64 (a:Int)) rfl (WO.nil (WP.seq (WP.seq (WP.reg (WO.ifS (L.neq rfl rfl) (fun c_=> ?_) (fun c_=>by exfalso;omega)))))))))))
  refine WO.nil (WP.cond (t:=true) rfl (WP.seq (WP.reg (WO.val (v:= .agg [.slN, .slN, .slN, .slN, .int .i64 0, .int .i64 0]) (L.build rfl) (WO.aI (row':=[.slN, .slN, .slN, .slN, .int .i64 0, .int .i64 0]) st 0 rfl rfl rfl rfl rfl rfl rfl (fun h st=> ?_))))))
  refine WO.ak (v:= .int .i64 (e:Int)) rfl (WO.ak (v:= .int .i64 (a:Int)) rfl (WO.nil (WP.ret ?_)))
  rw [q1,q2,q3]
  exact ⟨_,(aj (aY (l:=[.slN, .slN, .slN, .slN, .int .i64 0, .int .i64 0]) rfl (L.bC (st.av 0 rfl) rfl rfl rfl)) (aj (au (v:= .int .i64 (e:Int)) rfl) (aj (au (v:= .int .i64 (a:Int)) rfl) (ay _ _)))), .slN, .slN, .slN, .slN,rfl,st.tail.triv fun h=>gV.none h⟩
 |ok m=>
  rw [hsp] at hc
  obtain ⟨q1,q2,q3⟩:=Di hsp
  have hml:=Dh hsp
  refine WO.aP rfl hc ?_
  rintro _ h ⟨x,rfl,hcx,st⟩
  replace st:St (.stb (fun h=>bD h x (m.map prm)):: .box b [.slN, .slN, .slN, .slN, .int .i64 0, .int .i64 0]::fs) h:=st.o6 fun h hx=>bD.pm hx
  refine WO.val (v:=x) rfl (WO.val (v:= .int .i64 0) rfl (WO.val (v:= .int .i64 0) rfl (WO.ak (v:=x) rfl (WO.ak (v:= .int .i64 0) rfl (WO.ak (v:= .int .i64 0) rfl (WO.nil (WP.seq (WP.seq (WP.reg (WO.ifS (L.neq rfl rfl) (fun c_=>by exfalso;omega) (fun c_=> ?_)))))))))))
  refine WO.nil (WP.cond (t:=false) rfl (WP.skip (WP.seq (WP.reg (WO.aP rfl (Gg D.i (by rw [List.length_map];exact hml) st) ?_)))))
  rintro _ h ⟨n1,l1,j1,k1,rfl,st⟩
  refine WO.val (v:= .agg [n1,l1,j1,k1, .int .i64 ((bN (pr (m.map prm))).lo:Int), .int .i64 ((bN (pr (m.map prm))).hi:Int)]) rfl (WO.val (v:= .int .i64 ((Lab.made (pr (m.map prm))).1:Int)) rfl (WO.dz st L.alloc (fun b2 h st=> ?_)))
  refine WO.aI (row':=[n1,l1,j1,k1, .int .i64 ((bN (pr (m.map prm))).lo:Int), .int .i64 ((bN (pr (m.map prm))).hi:Int)]) st 0 rfl rfl rfl rfl rfl rfl rfl (fun h st=> ?_)
  refine WO.ak (v:= .int .i64 ((Lab.made (pr (m.map prm))).1:Int)) rfl (WO.nil (WP.seq (WP.reg (WO.val (v:= .agg [n1,l1,j1,k1, .int .i64 ((bN (pr (m.map prm))).lo:Int), .int .i64 ((bN (pr (m.map prm))).hi:Int)]) (L.aZ rfl (st.av 0 rfl) rfl rfl rfl) (WO.aI (row':=[n1,l1,j1,k1, .int .i64 ((bN (pr (m.map prm))).lo:Int), .int .i64 ((bN (pr (m.map prm))).hi:Int)]) st 3 rfl rfl rfl rfl rfl rfl rfl (fun h st=> ?_))))))
  refine WO.ak (v:= .int .i64 ((Lab.made (pr (m.map prm))).1:Int)) rfl (WO.ak (v:= .int .i64 0) rfl (WO.nil (WP.ret ?_)))
  rw [q1,q2,q3]
  exact ⟨_,(aj (aY (l:=[n1,l1,j1,k1, .int .i64 ((bN (pr (m.map prm))).lo:Int), .int .i64 ((bN (pr (m.map prm))).hi:Int)]) rfl (L.bC (st.av 3 rfl) rfl rfl rfl)) (aj (au (v:= .int .i64 ((Lab.made (pr (m.map prm))).1:Int)) rfl) (aj (au (v:= .int .i64 0) rfl) (ay _ _)))),n1,l1,j1,k1,rfl,((st.tail.pick 1 rfl).tail.pick 1 rfl).tail⟩
theorem zA (D:zy c) {fs:List Fact} {h:Heap} {vN vL vJ vK:V} {t:Lat} {x:List UInt8} (sm:t.small) (st:St (.stb (fun h=>gV h vN vL vJ vK t)::fs) h):
 aM c 19 [.agg (t.num vN vL vJ vK),L.str x] h fun v h1=>v= .int .i64 (jU t.ns x)∧St (.stb (fun h=>gV h vN vL vJ vK t)::fs) h1:=by
 refine aM.bX D.f19 rfl (WP.seq (WP.reg (WO.dz st (L.box (l:=[vN,vL,vJ,vK, .int .i64 (t.lo:Int), .int .i64 (t.hi:Int)]) rfl rfl) (fun b h st=> ?_))))
 refine WO.ak (v:= .int .i64 0) rfl (WO.nil (WP.seq (WP.reg (WO.val (v:= .ptr b 0) (L.aA rfl) (WO.val (v:=vN) (L.aG rfl (st.av 0 rfl) rfl) (WO.dB rfl (xW D.i.h.g.r sm.N (st.aB 1 rfl).N) ?_))))))
 rintro _ _ ⟨rfl,rfl⟩
 refine WO.nil (WP.ret ?_)
 exact ⟨_,(aj (au (v:= .int .i64 (jU t.ns x)) rfl) (ay _ _)),rfl,st.tail⟩
theorem reads_c (D:zy c) {h:Heap} {s x:List UInt8} (st:St [] h):
 aM c 4 [L.str s,L.str x] h fun v1 _=>v1= .bool true:=by
 refine aM.bX D.f4 rfl (WP.seq (WP.reg (WO.ak (v:= .bool false) rfl (WO.nil (WP.seq (WP.seq (WP.reg (WO.val (v:= .int .i64 (s.length:Int)) (L.jo rfl) (WO.ifV (L.gtr rfl rfl) (fun c1=> ?_) (fun c1=> ?_))))))))))
 ·replace c1:s.length>2000:=by omega
  refine WO.yes rfl (WO.val (v:=L.str s) rfl (WO.yes rfl (WO.val (v:= .int .i64 (s.length:Int)) (L.jo rfl) (WO.yes rfl (WO.ifV (L.leq rfl rfl) (fun c2=> ?_) (fun c2=> ?_))))))
  ·replace c2:s.length≤8192:=by omega
   refine WO.val (v:= .bool true) rfl (WO.no rfl (WO.no rfl (WO.no rfl (WO.ak (v:= .bool true) rfl (WO.nil (WP.cond (t:=true) rfl (WP.seq (WP.reg (WO.dB rfl (D.f11 _) ?_)))))))))
   rintro _ _ ⟨rfl,rfl⟩
   refine WO.nil (WP.ret ?_)
   exact ⟨_,(aj (au (v:= .bool true) rfl) (ay _ _)),rfl⟩
  ·replace c2:¬(s.length≤8192):=by omega
   refine WO.val (v:= .bool false) rfl (WO.yes rfl (WO.val (v:=L.str x) rfl (WO.yes rfl (WO.val (v:= .int .i64 (x.length:Int)) (L.jo rfl) (WO.yes rfl (WO.ifV (L.gtr rfl rfl) (fun c3=> ?_) (fun c3=> ?_)))))))
   ·replace c3:x.length>100:=by omega
    refine WO.ak (v:= .bool true) rfl (WO.nil (WP.cond (t:=true) rfl (WP.seq (WP.reg (WO.dB rfl (D.f11 _) ?_)))))
    rintro _ _ ⟨rfl,rfl⟩
    refine WO.nil (WP.ret ?_)
    exact ⟨_,(aj (au (v:= .bool true) rfl) (ay _ _)),rfl⟩
   ·replace c3:¬(x.length>100):=by omega
    refine WO.ak (v:= .bool false) rfl (WO.nil (WP.cond (t:=false) rfl (WP.skip (WP.seq (WP.reg (WO.aP rfl (K3 (s:=s) D st) ?_))))))
    rintro _ h ⟨n1,l1,j1,k1,rfl,st⟩
    refine WO.val (v:= .agg [n1,l1,j1,k1, .int .i64 ((bR s).lo:Int), .int .i64 ((bR s).hi:Int)]) rfl (WO.val (v:= .int .i64 (rdE s:Int)) rfl (WO.val (v:= .int .i64 (rdA s:Int)) rfl (WO.dz st L.alloc (fun b1 h st=> ?_))))
    refine WO.aI (row':=[n1,l1,j1,k1, .int .i64 ((bR s).lo:Int), .int .i64 ((bR s).hi:Int)]) st 0 rfl rfl rfl rfl rfl rfl rfl (fun h st=> ?_)
    refine WO.ak (v:= .int .i64 (rdE s:Int)) rfl (WO.ak (v:= .int .i64 (rdA s:Int)) rfl (WO.nil (WP.seq (WP.reg (WO.aP rfl (Gt (s:=s) D st) ?_)))))
    rintro _ h ⟨n2,l2,j2,k2,rfl,st⟩
    refine WO.val (v:= .agg [n2,l2,j2,k2, .int .i64 ((bR s).lo:Int), .int .i64 ((bR s).hi:Int)]) rfl (WO.val (v:= .int .i64 (rdE s:Int)) rfl (WO.val (v:= .int .i64 (rdA s:Int)) rfl (WO.dz st L.alloc (fun b2 h st=> ?_))))
    refine WO.aI (row':=[n2,l2,j2,k2, .int .i64 ((bR s).lo:Int), .int .i64 ((bR s).hi:Int)]) st 0 rfl rfl rfl rfl rfl rfl rfl (fun h st=> ?_)
    refine WO.ak (v:= .int .i64 (rdE s:Int)) rfl (WO.ak (v:= .int .i64 (rdA s:Int)) rfl (WO.nil (WP.seq (WP.draw (WD.val (v:= .agg [n1,l1,j1,k1, .int .i64 ((bR s).lo:Int), .int .i64 ((bR s).hi:Int)]) (L.aZ rfl (st.av 2 rfl) rfl rfl rfl) (WD.val (v:= .agg [n2,l2,j2,k2, .int .i64 ((bR s).lo:Int), .int .i64 ((bR s).hi:Int)]) (L.aZ rfl (st.av 0 rfl) rfl rfl rfl) (WD.aP rfl (EJ D.s (iP s) ((st.pick 1 rfl).pick 3 rfl)) (fun _ _ _=>rfl) ?_)))))))
    rintro _ h ⟨rfl,st⟩
    refine WD.val (v:= .bool true) rfl (WD.yes rfl (WD.val (v:= .int .i64 (rdE s:Int)) rfl (WD.yes rfl (WD.val (v:= .int .i64 (rdE s:Int)) rfl (WD.yes rfl (WD.aP rfl (KP D.f15) (fun _ _ _=>rfl) ?_))))))
    rintro _ _ ⟨rfl,rfl⟩
    refine WD.yes rfl (WD.ifV (L.eql rfl rfl) (fun _ c4=> ?_) (fun _ c4=>by exfalso;exact c4 rfl))
    refine WD.val (v:= .bool true) rfl (WD.val (v:= .bool true) rfl (WD.yes rfl (WD.val (v:= .int .i64 (rdA s:Int)) rfl (WD.yes rfl (WD.val (v:= .int .i64 (rdA s:Int)) rfl (WD.yes rfl (WD.ifV (L.eql rfl rfl) (fun _ c5=> ?_) (fun _ c5=>by exfalso;exact c5 rfl))))))))
    refine WD.val (v:= .bool true) rfl (WD.val (v:= .bool true) rfl (WD.yes rfl (WD.val (v:= .agg [n1,l1,j1,k1, .int .i64 ((bR s).lo:Int), .int .i64 ((bR s).hi:Int)]) (L.aZ rfl (st.av 3 rfl) rfl rfl rfl) (WD.yes rfl (WD.val (v:=L.str x) rfl (WD.yes rfl (WD.val (v:= .agg [n2,l2,j2,k2, .int .i64 ((bR s).lo:Int), .int .i64 ((bR s).hi:Int)]) (L.aZ rfl (st.av 2 rfl) rfl rfl rfl) (WD.yes rfl (WD.val (v:=L.str x) rfl (WD.yes rfl (WD.aP rfl (vB (x:=x) D.m (iP s).N (fun gs h sg=>((sg.sub (List.sublist_append_right _ _):St (.stb (fun h=>gV h n1 l1 j1 k1 (bR s)):: .stb (fun h=>gV h n2 l2 j2 k2 (bR s)):: .box b2 [n2,l2,j2,k2, .int .i64 ((bR s).lo:Int), .int .i64 ((bR s).hi:Int)]:: .box b1 [n1,l1,j1,k1, .int .i64 ((bR s).lo:Int), .int .i64 ((bR s).hi:Int)]::[]) _).aB 0 rfl).N) st) (fun _ h hp=> ?_) ?_)))))))))))
    ·obtain ⟨rfl,st⟩:=hp
     exact dm (by first|exact aD (L.aG rfl (st.av 2 rfl) rfl)|exact aT st 2 rfl|exact aD (L.aZ rfl (st.av 2 rfl) rfl rfl rfl)|exact aD (L.aG rfl (st.av 3 rfl) rfl)|exact aT st 3 rfl|exact aD (L.aZ rfl (st.av 3 rfl) rfl rfl rfl)) (gy _ _)
    rintro _ h ⟨rfl,st⟩
    refine WD.yes rfl (WD.aP rfl (zA D (iP s) (st.pick 1 rfl)) (fun _ _ _=>rfl) ?_)
    rintro _ h ⟨rfl,st⟩
    refine WD.yes rfl (WD.ifV (L.eql rfl rfl) (fun _ c6=> ?_) (fun _ c6=>by exfalso;exact c6 rfl))
    refine WD.val (v:= .bool true) rfl (WD.val (v:= .bool true) rfl (WD.yes rfl (WD.aP rfl (D.f11 _) (fun _ _ _=>rfl) ?_)))
    rintro _ _ ⟨rfl,rfl⟩
    refine WD.val (v:= .bool true) rfl (WD.ak (v:= .bool true) rfl (WD.nil (WP.ret ?_)))
    exact ⟨_,(aj (au (v:= .bool true) rfl) (ay _ _)),rfl⟩
 ·replace c1:¬(s.length>2000):=by omega
  refine WO.no rfl (WO.no rfl (WO.no rfl (WO.val (v:= .bool false) rfl (WO.yes rfl (WO.val (v:=L.str x) rfl (WO.yes rfl (WO.val (v:= .int .i64 (x.length:Int)) (L.jo rfl) (WO.yes rfl (WO.ifV (L.gtr rfl rfl) (fun c7=> ?_) (fun c7=> ?_))))))))))
  ·replace c7:x.length>100:=by omega
   refine WO.ak (v:= .bool true) rfl (WO.nil (WP.cond (t:=true) rfl (WP.seq (WP.reg (WO.dB rfl (D.f11 _) ?_)))))
   rintro _ _ ⟨rfl,rfl⟩
   refine WO.nil (WP.ret ?_)
   exact ⟨_,(aj (au (v:= .bool true) rfl) (ay _ _)),rfl⟩
  ·replace c7:¬(x.length>100):=by omega
   refine WO.ak (v:= .bool false) rfl (WO.nil (WP.cond (t:=false) rfl (WP.skip (WP.seq (WP.reg (WO.aP rfl (K3 (s:=s) D st) ?_))))))
   rintro _ h ⟨n1,l1,j1,k1,rfl,st⟩
   refine WO.val (v:= .agg [n1,l1,j1,k1, .int .i64 ((bR s).lo:Int), .int .i64 ((bR s).hi:Int)]) rfl (WO.val (v:= .int .i64 (rdE s:Int)) rfl (WO.val (v:= .int .i64 (rdA s:Int)) rfl (WO.dz st L.alloc (fun b1 h st=> ?_))))
   refine WO.aI (row':=[n1,l1,j1,k1, .int .i64 ((bR s).lo:Int), .int .i64 ((bR s).hi:Int)]) st 0 rfl rfl rfl rfl rfl rfl rfl (fun h st=> ?_)
   refine WO.ak (v:= .int .i64 (rdE s:Int)) rfl (WO.ak (v:= .int .i64 (rdA s:Int)) rfl (WO.nil (WP.seq (WP.reg (WO.aP rfl (Gt (s:=s) D st) ?_)))))
   rintro _ h ⟨n2,l2,j2,k2,rfl,st⟩
   refine WO.val (v:= .agg [n2,l2,j2,k2, .int .i64 ((bR s).lo:Int), .int .i64 ((bR s).hi:Int)]) rfl (WO.val (v:= .int .i64 (rdE s:Int)) rfl (WO.val (v:= .int .i64 (rdA s:Int)) rfl (WO.dz st L.alloc (fun b2 h st=> ?_))))
   refine WO.aI (row':=[n2,l2,j2,k2, .int .i64 ((bR s).lo:Int), .int .i64 ((bR s).hi:Int)]) st 0 rfl rfl rfl rfl rfl rfl rfl (fun h st=> ?_)
   refine WO.ak (v:= .int .i64 (rdE s:Int)) rfl (WO.ak (v:= .int .i64 (rdA s:Int)) rfl (WO.nil (WP.seq (WP.draw (WD.val (v:= .agg [n1,l1,j1,k1, .int .i64 ((bR s).lo:Int), .int .i64 ((bR s).hi:Int)]) (L.aZ rfl (st.av 2 rfl) rfl rfl rfl) (WD.val (v:= .agg [n2,l2,j2,k2, .int .i64 ((bR s).lo:Int), .int .i64 ((bR s).hi:Int)]) (L.aZ rfl (st.av 0 rfl) rfl rfl rfl) (WD.aP rfl (EJ D.s (iP s) ((st.pick 1 rfl).pick 3 rfl)) (fun _ _ _=>rfl) ?_)))))))
   rintro _ h ⟨rfl,st⟩
   refine WD.val (v:= .bool true) rfl (WD.yes rfl (WD.val (v:= .int .i64 (rdE s:Int)) rfl (WD.yes rfl (WD.val (v:= .int .i64 (rdE s:Int)) rfl (WD.yes rfl (WD.aP rfl (KP D.f15) (fun _ _ _=>rfl) ?_))))))
   rintro _ _ ⟨rfl,rfl⟩
   refine WD.yes rfl (WD.ifV (L.eql rfl rfl) (fun _ c8=> ?_) (fun _ c8=>by exfalso;exact c8 rfl))
   refine WD.val (v:= .bool true) rfl (WD.val (v:= .bool true) rfl (WD.yes rfl (WD.val (v:= .int .i64 (rdA s:Int)) rfl (WD.yes rfl (WD.val (v:= .int .i64 (rdA s:Int)) rfl (WD.yes rfl (WD.ifV (L.eql rfl rfl) (fun _ c9=> ?_) (fun _ c9=>by exfalso;exact c9 rfl))))))))
   refine WD.val (v:= .bool true) rfl (WD.val (v:= .bool true) rfl (WD.yes rfl (WD.val (v:= .agg [n1,l1,j1,k1, .int .i64 ((bR s).lo:Int), .int .i64 ((bR s).hi:Int)]) (L.aZ rfl (st.av 3 rfl) rfl rfl rfl) (WD.yes rfl (WD.val (v:=L.str x) rfl (WD.yes rfl (WD.val (v:= .agg [n2,l2,j2,k2, .int .i64 ((bR s).lo:Int), .int .i64 ((bR s).hi:Int)]) (L.aZ rfl (st.av 2 rfl) rfl rfl rfl) (WD.yes rfl (WD.val (v:=L.str x) rfl (WD.yes rfl (WD.aP rfl (vB (x:=x) D.m (iP s).N (fun gs h sg=>((sg.sub (List.sublist_append_right _ _):St (.stb (fun h=>gV h n1 l1 j1 k1 (bR s)):: .stb (fun h=>gV h n2 l2 j2 k2 (bR s)):: .box b2 [n2,l2,j2,k2, .int .i64 ((bR s).lo:Int), .int .i64 ((bR s).hi:Int)]:: .box b1 [n1,l1,j1,k1, .int .i64 ((bR s).lo:Int), .int .i64 ((bR s).hi:Int)]::[]) _).aB 0 rfl).N) st) (fun _ h hp=> ?_) ?_)))))))))))
   ·obtain ⟨rfl,st⟩:=hp
    exact dm (by first|exact aD (L.aG rfl (st.av 2 rfl) rfl)|exact aT st 2 rfl|exact aD (L.aZ rfl (st.av 2 rfl) rfl rfl rfl)|exact aD (L.aG rfl (st.av 3 rfl) rfl)|exact aT st 3 rfl|exact aD (L.aZ rfl (st.av 3 rfl) rfl rfl rfl)) (gy _ _)
   rintro _ h ⟨rfl,st⟩
   refine WD.yes rfl (WD.aP rfl (zA D (iP s) (st.pick 1 rfl)) (fun _ _ _=>rfl) ?_)
   rintro _ h ⟨rfl,st⟩
   refine WD.yes rfl (WD.ifV (L.eql rfl rfl) (fun _ c10=> ?_) (fun _ c10=>by exfalso;exact c10 rfl))
   refine WD.val (v:= .bool true) rfl (WD.val (v:= .bool true) rfl (WD.yes rfl (WD.aP rfl (D.f11 _) (fun _ _ _=>rfl) ?_)))
   rintro _ _ ⟨rfl,rfl⟩
   refine WD.val (v:= .bool true) rfl (WD.ak (v:= .bool true) rfl (WD.nil (WP.ret ?_)))
   exact ⟨_,(aj (au (v:= .bool true) rfl) (ay _ _)),rfl⟩
end
end Go.Eng.Ytjgmahbgfbkhnaa
