/- Part of a proof of a law: rules of an evaluator, contracts, plain laws. No condition of its own. -/
import Derived.Test.YtjgmahbgfbkhnaaConC
import Derived.Test.YtjgmahbgfbkhnaaSymE
set_option linter.unusedVariables false
set_option linter.unusedSimpArgs false
namespace Go.Eng.Ytjgmahbgfbkhnaa
open Go.Eng
noncomputable section
variable {c:Ctx}
structure yD (c:Ctx):Prop where
 f12:T.get 12 c.aR=some i12
 f18:T.get 18 c.aR=some i18
 f25:T.get 25 c.aR=some i25
 f35:T.get 35 c.aR=some i35
 f24:∀args h r,ja 24 24 args h=r→r≠.bad→Runs c 24 args h r
 f26:T.get 26 c.aR=some i26
 lab:HasF c
theorem Cz {h:Heap} {v:V} {rows:List (List V)} (R:Rows 1 h v rows) {k:Nat} (hk:k<rows.length) {ev:Ev} {x y:A} (hx:ev x=v) (hy:ev y= .int .i64 (k:Int)):light (.aC 1 x y) ev h= .val (.ptr (slB v) (slO v+k * 1)):=
 L.aC (hx.trans (R.sl hk)) hy hk
def jU (ns:List Lab.Txt) (x:Lab.Txt):Int:=if x∈ns then (ns.idxOf x:Int) else -1
theorem uN {ns:List Lab.Txt} {x:Lab.Txt} (h:x∉ns):jU ns x= -1:=if_neg h
theorem CB:∀{ns:List Lab.Txt} {x:Lab.Txt} {k:Nat},ns[k]? =some x→x∉ns.take k→ns.idxOf x=k
 |[],x,k,h,_=>by simp at h
 |y::ns,x,0,h,_=>by simp at h;subst h;simp
 |y::ns,x,k+1,h,hn=>by
  have h1:y≠x:=fun e=>hn (by rw [e];simp)
  rw [List.idxOf_cons,show (y==x)=false from by simpa using h1]
  simp [CB (ns:=ns) (x:=x) (k:=k) (by simpa using h) (fun hm=>hn (by simp [hm]))]
theorem uO {ns:List Lab.Txt} {x y:Lab.Txt} {k:Nat} (_hk:k≤ns.length) (h:ns[k]? =some y) (hn:x∉ns.take k) (e:x=y):jU ns x=(k:Int):=by
 subst e
 unfold jU;rw [if_pos (List.mem_of_getElem? h),CB h hn]
theorem CF {ns:List Lab.Txt} {x y:Lab.Txt} {k:Nat} (hn:x∉ns.take k) (h:ns[k]? =some y) (e:x≠y):x∉ns.take (k+1):=by
 rw [List.take_add_one,h];simp [hn,e]
theorem Am (D:yD c) {h0:Heap} {v:V} {ns:List Lab.Txt} {x:Lab.Txt} (hn:ns.length<4294967296) (R:Rows 1 h0 v (SR ns)):
 aM c 35 [v,L.str x] h0 fun v1 h1=>v1= .int .i64 (jU ns x)∧h1=h0:=by
 refine aM.bX D.f35 rfl (WP.seq (WP.reg (WO.ak (v:= .int .i64 0) rfl (WO.nil (WP.seq (WP.seq (WP.reg (WO.ak (v:= .int .i64 (ns.length:Int)) (L.dU rfl R (bY _)) (WO.ak (v:= .int .i64 0) rfl (WO.nil (WP.block (WP.bT (α:=Nat) (fun k env h_=>∃x2 x5 x6 x7,(k≤ns.length∧x∉ns.take k)∧env=aO [v,L.str x,x2, .int .i64 (k:Int), .int .i64 (ns.length:Int),x5,x6,x7] 0 Env.nil∧h_=h0) (fun k=>ns.length - k) 0 ?_ ?_))))))))))))
 ·exact ⟨(.int .i64 0), .bot, .bot, .bot,⟨Nat.zero_le _,by simp⟩,by kernel_rfl,rfl⟩
 rintro k _ h ⟨x2,x5,x6,x7,⟨hk,hnot⟩,rfl,rfl⟩
 refine WP.seq (WP.reg (WO.ifS (L.lss rfl rfl) (fun c1=> ?_) (fun c1=> ?_)))
 ·obtain ⟨y,hx⟩:∃y,ns[k]? =some y:=⟨ns[k]'(by omega),List.getElem?_eq_getElem (by omega)⟩
  refine WO.nil (WP.seq (WP.cond (t:=true) rfl (WP.skip (WP.seq (WP.block (WP.seq (WP.reg (WO.ak (v:= .int .i64 (k:Int)) rfl (WO.nil (WP.seq (WP.reg (WO.val (v:= .ptr (slB v) (slO v+k * 1)) ((Cz R (by rw [bY];omega)) rfl rfl) (WO.val (v:=L.str y) (L.load rfl (R.iF (mJ hx))) (WO.ifS (L.seq rfl rfl) (fun c9=> ?_) (fun c9=> ?_)))))))))))))))
  ·refine WO.nil (WP.cond (t:=true) rfl (WP.seq (WP.reg (WO.ak (v:= .int .i64 (k:Int)) rfl (WO.nil (WP.ret ?_))))))
   exact ⟨_,(aj (au (v:= .int .i64 (k:Int)) rfl) (ay _ _)),(by rw [uO hk hx (by simpa using hnot) (by simp [*])];rfl),rfl⟩
  ·refine WO.nil (WP.cond (t:=false) rfl (WP.skip (WP.reg (WO.ak (v:= .int .i64 ((k+1:Nat):Int)) (L.bP rfl rfl (by omega) (And.intro (by omega) (by omega))) (WO.nil ?_)))))
   exact ⟨k+1,(by omega),x2,(.bool true),(.int .i64 (k:Int)),(.bool false),⟨by omega,CF hnot hx (by simp [*])⟩,by kernel_rfl,rfl⟩
 ·refine WO.nil (WP.seq (WP.cond (t:=false) rfl (WP.exit (WP.seq (WP.reg (WO.ak (v:= .int .i64 (-1)) rfl (WO.nil (WP.ret ?_))))))))
  exact ⟨_,(aj (au (v:= .int .i64 (-1)) rfl) (ay _ _)),(by rw [uN (by rw [List.take_of_length_le (by omega)] at hnot;exact hnot)];rfl),rfl⟩
theorem vB (D:yD c) {fs:List Fact} {h:Heap} {v w1 w2 w3 w4 w5:V} {ns:List Lab.Txt} {x:Lab.Txt} (hn:ns.length<4294967296) (hR:∀gs h,St (gs++fs) h→Rows 1 h v (SR ns)) (st:St fs h):
 aM c 18 [.agg [v,w1,w2,w3,w4,w5],L.str x] h fun v1 h1=>v1= .int .i64 (jU ns x)∧St fs h1:=by
 refine aM.bX D.f18 rfl (WP.seq (WP.reg (WO.dz st (L.box (l:=[v,w1,w2,w3,w4,w5]) rfl rfl) (fun tb h st=> ?_))))
 refine WO.ak (v:= .int .i64 0) rfl (WO.nil (WP.seq (WP.reg (WO.val (v:= .ptr tb 0) (L.aA rfl) (WO.val (v:=v) (L.aG rfl (st.av 0 rfl) rfl) (WO.dB rfl (Am D hn (hR [_] _ st)) ?_))))))
 rintro v1 h ⟨hv,rfl⟩
 refine WO.nil (WP.ret ?_)
 exact ⟨_,(aj (au (v:=v1) rfl) (ay _ _)),hv,st.tail⟩
theorem EC {S:List Lab.Txt} (h:S.length<2):Lab.uniq S=S:=by
 match S,h with
 |[],_=>rfl
 |[x],_=>rfl
theorem Iq (D:yD c) {fs:List Fact} {h:Heap} {bs:List Nat} {f b:Nat} {S:List Lab.Txt} (hn:S.length<4294967296) (st:St (.acu bs f 1 (.sl b 0 S.length none) (SR S)::fs) h):
 aM c 25 [.sl b 0 S.length none] h fun v1 h1=>v1= .sl b 0 (Lab.uniq S).length none∧St (.acu bs f 1 (.sl b 0 (Lab.uniq S).length none) (SR (Lab.uniq S))::fs) h1:=by
 refine aM.bX D.f25 rfl (WP.seq (WP.reg (WO.ak (v:= .slN) rfl (WO.nil (WP.seq (WP.seq (WP.reg (WO.val (v:= .int .i64 (S.length:Int)) (L.llen rfl) (WO.ifS (L.lss rfl rfl) (fun c0=> ?_) (fun c0=> ?_))))))))))
 ·replace c0:S.length<2:=by omega
  refine WO.nil (WP.cond (t:=true) rfl (WP.seq (WP.reg (WO.ak (v:= .sl b 0 S.length none) rfl (WO.nil (WP.ret ?_))))))
  have hu:Lab.uniq S=S:=EC (by omega)
  exact ⟨_,(aj (au (v:= .sl b 0 S.length none) rfl) (ay _ _)),(by rw [hu];rfl),(by rw [hu];exact st)⟩
 ·replace c0:¬S.length<2:=by omega
  refine WO.nil (WP.cond (t:=false) rfl (WP.skip (WP.seq (WP.seq (WP.reg (WO.ak (v:= .int .i64 1) rfl (WO.nil (WP.block (WP.bT (α:=Nat) (fun k env h=>∃x1 x4 x5 x6 x7 x8 x9,(1≤k∧k≤S.length∧Lab.uniq (S.take k)=S.take k)∧env=aO [.sl b 0 S.length none,x1, .bool false, .int .i64 (k:Int),x4,x5,x6,x7,x8,x9] 0 Env.nil∧St (.acu bs f 1 (.sl b 0 S.length none) (SR S)::fs) h) (fun k=>S.length - k) 1 ?_ ?_)))))))))
  ·exact ⟨.slN, .bot, .bot, .bot, .bot, .bot, .bot,⟨by omega,by omega,Lab.Kr S⟩,by kernel_rfl,st⟩
  rintro k _ h ⟨x1,x4,x5,x6,x7,x8,x9,⟨hk1,hk2,hu⟩,rfl,st⟩
  refine WP.seq (WP.seq (WP.reg (WO.val (v:= .int .i64 (S.length:Int)) (L.llen rfl) (WO.ifS (L.lss rfl rfl) (fun c1=> ?_) (fun c1=> ?_)))))
  ·replace c1:k<S.length:=by omega
   obtain ⟨x,hx⟩:∃x,S[k]? =some x:=⟨S[k]'(by omega),List.getElem?_eq_getElem (by omega)⟩
   obtain ⟨y,hy⟩:∃y,S[k - 1]? =some y:=⟨S[k - 1]'(by omega),List.getElem?_eq_getElem (by omega)⟩
   refine WO.nil (WP.cond (t:=true) rfl (WP.skip (WP.seq (WP.block (WP.seq (WP.draw (WD.val (v:= .sl b 0 S.length none) rfl (WD.val (v:= .int .i64 (k:Int)) rfl (WD.val (v:= .ptr b (0+k * 1)) (L.aC rfl rfl (by omega)) (WD.val (v:=L.str x) (L.load rfl ((st.dH 0 rfl (by decide)).bE (mJ hx))) (WD.val (v:= .sl b 0 S.length none) rfl (WD.val (v:= .int .i64 (k:Int)) rfl (WD.val (v:= .int .i64 ((k - 1:Nat):Int)) (L.uV rfl rfl (by omega) (And.intro (by omega) (by omega))) (WD.val (v:= .ptr b (0+(k - 1) * 1)) (L.aC rfl rfl (by omega)) (WD.val (v:=L.str y) (L.load rfl ((st.dH 0 rfl (by decide)).bE (mJ hy))) (WD.ifS (L.seq rfl rfl) (fun _ c3=> ?_) (fun _ c3=> ?_)))))))))))))))))
   ·refine WD.nil (WP.cond (t:=true) rfl (WP.seq (WP.reg (WO.ak (v:= .sl b (0+k * 1) (S.length - k) none) (L.ssl rfl (st.dH 0 rfl (by decide)) rfl rfl (by omega) (Nat.le_refl _)) (WO.nil (WP.seq (WP.seq (WP.reg (WO.ak (v:= .int .i64 1) rfl (WO.nil (WP.block (WP.bT (α:=Nat) (fun j env h=>∃q R x8 x9,(Lab.rX S R k j q)∧env=aO [.sl b 0 S.length none,x1, .bool false, .int .i64 (q:Int), .bool true, .bool true, .sl b (0+k * 1) (S.length - k) none, .int .i64 (j:Int),x8,x9] 0 Env.nil∧St (.acu bs f 1 (.sl b 0 S.length none) (SR R)::fs) h) (fun j=>S.length - j) 1 ?_ ?_))))))))))))
    ·exact ⟨k,S,x8,x9,Lab.rX.start hk1 hu hx (by rw [hy,c3]),by kernel_rfl,st⟩
    rintro j _ h ⟨q,R,x8,x9,ci,rfl,st⟩
    refine WP.seq (WP.seq (WP.reg (WO.val (v:= .int .i64 ((S.length - k:Nat):Int)) (L.llen rfl) (WO.ifS (L.lss rfl rfl) (fun c4=> ?_) (fun c4=> ?_)))))
    ·replace c4:j<S.length - k:=by omega
     have hjl:k+j<S.length:=by omega
     obtain ⟨x2,hx2⟩:∃x,S[k+j]? =some x:=⟨S[k+j]'(by omega),List.getElem?_eq_getElem (by omega)⟩
     obtain ⟨y2,hy2⟩:∃y,S[k+j - 1]? =some y:=⟨S[k+j - 1]'(by omega),List.getElem?_eq_getElem (by omega)⟩
     have hj1:=ci.j1
     have hql:=ci.ql
     have hRl:=ci.len
     have hx3:R[k+j]? =some x2:=by rw [ci.at (by omega)];exact hx2
     have hy3:R[k+j - 1]? =some y2:=by rw [ci.at (by omega)];exact hy2
     refine WO.nil (WP.cond (t:=true) rfl (WP.skip (WP.seq (WP.block (WP.seq (WP.draw (WD.val (v:= .sl b (0+k * 1) (S.length - k) none) rfl (WD.val (v:= .int .i64 (j:Int)) rfl (WD.val (v:= .ptr b (0+k * 1+j * 1)) (L.aC rfl rfl (by omega)) (WD.val (v:=L.str x2) (L.load rfl (by rw [show 0+k * 1+j * 1=0+(k+j) * 1 by omega];exact (st.dH 0 rfl (by decide)).bE (mJ hx3))) ?_))))))))))
     refine WD.val (v:= .sl b (0+k * 1) (S.length - k) none) rfl (WD.val (v:= .int .i64 (j:Int)) rfl (WD.val (v:= .int .i64 ((j - 1:Nat):Int)) (L.uV rfl rfl (by omega) (And.intro (by omega) (by omega))) (WD.val (v:= .ptr b (0+k * 1+(j - 1) * 1)) (L.aC rfl rfl (by omega)) (WD.val (v:=L.str y2) (L.load rfl (by rw [show 0+k * 1+(j - 1) * 1=0+(k+j - 1) * 1 by omega];exact (st.dH 0 rfl (by decide)).bE (mJ hy3))) ?_))))
     refine WD.ifS (L.sne rfl rfl) (fun _ c5=> ?_) (fun _ c5=> ?_)
     ·refine WD.nil (WP.cond (t:=true) rfl (WP.seq (WP.reg (WO.val (v:= .ptr b (0+k * 1+j * 1)) (L.aC rfl rfl (by omega)) (WO.val (v:=L.str x2) (L.load rfl (by rw [show 0+k * 1+j * 1=0+(k+j) * 1 by omega];exact (st.dH 0 rfl (by decide)).bE (mJ hx3))) ?_)))))
      refine WO.val (v:= .ptr b (0+q * 1)) (L.aC rfl rfl (by omega)) (WO.xJ st rfl rfl (by decide) (by rw [bY];omega) rfl (fun h st=> ?_))
      replace st:St (.acu bs f 1 (.sl b 0 S.length none) (SR (R.set q x2))::fs) h:=by rw [←xO];exact st
      refine WO.nil (WP.reg (WO.ak (v:= .int .i64 ((q+1:Nat):Int)) (L.bP rfl rfl (by omega) (And.intro (by omega) (by omega))) (WO.nil (WP.reg (WO.ak (v:= .int .i64 ((j+1:Nat):Int)) (L.bP rfl rfl (by omega) (And.intro (by omega) (by omega))) (WO.nil ?_))))))
      exact ⟨j+1,(by have:=ci.le;omega),(q+1),(R.set q x2),(.bool true),(.bool true),ci.put hx2 hy2 c5,by kernel_rfl,st⟩
     ·refine WD.nil (WP.cond (t:=false) rfl (WP.skip (WP.reg (WO.ak (v:= .int .i64 ((j+1:Nat):Int)) (L.bP rfl rfl (by omega) (And.intro (by omega) (by omega))) (WO.nil ?_)))))
      exact ⟨j+1,(by have:=ci.le;omega),q,R,(.bool true),(.bool false),ci.skip hx2 (by rw [hy2,Decidable.not_not.1 c5]),by kernel_rfl,st⟩
    ·replace c4:¬j<S.length - k:=by omega
     have hle:=ci.le
     refine WO.nil (WP.cond (t:=false) rfl (WP.exit (WP.seq (WP.reg (WO.val (v:= .sl b (0+q * 1) (S.length - q) none) (L.ssl rfl (st.dH 0 rfl (by decide)) rfl rfl (by have:=ci.ql;have:=ci.le;omega) (Nat.le_refl _)) ?_)))))
     have hq:=(ci.done (by omega)).2.2
     have hRl:=ci.len
     refine WO.clearU st rfl (by decide) rfl (by omega) (by rw [bY];omega) (fun h st=> ?_)
     refine WO.nil (WP.seq (WP.reg (WO.ak (v:= .sl b 0 q none) (L.ssl rfl (st.dH 0 rfl (by decide)) rfl rfl (Nat.zero_le _) (by omega)) (WO.nil (WP.ret ?_)))))
     obtain ⟨d1,d2,d3⟩:=ci.done (by omega)
     have s2:=st.cutU (k:=q) (by omega)
     rw [List.take_left' (by rw [List.length_take,bY,ci.len];omega),SR_take,d2,d1] at s2
     exact ⟨_,(aj (au (v:= .sl b 0 q none) rfl) (ay _ _)),(by rw [d1];rfl),s2⟩
   ·refine WD.nil (WP.cond (t:=false) rfl (WP.skip (WP.reg (WO.ak (v:= .int .i64 ((k+1:Nat):Int)) (L.bP rfl rfl (by omega) (And.intro (by omega) (by omega))) (WO.nil ?_)))))
    exact ⟨k+1,(by omega),x1,(.bool true),(.bool false),x6,x7,x8,x9,⟨by omega,by omega,Lab.Ip hk1 hu hx hy c3⟩,by kernel_rfl,st⟩
  ·replace c1:¬k<S.length:=by omega
   refine WO.nil (WP.cond (t:=false) rfl (WP.exit (WP.seq (WP.reg (WO.ak (v:= .sl b 0 S.length none) rfl (WO.nil (WP.ret ?_)))))))
   have hu2:Lab.uniq S=S:=by rw [List.take_of_length_le (by omega)] at hu;exact hu
   exact ⟨_,(aj (au (v:= .sl b 0 S.length none) rfl) (ay _ _)),(by rw [hu2];rfl),(by rw [hu2];exact st)⟩
theorem Ir (D:yD c) {fs:List Fact} {h:Heap} (st:St fs h):
 aM c 25 [.slN] h fun v1 h1=>v1= .slN∧St fs h1:=by
 refine aM.bX D.f25 rfl (WP.seq (WP.reg (WO.ak (v:= .slN) rfl (WO.nil (WP.seq (WP.seq (WP.reg (WO.val (v:= .int .i64 ((0:Nat):Int)) (L.BN rfl) (WO.ifS (L.lss rfl rfl) (fun c1=> ?_) (fun c1=>by exfalso;omega))))))))))
 refine WO.nil (WP.cond (t:=true) rfl (WP.seq (WP.reg (WO.ak (v:= .slN) rfl (WO.nil (WP.ret ?_))))))
 exact ⟨_,(aj (au (v:= .slN) rfl) (ay _ _)),rfl,st⟩
theorem Iu (D:yD c) {fs:List Fact} {h:Heap} {bs:List Nat} {f:Nat} {v:V} {S:List Lab.Txt} (hn:S.length<4294967296) (st:St (.acu bs f 1 v (SR S)::fs) h):
 aM c 25 [v] h fun v1 h1=>St (.acu bs f 1 v1 (SR (Lab.uniq S))::fs) h1:=by
 obtain ⟨_,_,a⟩:=st.Aj
 have hl:=bY S
 generalize hR:SR S=R at st a hl
 cases a with
 |nil=>
  obtain rfl:S=[]:=by simpa using hl.symm
  obtain ⟨v1,h1,e1,rfl,s1⟩:=Ir D st
  exact ⟨_,_,e1,hR▸s1⟩
 |row=>
  rw [hl] at st ⊢
  rw [←hR] at st
  obtain ⟨v1,h1,e1,rfl,s1⟩:=Iq D hn st
  exact ⟨_,_,e1,s1⟩
end
end Go.Eng.Ytjgmahbgfbkhnaa
