/- Part of a proof of a law: rules of an evaluator, contracts, plain laws. No condition of its own. -/
import Derived.Test.YtmcjcbldmoijiaaGreatDoorSymA
import Derived.Test.YtmcjcbldmoijiaaGreatDoorCodeA
import Derived.Test.YtmcjcbldmoijiaaGreatDoorSymE
set_option linter.unusedVariables false
set_option linter.unusedSimpArgs false
namespace Go.Eng.YtmcjcbldmoijiaaGreatDoor
open Go.Eng
noncomputable section
variable {c:Ctx}
structure sP (c:Ctx):Prop where
 f19:T.get 19 c.cF=some i19
 f20:T.get 20 c.cF=some i20
 f21:T.get 21 c.cF=some i21
 f46:T.get 46 c.cF=some i46
 f47:T.get 47 c.cF=some i47
 f48:T.get 48 c.cF=some i48
 f49:T.get 49 c.cF=some i49
 f50:T.get 50 c.cF=some i50
 f80:T.get 80 c.cF=some i80
 f81:T.get 81 c.cF=some i81
def j0 (ns:List Lab.aL) (x:Lab.aL):Int:=if x∈ns then (ns.idxOf x:Int) else -1
theorem HV {ns:List Lab.aL} {x:Lab.aL} (h:x∉ns):j0 ns x= -1:=if_neg h
theorem Es:∀{ns:List Lab.aL} {x:Lab.aL} {k:Nat},ns[k]? =some x→x∉ns.take k→ns.idxOf x=k
 |[],x,k,h,_=>by simp at h
 |y::ns,x,0,h,_=>by simp at h;subst h;simp
 |y::ns,x,k+1,h,hn=>by
  have h1:y≠x:=fun e=>hn (by rw [e];simp)
  rw [List.idxOf_cons,show (y==x)=false from by simpa using h1]
  simp [Es (ns:=ns) (x:=x) (k:=k) (by simpa using h) (fun hm=>hn (by simp [hm]))]
theorem HW {ns:List Lab.aL} {x y:Lab.aL} {k:Nat} (_hk:k≤ns.length) (h:ns[k]? =some y) (hn:x∉ns.take k) (e:x=y):j0 ns x=(k:Int):=by
 subst e
 unfold j0;rw [if_pos (List.mem_of_getElem? h),Es h hn]
theorem HX {ns:List Lab.aL} {x y:Lab.aL} {k:Nat} (hn:x∉ns.take k) (h:ns[k]? =some y) (e:x≠y):x∉ns.take (k+1):=by
 rw [List.take_add_one,h];simp [hn,e]
theorem y2 {ns:List Lab.aL} {x:Lab.aL} (h:0≤j0 ns x):x∈ns:=by
 unfold j0 at h
 by_cases e:x∈ns
 ·exact e
 ·rw [if_neg e] at h;omega
theorem y3 {ns:List Lab.aL} {x:Lab.aL} (h:¬0≤j0 ns x):x∉ns:=by
 unfold j0 at h
 intro e;rw [if_pos e] at h;omega
theorem R2 (D:sP c) {h0:ag} {v:V} {ns:List Lab.aL} {x:Lab.aL} (hn:ns.length<4294967296) (R:cz h0 v ns):
 bU c 81 [v,L.str x] h0 fun v1 h1=>v1= .int .i64 (j0 ns x)∧h1=h0:=by
 refine bU.dR D.f81 rfl (WP.af (I.az (.int .i64 0) (I.nil (WP.seq (WP.af (I.bX (v:= .n ns.length) (L.xh rfl R) (I.az (.int .i64 0) (I.nil (WP.block (WP.dr (α:=Nat) (fun k env qA=>∃b2 eN c3 dc,(k≤ns.length∧x∉ns.take k)∧env=cM [v,L.str x,b2, .n k, .n ns.length,eN,c3,dc] 0 Env.nil∧qA=h0) (fun k=>ns.length - k) 0 ?_ ?_))))))))))
 ·exact ⟨(.int .i64 0), .bot, .bot, .bot,⟨Nat.zero_le _,by simp⟩,by kernel_rfl,rfl⟩
 rintro k _ h ⟨b2,eN,c3,dc,⟨hk,pA⟩,rfl,rfl⟩
 refine WP.af (I.bR (L.lss rfl rfl) (fun c1=> ?_) (fun c1=> ?_))
 ·replace c1:k<ns.length:=by omega
  obtain ⟨y,hx⟩:=fp (l:=ns) (i:=k) (by omega)
  refine I.nil (WP.seq (WP.cond (t:=true) rfl (WP.skip (WP.seq (WP.block (WP.af (I.az (.n k) (I.af (I.val (v:= .ptr (ck v) (cu v+k * 1)) (L.vE R c1 rfl rfl) (I.val (v:=L.str y) (L.load rfl (R.at hx)) (I.bR (L.seq rfl rfl) (fun dS=> ?_) (fun dS=> ?_))))))))))))
  ·refine I.bh (WP.af (I.az (.n k) (I.rt ?_)))
   exact ⟨_,(ca (.n k)),(by rw [HW hk hx (by simpa using pA) (by simp [*])];rfl),rfl⟩
  ·refine I.aY (WP.skip (WP.aG (I.bX (v:= .n (k+1)) L.cB (I.nil ?_))))
   exact ⟨k+1,(by omega),b2,(.bool true),(.n k),(.bool false),⟨by omega,HX pA hx (by simp [*])⟩,by kernel_rfl,rfl⟩
 ·replace c1:¬(k<ns.length):=by omega
  refine I.nil (WP.seq (WP.cond (t:=false) rfl (WP.exit (WP.af (I.az (.int .i64 (-1)) (I.rt ?_))))))
  exact ⟨_,(ca (.int .i64 (-1))),(by rw [HV (by rw [List.take_of_length_le (by omega)] at pA;exact pA)];rfl),rfl⟩
theorem xi (D:sP c) {h0:ag} {v:V} {ns:List Lab.aL} {x:Lab.aL} (hn:ns.length<4294967296) (R:cz h0 v ns):
 bU c 46 [v,L.str x] h0 fun v1 h1=>v1= .int .i64 (j0 ns x)∧h1=h0:=by
 refine bU.dR D.f46 rfl (WP.af (I.az (.int .i64 0) (I.nil (WP.seq (WP.af (I.az (.int .i64 0) (I.nil (WP.block (WP.dr (α:=Nat) (fun k env qA=>∃b2 ej eN,(k≤ns.length∧x∉ns.take k)∧env=cM [v,L.str x,b2, .n k,ej,eN] 0 Env.nil∧qA=h0) (fun k=>ns.length - k) 0 ?_ ?_)))))))))
 ·exact ⟨(.int .i64 0), .bot, .bot,⟨Nat.zero_le _,by simp⟩,by kernel_rfl,rfl⟩
 rintro k _ h ⟨b2,ej,eN,⟨hk,pA⟩,rfl,rfl⟩
 refine WP.seq (WP.af (I.val (v:= .n ns.length) (L.xh rfl R) (I.bR (L.lss rfl rfl) (fun c1=> ?_) (fun c1=> ?_))))
 ·replace c1:k<ns.length:=by omega
  obtain ⟨y,hx⟩:=fp (l:=ns) (i:=k) (by omega)
  refine I.bh (WP.skip (WP.seq (WP.block (WP.af (I.val (v:= .ptr (ck v) (cu v+k * 1)) (L.vE R c1 rfl rfl) (I.val (v:=L.str y) (L.load rfl (R.at hx)) (I.bR (L.seq rfl rfl) (fun dS=> ?_) (fun dS=> ?_))))))))
  ·refine I.bh (WP.af (I.az (.n k) (I.rt ?_)))
   exact ⟨_,(ca (.n k)),(by rw [HW hk hx (by simpa using pA) dS.symm];rfl),rfl⟩
  ·refine I.aY (WP.skip (WP.aG (I.bX (v:= .n (k+1)) L.cB (I.nil ?_))))
   exact ⟨k+1,(by omega),b2,(.bool true),(.bool false),⟨by omega,HX pA hx (fun e=>dS e.symm)⟩,by kernel_rfl,rfl⟩
 ·replace c1:¬(k<ns.length):=by omega
  refine I.aY (WP.exit (WP.af (I.az (.int .i64 (-1)) (I.rt ?_))))
  exact ⟨_,(ca (.int .i64 (-1))),(by rw [HV (by rw [List.take_of_length_le (by omega)] at pA;exact pA)];rfl),rfl⟩
theorem abQ (D:sP c) {h0:ag} {v:V} {ns:List Lab.aL} {x:Lab.aL} (hn:ns.length<4294967296) (R:cz h0 v ns):
 bU c 50 [v,L.str x] h0 fun v1 h1=>v1= .bool (decide (x∈ns))∧h1=h0:=by
 refine bU.dR D.f50 rfl (WP.af (I.az (.bool false) (I.af (I.bD rfl (R2 D hn R) ?_))))
 rintro _ h ⟨rfl,rfl⟩
 refine I.bR (L.geq rfl rfl) (fun c1=> ?_) (fun c1=> ?_)
 ·refine I.rt ?_
  exact ⟨_,(ca (.bool true)),(by rw [decide_eq_true (y2 c1)];rfl),rfl⟩
 ·refine I.rt ?_
  exact ⟨_,(ca (.bool false)),(by rw [decide_eq_false (y3 c1)];rfl),rfl⟩
theorem R3 (D:sP c) {h0:ag} {v w:V} {ns:List Lab.aL} (hn:ns.length<4294967296) (R:cz h0 v ns) (y4:cz h0 w ns):
 bU c 19 [v,w] h0 fun v1 h1=>v1= .bool true∧h1=h0:=by
 refine bU.dR D.f19 rfl (WP.af (I.az (.bool false) (I.nil (WP.seq (WP.af (I.val (v:= .n ns.length) (L.xh rfl R) (I.val (v:= .n ns.length) (L.xh rfl y4) (I.bR (L.neq rfl rfl) (fun c1=>by exfalso;omega) (fun c1=> ?_)))))))))
 refine I.aY (WP.skip (WP.seq (WP.af (I.az (.int .i64 0) (I.nil (WP.block (WP.dr (α:=Nat) (fun k env qA=>∃b2 eN c3,(k≤ns.length)∧env=cM [v,w,b2, .bool false, .n k,eN,c3] 0 Env.nil∧qA=h0) (fun k=>ns.length - k) 0 ?_ ?_)))))))
 ·exact ⟨(.bool false), .bot, .bot,Nat.zero_le _,by kernel_rfl,rfl⟩
 rintro k _ h ⟨b2,eN,c3,hk,rfl,rfl⟩
 refine WP.seq (WP.af (I.val (v:= .n ns.length) (L.xh rfl R) (I.bR (L.lss rfl rfl) (fun c1=> ?_) (fun c1=> ?_))))
 ·replace c1:k<ns.length:=by omega
  obtain ⟨x,hx⟩:=fp (l:=ns) (i:=k) (by omega)
  refine I.bh (WP.skip (WP.seq (WP.block (WP.seq (WP.draw (ae.v v (ae.v (.n k) (ae.val (v:= .ptr (ck v) (cu v+k * 1)) (L.vE R c1 rfl rfl) (ae.val (v:=L.str x) (L.load rfl (R.at hx)) (ae.v w (ae.v (.n k) (ae.val (v:= .ptr (ck w) (cu w+k * 1)) (L.vE y4 c1 rfl rfl) (ae.val (v:=L.str x) (L.load rfl (y4.at hx)) (ae.bR (L.wS rfl rfl) (fun _ c2=>by exfalso;exact c2 rfl) (fun _ c2=> ?_)))))))))))))))
  refine ae.aY (WP.skip (WP.aG (I.bX (v:= .n (k+1)) L.cB (I.nil ?_))))
  exact ⟨k+1,(by omega),b2,(.bool true),(.bool false),by omega,by kernel_rfl,rfl⟩
 ·replace c1:¬(k<ns.length):=by omega
  refine I.aY (WP.exit (WP.af (I.az (.bool true) (I.rt ?_))))
  exact ⟨_,(ca (.bool true)),rfl,rfl⟩
theorem MI {S:List Lab.aL} {s x:Lab.aL} {i:Nat} (h:∀x∈S.take i,x<s) (hx:S[i]? =some x) (rm:x<s):∀x∈S.take (i+1),x<s:=by
 intro y hy
 rw [List.take_add_one,hx] at hy
 rcases List.mem_append.1 hy with hy|hy
 ·exact h y hy
 ·have:y=x:=by simpa using hy
  exact this▸rm
theorem Et {S:List Lab.aL} {w y:Lab.aL} {q:Nat} (hy:S[q]? =some y):(S.take (q+1)++w::S.drop (q+1))[q]? =some y:=by
 have au:=(List.getElem?_eq_some_iff.1 hy).1
 rw [List.getElem?_append_left (by rw [List.length_take];omega),List.getElem?_take_of_lt (by omega)];exact hy
theorem y5 {S:List Lab.aL} {w s:Lab.aL} {k:Nat} (hk:k≤S.length):(S.take k++w::S.drop k).set k s=S.take k++s::S.drop k:=by
 have e:(S.take k).length=k:=by rw [List.length_take];omega
 rw [List.set_append_right _ _ (by omega),e,Nat.sub_self];rfl
theorem Eu {S:List Lab.aL} {w y:Lab.aL} {q:Nat} (hy:S[q]? =some y):(S.take (q+1)++w::S.drop (q+1)).set (q+1) y=S.take q++y::S.drop q:=by
 have au:=(List.getElem?_eq_some_iff.1 hy).1
 rw [y5 (by omega),List.take_add_one,hy,List.drop_eq_getElem_cons au,(List.getElem?_eq_some_iff.1 hy).2];simp
theorem y6 (D:sP c) {fs:List Fact} {h:ag} {bs:List Nat} {f:Nat} {v:V} {S:List Lab.aL} {s:Lab.aL} (hn:S.length<4294967296) (st:ak (.cX bs f 1 v (SR S)::fs) h):
 bU c 47 [v,L.str s] h fun v1 h1=>∃fM f1 S1,Lab.Ins S s S1∧ak (.cX fM f1 1 v1 (SR S1)::fs) h1:=by
 refine bU.dR D.f47 rfl (WP.af (I.az .U (I.af (I.az (.int .i64 0) (I.nil (WP.seq (WP.block (WP.dr (α:=Nat) (fun i env h=>∃ej,(i≤S.length∧∀x∈S.take i,x<s)∧env=cM [v,L.str s, .U, .n i,ej] 0 Env.nil∧ak (.cX bs f 1 v (SR S)::fs) h) (fun i=>S.length - i) 0 ?_ ?_))))))))
 ·exact ⟨.bot,⟨Nat.zero_le _,fun x hx=>by simp at hx⟩,by kernel_rfl,st⟩
 rintro i _ h ⟨ej,⟨aq,hlt⟩,rfl,st⟩
 refine WP.seq (WP.af (I.val (v:= .n S.length) (L.eB rfl (st.ib 0 rfl (by decide)) (eM _)) (I.eo (L.lss rfl rfl) (fun c1=> ?_) (fun c1=> ?_))))
 ·replace c1:i<S.length:=by omega
  obtain ⟨x,hx⟩:=fp (l:=S) (i:=i) (by omega)
  refine I.yes rfl (I.v v (I.yes rfl (I.v (.n i) (I.yes rfl (I.val (v:= .ptr (ck v) (cu v+i * 1)) (L.nr (st.ib 0 rfl (by decide)) (by rw [eM];omega) rfl rfl) (I.yes rfl (I.val (v:=L.str x) (L.load rfl ((st.ib 0 rfl (by decide)).tS (oM hx))) (I.yes rfl (I.v (L.str s) (I.yes rfl (I.eo (L.RX rfl rfl) (fun c2=> ?_) (fun c2=> ?_))))))))))))
  ·refine I.az (.bool true) (I.bh (WP.skip (WP.block (WP.aG (I.bX (v:= .n (i+1)) L.cB (I.nil ?_))))))
   exact ⟨i+1,(by omega),(.bool true),⟨by omega,MI hlt hx c2⟩,by kernel_rfl,st⟩
  ·have oE:∀z,S[i]? =some z→¬z<s:=fun z h=>by rw [hx] at h;cases h;exact c2
   refine I.az (.bool false) (I.aY (WP.exit (WP.seq (WP.af (I.val (v:= .n S.length) (L.eB rfl (st.ib 0 rfl (by decide)) (eM _)) (I.eo (L.lss rfl rfl) (fun _=> ?_) (fun oP=>by exfalso;omega)))))))
   refine I.yes rfl (I.v v (I.yes rfl (I.v (.n i) (I.yes rfl (I.val (v:= .ptr (ck v) (cu v+i * 1)) (L.nr (st.ib 0 rfl (by decide)) (by rw [eM];omega) rfl rfl) (I.yes rfl (I.val (v:=L.str x) (L.load rfl ((st.ib 0 rfl (by decide)).tS (oM hx))) (I.yes rfl (I.v (L.str s) (I.yes rfl (I.eo (L.seq rfl rfl) (fun cI=> ?_) (fun cI=> ?_))))))))))))
   ·refine I.az (.bool true) (I.bh (WP.af (I.az v (I.rt ?_))))
    exact ⟨_,(ca v),_,_,S,⟨i,aq,hlt,oE,(if_pos (by rw [hx,cI])).symm⟩,st⟩
   ·have bO:¬S[i]? =some s:=by rw [hx];intro e;exact cI (Option.some.inj e)
    refine I.az (.bool false) (I.aY (WP.skip (WP.af (I.eI (rows:=[[.str 0 0]]) st rfl (by decide) rfl (by simp) (fun HY h st=> ?_)))))
    refine I.HK (st.pick 1 rfl) rfl rfl (new:=[[V.str 0 0]]) (st.aS 0 rfl) (by decide) (by rw [eM];simp only [List.length_cons,List.length_nil];omega) (fun fM f1 v1 h st=> ?_)
    rw [show SR S++[[V.str 0 0]]=SR (S.take S.length++[]::S.drop S.length) from by rw [List.take_length,List.drop_length,nV];rfl] at st
    obtain ⟨b,rfl⟩:∃b,v1= .av b 0 (S.length+1) none:=Em (st.w9 0 rfl) (by rw [eM];simp) (by omega)
    refine I.nil (WP.seq (WP.af (I.val (v:= .n (S.length+1)) (L.qp rfl) (I.bX (v:= .n S.length) (L.iB rfl rfl (by omega) (And.intro (by omega) (by omega))) (I.nil (WP.block (WP.dr (α:=Nat) (fun k env h=>∃w dc,(i≤k∧k≤S.length)∧env=cM [.av b 0 (S.length+1) none,L.str s, .U, .n i, .bool false, .bool false, .n k,dc] 0 Env.nil∧ak (.cX fM f1 1 (.av b 0 (S.length+1) none) (SR (S.take k++w::S.drop k))::fs) h) (fun k=>k) S.length ?_ ?_)))))))
    ·exact ⟨[], .bot,⟨aq,Nat.le_refl _⟩,by kernel_rfl,(st.pick 1 rfl).tail⟩
    rintro k _ h ⟨w,dc,⟨F1,hk⟩,rfl,st⟩
    refine WP.seq (WP.af (I.bR (L.gtr rfl rfl) (fun dv=> ?_) (fun dv=> ?_)))
    ·obtain ⟨q,rfl⟩:∃q,k=q+1:=⟨k - 1,by omega⟩
     obtain ⟨y,hy⟩:=fp (l:=S) (i:=q) (by omega)
     refine I.bh (WP.skip (WP.seq (WP.block (WP.aG (I.val (v:= .n q) (L.iB rfl rfl (by omega) (And.intro (by omega) (by omega))) (I.val (v:= .ptr b (0+q * 1)) (L.bQ rfl rfl (by omega)) (I.val (v:=L.str y) (L.load rfl ((st.ib 0 rfl (by decide)).eZ (oM (Et hy)))) (I.val (v:= .ptr b (0+(q+1) * 1)) (L.bQ rfl rfl (by omega)) (I.vA st rfl rfl (by decide) (by rw [eM];simp;omega) rfl (fun h st=> ?_))))))))))
     replace st:ak (.cX fM f1 1 (.av b 0 (S.length+1) none) (SR (S.take q++y::S.drop q))::fs) h:=by rw [←Eu hy (w:=w),←vC];exact st
     refine I.nil (WP.aG (I.bX (v:= .n q) (L.iB rfl rfl (by omega) (And.intro (by omega) (by omega))) (I.nil ?_)))
     exact ⟨q,(by omega),y,(.bool true),⟨by omega,by omega⟩,by kernel_rfl,st⟩
    ·obtain rfl:k=i:=by omega
     refine I.aY (WP.exit (WP.af (I.val (v:= .ptr b (0+k * 1)) (L.bQ rfl rfl (by omega)) (I.vA st rfl rfl (by decide) (by rw [eM];simp;omega) rfl (fun h st=> ?_)))))
     replace st:ak (.cX fM f1 1 (.av b 0 (S.length+1) none) (SR (S.take k++s::S.drop k))::fs) h:=by rw [←y5 (w:=w) (show k≤S.length by omega),←vC];exact st
     refine I.af (I.az (.av b 0 (S.length+1) none) (I.rt ?_))
     exact ⟨_,(ca (.av b 0 (S.length+1) none)),_,_,_,⟨k,by omega,hlt,oE,(if_neg bO).symm⟩,st⟩
 ·replace c1:¬i<S.length:=by omega
  have hx:S[i]? =none:=List.getElem?_eq_none (by omega)
  have oE:∀x,S[i]? =some x→¬x<s:=fun x h=>by rw [hx] at h;cases h
  have bO:¬S[i]? =some s:=by rw [hx];simp
  refine I.gK (I.eP (I.az (.bool false) (I.aY (WP.exit (WP.seq (WP.af (I.val (v:= .n S.length) (L.eB rfl (st.ib 0 rfl (by decide)) (eM _)) (I.eo (L.lss rfl rfl) (fun oP=>by exfalso;omega) (fun _=> ?_)))))))))
  refine I.gK (I.eP (I.az (.bool false) (I.aY (WP.skip (WP.af (I.eI (rows:=[[.str 0 0]]) st rfl (by decide) rfl (by simp) (fun HZ h st=> ?_)))))))
  refine I.HK (st.pick 1 rfl) rfl rfl (new:=[[V.str 0 0]]) (st.aS 0 rfl) (by decide) (by rw [eM];simp only [List.length_cons,List.length_nil];omega) (fun fM f1 v1 h st=> ?_)
  rw [show SR S++[[V.str 0 0]]=SR (S.take S.length++[]::S.drop S.length) from by rw [List.take_length,List.drop_length,nV];rfl] at st
  obtain ⟨b,rfl⟩:∃b,v1= .av b 0 (S.length+1) none:=Em (st.w9 0 rfl) (by rw [eM];simp) (by omega)
  refine I.nil (WP.seq (WP.af (I.val (v:= .n (S.length+1)) (L.qp rfl) (I.bX (v:= .n S.length) (L.iB rfl rfl (by omega) (And.intro (by omega) (by omega))) (I.nil (WP.block (WP.dr (α:=Nat) (fun k env h=>∃w dc,(i≤k∧k≤S.length)∧env=cM [.av b 0 (S.length+1) none,L.str s, .U, .n i, .bool false, .bool false, .n k,dc] 0 Env.nil∧ak (.cX fM f1 1 (.av b 0 (S.length+1) none) (SR (S.take k++w::S.drop k))::fs) h) (fun k=>k) S.length ?_ ?_)))))))
  ·exact ⟨[], .bot,⟨aq,Nat.le_refl _⟩,by kernel_rfl,(st.pick 1 rfl).tail⟩
  rintro k _ h ⟨w,dc,⟨F1,hk⟩,rfl,st⟩
  refine WP.seq (WP.af (I.bR (L.gtr rfl rfl) (fun dv=> ?_) (fun dv=> ?_)))
  ·obtain ⟨q,rfl⟩:∃q,k=q+1:=⟨k - 1,by omega⟩
   obtain ⟨y,hy⟩:=fp (l:=S) (i:=q) (by omega)
   refine I.bh (WP.skip (WP.seq (WP.block (WP.aG (I.val (v:= .n q) (L.iB rfl rfl (by omega) (And.intro (by omega) (by omega))) (I.val (v:= .ptr b (0+q * 1)) (L.bQ rfl rfl (by omega)) (I.val (v:=L.str y) (L.load rfl ((st.ib 0 rfl (by decide)).eZ (oM (Et hy)))) (I.val (v:= .ptr b (0+(q+1) * 1)) (L.bQ rfl rfl (by omega)) (I.vA st rfl rfl (by decide) (by rw [eM];simp;omega) rfl (fun h st=> ?_))))))))))
   replace st:ak (.cX fM f1 1 (.av b 0 (S.length+1) none) (SR (S.take q++y::S.drop q))::fs) h:=by rw [←Eu hy (w:=w),←vC];exact st
   refine I.nil (WP.aG (I.bX (v:= .n q) (L.iB rfl rfl (by omega) (And.intro (by omega) (by omega))) (I.nil ?_)))
   exact ⟨q,(by omega),y,(.bool true),⟨by omega,by omega⟩,by kernel_rfl,st⟩
  ·obtain rfl:k=i:=by omega
   refine I.aY (WP.exit (WP.af (I.val (v:= .ptr b (0+k * 1)) (L.bQ rfl rfl (by omega)) (I.vA st rfl rfl (by decide) (by rw [eM];simp;omega) rfl (fun h st=> ?_)))))
   replace st:ak (.cX fM f1 1 (.av b 0 (S.length+1) none) (SR (S.take k++s::S.drop k))::fs) h:=by rw [←y5 (w:=w) (show k≤S.length by omega),←vC];exact st
   refine I.af (I.az (.av b 0 (S.length+1) none) (I.rt ?_))
   exact ⟨_,(ca (.av b 0 (S.length+1) none)),_,_,_,⟨k,by omega,hlt,oE,(if_neg bO).symm⟩,st⟩
theorem abR (D:sP c) {fs:List Fact} {h:ag} {w v:V} {xs ns:List Lab.aL} (Bs:xs.length+ns.length<2147483648) (st:ak (.ay (fun h=>cz h w xs):: .ay (fun h=>cz h v ns)::fs) h):
 bU c 20 [w,v] h fun v1 h1=>∃bs f,ak (.cX bs f 1 v1 (SR (jZ (xs++ns))):: .ay (fun h=>cz h w xs):: .ay (fun h=>cz h v ns)::fs) h1:=by
 refine bU.dR D.f20 rfl (WP.af (I.az .U (I.af (I.az .U (I.nil (WP.seq (WP.af (I.az (.int .i64 0) (I.nil (WP.block ?_))))))))))
 replace st:ak (.cX ([]) 0 1 .U ([]):: .ay (fun h=>cz h w xs):: .ay (fun h=>cz h v ns)::fs) h:=st.xa 1
 refine WP.dr (α:=Nat) (fun i env h=>∃bs f cO S ej,(i≤xs.length∧Lab.Seen (lX (xs.take i)) S∧S.length≤i)∧env=cM [w,v, .U, .n i,ej,cO] 0 Env.nil∧ak (.cX bs f 1 cO (SR S):: .ay (fun h=>cz h w xs):: .ay (fun h=>cz h v ns)::fs) h) (fun i=>xs.length - i) 0 ?_ ?_
 ·exact ⟨[],0, .U,[], .bot,⟨Nat.zero_le _,Lab.Seen.nil,Nat.zero_le _⟩,by kernel_rfl,st⟩
 rintro i _ h ⟨bs,f,cO,S,ej,⟨aq,kt,kb⟩,rfl,st⟩
 refine WP.seq (WP.af (I.val (v:= .n xs.length) (L.xh rfl (st.aS 1 rfl)) (I.bR (L.lss rfl rfl) (fun c1=> ?_) (fun c1=> ?_))))
 ·replace c1:i<xs.length:=by omega
  obtain ⟨y,hx⟩:=fp (l:=xs) (i:=i) (by omega)
  refine I.bh (WP.skip (WP.seq (WP.block (WP.aG (I.val (v:= .ptr (ck w) (cu w+i * 1)) (L.vE (st.aS 1 rfl) c1 rfl rfl) (I.val (v:=L.str y) (L.load rfl (cz.at (st.aS 1 rfl) hx)) (I.dU rfl (y6 D (by omega) st) ?_)))))))
  rintro w1 h ⟨fM,f1,S1,sQ,st⟩
  have pB:=sQ.len
  refine I.nil (WP.aG (I.bX (v:= .n (i+1)) L.cB (I.nil ?_)))
  exact ⟨i+1,(by omega),fM,f1,w1,S1,(.bool true),⟨by omega,(by have:=kt.one (p:=(y,[])) sQ rfl;rw [←HU hx] at this;exact this),by omega⟩,by kernel_rfl,st⟩
 ·replace c1:¬(i<xs.length):=by omega
  refine I.aY (WP.exit (WP.seq (WP.af (I.az (.int .i64 0) (I.nil (WP.block (WP.dr (α:=Nat) (fun j env h=>∃bs f cO S dc,(j≤ns.length∧Lab.Seen (lX xs++lX (ns.take j)) S∧S.length≤xs.length+j)∧env=cM [w,v, .U, .n i, .bool false,cO, .n j,dc] 0 Env.nil∧ak (.cX bs f 1 cO (SR S):: .ay (fun h=>cz h w xs):: .ay (fun h=>cz h v ns)::fs) h) (fun j=>ns.length - j) 0 ?_ ?_)))))))
  ·exact ⟨bs,f,cO,S, .bot,⟨Nat.zero_le _,(by rw [List.take_of_length_le (by omega)] at kt;rw [List.take_zero,show lX ([]:List Lab.aL)=[] from rfl,List.append_nil];exact kt),by omega⟩,by kernel_rfl,st⟩
  rintro j _ h ⟨bs,f,cO,S,dc,⟨aq,kt,kb⟩,rfl,st⟩
  refine WP.seq (WP.af (I.val (v:= .n ns.length) (L.xh rfl (st.aS 2 rfl)) (I.bR (L.lss rfl rfl) (fun c1=> ?_) (fun c1=> ?_))))
  ·replace c1:j<ns.length:=by omega
   obtain ⟨y,hx⟩:=fp (l:=ns) (i:=j) (by omega)
   refine I.bh (WP.skip (WP.seq (WP.block (WP.aG (I.val (v:= .ptr (ck v) (cu v+j * 1)) (L.vE (st.aS 2 rfl) c1 rfl rfl) (I.val (v:=L.str y) (L.load rfl (cz.at (st.aS 2 rfl) hx)) (I.dU rfl (y6 D (by omega) st) ?_)))))))
   rintro w1 h ⟨fM,f1,S1,sQ,st⟩
   have pB:=sQ.len
   refine I.nil (WP.aG (I.bX (v:= .n (j+1)) L.cB (I.nil ?_)))
   exact ⟨j+1,(by omega),fM,f1,w1,S1,(.bool true),⟨by omega,(by have:=kt.one (p:=(y,[])) sQ rfl;rw [List.append_assoc,←HU hx] at this;exact this),by omega⟩,by kernel_rfl,st⟩
  ·replace c1:¬(j<ns.length):=by omega
   refine I.aY (WP.exit (WP.af (I.az cO (I.rt ?_))))
   rw [List.take_of_length_le (by omega)] at kt
   have abS:S=jZ (xs++ns):=by rw [kt.is,←R1];unfold lX;rw [List.map_append]
   rw [abS] at st
   exact ⟨_,(ca cO),_,_,st⟩
end
end Go.Eng.YtmcjcbldmoijiaaGreatDoor
namespace Go.Eng.YtmcjcbldmoijiaaGreatDoor
open Go.Eng
noncomputable section
variable {c:Ctx}
structure sR (c:Ctx):Prop where
 f17:T.get 17 c.cF=some i17
 f44:T.get 44 c.cF=some i44
 f45:T.get 45 c.cF=some i45
 f74:T.get 74 c.cF=some i74
 f78:T.get 78 c.cF=some i78
 sort:∀args h r,ua 77 77 args h=r→r≠.bad→iL c 77 args h r
 grow:∀args h r,Bm 79 79 args h=r→r≠.bad→iL c 79 args h r
theorem abT (D:sR c) {fs:List Fact} {h:ag} {v:V} {l:List Lab.aL} (hn:l=[]→v= .U) (au:l.length<4294967296) (st:ak (.ay (fun h=>cz h v l)::fs) h):
 bU c 74 [v] h fun v1 h1=>∃bs f,ak (.cX bs f 1 v1 (SR l):: .ay (fun h=>cz h v l)::fs) h1:=by
 refine bU.dR D.f74 rfl (WP.af (I.az .U (I.nil (WP.ss (WP.aG ?_)))))
 have cA:cz h v l:=st.aS 0 rfl
 by_cases aE:v= .U
 ·subst aE
  obtain rfl:l=[]:=by
   rcases cA with ⟨_,e⟩|⟨_,_,_,e,_⟩
   ·exact e
   ·cases e
  refine I.bX (v:= .bool true) (L.RG rfl rfl) (I.bh (WP.af (I.az .U (I.rt ?_))))
  exact ⟨_,(ca .U),[],0,ak.xa st 1⟩
 ·have bO:l≠[]:=fun e=>aE (hn e)
  have Gu:0<l.length:=List.length_pos_iff.2 bO
  have hj:=cA.av (i:=0) Gu
  refine I.bX (v:= .bool false) (L.abo hj rfl) (I.aY (WP.skip (WP.af (I.abp (rows:=[]) st rfl (by decide) rfl (fun row hm=>by cases hm) (fun H0 h gw st=> ?_)))))
  refine I.abO st rfl gw rfl (st.aS 1 rfl) Gu (by omega) (fun bs f R4 h st=> ?_)
  refine I.rt ?_
  exact ⟨_,(ca R4),bs,f,(st.pick 1 rfl).tail⟩
theorem abU {S:List Lab.aL} (h:S.length<2):Lab.uniq S=S:=by
 match S,h with
 |[],_=>rfl
 |[x],_=>rfl
theorem abV (D:sR c) {fs:List Fact} {h:ag} {bs:List Nat} {f b:Nat} {S:List Lab.aL} (hn:S.length<4294967296) (st:ak (.cX bs f 1 (.av b 0 S.length none) (SR S)::fs) h):
 bU c 78 [.av b 0 S.length none] h fun v1 h1=>v1= .av b 0 (Lab.uniq S).length none∧ak (.cX bs f 1 (.av b 0 (Lab.uniq S).length none) (SR (Lab.uniq S))::fs) h1:=by
 refine bU.dR D.f78 rfl (WP.af (I.az .U (I.nil (WP.seq (WP.af (I.val (v:= .n S.length) (L.qp rfl) (I.bR (L.lss rfl rfl) (fun dj=> ?_) (fun dj=> ?_))))))))
 ·replace dj:S.length<2:=by omega
  refine I.bh (WP.af (I.az (.av b 0 S.length none) (I.rt ?_)))
  have hu:Lab.uniq S=S:=abU (by omega)
  exact ⟨_,(ca (.av b 0 S.length none)),(by rw [hu];rfl),(by rw [hu];exact st)⟩
 ·replace dj:¬S.length<2:=by omega
  refine I.aY (WP.skip (WP.seq (WP.af (I.az (.int .i64 1) (I.nil (WP.block (WP.dr (α:=Nat) (fun k env h=>∃x1 ej eN c3 dc fi ic,(1≤k∧k≤S.length∧Lab.uniq (S.take k)=S.take k)∧env=cM [.av b 0 S.length none,x1, .bool false, .n k,ej,eN,c3,dc,fi,ic] 0 Env.nil∧ak (.cX bs f 1 (.av b 0 S.length none) (SR S)::fs) h) (fun k=>S.length - k) 1 ?_ ?_)))))))
  ·exact ⟨.U, .bot, .bot, .bot, .bot, .bot, .bot,⟨by omega,by omega,Lab.abi S⟩,by kernel_rfl,st⟩
  rintro k _ h ⟨x1,ej,eN,c3,dc,fi,ic,⟨sH,wv,hu⟩,rfl,st⟩
  refine WP.seq (WP.af (I.val (v:= .n S.length) (L.qp rfl) (I.bR (L.lss rfl rfl) (fun c1=> ?_) (fun c1=> ?_))))
  ·replace c1:k<S.length:=by omega
   obtain ⟨x,hx⟩:=fp (l:=S) (i:=k) (by omega)
   obtain ⟨y,hy⟩:∃y,S[k - 1]? =some y:=⟨S[k - 1]'(by omega),List.getElem?_eq_getElem (by omega)⟩
   refine I.bh (WP.skip (WP.seq (WP.block (WP.seq (WP.draw (ae.v (.av b 0 S.length none) (ae.v (.n k) (ae.val (v:= .ptr b (0+k * 1)) (L.bQ rfl rfl (by omega)) (ae.val (v:=L.str x) (L.load rfl ((st.ib 0 rfl (by decide)).eZ (oM hx))) (ae.v (.av b 0 S.length none) (ae.v (.n k) (ae.val (v:= .n (k - 1)) (L.iB rfl rfl (by omega) (And.intro (by omega) (by omega))) (ae.val (v:= .ptr b (0+(k - 1) * 1)) (L.bQ rfl rfl (by omega)) (ae.val (v:=L.str y) (L.load rfl ((st.ib 0 rfl (by decide)).eZ (oM hy))) (ae.bR (L.seq rfl rfl) (fun _ cI=> ?_) (fun _ cI=> ?_))))))))))))))))
   ·refine ae.bh (WP.af (I.bX (v:= .av b (0+k * 1) (S.length - k) none) (L.kF rfl (st.ib 0 rfl (by decide)) rfl rfl (by omega) (Nat.le_refl _)) (I.nil (WP.seq (WP.af (I.az (.int .i64 1) (I.nil (WP.block (WP.dr (α:=Nat) (fun j env h=>∃q R fi ic,(Lab.pz S R k j q)∧env=cM [.av b 0 S.length none,x1, .bool false, .n q, .bool true, .bool true, .av b (0+k * 1) (S.length - k) none, .n j,fi,ic] 0 Env.nil∧ak (.cX bs f 1 (.av b 0 S.length none) (SR R)::fs) h) (fun j=>S.length - j) 1 ?_ ?_)))))))))
    ·exact ⟨k,S,fi,ic,Lab.pz.start sH hu hx (by rw [hy,cI]),by kernel_rfl,st⟩
    rintro j _ h ⟨q,R,fi,ic,ci,rfl,st⟩
    refine WP.seq (WP.af (I.val (v:= .n (S.length - k)) (L.qp rfl) (I.bR (L.lss rfl rfl) (fun dv=> ?_) (fun dv=> ?_))))
    ·replace dv:j<S.length - k:=by omega
     have nH:k+j<S.length:=by omega
     obtain ⟨b2,lj⟩:∃x,S[k+j]? =some x:=⟨S[k+j]'(by omega),List.getElem?_eq_getElem (by omega)⟩
     obtain ⟨oL,MJ⟩:∃y,S[k+j - 1]? =some y:=⟨S[k+j - 1]'(by omega),List.getElem?_eq_getElem (by omega)⟩
     have CD:=ci.o7
     have aiW:=ci.Ej
     have Eg:=ci.len
     have R5:R[k+j]? =some b2:=by rw [ci.at (by omega)];exact lj
     have abW:R[k+j - 1]? =some oL:=by rw [ci.at (by omega)];exact MJ
     refine I.bh (WP.skip (WP.seq (WP.block (WP.seq (WP.draw (ae.v (.av b (0+k * 1) (S.length - k) none) (ae.v (.n j) (ae.val (v:= .ptr b (0+k * 1+j * 1)) (L.bQ rfl rfl (by omega)) (ae.val (v:=L.str b2) (L.load rfl (by rw [show 0+k * 1+j * 1=0+(k+j) * 1 by omega];exact (st.ib 0 rfl (by decide)).eZ (oM R5))) ?_)))))))))
     refine ae.v (.av b (0+k * 1) (S.length - k) none) (ae.v (.n j) (ae.val (v:= .n (j - 1)) (L.iB rfl rfl (by omega) (And.intro (by omega) (by omega))) (ae.val (v:= .ptr b (0+k * 1+(j - 1) * 1)) (L.bQ rfl rfl (by omega)) (ae.val (v:=L.str oL) (L.load rfl (by rw [show 0+k * 1+(j - 1) * 1=0+(k+j - 1) * 1 by omega];exact (st.ib 0 rfl (by decide)).eZ (oM abW))) ?_))))
     refine ae.bR (L.wS rfl rfl) (fun _ eu=> ?_) (fun _ eu=> ?_)
     ·refine ae.bh (WP.af (I.val (v:= .ptr b (0+k * 1+j * 1)) (L.bQ rfl rfl (by omega)) (I.val (v:=L.str b2) (L.load rfl (by rw [show 0+k * 1+j * 1=0+(k+j) * 1 by omega];exact (st.ib 0 rfl (by decide)).eZ (oM R5))) ?_)))
      refine I.val (v:= .ptr b (0+q * 1)) (L.bQ rfl rfl (by omega)) (I.vA st rfl rfl (by decide) (by rw [eM];omega) rfl (fun h st=> ?_))
      replace st:ak (.cX bs f 1 (.av b 0 S.length none) (SR (R.set q b2))::fs) h:=by rw [←vC];exact st
      refine I.nil (WP.aG (I.bX (v:= .n (q+1)) L.cB (I.nil (WP.aG (I.bX (v:= .n (j+1)) L.cB (I.nil ?_))))))
      exact ⟨j+1,(by have:=ci.le;omega),(q+1),(R.set q b2),(.bool true),(.bool true),ci.put lj MJ eu,by kernel_rfl,st⟩
     ·refine ae.aY (WP.skip (WP.aG (I.bX (v:= .n (j+1)) L.cB (I.nil ?_))))
      exact ⟨j+1,(by have:=ci.le;omega),q,R,(.bool true),(.bool false),ci.skip lj (by rw [MJ,Decidable.not_not.1 eu]),by kernel_rfl,st⟩
    ·replace dv:¬j<S.length - k:=by omega
     have hle:=ci.le
     refine I.aY (WP.exit (WP.af (I.val (v:= .av b (0+q * 1) (S.length - q) none) (L.kF rfl (st.ib 0 rfl (by decide)) rfl rfl (by have:=ci.Ej;have:=ci.le;omega) (Nat.le_refl _)) ?_)))
     have bC:=(ci.done (by omega)).2.2
     have Eg:=ci.len
     refine I.abf st rfl (by decide) rfl (by omega) (by rw [eM];omega) (fun h st=> ?_)
     refine I.af (I.bX (v:= .av b 0 q none) (L.kF rfl (st.ib 0 rfl (by decide)) rfl rfl (Nat.zero_le _) (by omega)) (I.rt ?_))
     obtain ⟨d1,d2,d3⟩:=ci.done (by omega)
     have s2:=st.Ro (k:=q) (by omega)
     rw [List.take_left' (by rw [List.length_take,eM,ci.len];omega),abg,d2,d1] at s2
     exact ⟨_,(ca (.av b 0 q none)),(by rw [d1];rfl),s2⟩
   ·refine ae.aY (WP.skip (WP.aG (I.bX (v:= .n (k+1)) L.cB (I.nil ?_))))
    exact ⟨k+1,(by omega),x1,(.bool true),(.bool false),c3,dc,fi,ic,⟨by omega,by omega,Lab.abh sH hu hx hy cI⟩,by kernel_rfl,st⟩
  ·replace c1:¬k<S.length:=by omega
   refine I.aY (WP.exit (WP.af (I.az (.av b 0 S.length none) (I.rt ?_))))
   have gS:Lab.uniq S=S:=by rw [List.take_of_length_le (by omega)] at hu;exact hu
   exact ⟨_,(ca (.av b 0 S.length none)),(by rw [gS];rfl),(by rw [gS];exact st)⟩
theorem R6 (D:sR c) {fs:List Fact} {h:ag} (st:ak fs h):
 bU c 78 [.U] h fun v1 h1=>v1= .U∧ak fs h1:=by
 refine bU.dR D.f78 rfl (WP.af (I.az .U (I.nil (WP.seq (WP.af (I.val (v:= .n (0)) (L.AU rfl) (I.bR (L.lss rfl rfl) (fun c1=> ?_) (fun c1=>by exfalso;omega))))))))
 refine I.bh (WP.af (I.az .U (I.rt ?_)))
 exact ⟨_,(ca .U),rfl,st⟩
theorem abX (D:sR c) {fs:List Fact} {h:ag} {bs:List Nat} {f:Nat} {v:V} {S:List Lab.aL} (hn:S.length<4294967296) (st:ak (.cX bs f 1 v (SR S)::fs) h):
 bU c 78 [v] h fun v1 h1=>ak (.cX bs f 1 v1 (SR (Lab.uniq S))::fs) h1:=by
 obtain ⟨_,_,a⟩:=st.HH
 have au:=eM S
 generalize cA:SR S=R at st a au
 cases a with
 |nil=>
  obtain rfl:S=[]:=by simpa using au.symm
  obtain ⟨v1,h1,aT,rfl,s1⟩:=R6 D st
  exact ⟨_,_,aT,cA▸s1⟩
 |row=>
  rw [au] at st ⊢
  rw [←cA] at st
  obtain ⟨v1,h1,aT,rfl,s1⟩:=abV D hn st
  exact ⟨_,_,aT,s1⟩
theorem abY (D:sR c) {fs:List Fact} {h:ag} (st:ak fs h):
 bU c 74 [.U] h fun v1 h1=>v1= .U∧ak fs h1:=by
 refine bU.dR D.f74 rfl (WP.af (I.az .U (I.nil (WP.seq (WP.af (I.bX (v:= .bool true) (L.RG rfl rfl) (I.bh (WP.af (I.az .U (I.rt ?_))))))))))
 exact ⟨_,(ca .U),rfl,st⟩
theorem abZ (D:sR c) {fs:List Fact} {h:ag} (st:ak fs h):
 bU c 44 [.U] h fun v1 h1=>v1= .U∧ak fs h1:=by
 refine bU.dR D.f44 rfl (WP.af (I.az .U (I.af (I.dU rfl (abY D st) ?_))))
 rintro _ h ⟨rfl,st⟩
 refine I.af (I.bD rfl (Rr D.sort (ss:=[]) (by decide) (st.xa 1)) ?_)
 rintro _ h st
 replace st:ak (fs) h:=ak.tail st
 refine I.af (I.dU rfl (R6 D st) ?_)
 rintro _ h ⟨rfl,st⟩
 refine I.af (I.val (v:= .n (0)) (L.AU rfl) (I.val (v:= .n (0)) (L.AU rfl) (I.az .U (I.rt ?_))))
 exact ⟨_,(ca .U),rfl,st⟩
theorem ab0 (D:sR c) {fs:List Fact} {h:ag} {v:V} {l:List Lab.aL} (bO:l≠[]) (hn:l.length<4294967296) (st:ak (.ay (fun h=>cz h v l)::fs) h):
 bU c 44 [v] h fun v1 h1=>ak (.ay (fun h=>Rows 1 h v1 (SR (jZ l))):: .ay (fun h=>cz h v l)::fs) h1:=by
 refine bU.dR D.f44 rfl (WP.af (I.az .U (I.af (I.dU rfl (abT D (fun e=>absurd e bO) hn st) ?_))))
 rintro R4 h ⟨bs,f,st⟩
 refine I.af (I.bD rfl (Rr D.sort (ss:=l) hn st) ?_)
 rintro _ h st
 refine I.af (I.dU rfl (abX D (S:=jD l) (by rw [(w8 l).length_eq];exact hn) st) ?_)
 rintro ab1 h st
 rw [show Lab.uniq (jD l)=jZ l from rfl] at st
 have Bt:=RZ l
 have ja:¬(jZ l).length=0:=fun e=>bO (by cases l with|nil=>rfl|cons a l=>exact absurd ((MH (a::l) a).2 (by simp)) (by rw [List.length_eq_zero_iff.1 e];simp))
 obtain ⟨hJ,rfl⟩:∃hJ,ab1= .av hJ 0 (jZ l).length none:=Em (st.w9 0 rfl) (eM _) ja
 refine I.af (I.val (v:= .int .i64 ((jZ l).length:Int)) (L.qp rfl) (I.val (v:= .int .i64 ((jZ l).length:Int)) (L.qp rfl) (I.bX (v:= .av hJ (0+0 * 1) ((jZ l).length - 0) (some ((jZ l).length - 0))) (L.abd rfl rfl rfl rfl (by omega) (Nat.zero_le _) (Nat.le_refl _) (Nat.le_refl _) (by omega)) (I.rt ?_))))
 exact ⟨_,(cT (fS (v:= .av hJ (0+0 * 1) ((jZ l).length - 0) (some ((jZ l).length - 0))) rfl) (fo _ _)),(st.Bj (by decide)).fD fun h hx=>Rows.cap hx⟩
theorem ab2 (D:sR c) {fs:List Fact} {h:ag} {v:V} {l:List Lab.aL} (hz:l=[]→v= .U) (hn:l.length<4294967296) (st:ak (.ay (fun h=>cz h v l)::fs) h):
 bU c 44 [v] h fun v1 h1=>ak (.ay (fun h=>Rows 1 h v1 (SR (jZ l))):: .ay (fun h=>cz h v l)::fs) h1:=by
 by_cases e:l=[]
 ·subst e
  rw [hz rfl] at st ⊢
  obtain ⟨v1,h1,r,rfl,s1⟩:=abZ D st
  exact ⟨_,_,r,ak.nn (P:=fun h=>Rows 1 h .U (SR [])) s1 fun _=> .nil⟩
 ·exact ab0 D e hn st
end
end Go.Eng.YtmcjcbldmoijiaaGreatDoor
