/- Part of a proof of a law: rules of an evaluator, contracts, plain laws. No condition of its own. -/
import Derived.Test.YtjgmahbgfbkhnaaCodeA
import Derived.Test.YtjgmahbgfbkhnaaSymA
set_option linter.unusedVariables false
set_option linter.unusedSimpArgs false
namespace Go.Eng.Ytjgmahbgfbkhnaa
open Go.Eng
noncomputable section
variable {c:Ctx} {h:Heap}
theorem WD.storeT {fs:List Fact} {ob oo n:Nat} {bs:List Nat} {M:List (List Bool)} {Q:QT} {x y:A} {l:List Opd} {vs:List V} {lg:List Log} {env:Env} {a b j:Nat} {r:List Bool} {t:Bool} (st:St (.stb (gL ob oo n bs)::(dN bs M++fs)) h) (hx:x.ev vs env= .ptr b (0+j * 1)) (hy:y.ev vs env= .bool t) (hb:bs[a]? =some b) (hr:M[a]? =some r) (hj:j<r.length)
 (K:∀h1,St (.stb (gL ob oo n bs)::(dN bs (M.set a (r.set j t))++fs)) h1→WD c l Q (un::vs) (.no::lg) env h1):WD c (⟨.p (.H (.store 1 x y)),[]⟩::l) Q vs lg env h:=by
 obtain ⟨t',h8,h1,h2,h3⟩:=FU st hb hr hj t
 exact WD.act (fun _=>L.sW (v:= .bool t) hx (by rw [hy];rfl) h8 h1 h2 hj) rfl (K _ h3)
theorem WO.storeT {fs:List Fact} {ob oo n:Nat} {bs:List Nat} {M:List (List Bool)} {Q:QT} {x y:A} {l:List Opr} {vs:List V} {env:Env} {a b j:Nat} {r:List Bool} {t:Bool} (st:St (.stb (gL ob oo n bs)::(dN bs M++fs)) h) (hx:x.ev vs env= .ptr b (0+j * 1)) (hy:y.ev vs env= .bool t) (hb:bs[a]? =some b) (hr:M[a]? =some r) (hj:j<r.length)
 (K:∀h1,St (.stb (gL ob oo n bs)::(dN bs (M.set a (r.set j t))++fs)) h1→WO c l Q (un::vs) env h1):WO c (.p (.H (.store 1 x y))::l) Q vs env h:=by
 obtain ⟨t',h8,h1,h2,h3⟩:=FU st hb hr hj t
 exact WO.act (fun _=>L.sW (v:= .bool t) hx (by rw [hy];rfl) h8 h1 h2 hj) (K _ h3)
theorem getD_some {α:Type} {l:List α} {i:Nat} {x d:α} (h:l[i]? =some x):(l[i]?).getD d=x:=by rw [h];rfl
theorem set_self {α:Type} {l:List α} {a:Nat} {r:α} (h:l[a]? =some r):l.set a r=l:=by
 apply List.ext_getElem?
 intro i
 rw [List.getElem?_set]
 by_cases e:a=i
 ·subst e;rw [if_pos rfl,if_pos (List.getElem?_eq_some_iff.1 h).1,h]
 ·rw [if_neg e]
theorem J6 (H:T.get 26 c.aR=some i26) {fs:List Fact} {ob oo n:Nat} {cap:Option Nat} {bs:List Nat} {M:List (List Bool)} (hn:n<4294967296) (hbs:bs.length=n) (sq:Sq n M) (st:St (.stb (gL ob oo n bs)::(dN bs M++fs)) h):
 aM c 26 [.sl ob oo n cap] h fun _ h1=>St (.stb (gL ob oo n bs)::(dN bs (Lab.closed n M)++fs)) h1:=by
 have hbs':∀a,a<n→∃b,bs[a]? =some b:=fun a ha=>⟨bs[a]'(by omega),List.getElem?_eq_getElem (by omega)⟩
 refine aM.bX H rfl (WP.seq (WP.reg (WO.ak (v:= .int .i64 (n:Int)) (L.llen rfl) (WO.ak (v:= .int .i64 0) rfl (WO.nil (WP.block (WP.bT (α:=Nat) (fun k env h1=>∃x3 x4 x5 x6 x7 x8 x9 x10 x11 x12 x13,k≤n∧env=aO [.sl ob oo n cap, .int .i64 (k:Int), .int .i64 (n:Int),x3,x4,x5,x6,x7,x8,x9,x10,x11,x12,x13] 0 Env.nil∧St (.stb (gL ob oo n bs)::(dN bs (Lab.closed k M)++fs)) h1) (fun k=>n - k) 0 ⟨.bot, .bot, .bot, .bot, .bot, .bot, .bot, .bot, .bot, .bot, .bot,Nat.zero_le _,by kernel_rfl,st⟩ ?_)))))))
 rintro k _ h ⟨x3,x4,x5,x6,x7,x8,x9,x10,x11,x12,x13,hk,rfl,st⟩
 refine WP.seq (WP.reg (WO.ifS (L.lss rfl rfl) (fun c1=>WO.nil ?_) (fun c1=>WO.nil ?_)))
 ·have hkn:k<n:=by omega
  obtain ⟨Mk,hMk⟩:∃Mk,Mk=Lab.closed k M:=⟨_,rfl⟩
  have sqk:Sq n Mk:=hMk▸Lab.eU sq k hk
  rw [←hMk] at st
  obtain ⟨rk,hrk,hrkl⟩:=sqk.at hkn
  refine WP.seq (WP.cond (t:=true) rfl (WP.skip (WP.seq (WP.block (WP.seq (WP.reg (WO.ak (v:= .int .i64 (k:Int)) rfl (WO.nil (WP.seq (WP.skip (WP.seq (WP.reg (WO.ak (v:= .int .i64 (n:Int)) (L.llen rfl) (WO.ak (v:= .int .i64 0) rfl (WO.nil (WP.block (WP.bT (α:=Nat) (fun a env h1=>∃x6 x7 x9 x10 x11 x12 x13,a≤n∧env=aO [.sl ob oo n cap, .int .i64 (k:Int), .int .i64 (n:Int), .bool true, .int .i64 (a:Int), .int .i64 (n:Int),x6,x7, .int .i64 (k:Int),x9,x10,x11,x12,x13] 0 Env.nil∧St (.stb (gL ob oo n bs)::(dN bs (Lab.bS k a Mk)++fs)) h1) (fun a=>n - a) 0 ⟨x6,x7,x9,x10,x11,x12,x13,Nat.zero_le _,by kernel_rfl,by rw [Lab.uI];exact st⟩ ?_)))))))))))))))))
  clear st
  rintro a _ h ⟨x6,x7,x9,x10,x11,x12,x13,ha,rfl,st⟩
  refine WP.seq (WP.reg (WO.ifS (L.lss rfl rfl) (fun c2=>WO.nil ?_) (fun c2=>WO.nil ?_)))
  ·have han:a<n:=by omega
   obtain ⟨b,hb⟩:=hbs' a han
   obtain ⟨bk,hbk⟩:=hbs' k hkn
   obtain ⟨r,hr,hrl⟩:=sqk.at han
   have hra:(Lab.bS k a Mk)[a]? =some r:=by rw [Lab.jv sqk ha,hr];simp
   obtain ⟨x,hx⟩:∃x,r[k]? =some x:=⟨r[k]'(by omega),List.getElem?_eq_getElem (by omega)⟩
   obtain ⟨⟨cp,l1⟩,l2⟩:=wX st hb hra
   refine WP.seq (WP.cond (t:=true) rfl (WP.skip (WP.seq (WP.block (WP.seq (WP.reg (WO.ak (v:= .int .i64 (a:Int)) rfl (WO.nil (WP.seq (WP.seq (WP.reg (WO.val (v:= .ptr ob (oo+a * 1)) (L.aC rfl rfl han) (WO.val (v:= .sl b 0 n cp) (L.load rfl l1) (WO.val (v:= .ptr b (0+k * 1)) (L.aC rfl rfl hkn) (WO.val (v:= .bool x) (L.load rfl (l2 k x hx)) ?_)))))))))))))))
   have next:∀{Q:QT} {env:Env} {h:Heap} {y6 y7 y9 y10 y11 y12 y13:V},env=aO [.sl ob oo n cap, .int .i64 (k:Int), .int .i64 (n:Int), .bool true, .int .i64 (a:Int), .int .i64 (n:Int),y6,y7, .int .i64 (k:Int),y9,y10,y11,y12,y13] 0 Env.nil→St (.stb (gL ob oo n bs)::(dN bs (Lab.bS k (a+1) Mk)++fs)) h→
    (∀y6 y7 y9 y10 y11 y12 y13,Q .nrm (aO [.sl ob oo n cap, .int .i64 (k:Int), .int .i64 (n:Int), .bool true, .int .i64 ((a+1:Nat):Int), .int .i64 (n:Int),y6,y7, .int .i64 (k:Int),y9,y10,y11,y12,y13] 0 Env.nil) h)→WP c (.reg 1 [.s .d0 .d4 (.L (.bin .add (.t .d0 .d4) (.c (.int .i64 1))))]) Q env h:=by
    intro Q env h y6 y7 y9 y10 y11 y12 y13 he _ hq
    subst he
    exact WP.reg (WO.ak (v:= .int .i64 ((a+1:Nat):Int)) (L.bP rfl rfl (by omega) (And.intro (by omega) (by omega))) (WO.nil (hq y6 y7 y9 y10 y11 y12 y13)))
   cases x with
   |false=>
    refine WO.ak (v:= .bool true) rfl (WO.nil (WP.cond (t:=true) rfl (WP.exit ?_)))
    have he:Lab.jW k Mk r=r:=by unfold Lab.jW;rw [getD_some hx];rfl
    have hst:St (.stb (gL ob oo n bs)::(dN bs (Lab.bS k (a+1) Mk)++fs)) h:=by
     rw [←Lab.o8 sqk han hr,he,set_self hra];exact st
    refine next (y6:= .bool true) (y7:= .int .i64 (a:Int)) (y9:= .bool true) (y10:=x10) (y11:=x11) (y12:=x12) (y13:=x13) (by kernel_rfl) hst fun y6 y7 y9 y10 y11 y12 y13=> ?_
    exact ⟨a+1,by omega,y6,y7,y9,y10,y11,y12,y13,by omega,rfl,hst⟩
   |true=>
    refine WO.ak (v:= .bool false) rfl (WO.nil (WP.cond (t:=false) rfl (WP.skip (WP.seq (WP.reg (WO.ak (v:= .int .i64 (n:Int)) (L.llen rfl) (WO.ak (v:= .int .i64 0) rfl (WO.nil (WP.block ?_)))))))))
    have hset0:(Lab.bS k a Mk).set a (Lab.dL 0 r rk)=Lab.bS k a Mk:=by rw [Lab.rM,set_self hra]
    refine WP.bT (α:=Nat) (fun j env h1=>∃x12 x13,j≤n∧env=aO [.sl ob oo n cap, .int .i64 (k:Int), .int .i64 (n:Int), .bool true, .int .i64 (a:Int), .int .i64 (n:Int), .bool true, .int .i64 (a:Int), .int .i64 (k:Int), .bool false, .int .i64 (j:Int), .int .i64 (n:Int),x12,x13] 0 Env.nil∧St (.stb (gL ob oo n bs)::(dN bs ((Lab.bS k a Mk).set a (Lab.dL j r rk))++fs)) h1) (fun j=>n - j) 0 ⟨x12,x13,Nat.zero_le _,by kernel_rfl,by rw [hset0];exact st⟩ ?_
    clear st l1 l2
    rintro j _ h ⟨x12,x13,hj,rfl,st⟩
    refine WP.seq (WP.reg (WO.ifS (L.lss rfl rfl) (fun c3=>WO.nil ?_) (fun c3=>WO.nil ?_)))
    ·have hjn:j<n:=by omega
     have hlenP:(Lab.bS k a Mk).length=n:=by unfold Lab.bS;rw [List.length_append,List.length_map,List.length_take,List.length_drop,sqk.len];omega
     have hrow:((Lab.bS k a Mk).set a (Lab.dL j r rk))[a]? =some (Lab.dL j r rk):=by rw [List.getElem?_set,if_pos rfl,if_pos (by omega)]
     have hrpl:=Lab.o9 hrl hrkl hj
     obtain ⟨y,hy⟩:∃y,r[j]? =some y:=⟨r[j]'(by omega),List.getElem?_eq_getElem (by omega)⟩
     obtain ⟨z,hz⟩:∃z,rk[j]? =some z:=⟨rk[j]'(by omega),List.getElem?_eq_getElem (by omega)⟩
     have hy':(Lab.dL j r rk)[j]? =some y:=by rw [Lab.kU hrl hrkl hj,if_neg (by omega)];exact hy
     obtain ⟨⟨cp,l1⟩,l2⟩:=wX st hb hrow
     have hkrow:∃q,((Lab.bS k a Mk).set a (Lab.dL j r rk))[k]? =some q∧q[j]? =some z:=by
      by_cases e:a=k
      ·subst e
       rw [hr] at hrk;cases hrk
       exact ⟨_,hrow,by rw [Lab.rP];exact hz⟩
      ·rw [List.getElem?_set,if_neg e,Lab.jv sqk ha,hrk]
       refine ⟨_,rfl, ?_⟩
       by_cases e2:k<a
       ·simp only [if_pos e2,Lab.w9 hrk];exact hz
       ·simp only [if_neg e2];exact hz
     obtain ⟨q,hq,hqz⟩:=hkrow
     obtain ⟨⟨cp2,l3⟩,l4⟩:=wX st hbk hq
     refine WP.seq (WP.cond (t:=true) rfl (WP.skip (WP.seq (WP.block (WP.seq (WP.reg (WO.ak (v:= .int .i64 (j:Int)) rfl (WO.nil (WP.draw (WD.val (v:= .sl ob oo n cap) rfl (WD.val (v:= .int .i64 (a:Int)) rfl (WD.val (v:= .ptr ob (oo+a * 1)) (L.aC rfl rfl han) (WD.val (v:= .sl b 0 n cp) (L.load rfl l1) (WD.val (v:= .int .i64 (j:Int)) rfl (WD.val (v:= .sl ob oo n cap) rfl (WD.val (v:= .int .i64 (a:Int)) rfl (WD.val (v:= .ptr ob (oo+a * 1)) (L.aC rfl rfl han) (WD.val (v:= .sl b 0 n cp) (L.load rfl l1) (WD.val (v:= .int .i64 (j:Int)) rfl (WD.val (v:= .ptr b (0+j * 1)) (L.aC rfl rfl hjn) (WD.val (v:= .bool y) (L.load rfl (l2 j y hy')) (WD.val (v:= .bool y) rfl ?_))))))))))))))))))))))
     have hfin:∀{h1:Heap} {t:Bool},t=(y||z)→St (.stb (gL ob oo n bs)::(dN bs (((Lab.bS k a Mk).set a (Lab.dL j r rk)).set a ((Lab.dL j r rk).set j t))++fs)) h1→St (.stb (gL ob oo n bs)::(dN bs ((Lab.bS k a Mk).set a (Lab.dL (j+1) r rk))++fs)) h1:=by
      intro h1 t ht s1
      subst ht
      rw [List.set_set,Lab.rO hrl hrkl hjn hy hz] at s1
      exact s1
     cases y with
     |true=>
      refine WD.no rfl (WD.no rfl (WD.no rfl (WD.no rfl (WD.no rfl (WD.no rfl (WD.no rfl (WD.val (v:= .bool true) rfl (WD.val (v:= .ptr b (0+j * 1)) (L.aC rfl rfl hjn) (WD.storeT (t:=true) st rfl rfl hb hrow (by omega) fun h1 s1=> ?_)))))))))
      refine WD.nil (WP.reg (WO.ak (v:= .int .i64 ((j+1:Nat):Int)) (L.bP rfl rfl (by omega) (And.intro (by omega) (by omega))) (WO.nil ?_)))
      exact ⟨j+1,by omega, .bool true, .int .i64 (j:Int),by omega,by kernel_rfl,hfin (by rfl) s1⟩
     |false=>
      refine WD.yes rfl (WD.val (v:= .sl ob oo n cap) rfl (WD.yes rfl (WD.val (v:= .int .i64 (k:Int)) rfl (WD.yes rfl (WD.val (v:= .ptr ob (oo+k * 1)) (L.aC rfl rfl hkn) (WD.yes rfl (WD.val (v:= .sl bk 0 n cp2) (L.load rfl l3) (WD.yes rfl (WD.val (v:= .int .i64 (j:Int)) rfl (WD.yes rfl (WD.val (v:= .ptr bk (0+j * 1)) (L.aC rfl rfl hjn) (WD.yes rfl (WD.val (v:= .bool z) (L.load rfl (l4 j z hqz)) (WD.val (v:= .bool z) rfl (WD.val (v:= .ptr b (0+j * 1)) (L.aC rfl rfl hjn) (WD.storeT (t:=z) st rfl rfl hb hrow (by omega) fun h1 s1=> ?_))))))))))))))))
      refine WD.nil (WP.reg (WO.ak (v:= .int .i64 ((j+1:Nat):Int)) (L.bP rfl rfl (by omega) (And.intro (by omega) (by omega))) (WO.nil ?_)))
      exact ⟨j+1,by omega, .bool true, .int .i64 (j:Int),by omega,by kernel_rfl,hfin (by simp) s1⟩
    ·refine WP.seq (WP.cond (t:=false) rfl (WP.exit ?_))
     have hjn:j=n:=by omega
     subst hjn
     have hst:St (.stb (gL ob oo j bs)::(dN bs (Lab.bS k (a+1) Mk)++fs)) h:=by
      rw [←Lab.o8 sqk han hr]
      have he:Lab.jW k Mk r=Lab.dL j r rk:=by
       unfold Lab.jW
       rw [getD_some hx,getD_some hrk,Lab.uJ hrl hrkl];rfl
      rw [he];exact st
     refine next (y6:= .bool true) (y7:= .int .i64 (a:Int)) (y9:= .bool false) (y10:= .int .i64 (j:Int)) (y11:= .int .i64 (j:Int)) (y12:= .bool false) (y13:=x13) (by kernel_rfl) hst fun y6 y7 y9 y10 y11 y12 y13=> ?_
     exact ⟨a+1,by omega,y6,y7,y9,y10,y11,y12,y13,by omega,rfl,hst⟩
  ·refine WP.seq (WP.cond (t:=false) rfl (WP.exit ?_))
   have han:a=n:=by omega
   subst han
   have hst:St (.stb (gL ob oo a bs)::(dN bs (Lab.closed (k+1) M)++fs)) h:=by
    rw [Lab.iL,←hMk,←Lab.wZ sqk];exact st
   refine WP.reg (WO.ak (v:= .int .i64 ((k+1:Nat):Int)) (L.bP rfl rfl (by omega) (And.intro (by omega) (by omega))) (WO.nil ?_))
   exact ⟨k+1,by omega, .bool true, .int .i64 (a:Int), .int .i64 (a:Int), .bool false,x7, .int .i64 (k:Int),x9,x10,x11,x12,x13,by omega,by kernel_rfl,hst⟩
 ·refine WP.seq (WP.cond (t:=false) rfl (WP.exit ?_))
  have hkn:k=n:=by omega
  subst hkn
  exact ⟨_,ay _ _,st⟩
end
end Go.Eng.Ytjgmahbgfbkhnaa
