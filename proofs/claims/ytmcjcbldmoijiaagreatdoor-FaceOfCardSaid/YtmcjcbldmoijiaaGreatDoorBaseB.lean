/- Part of a proof of a law: rules of an evaluator, contracts, plain laws. No condition of its own. -/
import Derived.Test.YtmcjcbldmoijiaaGreatDoorSymA
import Derived.Test.YtmcjcbldmoijiaaGreatDoorBaseA
import Derived.Test.YtmcjcbldmoijiaaGreatDoorSymJ
import Derived.Test.YtmcjcbldmoijiaaGreatDoorSymF
set_option linter.unusedVariables false
set_option linter.unusedSimpArgs false
namespace Go.Eng.YtmcjcbldmoijiaaGreatDoor.Lt
open Go.Eng
noncomputable section
variable {c:Ctx}
structure Jr (c:Ctx):Prop where
 f120:T.get 120 c.cF=some i120
 f121:T.get 121 c.cF=some i121
 r:ux c
theorem UH (D:Jr c) {fs:List Fact} {h:ag} {v:V} {n:Nat} {M:List (List Bool)} (hn:n<4294967296) (fQ:fg n M) (st:ak (.ay (fun h=>gL h v M)::fs) h):
 bU c 121 [v] h fun v1 h1=>ak (.ay (fun h=>gL h v1 (Lab.ly n M)):: .ay (fun h=>gL h v M)::fs) h1:=by
 refine bU.dR D.f121 rfl (WP.af (I.az .U (I.af (I.az .U (I.nil (WP.seq (WP.af (I.az (.int .i64 0) (I.nil (WP.block ?_))))))))))
 replace st:ak (.ay (fun h=>nq h ([]) ([])):: .acc 0 1 .U (([]:List V).map fun x=>[x]):: .ay (fun h=>gL h v M)::fs) h:=(st.je 1).nn (P:=fun h=>nq h [] []) fun _=>trivial
 refine WP.dr (α:=Nat) (fun i env h=>∃Js eJ ks b9 ej eN c3,(i≤n∧ks.length=i)∧env=cM [v, .U, .n i,b9,ej,eN,c3,eJ] 0 Env.nil∧ak (.ay (fun h=>nq h (Lab.vY n M i) ks):: .acc Js 1 eJ (ks.map fun x=>[x]):: .ay (fun h=>gL h v M)::fs) h) (fun i=>n - i) 0 ?_ ?_
 ·exact ⟨0, .U,[], .bot, .bot, .bot, .bot,⟨Nat.zero_le _,rfl⟩,by kernel_rfl,st⟩
 rintro i _ h ⟨Js,eJ,ks,b9,ej,eN,c3,⟨aq,Gq⟩,rfl,st⟩
 refine WP.seq (WP.af (I.val (v:= .n n) (L.y1 rfl (st.aS 2 rfl) fQ.len) (I.bR (L.lss rfl rfl) (fun c1=> ?_) (fun c1=> ?_))))
 ·replace c1:i<n:=by omega
  refine I.bh (WP.skip (WP.seq (WP.block (WP.af (I.val (v:= .n n) (L.y1 rfl (st.aS 2 rfl) fQ.len) (I.Mx st rfl rfl (by decide) rfl (by omega) (fun fz h st=> ?_)))))))
  rw [UF n (fun x=>Lab.cD M x i)] at st
  refine I.nil (WP.seq (WP.af (I.az (.int .i64 0) (I.nil (WP.block (WP.dr (α:=Nat) (fun k env h=>∃eN,(k≤n)∧env=cM [v, .U, .n i, .bool true, .n k,eN, .av fz 0 n (some n),eJ] 0 Env.nil∧ak (.nT fz 1 ((Lab.lK n (fun x=>Lab.cD M x i) k).map bv):: .ay (fun h=>nq h (Lab.vY n M i) ks):: .acc Js 1 eJ (ks.map fun x=>[x]):: .ay (fun h=>gL h v M)::fs) h) (fun k=>n - k) 0 ?_ ?_))))))
  ·exact ⟨eN,Nat.zero_le _,by kernel_rfl,st⟩
  rintro k _ h ⟨eN,hk,rfl,st⟩
  refine WP.seq (WP.af (I.val (v:= .n n) (L.y1 rfl (st.aS 3 rfl) fQ.len) (I.bR (L.lss rfl rfl) (fun c2=> ?_) (fun c2=> ?_))))
  ·replace c2:k<n:=by omega
   obtain ⟨u,r,jb,gS,Bt,uQ⟩:=Br fQ (st.aS 3 rfl) (show k<n by omega)
   refine I.bh (WP.skip (WP.seq (WP.block (WP.aG (I.val (v:= .ptr (ck v) (cu v+k * 1)) (L.Bp (st.aS 3 rfl) (by rw [fQ.len];omega) rfl rfl) (I.val (v:=u) (L.load rfl jb) (I.val (v:= .ptr (ck u) (cu u+i * 1)) (L.nr gS (by rw [List.length_map];omega) rfl rfl) (I.val (v:= .bool (Lab.cD M k i)) (L.load rfl (qz gS (uQ i (by omega)))) (I.val (v:= .ptr fz (0+k * 1)) (L.bQ rfl rfl (by omega)) (I.HT st rfl (show _=some [V.bool ((fun x=>Lab.cD M x i) k)] from rfl) (by rw [List.length_map,Lab.zG];omega) (fun h st=> ?_)))))))))))
   rw [Ob c2] at st
   refine I.nil (WP.aG (I.bX (v:= .n (k+1)) L.cB (I.nil ?_)))
   exact ⟨k+1,(by omega),(.bool true),by omega,by kernel_rfl,st⟩
  ·have zH:k=n:=by omega
   rw [zH] at st
   rw [zH]
   replace st:ak (.ay (fun h=>Rows 1 h (.av fz 0 n (some n)) ((Lab.lK n (fun x=>Lab.cD M x i) n).map bv)):: .ay (fun h=>nq h (Lab.vY n M i) ks):: .acc Js 1 eJ (ks.map fun x=>[x]):: .ay (fun h=>gL h v M)::fs) h:=ag1 (st) (Lab.zG _ _ _)
   refine I.aY (WP.exit (WP.aG (I.eI (rows:=[[.av fz 0 n (some n)]]) st rfl (by decide) rfl (by simp) (fun ag2 h st=> ?_))))
   refine I.gJ st 3 rfl rfl rfl (st.aS 0 rfl) (by decide) (by simp;omega) (fun zI b0 h st=> ?_)
   rw [show (ks.map fun x=>[x])++[[V.av fz 0 n (some n)]]=(ks++[V.av fz 0 n (some n)]).map fun x=>[x] from by simp] at st
   replace st:ak (.ay (fun h=>nq h (Lab.vY n M i++[Lab.lK n (fun x=>Lab.cD M x i) n]) (ks++[V.av fz 0 n (some n)])):: .ay (fun h=>Rows 1 h (.av ag2 0 1 (some 1)) [[.av fz 0 n (some n)]]):: .acc zI 1 b0 ((ks++[V.av fz 0 n (some n)]).map fun x=>[x]):: .ay (fun h=>gL h v M)::fs) h:=(((st.pick 2 rfl).pick 2 rfl)).and.fD fun h hx=>hx.2.snoc hx.1
   refine I.nil (WP.aG (I.bX (v:= .n (i+1)) L.cB (I.nil ?_)))
   rw [←Lab.agD] at st
   exact ⟨i+1,(by omega),zI,b0,(ks++[V.av fz 0 n (some n)]),(.bool true),(.n n),(.bool false),(.av fz 0 n (some n)),⟨by omega,by simp [Gq]⟩,by kernel_rfl,(st.pick 1 rfl).tail⟩
 ·have FA:i=n:=by omega
  refine I.aY (WP.exit (WP.af (I.az eJ (I.rt ?_))))
  rw [FA,Lab.agE] at st
  exact ⟨_,(ca eJ),(((st.pick 1 rfl)).shut (by decide)).and.fD fun h hx=>⟨_,hx.1,hx.2⟩⟩
theorem Od (D:Jr c) {fs:List Fact} {h:ag} {v:V} {n:Nat} {M:List (List Bool)} (hn:n<4294967296) (fQ:fg n M) (st:ak (.ay (fun h=>gL h v M)::fs) h):
 bU c 120 [v] h fun v1 h1=>match Lab.oO n M n with
  |true=>∃ey,v1= .dD [ey, .bool true]∧ak (.ay (fun h=>px h ey (Lab.kr n M n)):: .ay (fun h=>gL h v M)::fs) h1
  |false=>v1= .dD [.U, .bool false]∧ak (.ay (fun h=>gL h v M)::fs) h1:=by
 refine bU.dR D.f120 rfl (WP.af (I.az .U (I.az (.bool false) (I.af (I.az .U (I.nil (WP.seq (WP.af (I.az (.int .i64 0) (I.nil (WP.block ?_)))))))))))
 replace st:ak (.ay (fun h=>nm h ([]) ([])):: .acc 0 1 .U (([]:List V).map fun x=>[x]):: .ay (fun h=>gL h v M)::fs) h:=(st.je 1).nn (P:=fun h=>nm h [] []) fun _=>trivial
 refine WP.dr (α:=Nat) (fun a env h=>∃Cg ey mo x1 b2 ej eN c3 dc fi ic fN gX jF,(a≤n∧mo.length=a∧Lab.oO n M a=true)∧env=cM [v,x1,b2, .n a,ej,eN,c3,dc,fi,ic,fN,gX,jF,ey] 0 Env.nil∧ak (.ay (fun h=>nm h (Lab.kr n M a) mo):: .acc Cg 1 ey (mo.map fun x=>[x]):: .ay (fun h=>gL h v M)::fs) h) (fun a=>n - a) 0 ?_ ?_
 ·exact ⟨0, .U,[], .U,(.bool false), .bot, .bot, .bot, .bot, .bot, .bot, .bot, .bot, .bot,⟨Nat.zero_le _,rfl,rfl⟩,by kernel_rfl,st⟩
 rintro a _ h ⟨Cg,ey,mo,x1,b2,ej,eN,c3,dc,fi,ic,fN,gX,jF,⟨ha,nH,hok⟩,rfl,st⟩
 refine WP.seq (WP.af (I.val (v:= .n n) (L.y1 rfl (st.aS 2 rfl) fQ.len) (I.bR (L.lss rfl rfl) (fun c1=> ?_) (fun c1=> ?_))))
 ·replace c1:a<n:=by omega
  refine I.bh (WP.skip (WP.seq (WP.block (WP.af (I.az .U (I.nil (WP.seq (WP.af (I.az (.int .i64 0) (I.nil (WP.block ?_)))))))))))
  replace st:ak (.acc 0 1 .U (([]:List Nat).map sO):: .ay (fun h=>nm h (Lab.kr n M a) mo):: .acc Cg 1 ey (mo.map fun x=>[x]):: .ay (fun h=>gL h v M)::fs) h:=st.je 1
  refine WP.dr (α:=Nat) (fun b env h=>∃fr fj x1 b2 c3 dc fi ic fN gX,(b≤n∧Lab.xf n M a b=true)∧env=cM [v,x1,b2, .n a, .bool true, .n b,c3,dc,fi,ic,fN,gX,fj,ey] 0 Env.nil∧ak (.acc fr 1 fj ((Lab.my n M a b).map sO):: .ay (fun h=>nm h (Lab.kr n M a) mo):: .acc Cg 1 ey (mo.map fun x=>[x]):: .ay (fun h=>gL h v M)::fs) h) (fun b=>n - b) 0 ?_ ?_
  ·exact ⟨0, .U,x1,b2,c3,dc,fi,ic,fN,gX,⟨Nat.zero_le _,rfl⟩,by kernel_rfl,st⟩
  rintro b _ h ⟨fr,fj,x1,b2,c3,dc,fi,ic,fN,gX,⟨hb,Oe⟩,rfl,st⟩
  refine WP.seq (WP.af (I.val (v:= .n n) (L.y1 rfl (st.aS 3 rfl) fQ.len) (I.bR (L.lss rfl rfl) (fun cI=> ?_) (fun cI=> ?_))))
  ·replace cI:b<n:=by omega
   refine I.bh (WP.skip (WP.seq (WP.block (WP.af (I.val (v:= .n n) (L.y1 rfl (st.aS 3 rfl) fQ.len) (I.Mx st rfl rfl (by decide) rfl (by omega) (fun fz h st=> ?_)))))))
   rw [UF n (fun x=>Lab.cD M a x&&Lab.cD M b x)] at st
   refine I.nil (WP.seq (WP.af (I.az (.int .i64 0) (I.nil (WP.block (WP.dr (α:=Nat) (fun k env h=>∃fi,(k≤n)∧env=cM [v,x1,b2, .n a, .bool true, .n b, .bool true, .n k,fi, .av fz 0 n (some n),fN,gX,fj,ey] 0 Env.nil∧ak (.nT fz 1 ((Lab.lK n (fun x=>Lab.cD M a x&&Lab.cD M b x) k).map bv):: .acc fr 1 fj ((Lab.my n M a b).map sO):: .ay (fun h=>nm h (Lab.kr n M a) mo):: .acc Cg 1 ey (mo.map fun x=>[x]):: .ay (fun h=>gL h v M)::fs) h) (fun k=>n - k) 0 ?_ ?_))))))
   ·exact ⟨fi,Nat.zero_le _,by kernel_rfl,st⟩
   rintro k _ h ⟨fi,hk,rfl,st⟩
   refine WP.seq (WP.af (I.val (v:= .n n) (L.y1 rfl (st.aS 4 rfl) fQ.len) (I.bR (L.lss rfl rfl) (fun c2=> ?_) (fun c2=> ?_))))
   ·replace c2:k<n:=by omega
    obtain ⟨u,r,jb,gS,Bt,uQ⟩:=Br fQ (st.aS 4 rfl) (show a<n by omega)
    obtain ⟨xp,gl,nd,uA,ag3,Jt⟩:=Br fQ (st.aS 4 rfl) (show b<n by omega)
    refine I.bh (WP.skip (WP.seq (WP.block (WP.aG (I.val (v:= .ptr (ck v) (cu v+a * 1)) (L.Bp (st.aS 4 rfl) (by rw [fQ.len];omega) rfl rfl) (I.val (v:=u) (L.load rfl jb) (I.val (v:= .ptr (ck u) (cu u+k * 1)) (L.nr gS (by rw [List.length_map];omega) rfl rfl) ?_)))))))
    rcases ug (Lab.cD M a k) with tg|tg
    ·refine I.val (v:= .bool false) (L.load rfl (by rw [qz gS (uQ k c2),tg])) (I.gK (I.eP (I.no rfl (I.v (.bool false) (I.val (v:= .ptr fz (0+k * 1)) (L.bQ rfl rfl (by omega)) (I.HT st rfl (show _=some [V.bool ((fun x=>Lab.cD M a x&&Lab.cD M b x) k)] from by rw [show (fun x=>Lab.cD M a x&&Lab.cD M b x) k=false from by simp [tg]];rfl) (by rw [List.length_map,Lab.zG];omega) (fun h st=> ?_)))))))
     rw [Ob c2] at st
     refine I.nil (WP.aG (I.bX (v:= .n (k+1)) L.cB (I.nil ?_)))
     exact ⟨k+1,(by omega),(.bool true),by omega,by kernel_rfl,st⟩
    ·refine I.val (v:= .bool true) (L.load rfl (by rw [qz gS (uQ k c2),tg])) (I.yes rfl (I.v v (I.yes rfl (I.v (.n b) (I.yes rfl (I.val (v:= .ptr (ck v) (cu v+b * 1)) (L.Bp (st.aS 4 rfl) (by rw [fQ.len];omega) rfl rfl) (I.yes rfl (I.val (v:=xp) (L.load rfl nd) (I.yes rfl (I.v (.n k) (I.yes rfl (I.val (v:= .ptr (ck xp) (cu xp+k * 1)) (L.nr uA (by rw [List.length_map];omega) rfl rfl) (I.yes rfl (I.val (v:= .bool (Lab.cD M b k)) (L.load rfl (qz uA (Jt k c2))) (I.v (.bool (Lab.cD M b k)) (I.val (v:= .ptr fz (0+k * 1)) (L.bQ rfl rfl (by omega)) (I.HT st rfl (show _=some [V.bool ((fun x=>Lab.cD M a x&&Lab.cD M b x) k)] from by rw [show (fun x=>Lab.cD M a x&&Lab.cD M b x) k=Lab.cD M b k from by simp [tg]];rfl) (by rw [List.length_map,Lab.zG];omega) (fun h st=> ?_))))))))))))))))))
     rw [Ob c2] at st
     refine I.nil (WP.aG (I.bX (v:= .n (k+1)) L.cB (I.nil ?_)))
     exact ⟨k+1,(by omega),(.bool true),by omega,by kernel_rfl,st⟩
   ·have zH:k=n:=by omega
    rw [zH] at st
    rw [zH]
    refine I.aY (WP.exit (WP.seq (WP.aG ?_)))
    have ag4:Rows 1 h (.av fz 0 n (some n)) ((Lab.lK n (fun x=>Lab.cD M a x&&Lab.cD M b x) n).map bv):=by have:=st.Q9 (cap:=some n) 0 rfl;rw [List.length_map,Lab.zG] at this;exact this
    refine I.dU rfl (agy D.r hn fQ (st.aS 4 rfl) ag4 (Lab.zG _ _ _) (fun k hk=>Lab.agC hk)) ?_
    rintro _ _ ⟨rfl,rfl⟩
    rw [show Lab.least n (Lab.cD M) (fun x=>Lab.cD M a x&&Lab.cD M b x)=Lab.join n M a b from rfl]
    cases aV:Lab.join n M a b with
    |none=>
     have cx:MG (none)=(-1):=rfl
     rw [cx]
     refine I.nil (WP.seq (WP.af (I.bR (L.lss rfl rfl) (fun _=> ?_) (fun dS=>by exfalso;omega))))
     refine I.bh (WP.af (I.az .U (I.az (.bool false) (I.rt ?_))))
     rw [Lab.abE (by omega) (by omega) aV]
     exact ⟨_,(cT (fS (v:= .U) rfl) (ca (.bool false))),rfl,st.tail.tail.tail.tail⟩
    |some FB=>
     have cx:MG (some FB)=(FB:Int):=rfl
     rw [cx]
     refine I.nil (WP.seq (WP.af (I.bR (L.lss rfl rfl) (fun dS=>by exfalso;omega) (fun _=> ?_))))
     refine I.aY (WP.skip (WP.aG (I.eI (rows:=[[.n FB]]) st rfl (by decide) rfl (by simp) (fun akO h st=> ?_))))
     refine I.gJ st 2 rfl rfl rfl (st.aS 0 rfl) (by decide) (by rw [List.length_map,Lab.UB];simp only [List.length_cons,List.length_nil];omega) (fun zI b0 h st=> ?_)
     have aT:=Lab.aaZ n M a b
     rw [aV] at aT
     rw [show (Lab.my n M a b).map sO++[[V.n FB]]=(Lab.my n M a (b+1)).map sO from by rw [aT,List.map_append];rfl] at st
     refine I.nil (WP.aG (I.bX (v:= .n (b+1)) L.cB (I.nil ?_)))
     exact ⟨b+1,(by omega),zI,b0,x1,b2,(.bool true),(.n n),(.bool false),(.av fz 0 n (some n)),(.n FB),(.bool false),⟨by omega,by rw [Lab.abC,Oe,aV];rfl⟩,by kernel_rfl,st.tail.tail⟩
  ·have FC:b=n:=by omega
   rw [FC] at st Oe
   rw [FC]
   have EM:=(st.et 0 rfl).cells
   replace st:ak (.ay (fun h=>Rows 1 h fj ((Lab.my n M a n).map sO)):: .ay (fun h=>nm h (Lab.kr n M a) mo):: .acc Cg 1 ey (mo.map fun x=>[x]):: .ay (fun h=>gL h v M)::fs) h:=(st).shut (by decide)
   refine I.aY (WP.exit (WP.aG (I.eI (rows:=[[fj]]) st (MP EM) (by decide) rfl (by simp) (fun UI h st=> ?_))))
   refine I.gJ st 3 rfl rfl rfl (st.aS 0 rfl) (by decide) (by simp;omega) (fun zI b0 h st=> ?_)
   rw [show (mo.map fun x=>[x])++[[fj]]=(mo++[fj]).map fun x=>[x] from by simp] at st
   replace st:ak (.ay (fun h=>nm h (Lab.kr n M a++[Lab.my n M a n]) (mo++[fj])):: .ay (fun h=>Rows 1 h (.av UI 0 1 (some 1)) [[fj]]):: .acc zI 1 b0 ((mo++[fj]).map fun x=>[x]):: .ay (fun h=>gL h v M)::fs) h:=(((st.pick 2 rfl).pick 2 rfl)).and.fD fun h hx=>hx.2.snoc hx.1
   refine I.nil (WP.aG (I.bX (v:= .n (a+1)) L.cB (I.nil ?_)))
   rw [←Lab.aa0] at st
   exact ⟨a+1,(by omega),zI,b0,(mo++[fj]),x1,b2,(.bool true),(.n n),(.bool false),dc,fi,ic,fN,gX,fj,⟨by omega,by simp [nH],by rw [Lab.abD,hok,Oe];rfl⟩,by kernel_rfl,(st.pick 1 rfl).tail⟩
 ·have FA:a=n:=by omega
  refine I.aY (WP.exit (WP.af (I.az ey (I.az (.bool true) (I.rt ?_)))))
  rw [FA] at st hok
  rw [hok]
  refine ⟨_,(cT (fS (v:=ey) rfl) (ca (.bool true))),_,rfl, ?_⟩
  exact (((st.pick 1 rfl)).shut (by decide)).and.fD fun h hx=>⟨_,hx.1,hx.2⟩
end
end Go.Eng.YtmcjcbldmoijiaaGreatDoor.Lt
namespace Go.Eng.YtmcjcbldmoijiaaGreatDoor.Lt
open Go.Eng
noncomputable section
variable {c:Ctx}
structure Ju (c:Ctx):Prop where
 f47:T.get 47 c.cF=some i47
 f105:T.get 105 c.cF=some i105
 g:Jr c
theorem ag5 (D:Ju c) {fs:List Fact} {h:ag} {eY v:V} {n:Nat} {M:List (List Bool)} {NS:List Lab.aL} (hn:n<4294967296) (jm:NS.length=n) (fQ:fg n M) (st:ak (.ay (fun h=>Rows 1 h eY (SR NS)):: .ay (fun h=>gL h v M)::fs) h):
 bU c 105 [eY,v] h fun v1 h1=>match Lab.py n M n with
  |true=>∃ey eJ,v1= .dD [.agg [eY,v,ey,eJ, .int .i64 (Lab.jK n M n:Int), .int .i64 (Lab.jJ n M n:Int)], .bool true]∧ak (.ay (fun h=>px h ey (Lab.kr n M n)):: .ay (fun h=>px h eJ (Lab.rI n M n)):: .ay (fun h=>Rows 1 h eY (SR NS)):: .ay (fun h=>gL h v M)::fs) h1
  |false=>v1= .dD [.agg [.U, .U, .U, .U, .int .i64 0, .int .i64 0], .bool false]∧ak (.ay (fun h=>Rows 1 h eY (SR NS)):: .ay (fun h=>gL h v M)::fs) h1:=by
 refine bU.dR D.f105 rfl (WP.af (I.dq st L.alloc (fun res h st=> ?_)))
 refine I.az (.bool false) (I.af (I.bX (v:= .n n) (L.eB rfl (st.aS 1 rfl) (by rw [eM];exact jm)) (I.nil (WP.seq (WP.af (I.az (.int .i64 0) (I.nil (WP.block (WP.dr (α:=Nat) (fun a env h=>∃b9 c3 dc fi ic,(a≤n∧Lab.N9 n M a)∧env=cM [eY,v, .ptr res 0,b9, .n a, .n n,c3,dc,fi,ic] 0 Env.nil∧ak (.box res [.U, .U, .U, .U, .int .i64 0, .int .i64 0]:: .ay (fun h=>Rows 1 h eY (SR NS)):: .ay (fun h=>gL h v M)::fs) h) (fun a=>n - a) 0 ?_ ?_)))))))))
 ·exact ⟨(.bool false), .bot, .bot, .bot, .bot,⟨Nat.zero_le _,fun x y hx=>absurd hx (by omega)⟩,by kernel_rfl,st⟩
 rintro a _ h ⟨b9,c3,dc,fi,ic,⟨ha,hp⟩,rfl,st⟩
 refine WP.seq (WP.af (I.bR (L.lss rfl rfl) (fun c1=> ?_) (fun c1=> ?_)))
 ·replace c1:a<n:=by omega
  refine I.bh (WP.skip (WP.seq (WP.block (WP.af (I.az (.int .i64 0) (I.nil (WP.block (WP.dr (α:=Nat) (fun b env h=>∃b9 fi ic,(b≤n∧Lab.Jm M a b)∧env=cM [eY,v, .ptr res 0,b9, .n a, .n n, .bool true, .n b,fi,ic] 0 Env.nil∧ak (.box res [.U, .U, .U, .U, .int .i64 0, .int .i64 0]:: .ay (fun h=>Rows 1 h eY (SR NS)):: .ay (fun h=>gL h v M)::fs) h) (fun b=>n - b) 0 ?_ ?_))))))))
  ·exact ⟨b9,fi,ic,⟨Nat.zero_le _,fun y hy=>absurd hy (by omega)⟩,by kernel_rfl,st⟩
  rintro b _ h ⟨b9,fi,ic,⟨hb,bC⟩,rfl,st⟩
  refine WP.seq (WP.af (I.bR (L.lss rfl rfl) (fun c2=> ?_) (fun c2=> ?_)))
  ·replace c2:b<n:=by omega
   obtain ⟨u,r,jb,gS,Bt,uQ⟩:=Br fQ (st.aS 2 rfl) (show a<n by omega)
   obtain ⟨xp,gl,nd,uA,ag3,Jt⟩:=Br fQ (st.aS 2 rfl) (show b<n by omega)
   refine I.bh (WP.skip (WP.seq (WP.block (WP.af (I.eo (L.neq rfl rfl) (fun FD=> ?_) (fun FD=> ?_))))))
   ·replace FD:a≠b:=by omega
    refine I.yes rfl (I.v v (I.yes rfl (I.v (.n a) (I.yes rfl (I.val (v:= .ptr (ck v) (cu v+a * 1)) (L.Bp (st.aS 2 rfl) (by rw [fQ.len];omega) rfl rfl) (I.yes rfl (I.val (v:=u) (L.load rfl jb) (I.yes rfl (I.v (.n b) (I.yes rfl (I.val (v:= .ptr (ck u) (cu u+b * 1)) (L.nr gS (by rw [List.length_map];omega) rfl rfl) (I.yes rfl ?_))))))))))))
    rcases ug (Lab.cD M a b) with tg|tg
    ·refine I.val (v:= .bool false) (L.load rfl (by rw [qz gS (uQ b c2),tg])) (I.v (.bool false) (I.gK (I.eP (I.no rfl (I.az (.bool false) (I.aY (WP.skip (WP.aG (I.bX (v:= .n (b+1)) L.cB (I.nil ?_))))))))))
     exact ⟨b+1,(by omega),b9,(.bool true),(.bool false),⟨by omega,Lab.Oa bC (fun _ h2=>by rw [tg] at h2;exact absurd h2.1 (by decide))⟩,by kernel_rfl,st⟩
    ·refine I.val (v:= .bool true) (L.load rfl (by rw [qz gS (uQ b c2),tg])) (I.v (.bool true) (I.yes rfl (I.v v (I.yes rfl (I.v (.n b) (I.yes rfl (I.val (v:= .ptr (ck v) (cu v+b * 1)) (L.Bp (st.aS 2 rfl) (by rw [fQ.len];omega) rfl rfl) (I.yes rfl (I.val (v:=xp) (L.load rfl nd) (I.yes rfl (I.v (.n a) (I.yes rfl (I.val (v:= .ptr (ck xp) (cu xp+a * 1)) (L.nr uA (by rw [List.length_map];omega) rfl rfl) (I.yes rfl ?_))))))))))))))
     rcases ug (Lab.cD M b a) with FE|FE
     ·refine I.val (v:= .bool false) (L.load rfl (by rw [qz uA (Jt a c1),FE])) (I.az (.bool false) (I.aY (WP.skip (WP.aG (I.bX (v:= .n (b+1)) L.cB (I.nil ?_))))))
      exact ⟨b+1,(by omega),b9,(.bool true),(.bool false),⟨by omega,Lab.Oa bC (fun _ h2=>by rw [FE] at h2;exact absurd h2.2 (by decide))⟩,by kernel_rfl,st⟩
     ·refine I.val (v:= .bool true) (L.load rfl (by rw [qz uA (Jt a c1),FE])) (I.az (.bool true) (I.bh (WP.af (I.val (v:= .agg [.U, .U, .U, .U, .int .i64 0, .int .i64 0]) (L.build rfl) (I.cc [.U, .U, .U, .U, .int .i64 0, .int .i64 0] st 0 rfl (fun h st=> ?_))))))
      refine I.az (.bool false) (I.rt ?_)
      rw [Lab.agR fQ (by omega) (by omega) FD tg FE]
      exact ⟨_,(cT (fb (l:=[.U, .U, .U, .U, .int .i64 0, .int .i64 0]) rfl (L.e6 (st.aF 0 rfl) rfl rfl rfl)) (ca (.bool false))),rfl,st.tail⟩
   ·replace FD:a=b:=by omega
    refine I.gK (I.eP (I.no rfl (I.v (.bool false) (I.gK (I.eP (I.no rfl (I.az (.bool false) (I.aY (WP.skip (WP.aG (I.bX (v:= .n (b+1)) L.cB (I.nil ?_))))))))))))
    exact ⟨b+1,(by omega),b9,(.bool true),(.bool false),⟨by omega,Lab.Oa bC (fun bO=>absurd FD bO)⟩,by kernel_rfl,st⟩
  ·have zH:b=n:=by omega
   rw [zH] at bC
   refine I.aY (WP.exit (WP.aG (I.bX (v:= .n (a+1)) L.cB (I.nil ?_))))
   exact ⟨a+1,(by omega),b9,(.bool true),(.n b),(.bool false),ic,⟨by omega,Lab.agQ hp bC⟩,by kernel_rfl,st⟩
 ·have FA:a=n:=by omega
  have ag6:Lab.MC n M:=fun x y hx hy=>hp x y (by omega) hy
  rw [FA]
  refine I.aY (WP.exit (WP.af (I.bD rfl (Od D.g hn fQ (st.pick 2 rfl)) ?_)))
  rintro v1 h ma
  cases FF:Lab.oO n M n with
  |false=>
   rw [FF] at ma
   obtain ⟨rfl,st⟩:=ma
   refine I.v .U (I.v (.bool false) (I.az .U (I.az (.bool false) (I.af (I.bD rfl (UH D.g hn fQ st) ?_)))))
   rintro v2 h st
   refine I.bD rfl (Od D.g hn (Lab.MA n M) st) ?_
   rintro v1 h ma
   cases sC:Lab.oO n (Lab.ly n M) n with
   |false=>
    rw [sC] at ma
    obtain ⟨rfl,st⟩:=ma
    refine I.v .U (I.v (.bool false) (I.az .U (I.az (.bool false) (I.nil (WP.seq (WP.af (I.v (.bool true) (I.eP (I.az (.bool true) (I.bh (WP.af (I.val (v:= .agg [.U, .U, .U, .U, .int .i64 0, .int .i64 0]) (L.build rfl) (I.cc [.U, .U, .U, .U, .int .i64 0, .int .i64 0] st 2 rfl (fun h st=> ?_))))))))))))))
    refine I.az (.bool false) (I.rt ?_)
    rw [Lab.UC fQ FF]
    exact ⟨_,(cT (fb (l:=[.U, .U, .U, .U, .int .i64 0, .int .i64 0]) rfl (L.e6 (st.aF 2 rfl) rfl rfl rfl)) (ca (.bool false))),rfl,((st.tail.pick 1 rfl).tail.pick 1 rfl)⟩
   |true=>
    rw [sC] at ma
    obtain ⟨eJ,rfl,st⟩:=ma
    rw [Lab.RR fQ] at st
    refine I.v eJ (I.v (.bool true) (I.az eJ (I.az (.bool true) (I.nil (WP.seq (WP.af (I.v (.bool true) (I.eP (I.az (.bool true) (I.bh (WP.af (I.val (v:= .agg [.U, .U, .U, .U, .int .i64 0, .int .i64 0]) (L.build rfl) (I.cc [.U, .U, .U, .U, .int .i64 0, .int .i64 0] st 3 rfl (fun h st=> ?_))))))))))))))
    refine I.az (.bool false) (I.rt ?_)
    rw [Lab.UC fQ FF]
    exact ⟨_,(cT (fb (l:=[.U, .U, .U, .U, .int .i64 0, .int .i64 0]) rfl (L.e6 (st.aF 3 rfl) rfl rfl rfl)) (ca (.bool false))),rfl,((st.tail.tail.pick 1 rfl).tail.pick 1 rfl)⟩
  |true=>
   rw [FF] at ma
   obtain ⟨ey,rfl,st⟩:=ma
   refine I.v ey (I.v (.bool true) (I.az ey (I.az (.bool true) (I.af (I.bD rfl (UH D.g hn fQ (st.pick 1 rfl)) ?_)))))
   rintro v2 h st
   refine I.bD rfl (Od D.g hn (Lab.MA n M) st) ?_
   rintro v1 h ma
   cases sC:Lab.oO n (Lab.ly n M) n with
   |false=>
    rw [sC] at ma
    obtain ⟨rfl,st⟩:=ma
    refine I.v .U (I.v (.bool false) (I.az .U (I.az (.bool false) (I.nil (WP.seq (WP.af (I.v (.bool false) (I.yes rfl (I.v (.bool false) (I.yes rfl (I.v (.bool true) (I.az (.bool true) (I.bh (WP.af (I.val (v:= .agg [.U, .U, .U, .U, .int .i64 0, .int .i64 0]) (L.build rfl) (I.cc [.U, .U, .U, .U, .int .i64 0, .int .i64 0] st 3 rfl (fun h st=> ?_)))))))))))))))))
    refine I.az (.bool false) (I.rt ?_)
    rw [Lab.agS fQ sC]
    exact ⟨_,(cT (fb (l:=[.U, .U, .U, .U, .int .i64 0, .int .i64 0]) rfl (L.e6 (st.aF 3 rfl) rfl rfl rfl)) (ca (.bool false))),rfl,(((st.tail.pick 1 rfl).tail.pick 1 rfl).tail.pick 1 rfl)⟩
   |true=>
    rw [sC] at ma
    obtain ⟨eJ,rfl,st⟩:=ma
    rw [Lab.RR fQ] at st
    refine I.v eJ (I.v (.bool true) (I.az eJ (I.az (.bool true) (I.nil (WP.seq (WP.af (I.v (.bool false) (I.yes rfl (I.v (.bool true) (I.yes rfl (I.v (.bool false) (I.az (.bool false) (I.aY (WP.skip (WP.af (I.val (v:= .agg [eY,v,ey,eJ, .int .i64 0, .int .i64 0]) (L.build (ag0 (Rows.Oc (st.aS 5 rfl)) (gL.cells (st.aS 2 rfl)) (px.cells (st.aS 3 rfl)) (px.cells (st.aS 0 rfl)))) (I.dq st L.alloc (fun ch h st=> ?_))))))))))))))))))
    refine I.cc [eY,v,ey,eJ, .int .i64 0, .int .i64 0] st 0 rfl (fun h st=> ?_)
    refine I.nil (WP.seq (WP.af (I.az (.int .i64 0) (I.nil (WP.block (WP.dr (α:=Nat) (fun a env h=>∃iU,(a≤n)∧env=cM [eY,v, .ptr res 0,b9, .n n, .n n, .bool false,dc,fi,ic, .bool true, .bool true, .bool false,ey,eJ, .n a,iU, .ptr ch 0] 0 Env.nil∧ak (.box ch [eY,v,ey,eJ, .int .i64 (Lab.jK n M a:Int), .int .i64 (Lab.jJ n M a:Int)]:: .box res [.U, .U, .U, .U, .int .i64 0, .int .i64 0]:: .ay (fun h=>px h ey (Lab.kr n M n)):: .ay (fun h=>px h eJ (Lab.rI n M n)):: .ay (fun h=>Rows 1 h eY (SR NS)):: .ay (fun h=>gL h v M)::fs) h) (fun a=>n - a) 0 ?_ ?_))))))
    ·exact ⟨.bot,Nat.zero_le _,by kernel_rfl,((((((st.pick 2 rfl).tail.pick 5 rfl).pick 2 rfl).pick 4 rfl).pick 5 rfl).pick 4 rfl)⟩
    rintro a _ h ⟨iU,ha,rfl,st⟩
    refine WP.seq (WP.af (I.bR (L.lss rfl rfl) (fun cI=> ?_) (fun cI=> ?_)))
    ·replace cI:a<n:=by omega
     refine I.bh (WP.skip (WP.seq (WP.block (WP.af (I.f (.ptr ch 5) (I.b (.int .i64 (Lab.jJ n M a:Int)) (st.aF 0 rfl) ?_))))))
     have Bs:Lab.jJ n M a<n:=Lab.agO (by omega) a
     obtain ⟨u,jb,gS⟩:=(st.aS 2 rfl).at (Lab.agG Bs)
     refine I.val (v:= .ptr (ck ey) (cu ey+Lab.jJ n M a * 1)) (L.RO (st.aS 2 rfl) (by rw [Lab.agJ];exact Bs) rfl rfl) (I.val (v:=u) (L.load rfl jb) (I.val (v:= .ptr (ck u) (cu u+a * 1)) (L.nr gS (by rw [List.length_map,Lab.UB];omega) rfl rfl) (I.val (v:= .int .i64 (Lab.jJ n M (a+1):Int)) (L.load rfl (by rw [Lab.MD];exact UG gS (Lab.agF cI))) (I.f (.ptr ch 5) (I.cc [eY,v,ey,eJ, .int .i64 (Lab.jK n M a:Int), .int .i64 (Lab.jJ n M (a+1):Int)] st 0 rfl (fun h st=> ?_))))))
     refine I.nil (WP.aG (I.f (.ptr ch 4) (I.b (.int .i64 (Lab.jK n M a:Int)) (st.aF 0 rfl) ?_)))
     have Bs:Lab.jK n M a<n:=Lab.agP (by omega) a
     obtain ⟨u,jb,gS⟩:=(st.aS 3 rfl).at (Lab.agI Bs)
     refine I.val (v:= .ptr (ck eJ) (cu eJ+Lab.jK n M a * 1)) (L.RO (st.aS 3 rfl) (by rw [Lab.agK];exact Bs) rfl rfl) (I.val (v:=u) (L.load rfl jb) (I.val (v:= .ptr (ck u) (cu u+a * 1)) (L.nr gS (by rw [List.length_map,Lab.agL];omega) rfl rfl) (I.val (v:= .int .i64 (Lab.jK n M (a+1):Int)) (L.load rfl (by rw [Lab.ME];exact UG gS (Lab.agH cI))) (I.f (.ptr ch 4) (I.cc [eY,v,ey,eJ, .int .i64 (Lab.jK n M (a+1):Int), .int .i64 (Lab.jJ n M (a+1):Int)] st 0 rfl (fun h st=> ?_))))))
     refine I.nil (WP.aG (I.bX (v:= .n (a+1)) L.cB (I.nil ?_)))
     exact ⟨a+1,(by omega),(.bool true),by omega,by kernel_rfl,st⟩
    ·have FC:a=n:=by omega
     rw [FC] at st
     rw [FC]
     refine I.aY (WP.exit (WP.af (I.val (v:= .agg [eY,v,ey,eJ, .int .i64 (Lab.jK n M n:Int), .int .i64 (Lab.jJ n M n:Int)]) (L.eg rfl (st.aF 0 rfl) rfl rfl rfl) (I.cc [eY,v,ey,eJ, .int .i64 (Lab.jK n M n:Int), .int .i64 (Lab.jJ n M n:Int)] st 1 rfl (fun h st=> ?_)))))
     refine I.az (.bool true) (I.rt ?_)
     rw [(Lab.Ep fQ).2 ⟨(by exact ag6),FF,sC⟩]
     refine ⟨_,(cT (fb (l:=[eY,v,ey,eJ, .int .i64 (Lab.jK n M n:Int), .int .i64 (Lab.jJ n M n:Int)]) rfl (L.e6 (st.aF 1 rfl) rfl rfl rfl)) (ca (.bool true))),_,_,rfl, ?_⟩
     exact st.tail.tail
theorem MI {S:List Lab.aL} {s x:Lab.aL} {i:Nat} (h:∀x∈S.take i,x<s) (hx:S[i]? =some x) (rm:x<s):∀x∈S.take (i+1),x<s:=by
 intro y hy
 rw [List.take_add_one,hx] at hy
 rcases List.mem_append.1 hy with hy|hy
 ·exact h y hy
 ·have:y=x:=by simpa using hy
  exact this▸rm
theorem Et {S:List Lab.aL} {w y:Lab.aL} {q:Nat} (hy:S[q]? =some y):(S.take (q+1)++w::S.drop (q+1))[q]? =some y:=by
 have au:=(List.getElem?_eq_some_iff.1 hy).1
 rw [List.getElem?_append_left (by rw [List.length_take];omega),List.getElem?_take_of_lt (by omega)];exact hy
theorem y5 {S:List Lab.aL} {w s:Lab.aL} {k:Nat} (hk:k≤S.length):(S.take k++w::S.drop k).set k s=S.take k++s::S.drop k:=by
 have e:(S.take k).length=k:=by rw [List.length_take];omega
 rw [List.set_append_right _ _ (by omega),e,Nat.sub_self];rfl
theorem Eu {S:List Lab.aL} {w y:Lab.aL} {q:Nat} (hy:S[q]? =some y):(S.take (q+1)++w::S.drop (q+1)).set (q+1) y=S.take q++y::S.drop q:=by
 have au:=(List.getElem?_eq_some_iff.1 hy).1
 rw [y5 (by omega),List.take_add_one,hy,List.drop_eq_getElem_cons au,(List.getElem?_eq_some_iff.1 hy).2];simp
theorem y6 (D:Ju c) {fs:List Fact} {h:ag} {bs:List Nat} {f:Nat} {v:V} {S:List Lab.aL} {s:Lab.aL} (hn:S.length<4294967296) (st:ak (.cX bs f 1 v (SR S)::fs) h):
 bU c 47 [v,L.str s] h fun v1 h1=>∃fM f1 S1,Lab.Ins S s S1∧ak (.cX fM f1 1 v1 (SR S1)::fs) h1:=by
 refine bU.dR D.f47 rfl (WP.af (I.az .U (I.af (I.az (.int .i64 0) (I.nil (WP.seq (WP.block (WP.dr (α:=Nat) (fun i env h=>∃ej,(i≤S.length∧∀x∈S.take i,x<s)∧env=cM [v,L.str s, .U, .n i,ej] 0 Env.nil∧ak (.cX bs f 1 v (SR S)::fs) h) (fun i=>S.length - i) 0 ?_ ?_))))))))
 ·exact ⟨.bot,⟨Nat.zero_le _,fun x hx=>by simp at hx⟩,by kernel_rfl,st⟩
 rintro i _ h ⟨ej,⟨aq,hlt⟩,rfl,st⟩
 refine WP.seq (WP.af (I.val (v:= .n S.length) (L.eB rfl (st.ib 0 rfl (by decide)) (eM _)) (I.eo (L.lss rfl rfl) (fun c1=> ?_) (fun c1=> ?_))))
 ·replace c1:i<S.length:=by omega
  obtain ⟨x,hx⟩:=fp (l:=S) (i:=i) (by omega)
  refine I.yes rfl (I.v v (I.yes rfl (I.v (.n i) (I.yes rfl (I.val (v:= .ptr (ck v) (cu v+i * 1)) (L.nr (st.ib 0 rfl (by decide)) (by rw [eM];omega) rfl rfl) (I.yes rfl (I.val (v:=L.str x) (L.load rfl ((st.ib 0 rfl (by decide)).tS (oM hx))) (I.yes rfl (I.v (L.str s) (I.yes rfl (I.eo (L.RX rfl rfl) (fun c2=> ?_) (fun c2=> ?_))))))))))))
  ·refine I.az (.bool true) (I.bh (WP.skip (WP.block (WP.aG (I.bX (v:= .n (i+1)) L.cB (I.nil ?_))))))
   exact ⟨i+1,(by omega),(.bool true),⟨by omega,MI hlt hx c2⟩,by kernel_rfl,st⟩
  ·have oE:∀z,S[i]? =some z→¬z<s:=fun z h=>by rw [hx] at h;cases h;exact c2
   refine I.az (.bool false) (I.aY (WP.exit (WP.seq (WP.af (I.val (v:= .n S.length) (L.eB rfl (st.ib 0 rfl (by decide)) (eM _)) (I.eo (L.lss rfl rfl) (fun _=> ?_) (fun oP=>by exfalso;omega)))))))
   refine I.yes rfl (I.v v (I.yes rfl (I.v (.n i) (I.yes rfl (I.val (v:= .ptr (ck v) (cu v+i * 1)) (L.nr (st.ib 0 rfl (by decide)) (by rw [eM];omega) rfl rfl) (I.yes rfl (I.val (v:=L.str x) (L.load rfl ((st.ib 0 rfl (by decide)).tS (oM hx))) (I.yes rfl (I.v (L.str s) (I.yes rfl (I.eo (L.seq rfl rfl) (fun cI=> ?_) (fun cI=> ?_))))))))))))
   ·refine I.az (.bool true) (I.bh (WP.af (I.az v (I.rt ?_))))
    exact ⟨_,(ca v),_,_,S,⟨i,aq,hlt,oE,(if_pos (by rw [hx,cI])).symm⟩,st⟩
   ·have bO:¬S[i]? =some s:=by rw [hx];intro e;exact cI (Option.some.inj e)
    refine I.az (.bool false) (I.aY (WP.skip (WP.af (I.eI (rows:=[[.str 0 0]]) st rfl (by decide) rfl (by simp) (fun HY h st=> ?_)))))
    refine I.HK (st.pick 1 rfl) rfl rfl (new:=[[V.str 0 0]]) (st.aS 0 rfl) (by decide) (by rw [eM];simp only [List.length_cons,List.length_nil];omega) (fun fM f1 v1 h st=> ?_)
    rw [show SR S++[[V.str 0 0]]=SR (S.take S.length++[]::S.drop S.length) from by rw [List.take_length,List.drop_length,nV];rfl] at st
    obtain ⟨b,rfl⟩:∃b,v1= .av b 0 (S.length+1) none:=Em (st.w9 0 rfl) (by rw [eM];simp) (by omega)
    refine I.nil (WP.seq (WP.af (I.val (v:= .n (S.length+1)) (L.qp rfl) (I.bX (v:= .n S.length) (L.iB rfl rfl (by omega) (And.intro (by omega) (by omega))) (I.nil (WP.block (WP.dr (α:=Nat) (fun k env h=>∃w dc,(i≤k∧k≤S.length)∧env=cM [.av b 0 (S.length+1) none,L.str s, .U, .n i, .bool false, .bool false, .n k,dc] 0 Env.nil∧ak (.cX fM f1 1 (.av b 0 (S.length+1) none) (SR (S.take k++w::S.drop k))::fs) h) (fun k=>k) S.length ?_ ?_)))))))
    ·exact ⟨[], .bot,⟨aq,Nat.le_refl _⟩,by kernel_rfl,(st.pick 1 rfl).tail⟩
    rintro k _ h ⟨w,dc,⟨F1,hk⟩,rfl,st⟩
    refine WP.seq (WP.af (I.bR (L.gtr rfl rfl) (fun dv=> ?_) (fun dv=> ?_)))
    ·obtain ⟨q,rfl⟩:∃q,k=q+1:=⟨k - 1,by omega⟩
     obtain ⟨y,hy⟩:=fp (l:=S) (i:=q) (by omega)
     refine I.bh (WP.skip (WP.seq (WP.block (WP.aG (I.val (v:= .n q) (L.iB rfl rfl (by omega) (And.intro (by omega) (by omega))) (I.val (v:= .ptr b (0+q * 1)) (L.bQ rfl rfl (by omega)) (I.val (v:=L.str y) (L.load rfl ((st.ib 0 rfl (by decide)).eZ (oM (Et hy)))) (I.val (v:= .ptr b (0+(q+1) * 1)) (L.bQ rfl rfl (by omega)) (I.vA st rfl rfl (by decide) (by rw [eM];simp;omega) rfl (fun h st=> ?_))))))))))
     replace st:ak (.cX fM f1 1 (.av b 0 (S.length+1) none) (SR (S.take q++y::S.drop q))::fs) h:=by rw [←Eu hy (w:=w),←vC];exact st
     refine I.nil (WP.aG (I.bX (v:= .n q) (L.iB rfl rfl (by omega) (And.intro (by omega) (by omega))) (I.nil ?_)))
     exact ⟨q,(by omega),y,(.bool true),⟨by omega,by omega⟩,by kernel_rfl,st⟩
    ·obtain rfl:k=i:=by omega
     refine I.aY (WP.exit (WP.af (I.val (v:= .ptr b (0+k * 1)) (L.bQ rfl rfl (by omega)) (I.vA st rfl rfl (by decide) (by rw [eM];simp;omega) rfl (fun h st=> ?_)))))
     replace st:ak (.cX fM f1 1 (.av b 0 (S.length+1) none) (SR (S.take k++s::S.drop k))::fs) h:=by rw [←y5 (w:=w) (show k≤S.length by omega),←vC];exact st
     refine I.af (I.az (.av b 0 (S.length+1) none) (I.rt ?_))
     exact ⟨_,(ca (.av b 0 (S.length+1) none)),_,_,_,⟨k,by omega,hlt,oE,(if_neg bO).symm⟩,st⟩
 ·replace c1:¬i<S.length:=by omega
  have hx:S[i]? =none:=List.getElem?_eq_none (by omega)
  have oE:∀x,S[i]? =some x→¬x<s:=fun x h=>by rw [hx] at h;cases h
  have bO:¬S[i]? =some s:=by rw [hx];simp
  refine I.gK (I.eP (I.az (.bool false) (I.aY (WP.exit (WP.seq (WP.af (I.val (v:= .n S.length) (L.eB rfl (st.ib 0 rfl (by decide)) (eM _)) (I.eo (L.lss rfl rfl) (fun oP=>by exfalso;omega) (fun _=> ?_)))))))))
  refine I.gK (I.eP (I.az (.bool false) (I.aY (WP.skip (WP.af (I.eI (rows:=[[.str 0 0]]) st rfl (by decide) rfl (by simp) (fun HZ h st=> ?_)))))))
  refine I.HK (st.pick 1 rfl) rfl rfl (new:=[[V.str 0 0]]) (st.aS 0 rfl) (by decide) (by rw [eM];simp only [List.length_cons,List.length_nil];omega) (fun fM f1 v1 h st=> ?_)
  rw [show SR S++[[V.str 0 0]]=SR (S.take S.length++[]::S.drop S.length) from by rw [List.take_length,List.drop_length,nV];rfl] at st
  obtain ⟨b,rfl⟩:∃b,v1= .av b 0 (S.length+1) none:=Em (st.w9 0 rfl) (by rw [eM];simp) (by omega)
  refine I.nil (WP.seq (WP.af (I.val (v:= .n (S.length+1)) (L.qp rfl) (I.bX (v:= .n S.length) (L.iB rfl rfl (by omega) (And.intro (by omega) (by omega))) (I.nil (WP.block (WP.dr (α:=Nat) (fun k env h=>∃w dc,(i≤k∧k≤S.length)∧env=cM [.av b 0 (S.length+1) none,L.str s, .U, .n i, .bool false, .bool false, .n k,dc] 0 Env.nil∧ak (.cX fM f1 1 (.av b 0 (S.length+1) none) (SR (S.take k++w::S.drop k))::fs) h) (fun k=>k) S.length ?_ ?_)))))))
  ·exact ⟨[], .bot,⟨aq,Nat.le_refl _⟩,by kernel_rfl,(st.pick 1 rfl).tail⟩
  rintro k _ h ⟨w,dc,⟨F1,hk⟩,rfl,st⟩
  refine WP.seq (WP.af (I.bR (L.gtr rfl rfl) (fun dv=> ?_) (fun dv=> ?_)))
  ·obtain ⟨q,rfl⟩:∃q,k=q+1:=⟨k - 1,by omega⟩
   obtain ⟨y,hy⟩:=fp (l:=S) (i:=q) (by omega)
   refine I.bh (WP.skip (WP.seq (WP.block (WP.aG (I.val (v:= .n q) (L.iB rfl rfl (by omega) (by omega)) (I.val (v:= .ptr b (0+q * 1)) (L.bQ rfl rfl (by omega)) (I.val (v:=L.str y) (L.load rfl ((st.ib 0 rfl (by decide)).eZ (oM (Et hy)))) (I.val (v:= .ptr b (0+(q+1) * 1)) (L.bQ rfl rfl (by omega)) (I.vA st rfl rfl (by decide) (by rw [eM];simp;omega) rfl (fun h st=> ?_))))))))))
   replace st:ak (.cX fM f1 1 (.av b 0 (S.length+1) none) (SR (S.take q++y::S.drop q))::fs) h:=by rw [←Eu hy (w:=w),←vC];exact st
   refine I.nil (WP.aG (I.bX (v:= .n q) (L.iB rfl rfl (by omega) (by omega)) (I.nil ?_)))
   exact ⟨q,(by omega),y,(.bool true),⟨by omega,by omega⟩,by kernel_rfl,st⟩
  ·obtain rfl:k=i:=by omega
   refine I.aY (WP.exit (WP.af (I.val (v:= .ptr b (0+k * 1)) (L.bQ rfl rfl (by omega)) (I.vA st rfl rfl (by decide) (by rw [eM];simp;omega) rfl (fun h st=> ?_)))))
   replace st:ak (.cX fM f1 1 (.av b 0 (S.length+1) none) (SR (S.take k++s::S.drop k))::fs) h:=by rw [←y5 (w:=w) (show k≤S.length by omega),←vC];exact st
   refine I.af (I.az (.av b 0 (S.length+1) none) (I.rt ?_))
   exact ⟨_,(ca (.av b 0 (S.length+1) none)),_,_,_,⟨k,by omega,hlt,oE,(if_neg bO).symm⟩,st⟩
end
end Go.Eng.YtmcjcbldmoijiaaGreatDoor.Lt
