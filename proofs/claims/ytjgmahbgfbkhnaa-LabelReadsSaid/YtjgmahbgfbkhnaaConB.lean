/- Part of a proof of a law: rules of an evaluator, contracts, plain laws. No condition of its own. -/
import Derived.Test.YtjgmahbgfbkhnaaCodeA
import Derived.Test.YtjgmahbgfbkhnaaSymB
set_option linter.unusedVariables false
set_option linter.unusedSimpArgs false
namespace Go.Eng.Ytjgmahbgfbkhnaa
open Go.Eng
noncomputable section
variable {c:Ctx} {h:Heap}
def J8 (h:Heap) (tb n:Nat) (M:Nat→Nat→Bool):Prop:=∃lb lo cap,h.bE tb 1=some (.sl lb lo n cap)∧∀a,a<n→∃rb ro rcap,h.bE lb (lo+a * 1)=some (.sl rb ro n rcap)∧∀b,b<n→h.bE rb (ro+b * 1)=some (.bool (M a b))
def Ans (c:Ctx) (h:Heap) (f:Nat) (xs:List V) (b:Bool):Prop:=aM c f xs h fun v h1=>v= .bool b∧h1=h
theorem yC (H:T.get 46 c.aR=some i46) {tb n a b:Nat} {M:Nat→Nat→Bool} (m:J8 h tb n M) (ha:a<n) (hb:b<n):Ans c h 46 [.int .i64 (a:Int), .int .i64 (b:Int), .ptr tb 0] (M a b):=by
 obtain ⟨lb,lo,cap,h1,hm⟩:=m
 obtain ⟨rb,ro,rcap,h2,hm⟩:=hm a ha
 refine aM.bX H rfl (WP.seq (WP.reg (WO.ak (v:= .bool false) rfl (WO.nil (WP.seq (WP.reg (WO.val (v:= .ptr tb 1) (L.aA rfl) (WO.val (v:= .sl lb lo n cap) (L.load rfl h1) (WO.val (v:= .ptr lb (lo+a * 1)) (L.aC rfl rfl ha) (WO.val (v:= .sl rb ro n rcap) (L.load rfl h2) (WO.val (v:= .ptr rb (ro+b * 1)) (L.aC rfl rfl hb) (WO.ak (v:= .bool (M a b)) (L.load rfl (hm b hb)) (WO.nil (WP.ret ?_))))))))))))))
 exact ⟨_,aj (au (v:= .bool (M a b)) rfl) (ay _ _),rfl,rfl⟩
theorem Ca (H:T.get 47 c.aR=some i47) {tb n a b:Nat} {M:Nat→Nat→Bool} (m:J8 h tb n M) (ha:a<n) (hb:b<n):Ans c h 47 [.int .i64 (a:Int), .int .i64 (b:Int), .ptr tb 0] (M b a):=by
 obtain ⟨lb,lo,cap,h1,hm⟩:=m
 obtain ⟨rb,ro,rcap,h2,hm⟩:=hm b hb
 refine aM.bX H rfl (WP.seq (WP.reg (WO.ak (v:= .bool false) rfl (WO.nil (WP.seq (WP.reg (WO.val (v:= .ptr tb 1) (L.aA rfl) (WO.val (v:= .sl lb lo n cap) (L.load rfl h1) (WO.val (v:= .ptr lb (lo+b * 1)) (L.aC rfl rfl hb) (WO.val (v:= .sl rb ro n rcap) (L.load rfl h2) (WO.val (v:= .ptr rb (ro+a * 1)) (L.aC rfl rfl ha) (WO.ak (v:= .bool (M b a)) (L.load rfl (hm a ha)) (WO.nil (WP.ret ?_))))))))))))))
 exact ⟨_,aj (au (v:= .bool (M b a)) rfl) (ay _ _),rfl,rfl⟩
theorem up_c (H:T.get 49 c.aR=some i49) (H6:T.get 46 c.aR=some i46) {tb n lb ab bb a b x:Nat} {M:Nat→Nat→Bool} (m:J8 h tb n M) (hl:h.bE lb 0=some (.fn 46 [] [.ptr tb 0])) (h1:h.bE ab 0=some (.int .i64 (a:Int))) (h2:h.bE bb 0=some (.int .i64 (b:Int))) (ha:a<n) (hb:b<n) (hx:x<n):
 Ans c h 49 [.int .i64 (x:Int), .ptr lb 0, .ptr ab 0, .ptr bb 0] (M a x&&M b x):=by
 refine aM.bX H rfl (WP.seq (WP.reg (WO.ak (v:= .bool false) rfl (WO.nil (WP.seq (WP.reg (WO.val (v:= .fn 46 [] [.ptr tb 0]) (L.load rfl hl) (WO.val (v:= .int .i64 (a:Int)) (L.load rfl h1) (WO.kS rfl rfl (yC H6 m ha hx) ?_)))))))))
 rintro _ h ⟨rfl,rfl⟩
 cases M a x with
 |false=>
  refine WO.no rfl (WO.no rfl (WO.no rfl (WO.no rfl (WO.ak (v:= .bool false) rfl (WO.nil (WP.ret ?_))))))
  exact ⟨_,aj (au (v:= .bool false) rfl) (ay _ _),rfl,rfl⟩
 |true=>
  refine WO.yes rfl (WO.val (v:= .fn 46 [] [.ptr tb 0]) (L.load rfl hl) (WO.yes rfl (WO.val (v:= .int .i64 (b:Int)) (L.load rfl h2) (WO.yes rfl (WO.val (v:= .int .i64 (x:Int)) rfl (WO.yes rfl (WO.kS rfl rfl (yC H6 m hb hx) ?_)))))))
  rintro _ h ⟨rfl,rfl⟩
  refine WO.ak (v:= .bool (M b x)) rfl (WO.nil (WP.ret ?_))
  exact ⟨_,aj (au (v:= .bool (M b x)) rfl) (ay _ _),by rw [Bool.true_and];rfl,rfl⟩
theorem sZ (H:T.get 50 c.aR=some i50) (H6:T.get 46 c.aR=some i46) {tb n lb ab bb a b x:Nat} {M:Nat→Nat→Bool} (m:J8 h tb n M) (hl:h.bE lb 0=some (.fn 46 [] [.ptr tb 0])) (h1:h.bE ab 0=some (.int .i64 (a:Int))) (h2:h.bE bb 0=some (.int .i64 (b:Int))) (ha:a<n) (hb:b<n) (hx:x<n):
 Ans c h 50 [.int .i64 (x:Int), .ptr lb 0, .ptr ab 0, .ptr bb 0] (M x a&&M x b):=by
 refine aM.bX H rfl (WP.seq (WP.reg (WO.ak (v:= .bool false) rfl (WO.nil (WP.seq (WP.reg (WO.val (v:= .fn 46 [] [.ptr tb 0]) (L.load rfl hl) (WO.val (v:= .int .i64 (a:Int)) (L.load rfl h1) (WO.kS rfl rfl (yC H6 m hx ha) ?_)))))))))
 rintro _ h ⟨rfl,rfl⟩
 cases M x a with
 |false=>
  refine WO.no rfl (WO.no rfl (WO.no rfl (WO.no rfl (WO.ak (v:= .bool false) rfl (WO.nil (WP.ret ?_))))))
  exact ⟨_,aj (au (v:= .bool false) rfl) (ay _ _),rfl,rfl⟩
 |true=>
  refine WO.yes rfl (WO.val (v:= .fn 46 [] [.ptr tb 0]) (L.load rfl hl) (WO.yes rfl (WO.val (v:= .int .i64 (x:Int)) rfl (WO.yes rfl (WO.val (v:= .int .i64 (b:Int)) (L.load rfl h2) (WO.yes rfl (WO.kS rfl rfl (yC H6 m hx hb) ?_)))))))
  rintro _ h ⟨rfl,rfl⟩
  refine WO.ak (v:= .bool (M x b)) rfl (WO.nil (WP.ret ?_))
  exact ⟨_,aj (au (v:= .bool (M x b)) rfl) (ay _ _),by rw [Bool.true_and];rfl,rfl⟩
theorem Eo {f:Nat} {F:Fun} (H:T.get f c.aR=some F) (hF:F=i51∨F=i52) {x:Nat}:Ans c h f [.int .i64 (x:Int)] true:=by
 rcases hF with rfl|rfl<;>
 ·refine aM.bX H rfl (WP.seq (WP.reg (WO.ak (v:= .bool false) rfl (WO.nil (WP.seq (WP.reg (WO.ak (v:= .bool true) rfl (WO.nil (WP.ret ?_)))))))))
  exact ⟨_,aj (au (v:= .bool true) rfl) (ay _ _),rfl,rfl⟩
def leastV:Option Nat→V
 |some x=> .tup [.int .i64 (x:Int), .bool true]
 |none=> .tup [.int .i64 0, .bool false]
theorem tq {n:Nat} {p:Nat→Bool} (h:∀x,x<n→p x=false):(List.range n).find? p=none:=by
 rw [List.find?_eq_none];intro x hx;simp [h x (List.mem_range.1 hx)]
theorem tu {p:Nat→Bool} {x:Nat}:∀{n:Nat},x<n→p x=true→(∀y,y<x→p y=false)→(List.range n).find? p=some x
 |0,hx,_,_=>by omega
 |n+1,hx,hp,hl=>by
  rw [List.range_succ,List.find?_append]
  by_cases e:x=n
  ·subst e;rw [tq hl];simp [hp]
  ·rw [tu (n:=n) (by omega) hp hl];rfl
theorem iC (H:T.get 48 c.aR=some i48) {n f1 f2:Nat} {c1 c2:List V} {le:Nat→Nat→Bool} {is:Nat→Bool} (hn:n<4294967296) (hle:∀a b,a<n→b<n→Ans c h f1 ([.int .i64 (a:Int), .int .i64 (b:Int)]++c1) (le a b)) (his:∀a,a<n→Ans c h f2 ([.int .i64 (a:Int)]++c2) (is a)):
 aM c 48 [.int .i64 (n:Int), .fn f1 [] c1, .fn f2 [] c2] h fun v h1=>v=leastV (Lab.least n le is)∧h1=h:=by
 refine aM.bX H rfl (WP.seq (WP.reg (WO.ak (v:= .int .i64 0) rfl (WO.ak (v:= .bool false) rfl (WO.nil (WP.seq (WP.skip (WP.seq (WP.seq (WP.reg (WO.ak (v:= .int .i64 (n:Int)) rfl (WO.ak (v:= .int .i64 0) rfl (WO.nil (WP.block (WP.bT (α:=Nat) (fun k env h1=>∃x7 x8 x9 x10 x11 x12 x13 x14,k≤n∧(∀y,y<k→(is y&&Lab.lower n le is y)=false)∧env=aO [.int .i64 (n:Int), .fn f1 [] c1, .fn f2 [] c2, .int .i64 0, .bool false, .int .i64 (k:Int), .int .i64 (n:Int),x7,x8,x9,x10,x11,x12,x13,x14] 0 Env.nil∧h1=h) (fun k=>n - k) 0 ⟨.bot, .bot, .bot, .bot, .bot, .bot, .bot, .bot,Nat.zero_le _,fun y hy=>by omega,by kernel_rfl,rfl⟩ ?_)))))))))))))))
 rintro k _ h ⟨x7,x8,x9,x10,x11,x12,x13,x14,hk,hlow,rfl,rfl⟩
 refine WP.seq (WP.reg (WO.ifS (L.lss rfl rfl) (fun c1'=>WO.nil ?_) (fun c1'=>WO.nil ?_)))
 ·have hkn:k<n:=by omega
  refine WP.seq (WP.cond (t:=true) rfl (WP.skip (WP.seq (WP.block (WP.seq (WP.reg (WO.ak (v:= .int .i64 (k:Int)) rfl (WO.nil (WP.seq (WP.seq (WP.reg (WO.kS rfl rfl (his k hkn) ?_))))))))))))
  rintro _ h ⟨rfl,rfl⟩
  have next:∀{e:Env} {y7 y8 y9 y10 y11 y12 y13 y14:V},(is k&&Lab.lower n le is k)=false→e=aO [.int .i64 (n:Int), .fn f1 [] c1, .fn f2 [] c2, .int .i64 0, .bool false, .int .i64 (k:Int), .int .i64 (n:Int),y7,y8,y9,y10,y11,y12,y13,y14] 0 Env.nil→
   ∀{Q:QT},(∀(y7 y8 y9 y10 y11 y12 y13 y14:V),Q .nrm (aO [.int .i64 (n:Int), .fn f1 [] c1, .fn f2 [] c2, .int .i64 0, .bool false, .int .i64 ((k+1:Nat):Int), .int .i64 (n:Int),y7,y8,y9,y10,y11,y12,y13,y14] 0 Env.nil) h)→WP c (.reg 1 [.s .d0 .d5 (.L (.bin .add (.t .d0 .d5) (.c (.int .i64 1))))]) Q e h:=by
   intro e y7 y8 y9 y10 y11 y12 y13 y14 _ he Q hq
   subst he
   exact WP.reg (WO.ak (v:= .int .i64 ((k+1:Nat):Int)) (L.bP rfl rfl (by omega) (And.intro (by omega) (by omega))) (WO.nil (hq y7 y8 y9 y10 y11 y12 y13 y14)))
  have inv:(is k&&Lab.lower n le is k)=false→∀y,y<k+1→(is y&&Lab.lower n le is y)=false:=fun hf y hy=>by
   by_cases e:y=k
   ·subst e;exact hf
   ·exact hlow y (by omega)
  cases hik:is k with
  |false=>
   refine WO.ak (v:= .bool true) rfl (WO.nil (WP.cond (t:=true) rfl (WP.exit ?_)))
   have hf:(is k&&Lab.lower n le is k)=false:=by rw [hik];rfl
   refine next (y7:= .bool true) (y8:= .int .i64 (k:Int)) (y9:= .bool true) (y10:=x10) (y11:=x11) (y12:=x12) (y13:=x13) (y14:=x14) hf (by kernel_rfl) fun y7 y8 y9 y10 y11 y12 y13 y14=> ?_
   exact ⟨k+1,by omega,y7,y8,y9,y10,y11,y12,y13,y14,by omega,inv hf,rfl,rfl⟩
  |true=>
   refine WO.ak (v:= .bool false) rfl (WO.nil (WP.cond (t:=false) rfl (WP.skip (WP.seq (WP.seq (WP.reg (WO.ak (v:= .int .i64 (n:Int)) rfl (WO.ak (v:= .int .i64 0) rfl (WO.nil (WP.block (WP.bT (α:=Nat) (fun d env h1=>∃x12 x13 x14,d≤n∧(∀y,y<d→(!is y||le k y)=true)∧env=aO [.int .i64 (n:Int), .fn f1 [] c1, .fn f2 [] c2, .int .i64 0, .bool false, .int .i64 (k:Int), .int .i64 (n:Int), .bool true, .int .i64 (k:Int), .bool false, .int .i64 (d:Int), .int .i64 (n:Int),x12,x13,x14] 0 Env.nil∧h1=h) (fun d=>n - d) 0 ⟨x12,x13,x14,Nat.zero_le _,fun y hy=>by omega,by kernel_rfl,rfl⟩ ?_)))))))))))
   rintro d _ h ⟨x12,x13,x14,hd,hall,rfl,rfl⟩
   refine WP.seq (WP.reg (WO.ifS (L.lss rfl rfl) (fun c2'=>WO.nil ?_) (fun c2'=>WO.nil ?_)))
   ·have hdn:d<n:=by omega
    refine WP.seq (WP.cond (t:=true) rfl (WP.skip (WP.seq (WP.block (WP.seq (WP.reg (WO.ak (v:= .int .i64 (d:Int)) rfl (WO.nil (WP.seq (WP.reg (WO.kS rfl rfl (his d hdn) ?_)))))))))))
    rintro _ h ⟨rfl,rfl⟩
    have goon:∀{b:V},(!is d||le k d)=true→WP c (.reg 1 [.s .d1 .d2 (.L (.bin .add (.t .d1 .d2) (.c (.int .i64 1))))]) (fun x e2 h2=>match x with
     | .nrm=>∃g',n - g'<n - d∧∃x12 x13 x14,g'≤n∧(∀y,y<g'→(!is y||le k y)=true)∧e2=aO [.int .i64 (n:Int), .fn f1 [] c1, .fn f2 [] c2, .int .i64 0, .bool false, .int .i64 (k:Int), .int .i64 (n:Int), .bool true, .int .i64 (k:Int), .bool false, .int .i64 (g':Int), .int .i64 (n:Int),x12,x13,x14] 0 Env.nil∧h2=h
     |_=>False) (aO [.int .i64 (n:Int), .fn f1 [] c1, .fn f2 [] c2, .int .i64 0, .bool false, .int .i64 (k:Int), .int .i64 (n:Int), .bool true, .int .i64 (k:Int), .bool false, .int .i64 (d:Int), .int .i64 (n:Int), .bool true, .int .i64 (d:Int),b] 0 Env.nil) h:=by
     intro b hb
     refine WP.reg (WO.ak (v:= .int .i64 ((d+1:Nat):Int)) (L.bP rfl rfl (by omega) (And.intro (by omega) (by omega))) (WO.nil (⟨d+1,by omega, .bool true, .int .i64 (d:Int),b,by omega,fun y hy=> ?_,by kernel_rfl,rfl⟩)))
     by_cases e:y=d
     ·subst e;exact hb
     ·exact hall y (by omega)
    cases hid:is d with
    |false=>
     refine WO.no rfl (WO.no rfl (WO.no rfl (WO.no rfl (WO.no rfl (WO.ak (v:= .bool false) rfl (WO.nil (WP.cond (t:=false) rfl (WP.skip ?_))))))))
     exact (goon (b:= .bool false) (by rw [hid];rfl)).mono fun x e h1 q=>by cases x<;>first|exact q|exact q.elim
    |true=>
     refine WO.yes rfl (WO.val (v:= .fn f1 [] c1) rfl (WO.yes rfl (WO.val (v:= .int .i64 (k:Int)) rfl (WO.yes rfl (WO.val (v:= .int .i64 (d:Int)) rfl (WO.yes rfl (WO.kS rfl rfl (hle k d hkn hdn) ?_)))))))
     rintro _ h ⟨rfl,rfl⟩
     cases hld:le k d with
     |true=>
      refine WO.yes rfl (WO.val (v:= .bool false) rfl (WO.ak (v:= .bool false) rfl (WO.nil (WP.cond (t:=false) rfl (WP.skip ?_)))))
      exact (goon (b:= .bool false) (by rw [hld];simp)).mono fun x e h1 q=>by cases x<;>first|exact q|exact q.elim
     |false=>
      refine WO.yes rfl (WO.val (v:= .bool true) rfl (WO.ak (v:= .bool true) rfl (WO.nil (WP.cond (t:=true) rfl (WP.exit ?_)))))
      have hf:(is k&&Lab.lower n le is k)=false:=by
       have:Lab.lower n le is k=false:=by
        unfold Lab.lower
        rw [Bool.eq_false_iff]
        intro ht
        have:=List.all_eq_true.1 ht d (List.mem_range.2 hdn)
        rw [hid,hld] at this
        cases this
       rw [this,Bool.and_false]
      refine next (y7:= .bool true) (y8:= .int .i64 (k:Int)) (y9:= .bool false) (y10:= .int .i64 (d:Int)) (y11:= .int .i64 (n:Int)) (y12:= .bool true) (y13:= .int .i64 (d:Int)) (y14:= .bool true) hf (by kernel_rfl) fun y7 y8 y9 y10 y11 y12 y13 y14=> ?_
      exact ⟨k+1,by omega,y7,y8,y9,y10,y11,y12,y13,y14,by omega,inv hf,rfl,rfl⟩
   ·refine WP.seq (WP.cond (t:=false) rfl (WP.exit (WP.seq (WP.reg (WO.ak (v:= .int .i64 (k:Int)) rfl (WO.ak (v:= .bool true) rfl (WO.nil (WP.ret ?_))))))))
    have hdn:d=n:=by omega
    subst hdn
    have hfind:Lab.least d le is=some k:=by
     refine tu hkn ?_ hlow
     rw [hik,Bool.true_and]
     unfold Lab.lower
     rw [List.all_eq_true]
     intro y hy
     exact hall y (List.mem_range.1 hy)
    exact ⟨_,aj (au (v:= .int .i64 (k:Int)) rfl) (aj (au (v:= .bool true) rfl) (ay _ _)),by rw [hfind];rfl,rfl⟩
 ·refine WP.seq (WP.cond (t:=false) rfl (WP.exit (WP.seq (WP.reg (WO.ak (v:= .int .i64 0) rfl (WO.ak (v:= .bool false) rfl (WO.nil (WP.ret ?_))))))))
  have hkn:k=n:=by omega
  subst hkn
  have hfind:Lab.least k le is=none:=tq hlow
  exact ⟨_,aj (au (v:= .int .i64 0) rfl) (aj (au (v:= .bool false) rfl) (ay _ _)),by rw [hfind];rfl,rfl⟩
end
end Go.Eng.Ytjgmahbgfbkhnaa
