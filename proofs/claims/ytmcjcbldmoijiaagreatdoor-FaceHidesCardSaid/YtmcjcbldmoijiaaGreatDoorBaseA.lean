/- Part of a proof of a law: rules of an evaluator, contracts, plain laws. No condition of its own. -/
import Derived.Test.YtmcjcbldmoijiaaGreatDoorSymA
import Derived.Test.YtmcjcbldmoijiaaGreatDoorCodeA
import Derived.Test.YtmcjcbldmoijiaaGreatDoorSymE
set_option linter.unusedVariables false
set_option linter.unusedSimpArgs false
namespace Go.Eng.YtmcjcbldmoijiaaGreatDoor.Lt
open Go.Eng
noncomputable section
variable {c:Ctx}
structure uO (c:Ctx):Prop where
 f46:T.get 46 c.cE=some i46
 f145:T.get 145 c.cE=some i145
def k5 (ns:List Lab.aL) (x:Lab.aL):Int:=if x∈ns then (ns.idxOf x:Int) else -1
theorem KM {ns:List Lab.aL} {x:Lab.aL} (h:x∉ns):k5 ns x= -1:=if_neg h
theorem CS:∀{ns:List Lab.aL} {x:Lab.aL} {k:Nat},ns[k]? =some x→x∉ns.take k→ns.idxOf x=k
 |[],x,k,h,_=>by simp at h
 |y::ns,x,0,h,_=>by simp at h;subst h;simp
 |y::ns,x,k+1,h,hn=>by
  have h1:y≠x:=fun e=>hn (by rw [e];simp)
  rw [List.idxOf_cons,show (y==x)=false from by simpa using h1]
  simp [CS (ns:=ns) (x:=x) (k:=k) (by simpa using h) (fun hm=>hn (by simp [hm]))]
theorem KN {ns:List Lab.aL} {x y:Lab.aL} {k:Nat} (_hk:k≤ns.length) (h:ns[k]? =some y) (hn:x∉ns.take k) (e:x=y):k5 ns x=(k:Int):=by
 subst e
 unfold k5;rw [if_pos (List.mem_of_getElem? h),CS h hn]
theorem KO {ns:List Lab.aL} {x y:Lab.aL} {k:Nat} (hn:x∉ns.take k) (h:ns[k]? =some y) (e:x≠y):x∉ns.take (k+1):=by
 rw [List.take_add_one,h];simp [hn,e]
theorem SH (D:uO c) {h0:ae} {v:V} {ns:List Lab.aL} {x:Lab.aL} (hn:ns.length<4294967296) (R:Rows 1 h0 v (SR ns)):
 bT c 46 [v,L.str x] h0 fun v1 h1=>v1= .int .i64 (k5 ns x)∧h1=h0:=by
 refine bT.dN D.f46 rfl (WP.ak (I.aC (.int .i64 0) (I.nil (WP.seq (WP.ak (I.aC (.int .i64 0) (I.nil (WP.block (WP.dS (α:=Nat) (fun k env rK=>∃bR eM eO,(k≤ns.length∧x∉ns.take k)∧env=c6 [v,L.str x,bR, .n k,eM,eO] 0 Env.nil∧rK=h0) (fun k=>ns.length - k) 0 ?_ ?_)))))))))
 ·exact ⟨(.int .i64 0), .bot, .bot,⟨Nat.zero_le _,by simp⟩,by kernel_rfl,rfl⟩
 rintro k _ h ⟨bR,eM,eO,⟨hk,uA⟩,rfl,rfl⟩
 refine WP.seq (WP.ak (I.val (v:= .n ns.length) (L.fD rfl R (gQ _)) (I.bV (L.lss rfl rfl) (fun c1=> ?_) (fun c1=> ?_))))
 ·replace c1:k<ns.length:=by omega
  obtain ⟨y,hx⟩:∃y,ns[k]? =some y:=⟨ns[k]'(by omega),List.getElem?_eq_getElem (by omega)⟩
  refine I.bI (WP.skip (WP.seq (WP.block (WP.ak (I.val (v:= .ptr (cY v) (db v+k * 1)) (L.nM R (by rw [gQ];omega) rfl rfl) (I.val (v:=L.str y) (L.load rfl (R.vA (qD hx))) (I.bV (L.seq rfl rfl) (fun hv=> ?_) (fun hv=> ?_))))))))
  ·refine I.bI (WP.ak (I.aC (.n k) (I.nil (WP.ret ?_))))
   exact ⟨_,(b0 (.n k)),(by rw [KN hk hx (by simpa using uA) hv.symm];rfl),rfl⟩
  ·refine I.nil (WP.cond (t:=false) rfl (WP.skip (WP.ad (I.bS (v:= .int .i64 ((k+1:Nat):Int)) (L.cX rfl rfl (by omega) (And.intro (by omega) (by omega))) (I.nil ?_)))))
   exact ⟨k+1,(by omega),bR,(.bool true),(.bool false),⟨by omega,KO uA hx (fun e=>hv e.symm)⟩,by kernel_rfl,rfl⟩
 ·replace c1:¬(k<ns.length):=by omega
  refine I.bw (WP.exit (WP.ak (I.aC (.int .i64 (-1)) (I.nil (WP.ret ?_)))))
  exact ⟨_,(b0 (.int .i64 (-1))),(by rw [KM (by rw [List.take_of_length_le (by omega)] at uA;exact uA)];rfl),rfl⟩
theorem aeE (D:uO c) {h0:ae} {v w:V} {n:Nat} {M:List (List Bool)} {cs:List Bool} {is:Nat→Bool} (hn:n<4294967296) (e5:eJ n M) (b:gb h0 v M) (R:Rows 1 h0 w (cs.map bv)) (vp:cs.length=n) (dQ:∀k,k<n→cs[k]? =some (is k)):
 bT c 145 [v,w] h0 fun v1 h1=>v1= .int .i64 (KI (Lab.least n (Lab.cf M) is))∧h1=h0:=by
 refine bT.dN D.f145 rfl (WP.ak (I.aC (.int .i64 0) (I.nil (WP.seq (WP.ak (I.aC (.int .i64 0) (I.nil (WP.block (WP.dS (α:=Nat) (fun i env rK=>∃bR eM eO c4 dH eo,(i≤n∧∀j,j<i→Lab.mu n M is j n=false)∧env=c6 [v,w,bR, .n i,eM,eO,c4,dH,eo] 0 Env.nil∧rK=h0) (fun i=>n - i) 0 ?_ ?_)))))))))
 ·exact ⟨(.int .i64 0), .bot, .bot, .bot, .bot, .bot,⟨Nat.zero_le _,fun j aR=>absurd aR (by omega)⟩,by kernel_rfl,rfl⟩
 rintro i _ h ⟨bR,eM,eO,c4,dH,eo,⟨ag,e2⟩,rfl,rfl⟩
 refine WP.seq (WP.ak (I.val (v:= .n n) (L.fD rfl R (by rw [List.length_map];exact vp)) (I.bV (L.lss rfl rfl) (fun c1=> ?_) (fun c1=> ?_))))
 ·replace c1:i<n:=by omega
  obtain ⟨u,r,iJ,gm,vP,tA⟩:=zX e5 b (show i<n by omega)
  refine I.bI (WP.skip (WP.seq (WP.block (WP.ak (I.val (v:= .ptr (cY w) (db w+i * 1)) (L.nM R (by rw [List.length_map];omega) rfl rfl) (I.bS (v:= .bool (Lab.mu n M is i 0)) (L.load rfl (by rw [pD R (dQ i (by omega))];unfold Lab.mu;simp)) (I.nil (WP.seq (WP.ak (I.aC (.int .i64 0) (I.nil (WP.block (WP.dS (α:=Nat) (fun k env rK=>∃c4,(k≤n)∧env=c6 [v,w,bR, .n i, .bool true, .n k,c4, .bool (Lab.mu n M is i k),eo] 0 Env.nil∧rK=h) (fun k=>n - k) 0 ?_ ?_)))))))))))))
  ·exact ⟨c4,Nat.zero_le _,by kernel_rfl,rfl⟩
  rintro k _ h ⟨c4,hk,rfl,rfl⟩
  refine WP.seq (WP.ak (I.val (v:= .n n) (L.fD rfl R (by rw [List.length_map];exact vp)) (I.bV (L.lss rfl rfl) (fun c2=> ?_) (fun c2=> ?_))))
  ·replace c2:k<n:=by omega
   have tB:=Lab.Z3 n M is i k
   cases hok:Lab.mu n M is i k with
   |false=>
    rw [hok] at tB
    refine I.bI (WP.skip (WP.seq (WP.block (WP.ad (I.no rfl (I.no rfl (I.no rfl (I.no rfl (I.no rfl (I.no rfl (I.no rfl (I.no rfl (I.no rfl (I.no rfl (I.no rfl (I.no rfl (I.no rfl (I.no rfl ?_))))))))))))))))))
    have _:=tB
    refine I.bS (v:= .bool (Lab.mu n M is i (k+1))) (by rw [tB];rfl) (I.nil (WP.ad (I.bS (v:= .int .i64 ((k+1:Nat):Int)) (L.cX rfl rfl (by omega) (And.intro (by omega) (by omega))) (I.nil ?_))))
    exact ⟨k+1,(by omega),(.bool true),by omega,by kernel_rfl,rfl⟩
   |true=>
    rw [hok] at tB
    refine I.bI (WP.skip (WP.seq (WP.block (WP.ad (I.yes rfl (I.v w (I.yes rfl (I.v (.n k) (I.yes rfl (I.val (v:= .ptr (cY w) (db w+k * 1)) (L.nM R (by rw [List.length_map];omega) rfl rfl) (I.yes rfl ?_)))))))))))
    rcases uz (is k) with av|av
    ·refine I.val (v:= .bool false) (L.load rfl (by rw [pD R (dQ k c2),av])) (I.yes rfl (I.v (.bool true) (I.yes rfl (I.v (.bool true) (I.no rfl (I.no rfl (I.no rfl (I.no rfl (I.no rfl (I.no rfl (I.no rfl (I.yes rfl (I.v (.bool true) ?_)))))))))))))
     rw [av] at tB
     refine I.bS (v:= .bool (Lab.mu n M is i (k+1))) (by rw [tB];rfl) (I.nil (WP.ad (I.bS (v:= .int .i64 ((k+1:Nat):Int)) (L.cX rfl rfl (by omega) (And.intro (by omega) (by omega))) (I.nil ?_))))
     exact ⟨k+1,(by omega),(.bool true),by omega,by kernel_rfl,rfl⟩
    ·refine I.val (v:= .bool true) (L.load rfl (by rw [pD R (dQ k c2),av])) (I.yes rfl (I.v (.bool false) (I.yes rfl (I.v (.bool false) (I.yes rfl (I.v v (I.yes rfl (I.v (.n i) (I.yes rfl (I.val (v:= .ptr (cY v) (db v+i * 1)) (L.zV b (by rw [e5.len];omega) rfl rfl) (I.yes rfl (I.val (v:=u) (L.load rfl iJ) (I.yes rfl (I.v (.n k) (I.yes rfl (I.val (v:= .ptr (cY u) (db u+k * 1)) (L.nM gm (by rw [List.length_map];omega) rfl rfl) (I.yes rfl ?_)))))))))))))))))
     rcases uz (Lab.cf M i k) with hm|hm
     ·refine I.val (v:= .bool false) (L.load rfl (by rw [pD gm (tA k c2),hm])) (I.yes rfl (I.v (.bool false) ?_))
      rw [av,hm] at tB
      refine I.bS (v:= .bool (Lab.mu n M is i (k+1))) (by rw [tB];rfl) (I.nil (WP.ad (I.bS (v:= .int .i64 ((k+1:Nat):Int)) (L.cX rfl rfl (by omega) (And.intro (by omega) (by omega))) (I.nil ?_))))
      exact ⟨k+1,(by omega),(.bool true),by omega,by kernel_rfl,rfl⟩
     ·refine I.val (v:= .bool true) (L.load rfl (by rw [pD gm (tA k c2),hm])) (I.yes rfl (I.v (.bool true) ?_))
      rw [av,hm] at tB
      refine I.bS (v:= .bool (Lab.mu n M is i (k+1))) (by rw [tB];rfl) (I.nil (WP.ad (I.bS (v:= .int .i64 ((k+1:Nat):Int)) (L.cX rfl rfl (by omega) (And.intro (by omega) (by omega))) (I.nil ?_))))
      exact ⟨k+1,(by omega),(.bool true),by omega,by kernel_rfl,rfl⟩
  ·have aeF:k=n:=by omega
   rw [aeF]
   cases oh:Lab.mu n M is i n with
   |false=>
    refine I.nil (WP.cond (t:=false) rfl (WP.exit (WP.seq (WP.ad (I.bS (v:= .bool false) rfl (I.nil (WP.cond (t:=false) rfl (WP.skip (WP.ad (I.bS (v:= .int .i64 ((i+1:Nat):Int)) (L.cX rfl rfl (by omega) (And.intro (by omega) (by omega))) (I.nil ?_)))))))))))
    exact ⟨i+1,(by omega),bR,(.bool true),(.n n),(.bool false),(.bool false),(.bool false),⟨by omega,Z6 e2 oh⟩,by kernel_rfl,rfl⟩
   |true=>
    refine I.bw (WP.exit (WP.ak (I.aC (.bool true) (I.bI (WP.ak (I.aC (.n i) (I.nil (WP.ret ?_))))))))
    exact ⟨_,(b0 (.n i)),(by rw [Lab.Z4 (by omega) oh e2];rfl),rfl⟩
 ·replace c1:¬(i<n):=by omega
  refine I.bw (WP.exit (WP.ak (I.aC (.int .i64 (-1)) (I.nil (WP.ret ?_)))))
  exact ⟨_,(b0 (.int .i64 (-1))),(by rw [Lab.Z5 (fun j aR=>e2 j (by omega))];rfl),rfl⟩
end
end Go.Eng.YtmcjcbldmoijiaaGreatDoor.Lt
