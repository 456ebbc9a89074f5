/- Part of a proof of a law: rules of an evaluator, contracts, plain laws. No condition of its own. -/
import Derived.Test.YtmcjcbldmoijiaaGreatDoorSymA
import Derived.Test.YtmcjcbldmoijiaaGreatDoorCodeA
import Derived.Test.YtmcjcbldmoijiaaGreatDoorSymE
set_option linter.unusedVariables false
set_option linter.unusedSimpArgs false
namespace Go.Eng.YtmcjcbldmoijiaaGreatDoor.Lt
open Go.Eng
noncomputable section
variable {c:Ctx}
structure ux (c:Ctx):Prop where
 f46:T.get 46 c.cF=some i46
 f145:T.get 145 c.cF=some i145
def j0 (ns:List Lab.aL) (x:Lab.aL):Int:=if x∈ns then (ns.idxOf x:Int) else -1
theorem HV {ns:List Lab.aL} {x:Lab.aL} (h:x∉ns):j0 ns x= -1:=if_neg h
theorem Es:∀{ns:List Lab.aL} {x:Lab.aL} {k:Nat},ns[k]? =some x→x∉ns.take k→ns.idxOf x=k
 |[],x,k,h,_=>by simp at h
 |y::ns,x,0,h,_=>by simp at h;subst h;simp
 |y::ns,x,k+1,h,hn=>by
  have h1:y≠x:=fun e=>hn (by rw [e];simp)
  rw [List.idxOf_cons,show (y==x)=false from by simpa using h1]
  simp [Es (ns:=ns) (x:=x) (k:=k) (by simpa using h) (fun hm=>hn (by simp [hm]))]
theorem HW {ns:List Lab.aL} {x y:Lab.aL} {k:Nat} (_hk:k≤ns.length) (h:ns[k]? =some y) (hn:x∉ns.take k) (e:x=y):j0 ns x=(k:Int):=by
 subst e
 unfold j0;rw [if_pos (List.mem_of_getElem? h),Es h hn]
theorem HX {ns:List Lab.aL} {x y:Lab.aL} {k:Nat} (hn:x∉ns.take k) (h:ns[k]? =some y) (e:x≠y):x∉ns.take (k+1):=by
 rw [List.take_add_one,h];simp [hn,e]
theorem xi (D:ux c) {h0:ag} {v:V} {ns:List Lab.aL} {x:Lab.aL} (hn:ns.length<4294967296) (R:Rows 1 h0 v (SR ns)):
 bU c 46 [v,L.str x] h0 fun v1 h1=>v1= .int .i64 (j0 ns x)∧h1=h0:=by
 refine bU.dR D.f46 rfl (WP.af (I.az (.int .i64 0) (I.nil (WP.seq (WP.af (I.az (.int .i64 0) (I.nil (WP.block (WP.dr (α:=Nat) (fun k env qA=>∃b2 ej eN,(k≤ns.length∧x∉ns.take k)∧env=cM [v,L.str x,b2, .n k,ej,eN] 0 Env.nil∧qA=h0) (fun k=>ns.length - k) 0 ?_ ?_)))))))))
 ·exact ⟨(.int .i64 0), .bot, .bot,⟨Nat.zero_le _,by simp⟩,by kernel_rfl,rfl⟩
 rintro k _ h ⟨b2,ej,eN,⟨hk,pA⟩,rfl,rfl⟩
 refine WP.seq (WP.af (I.val (v:= .n ns.length) (L.eB rfl R (eM _)) (I.bR (L.lss rfl rfl) (fun c1=> ?_) (fun c1=> ?_))))
 ·replace c1:k<ns.length:=by omega
  obtain ⟨y,hx⟩:=fp (l:=ns) (i:=k) (by omega)
  refine I.bh (WP.skip (WP.seq (WP.block (WP.af (I.val (v:= .ptr (ck v) (cu v+k * 1)) (L.nr R (by rw [eM];omega) rfl rfl) (I.val (v:=L.str y) (L.load rfl (R.tS (oM hx))) (I.bR (L.seq rfl rfl) (fun dS=> ?_) (fun dS=> ?_))))))))
  ·refine I.bh (WP.af (I.az (.n k) (I.rt ?_)))
   exact ⟨_,(ca (.n k)),(by rw [HW hk hx (by simpa using pA) dS.symm];rfl),rfl⟩
  ·refine I.aY (WP.skip (WP.aG (I.bX (v:= .n (k+1)) L.cB (I.nil ?_))))
   exact ⟨k+1,(by omega),b2,(.bool true),(.bool false),⟨by omega,HX pA hx (fun e=>dS e.symm)⟩,by kernel_rfl,rfl⟩
 ·replace c1:¬(k<ns.length):=by omega
  refine I.aY (WP.exit (WP.af (I.az (.int .i64 (-1)) (I.rt ?_))))
  exact ⟨_,(ca (.int .i64 (-1))),(by rw [HV (by rw [List.take_of_length_le (by omega)] at pA;exact pA)];rfl),rfl⟩
theorem agy (D:ux c) {h0:ag} {v w:V} {n:Nat} {M:List (List Bool)} {cs:List Bool} {is:Nat→Bool} (hn:n<4294967296) (fQ:fg n M) (b:gL h0 v M) (R:Rows 1 h0 w (cs.map bv)) (wI:cs.length=n) (er:∀k,k<n→cs[k]? =some (is k)):
 bU c 145 [v,w] h0 fun v1 h1=>v1= .int .i64 (MG (Lab.least n (Lab.cD M) is))∧h1=h0:=by
 refine bU.dR D.f145 rfl (WP.af (I.az (.int .i64 0) (I.nil (WP.seq (WP.af (I.az (.int .i64 0) (I.nil (WP.block (WP.dr (α:=Nat) (fun i env qA=>∃b2 ej eN c3 dc fi,(i≤n∧∀j,j<i→Lab.nt n M is j n=false)∧env=cM [v,w,b2, .n i,ej,eN,c3,dc,fi] 0 Env.nil∧qA=h0) (fun i=>n - i) 0 ?_ ?_)))))))))
 ·exact ⟨(.int .i64 0), .bot, .bot, .bot, .bot, .bot,⟨Nat.zero_le _,fun j aV=>absurd aV (by omega)⟩,by kernel_rfl,rfl⟩
 rintro i _ h ⟨b2,ej,eN,c3,dc,fi,⟨aq,fB⟩,rfl,rfl⟩
 refine WP.seq (WP.af (I.val (v:= .n n) (L.eB rfl R (by rw [List.length_map];exact wI)) (I.bR (L.lss rfl rfl) (fun c1=> ?_) (fun c1=> ?_))))
 ·replace c1:i<n:=by omega
  obtain ⟨u,r,jb,gS,Bt,uQ⟩:=Br fQ b (show i<n by omega)
  refine I.bh (WP.skip (WP.seq (WP.block (WP.af (I.val (v:= .ptr (ck w) (cu w+i * 1)) (L.nr R (by rw [List.length_map];omega) rfl rfl) (I.bX (v:= .bool (Lab.nt n M is i 0)) (L.load rfl (by rw [qz R (er i (by omega))];unfold Lab.nt;simp)) (I.nil (WP.seq (WP.af (I.az (.int .i64 0) (I.nil (WP.block (WP.dr (α:=Nat) (fun k env qA=>∃c3,(k≤n)∧env=cM [v,w,b2, .n i, .bool true, .n k,c3, .bool (Lab.nt n M is i k),fi] 0 Env.nil∧qA=h) (fun k=>n - k) 0 ?_ ?_)))))))))))))
  ·exact ⟨c3,Nat.zero_le _,by kernel_rfl,rfl⟩
  rintro k _ h ⟨c3,hk,rfl,rfl⟩
  refine WP.seq (WP.af (I.val (v:= .n n) (L.eB rfl R (by rw [List.length_map];exact wI)) (I.bR (L.lss rfl rfl) (fun c2=> ?_) (fun c2=> ?_))))
  ·replace c2:k<n:=by omega
   have uR:=Lab.abI n M is i k
   cases hok:Lab.nt n M is i k with
   |false=>
    rw [hok] at uR
    refine I.bh (WP.skip (WP.seq (WP.block (WP.aG (I.gK (I.gK (I.gK (I.no rfl (I.no rfl ?_)))))))))
    have _:=uR
    refine I.bX (v:= .bool (Lab.nt n M is i (k+1))) (by rw [uR];rfl) (I.nil (WP.aG (I.bX (v:= .n (k+1)) L.cB (I.nil ?_))))
    exact ⟨k+1,(by omega),(.bool true),by omega,by kernel_rfl,rfl⟩
   |true=>
    rw [hok] at uR
    refine I.bh (WP.skip (WP.seq (WP.block (WP.aG (I.yes rfl (I.v w (I.yes rfl (I.v (.n k) (I.yes rfl (I.val (v:= .ptr (ck w) (cu w+k * 1)) (L.nr R (by rw [List.length_map];omega) rfl rfl) (I.yes rfl ?_)))))))))))
    rcases ug (is k) with ax|ax
    ·refine I.val (v:= .bool false) (L.load rfl (by rw [qz R (er k c2),ax])) (I.yes rfl (I.v (.bool true) (I.yes rfl (I.v (.bool true) (I.gK (I.eP (I.no rfl (I.yes rfl (I.v (.bool true) ?_)))))))))
     rw [ax] at uR
     refine I.bX (v:= .bool (Lab.nt n M is i (k+1))) (by rw [uR];rfl) (I.nil (WP.aG (I.bX (v:= .n (k+1)) L.cB (I.nil ?_))))
     exact ⟨k+1,(by omega),(.bool true),by omega,by kernel_rfl,rfl⟩
    ·refine I.val (v:= .bool true) (L.load rfl (by rw [qz R (er k c2),ax])) (I.yes rfl (I.v (.bool false) (I.yes rfl (I.v (.bool false) (I.yes rfl (I.v v (I.yes rfl (I.v (.n i) (I.yes rfl (I.val (v:= .ptr (ck v) (cu v+i * 1)) (L.Bp b (by rw [fQ.len];omega) rfl rfl) (I.yes rfl (I.val (v:=u) (L.load rfl jb) (I.yes rfl (I.v (.n k) (I.yes rfl (I.val (v:= .ptr (ck u) (cu u+k * 1)) (L.nr gS (by rw [List.length_map];omega) rfl rfl) (I.yes rfl ?_)))))))))))))))))
     rcases ug (Lab.cD M i k) with hm|hm
     ·refine I.val (v:= .bool false) (L.load rfl (by rw [qz gS (uQ k c2),hm])) (I.yes rfl (I.v (.bool false) ?_))
      rw [ax,hm] at uR
      refine I.bX (v:= .bool (Lab.nt n M is i (k+1))) (by rw [uR];rfl) (I.nil (WP.aG (I.bX (v:= .n (k+1)) L.cB (I.nil ?_))))
      exact ⟨k+1,(by omega),(.bool true),by omega,by kernel_rfl,rfl⟩
     ·refine I.val (v:= .bool true) (L.load rfl (by rw [qz gS (uQ k c2),hm])) (I.yes rfl (I.v (.bool true) ?_))
      rw [ax,hm] at uR
      refine I.bX (v:= .bool (Lab.nt n M is i (k+1))) (by rw [uR];rfl) (I.nil (WP.aG (I.bX (v:= .n (k+1)) L.cB (I.nil ?_))))
      exact ⟨k+1,(by omega),(.bool true),by omega,by kernel_rfl,rfl⟩
  ·have agz:k=n:=by omega
   rw [agz]
   cases pd:Lab.nt n M is i n with
   |false=>
    refine I.aY (WP.exit (WP.af (I.az (.bool false) (I.aY (WP.skip (WP.aG (I.bX (v:= .n (i+1)) L.cB (I.nil ?_))))))))
    exact ⟨i+1,(by omega),b2,(.bool true),(.n n),(.bool false),(.bool false),(.bool false),⟨by omega,abL fB pd⟩,by kernel_rfl,rfl⟩
   |true=>
    refine I.aY (WP.exit (WP.af (I.az (.bool true) (I.bh (WP.af (I.az (.n i) (I.rt ?_)))))))
    exact ⟨_,(ca (.n i)),(by rw [Lab.abJ (by omega) pd fB];rfl),rfl⟩
 ·replace c1:¬(i<n):=by omega
  refine I.aY (WP.exit (WP.af (I.az (.int .i64 (-1)) (I.rt ?_))))
  exact ⟨_,(ca (.int .i64 (-1))),(by rw [Lab.abK (fun j aV=>fB j (by omega))];rfl),rfl⟩
end
end Go.Eng.YtmcjcbldmoijiaaGreatDoor.Lt
