/- Part of a proof of a law: rules of an evaluator, contracts, plain laws. No condition of its own. -/
import Derived.Test.YtjgmahbgfbkhnaaConF
import Derived.Test.YtjgmahbgfbkhnaaSymH
set_option linter.unusedVariables false
set_option linter.unusedSimpArgs false
namespace Go.Eng.Ytjgmahbgfbkhnaa
open Go.Eng
noncomputable section
variable {c:Ctx}
structure HasR (c:Ctx):Prop where
 f29:T.get 29 c.aR=some i29
 f79:T.get 79 c.aR=some i79
theorem xW (D:HasR c) {h0:Heap} {v:V} {ns:List Lab.Txt} {x:Lab.Txt} (hn:ns.length<4294967296) (R:Rows 1 h0 v (SR ns)):
 aM c 29 [v,L.str x] h0 fun v1 h1=>v1= .int .i64 (jU ns x)∧h1=h0:=by
 refine aM.bX D.f29 rfl (WP.seq (WP.reg (WO.ak (v:= .int .i64 0) rfl (WO.nil (WP.seq (WP.seq (WP.reg (WO.ak (v:= .int .i64 0) rfl (WO.nil (WP.block (WP.bT (α:=Nat) (fun k env h_=>∃x2 x4 x5,(k≤ns.length∧x∉ns.take k)∧env=aO [v,L.str x,x2, .int .i64 (k:Int),x4,x5] 0 Env.nil∧h_=h0) (fun k=>ns.length - k) 0 ?_ ?_)))))))))))
 ·exact ⟨(.int .i64 0), .bot, .bot,⟨Nat.zero_le _,by simp⟩,by kernel_rfl,rfl⟩
 rintro k _ h ⟨x2,x4,x5,⟨hk,hnot⟩,rfl,rfl⟩
 refine WP.seq (WP.seq (WP.reg (WO.val (v:= .int .i64 (ns.length:Int)) (L.dU rfl R (bY _)) (WO.ifS (L.lss rfl rfl) (fun c1=> ?_) (fun c1=> ?_)))))
 ·replace c1:k<ns.length:=by omega
  obtain ⟨y,hx⟩:∃y,ns[k]? =some y:=⟨ns[k]'(by omega),List.getElem?_eq_getElem (by omega)⟩
  refine WO.nil (WP.cond (t:=true) rfl (WP.skip (WP.seq (WP.block (WP.seq (WP.reg (WO.val (v:= .ptr (slB v) (slO v+k * 1)) (L.fB R (by rw [bY];omega) rfl rfl) (WO.val (v:=L.str y) (L.load rfl (R.iF (mJ hx))) (WO.ifS (L.seq rfl rfl) (fun c9=> ?_) (fun c9=> ?_))))))))))
  ·refine WO.nil (WP.cond (t:=true) rfl (WP.seq (WP.reg (WO.ak (v:= .int .i64 (k:Int)) rfl (WO.nil (WP.ret ?_))))))
   exact ⟨_,(aj (au (v:= .int .i64 (k:Int)) rfl) (ay _ _)),(by rw [uO hk hx (by simpa using hnot) c9.symm];rfl),rfl⟩
  ·refine WO.nil (WP.cond (t:=false) rfl (WP.skip (WP.reg (WO.ak (v:= .int .i64 ((k+1:Nat):Int)) (L.bP rfl rfl (by omega) (And.intro (by omega) (by omega))) (WO.nil ?_)))))
   exact ⟨k+1,(by omega),x2,(.bool true),(.bool false),⟨by omega,CF hnot hx (fun e=>c9 e.symm)⟩,by kernel_rfl,rfl⟩
 ·replace c1:¬(k<ns.length):=by omega
  refine WO.nil (WP.cond (t:=false) rfl (WP.exit (WP.seq (WP.reg (WO.ak (v:= .int .i64 (-1)) rfl (WO.nil (WP.ret ?_)))))))
  exact ⟨_,(aj (au (v:= .int .i64 (-1)) rfl) (ay _ _)),(by rw [uN (by rw [List.take_of_length_le (by omega)] at hnot;exact hnot)];rfl),rfl⟩
theorem KE (D:HasR c) {h0:Heap} {v w:V} {n:Nat} {M:List (List Bool)} {cs:List Bool} {is:Nat→Bool} (hn:n<4294967296) (sq:Sq n M) (b:fU h0 v M) (R:Rows 1 h0 w (cs.map bv)) (hcl:cs.length=n) (hcs:∀k,k<n→cs[k]? =some (is k)):
 aM c 79 [v,w] h0 fun v1 h1=>v1= .int .i64 (EM (Lab.least n (Lab.at2 M) is))∧h1=h0:=by
 refine aM.bX D.f79 rfl (WP.seq (WP.reg (WO.ak (v:= .int .i64 0) rfl (WO.nil (WP.seq (WP.seq (WP.reg (WO.ak (v:= .int .i64 0) rfl (WO.nil (WP.block (WP.bT (α:=Nat) (fun i env h_=>∃x2 x4 x5 x6 x7 x8,(i≤n∧∀j,j<i→Lab.okP n M is j n=false)∧env=aO [v,w,x2, .int .i64 (i:Int),x4,x5,x6,x7,x8] 0 Env.nil∧h_=h0) (fun i=>n - i) 0 ?_ ?_)))))))))))
 ·exact ⟨(.int .i64 0), .bot, .bot, .bot, .bot, .bot,⟨Nat.zero_le _,fun j hj=>absurd hj (by omega)⟩,by kernel_rfl,rfl⟩
 rintro i _ h ⟨x2,x4,x5,x6,x7,x8,⟨hi,hno⟩,rfl,rfl⟩
 refine WP.seq (WP.seq (WP.reg (WO.val (v:= .int .i64 (n:Int)) (L.dU rfl R (by rw [List.length_map];exact hcl)) (WO.ifS (L.lss rfl rfl) (fun c1=> ?_) (fun c1=> ?_)))))
 ·replace c1:i<n:=by omega
  obtain ⟨u,r,hu1,hu2,hrl,hur⟩:=pY sq b (show i<n by omega)
  refine WO.nil (WP.cond (t:=true) rfl (WP.skip (WP.seq (WP.block (WP.seq (WP.reg (WO.val (v:= .ptr (slB w) (slO w+i * 1)) (L.fB R (by rw [List.length_map];omega) rfl rfl) (WO.ak (v:= .bool (Lab.okP n M is i 0)) (L.load rfl (by rw [mO R (hcs i (by omega))];unfold Lab.okP;simp)) (WO.nil (WP.seq (WP.seq (WP.reg (WO.ak (v:= .int .i64 0) rfl (WO.nil (WP.block (WP.bT (α:=Nat) (fun k env h_=>∃x6,(k≤n)∧env=aO [v,w,x2, .int .i64 (i:Int), .bool true, .int .i64 (k:Int),x6, .bool (Lab.okP n M is i k),x8] 0 Env.nil∧h_=h) (fun k=>n - k) 0 ?_ ?_))))))))))))))))
  ·exact ⟨x6,Nat.zero_le _,by kernel_rfl,rfl⟩
  rintro k _ h ⟨x6,hk,rfl,rfl⟩
  refine WP.seq (WP.seq (WP.reg (WO.val (v:= .int .i64 (n:Int)) (L.dU rfl R (by rw [List.length_map];exact hcl)) (WO.ifS (L.lss rfl rfl) (fun c2=> ?_) (fun c2=> ?_)))))
  ·replace c2:k<n:=by omega
   have esu:=Lab.KD n M is i k
   cases hok:Lab.okP n M is i k with
   |false=>
    rw [hok] at esu
    refine WO.nil (WP.cond (t:=true) rfl (WP.skip (WP.seq (WP.block (WP.reg (WO.no rfl (WO.no rfl (WO.no rfl (WO.no rfl (WO.no rfl (WO.no rfl (WO.no rfl (WO.no rfl (WO.no rfl (WO.no rfl (WO.no rfl (WO.no rfl (WO.no rfl (WO.no rfl ?_)))))))))))))))))))
    have _:=esu
    refine WO.ak (v:= .bool (Lab.okP n M is i (k+1))) (by rw [esu];rfl) (WO.nil (WP.reg (WO.ak (v:= .int .i64 ((k+1:Nat):Int)) (L.bP rfl rfl (by omega) (And.intro (by omega) (by omega))) (WO.nil ?_))))
    exact ⟨k+1,(by omega),(.bool true),by omega,by kernel_rfl,rfl⟩
   |true=>
    rw [hok] at esu
    refine WO.nil (WP.cond (t:=true) rfl (WP.skip (WP.seq (WP.block (WP.reg (WO.yes rfl (WO.val (v:=w) rfl (WO.yes rfl (WO.val (v:= .int .i64 (k:Int)) rfl (WO.yes rfl (WO.val (v:= .ptr (slB w) (slO w+k * 1)) (L.fB R (by rw [List.length_map];omega) rfl rfl) (WO.yes rfl ?_))))))))))))
    rcases kD (is k) with hc|hc
    ·refine WO.val (v:= .bool false) (L.load rfl (by rw [mO R (hcs k c2),hc])) (WO.yes rfl (WO.val (v:= .bool true) rfl (WO.yes rfl (WO.val (v:= .bool true) rfl (WO.no rfl (WO.no rfl (WO.no rfl (WO.no rfl (WO.no rfl (WO.no rfl (WO.no rfl (WO.yes rfl (WO.val (v:= .bool true) rfl ?_)))))))))))))
     rw [hc] at esu
     refine WO.ak (v:= .bool (Lab.okP n M is i (k+1))) (by rw [esu];rfl) (WO.nil (WP.reg (WO.ak (v:= .int .i64 ((k+1:Nat):Int)) (L.bP rfl rfl (by omega) (And.intro (by omega) (by omega))) (WO.nil ?_))))
     exact ⟨k+1,(by omega),(.bool true),by omega,by kernel_rfl,rfl⟩
    ·refine WO.val (v:= .bool true) (L.load rfl (by rw [mO R (hcs k c2),hc])) (WO.yes rfl (WO.val (v:= .bool false) rfl (WO.yes rfl (WO.val (v:= .bool false) rfl (WO.yes rfl (WO.val (v:=v) rfl (WO.yes rfl (WO.val (v:= .int .i64 (i:Int)) rfl (WO.yes rfl (WO.val (v:= .ptr (slB v) (slO v+i * 1)) (L.jb b (by rw [sq.len];omega) rfl rfl) (WO.yes rfl (WO.val (v:=u) (L.load rfl hu1) (WO.yes rfl (WO.val (v:= .int .i64 (k:Int)) rfl (WO.yes rfl (WO.val (v:= .ptr (slB u) (slO u+k * 1)) (L.fB hu2 (by rw [List.length_map];omega) rfl rfl) (WO.yes rfl ?_)))))))))))))))))
     rcases kD (Lab.at2 M i k) with hm|hm
     ·refine WO.val (v:= .bool false) (L.load rfl (by rw [mO hu2 (hur k c2),hm])) (WO.yes rfl (WO.val (v:= .bool false) rfl ?_))
      rw [hc,hm] at esu
      refine WO.ak (v:= .bool (Lab.okP n M is i (k+1))) (by rw [esu];rfl) (WO.nil (WP.reg (WO.ak (v:= .int .i64 ((k+1:Nat):Int)) (L.bP rfl rfl (by omega) (And.intro (by omega) (by omega))) (WO.nil ?_))))
      exact ⟨k+1,(by omega),(.bool true),by omega,by kernel_rfl,rfl⟩
     ·refine WO.val (v:= .bool true) (L.load rfl (by rw [mO hu2 (hur k c2),hm])) (WO.yes rfl (WO.val (v:= .bool true) rfl ?_))
      rw [hc,hm] at esu
      refine WO.ak (v:= .bool (Lab.okP n M is i (k+1))) (by rw [esu];rfl) (WO.nil (WP.reg (WO.ak (v:= .int .i64 ((k+1:Nat):Int)) (L.bP rfl rfl (by omega) (And.intro (by omega) (by omega))) (WO.nil ?_))))
      exact ⟨k+1,(by omega),(.bool true),by omega,by kernel_rfl,rfl⟩
  ·have ekn:k=n:=by omega
   rw [ekn]
   cases hfo:Lab.okP n M is i n with
   |false=>
    refine WO.nil (WP.cond (t:=false) rfl (WP.exit (WP.seq (WP.reg (WO.ak (v:= .bool false) rfl (WO.nil (WP.cond (t:=false) rfl (WP.skip (WP.reg (WO.ak (v:= .int .i64 ((i+1:Nat):Int)) (L.bP rfl rfl (by omega) (And.intro (by omega) (by omega))) (WO.nil ?_)))))))))))
    exact ⟨i+1,(by omega),x2,(.bool true),(.int .i64 (n:Int)),(.bool false),(.bool false),(.bool false),⟨by omega,no_step hno hfo⟩,by kernel_rfl,rfl⟩
   |true=>
    refine WO.nil (WP.cond (t:=false) rfl (WP.exit (WP.seq (WP.reg (WO.ak (v:= .bool true) rfl (WO.nil (WP.cond (t:=true) rfl (WP.seq (WP.reg (WO.ak (v:= .int .i64 (i:Int)) rfl (WO.nil (WP.ret ?_))))))))))))
    exact ⟨_,(aj (au (v:= .int .i64 (i:Int)) rfl) (ay _ _)),(by rw [Lab.CU (by omega) hfo hno];rfl),rfl⟩
 ·replace c1:¬(i<n):=by omega
  refine WO.nil (WP.cond (t:=false) rfl (WP.exit (WP.seq (WP.reg (WO.ak (v:= .int .i64 (-1)) rfl (WO.nil (WP.ret ?_)))))))
  exact ⟨_,(aj (au (v:= .int .i64 (-1)) rfl) (ay _ _)),(by rw [Lab.Iz (fun j hj=>hno j (by omega))];rfl),rfl⟩
end
end Go.Eng.Ytjgmahbgfbkhnaa
