/- Part of a proof of a law: rules of an evaluator, contracts, plain laws. No condition of its own. -/
import Derived.Test.YtjobofnpmmjeoaaGreatDoorSymC
set_option linter.unusedVariables false
set_option linter.unusedSimpArgs false
namespace Go.Eng
noncomputable section
namespace Par
variable {α:Type} {S S1 S2 S3 S4 S5 S6 S7 S8:SQ}
theorem Res.CW {at_:Nat} {F:Nat→List Tok→R α} {g:List Tok→R α} {x:α} (hh:∀l,S= .ok l→at_=here l) (e:∀l,F (here l) l=g l) (r:Res S (F at_) x S1):Res S g x S1:=Res.cast (fun l h=>by rw [hh l h];exact e l) r
theorem varD_bn (l:List Tok):bn (name l) (fun n l1=>bn (must [58] l1) fun _ l2=>bn (name l2) fun b l3=>bn (must [61] l3) fun _ l4=>if is [45] l4=true then kX n b (here l) true l4.tail else kX n b (here l) false l4)=pz l:=by kernel_rfl
theorem Lv (n lb:List UInt8) (at_:Nat) (neg:Bool) (l:List Tok):bn (number l) (fun k l1=>bn (must [59] l1) fun _ l2=> .ok (⟨n,lb,if neg then -(k:Int) else (k:Int),at_⟩,l2))=kX n lb at_ neg l:=by kernel_rfl
theorem Ey {l:List Tok} (hk:(hd l).kind=2):Res (.ok l) number (num (hd l).text) (.ok l.tail):=Res.qN (by rw [zf];unfold of;rw [if_pos hk];rfl)
section
variable {n lb:List UInt8} {at_ y y2 z k:Nat} {neg:Bool} {x:Vr}
theorem Lx (q:Res S number k S1) (w:Res S1 (must [59]) z S2):Res S (kX n lb at_ neg) ⟨n,lb,if neg then -(k:Int) else (k:Int),at_⟩ S2:=Res.eqv (Lv n lb at_ neg) (q.bn (w.bn (Res.pure S2 _)))
theorem FL (hk:∀l,S= .ok l→(hd l).kind≠2):Res S (kX n lb at_ neg) x (yh 11 S):=by cases S with
 |error z=>rfl
 |ok l=>exact Res.rZ (by rw [←Lv,zf];unfold of;rw [if_neg (hk l rfl)];rfl)
theorem uK (hh:∀l,S= .ok l→at_=here l) (h1:Res S name n S1) (w1:Res S1 (must [58]) y S2) (h2:Res S2 name lb S3) (w2:Res S3 (must [61]) y2 S4) (v:Res S4 (fun l=>if is [45] l=true then kX n lb at_ true l.tail else kX n lb at_ false l) x S5):Res S pz x S5:=
 Res.CW (F:=fun a l=>bn (name l) fun n l1=>bn (must [58] l1) fun _ l2=>bn (name l2) fun lb l3=>bn (must [61] l3) fun _ l4=>if is [45] l4=true then kX n lb a true l4.tail else kX n lb a false l4) hh varD_bn (h1.bn (w1.bn (h2.bn (w2.bn v))))
theorem LA {l:List Tok} (hi:is [45] l=true) (v:Res (.ok l.tail) (kX n lb at_ true) x S5):Res (.ok l) (fun l=>if is [45] l=true then kX n lb at_ true l.tail else kX n lb at_ false l) x S5:=Res.yes (A:=fun l=>kX n lb at_ true l.tail) hi v
theorem FM (hi:isS [45] S=false) (v:Res S (kX n lb at_ false) x S5):Res S (fun l=>if is [45] l=true then kX n lb at_ true l.tail else kX n lb at_ false l) x S5:=Res.no hi v
end
theorem parm_bn (x:List Pm) (l:List Tok):bn (name l) (fun n l1=>bn (must [58] l1) fun _ l2=>bn (name l2) fun b l3=> .ok (x++[⟨n,b,here l⟩],l3))=qM x l:=by kernel_rfl
theorem use_bn (x:List (List UInt8)) (l:List Tok):bn (name l) (fun n l1=> .ok (x++[n],l1))=use x l:=by kernel_rfl
theorem Il {at_ y:Nat} {n b:List UInt8} {x:List Pm} (hh:∀l,S= .ok l→at_=here l) (h1:Res S name n S1) (w:Res S1 (must [58]) y S2) (h2:Res S2 name b S3):Res S (qM x) (x++[⟨n,b,at_⟩]) S3:=
 Res.CW (F:=fun a l=>bn (name l) fun n l1=>bn (must [58] l1) fun _ l2=>bn (name l2) fun b l3=> .ok (x++[⟨n,b,a⟩],l3)) hh (parm_bn x) (h1.bn (w.bn (h2.bn (Res.pure S3 _))))
theorem LB {n:List UInt8} {x:List (List UInt8)} (h1:Res S name n S1):Res S (use x) (x++[n]) S1:=Res.eqv (use_bn x) (h1.bn (Res.pure S1 _))
theorem RZ (d:Nat) (q:Pr) (l:List Tok):bn (must [112,99] l) (fun _ l1=>bn (name l1) fun pc l2=>bn (must [117,115,101,115] l2) fun _ l3=>bn (must [123] l3) fun _ l4=>bn (several use [125] l4 []) fun us l5=>bn (block d l5) fun b l6=> .ok ({q with pc:=pc,uses:=us,body:=b},l6))=gN d q l:=by kernel_rfl
theorem LC (d:Nat) (l:List Tok):bn (name l) (fun n l1=>bn (must [40] l1) fun _ l2=>bn (several qM [41] l2 []) fun ps l3=>if is [45,62] l3=true then bn (name l3.tail) (fun r l4=>gN d ⟨n,ps,true,r,[],[],[],here l⟩ l4) else gN d ⟨n,ps,false,[],[],[],[],here l⟩ l3)=proc d l:=by kernel_rfl
section
variable {d at_ y y2 y3:Nat} {n r pc:List UInt8} {ps:List Pm} {us:List (List UInt8)} {b:List Sm} {q:Pr}
theorem Oi (w1:Res S (must [112,99]) y S1) (h:Res S1 name pc S2) (w2:Res S2 (must [117,115,101,115]) y2 S3) (w3:Res S3 (must [123]) y3 S4) (u:Res S4 (fun l=>several use [125] l []) us S5) (bl:Res S5 (block d) b S6):Res S (gN d q) {q with pc:=pc,uses:=us,body:=b} S6:=
 Res.eqv (RZ d q) (w1.bn (h.bn (w2.bn (w3.bn (u.bn (bl.bn (Res.pure S6 _)))))))
theorem Kr {x:Pr} {l:List Tok} (hh:∀l,S= .ok l→at_=here l) (h1:Res S name n S1) (w:Res S1 (must [40]) y S2) (p:Res S2 (fun l=>several qM [41] l []) ps (.ok l)) (hi:is [45,62] l=true) (h2:Res (.ok l.tail) name r S4) (v:Res S4 (gN d ⟨n,ps,true,r,[],[],[],at_⟩) x S5):Res S (proc d) x S5:=
 Res.CW (F:=fun a l=>bn (name l) fun n l1=>bn (must [40] l1) fun _ l2=>bn (several qM [41] l2 []) fun ps l3=>if is [45,62] l3=true then bn (name l3.tail) (fun r l4=>gN d ⟨n,ps,true,r,[],[],[],a⟩ l4) else gN d ⟨n,ps,false,[],[],[],[],a⟩ l3) hh (LC d) (h1.bn (w.bn (p.bn (Res.yes (A:=fun l3=>bn (name l3.tail) (fun r l4=>gN d ⟨n,ps,true,r,[],[],[],at_⟩ l4)) hi (Res.bn (S:= .ok l) (f:=fun l3=>name l3.tail) (g:=fun r l4=>gN d ⟨n,ps,true,r,[],[],[],at_⟩ l4) h2 v)))))
theorem Kt {x:Pr} (hh:∀l,S= .ok l→at_=here l) (h1:Res S name n S1) (w:Res S1 (must [40]) y S2) (p:Res S2 (fun l=>several qM [41] l []) ps S3) (hi:isS [45,62] S3=false) (v:Res S3 (gN d ⟨n,ps,false,[],[],[],[],at_⟩) x S5):Res S (proc d) x S5:=
 Res.CW (F:=fun a l=>bn (name l) fun n l1=>bn (must [40] l1) fun _ l2=>bn (several qM [41] l2 []) fun ps l3=>if is [45,62] l3=true then bn (name l3.tail) (fun r l4=>gN d ⟨n,ps,true,r,[],[],[],a⟩ l4) else gN d ⟨n,ps,false,[],[],[],[],a⟩ l3) hh (LC d) (h1.bn (w.bn (p.bn (Res.no hi v))))
end
theorem Io (k:Nat) (l:List Tok) (x:List Im):iU (k+1) l x=if is [105,109,112,111,114,116] l=true then bn (name l.tail) (fun n l1=>bn (must [59] l1) fun _ l2=>iU k l2 (x++[⟨n,here l.tail⟩])) else .ok (x,l):=by kernel_rfl
theorem Oj {k y at_:Nat} {l:List Tok} {n:List UInt8} {x u:List Im} (hi:is [105,109,112,111,114,116] l=true) (hh:at_=here l.tail) (h1:Res (.ok l.tail) name n S1) (w:Res S1 (must [59]) y S2) (r:Res S2 (fun l=>iU k l (x++[⟨n,at_⟩])) u S3):Res (.ok l) (fun l=>iU (k+1) l x) u S3:=by
 subst hh
 exact Res.one (G:=fun _=>bn (name l.tail) (fun n l1=>bn (must [59] l1) fun _ l2=>iU k l2 (x++[⟨n,here l.tail⟩]))) (by show iU (k+1) l x=_;rw [Io,if_pos hi]) (Res.bn (S:= .ok l) (f:=fun _=>name l.tail) (g:=fun n l1=>bn (must [59] l1) fun _ l2=>iU k l2 (x++[⟨n,here l.tail⟩])) h1 (w.bn r))
theorem Ol {k:Nat} {x:List Im} (hn:isS [105,109,112,111,114,116] S=false) (hk:∀l,S= .ok l→1≤k):Res S (fun l=>iU k l x) x S:=by cases S with
 |error z=>rfl
 |ok l=>
  have hn:is [105,109,112,111,114,116] l=false:=hn
  obtain ⟨k,rfl⟩:∃m,k=m+1:=⟨k - 1,by have:=hk l rfl;omega⟩
  exact Res.qN (by rw [Io,if_neg (by rw [hn];decide)])
theorem vC (d k:Nat) (l:List Tok) (vs:List Vr) (ps:List Pr):dU d (k+1) l vs ps=if (hd l).kind=0 then .ok ((vs,ps),l) else if is [118,97,114] l=true then bn (pz l.tail) (fun v l1=>dU d k l1 (vs++[v]) ps) else bn (must [112,114,111,99] l) fun _ l1=>bn (proc d l1) fun p l2=>dU d k l2 vs (ps++[p]):=by kernel_rfl
section
variable {d k:Nat} {l:List Tok} {vs:List Vr} {ps:List Pr} {u:List Vr×List Pr}
theorem Om {v:Vr} (h0:(hd l).kind≠0) (hi:is [118,97,114] l=true) (q:Res (.ok l.tail) pz v S1) (r:Res S1 (fun l=>dU d k l (vs++[v]) ps) u S2):Res (.ok l) (fun l=>dU d (k+1) l vs ps) u S2:=
 Res.one (G:=fun _=>bn (pz l.tail) (fun v l1=>dU d k l1 (vs++[v]) ps)) (by show dU d (k+1) l vs ps=_;rw [vC,if_neg h0,if_pos hi]) (Res.bn (S:= .ok l) (f:=fun _=>pz l.tail) (g:=fun v l1=>dU d k l1 (vs++[v]) ps) q r)
theorem Ku {p:Pr} (h0:(hd l).kind≠0) (hv:is [118,97,114] l=false) (hi:is [112,114,111,99] l=true) (q:Res (.ok l.tail) (proc d) p S1) (r:Res S1 (fun l=>dU d k l vs (ps++[p])) u S2):Res (.ok l) (fun l=>dU d (k+1) l vs ps) u S2:=
 Res.one (G:=fun _=>bn (proc d l.tail) (fun p l1=>dU d k l1 vs (ps++[p]))) (by show dU d (k+1) l vs ps=_;rw [vC,if_neg h0,if_neg (by rw [hv];decide),uJ hi];rfl) (Res.bn (S:= .ok l) (f:=fun _=>proc d l.tail) (g:=fun p l1=>dU d k l1 vs (ps++[p])) q r)
theorem R3 {F:List Tok→R (List Vr×List Pr)} (h0:(hd l).kind≠0) (hv:is [118,97,114] l=false) (hi:is [112,114,111,99] l=false) (r:Res (yh 11 (.ok l)) F u S2):Res (.ok l) (fun l=>dU d (k+1) l vs ps) u S2:=by
 have r:S2= .error (11,here l):=r
 subst r
 exact Res.rZ (by rw [vC,if_neg h0,if_neg (by rw [hv];decide),CQ hi];rfl)
theorem Ot (h0:(hd l).kind=0):Res (.ok l) (fun l=>dU d (k+1) l vs ps) (vs,ps) (.ok l):=Res.qN (by rw [vC,if_pos h0])
end
theorem R4 (d:Nat) (l:List Tok):bn (must [109,111,100,117,108,101] l) (fun _ l1=>bn (name l1) fun n l2=>bn (must [59] l2) fun _ l3=>bn (iU l3.length l3 []) fun is l4=>bn (dU d l4.length l4 [] []) fun x l5=> .ok (⟨n,here l1,is,x.1,x.2⟩,l5))=kD d l:=by kernel_rfl
theorem Ez {d y y2 at_:Nat} {n:List UInt8} {is:List Im} {x:List Vr×List Pr} (w1:Res S (must [109,111,100,117,108,101]) y S1) (hh:∀l,S1= .ok l→at_=here l) (h1:Res S1 name n S2) (w2:Res S2 (must [59]) y2 S3) (i:Res S3 (fun l=>iU l.length l []) is S4) (q:Res S4 (fun l=>dU d l.length l [] []) x S5):Res S (kD d) ⟨n,at_,is,x.1,x.2⟩ S5:=
 Res.eqv (R4 d) (w1.bn (Res.CW (F:=fun a l1=>bn (name l1) fun n l2=>bn (must [59] l2) fun _ l3=>bn (iU l3.length l3 []) fun is l4=>bn (dU d l4.length l4 [] []) fun x l5=> .ok ((⟨n,a,is,x.1,x.2⟩:Md),l5)) (g:=fun l1=>bn (name l1) fun n l2=>bn (must [59] l2) fun _ l3=>bn (iU l3.length l3 []) fun is l4=>bn (dU d l4.length l4 [] []) fun x l5=> .ok ((⟨n,here l1,is,x.1,x.2⟩:Md),l5)) hh (fun _=>rfl) (h1.bn (w2.bn (i.bn (q.bn (Res.pure S5 _)))))))
end Par
theorem XAt.dig_ {p:RP} {i:Nat} {l:List Tok} {t:Tok} (h:XAt p i 0 0 (.ok l)) (ht:p.ts[i]? =some t) (hk:t.kind=2):o5 t.text:=by
 have hd:=h.hd ht
 obtain ⟨u,l',rfl⟩:=h.ok0.2.2.cons
 have e:u=t:=hd
 subst e
 exact h.ok0.2.2.num u (by simp) hk
theorem sK {a b c eb:Nat} (h1:a≤b+min eb 1) (h2:b+1≤c):a≤c:=by omega
theorem PrR.of {h:Heap} {p:Pr} {vp vu vb:V} (h1:Rows 3 h vp (p.params.map Pm.row)) (h2:Rows 1 h vu (p.uses.map bK)) (h3:iD h vb p.body):PrR h p [L.str p.name,vp, .bool p.has,L.str p.result,L.str p.pc,vu,vb, .int .i64 (p.at_:Int)]:=⟨vp,vu,vb,rfl,h1,h2,h3⟩
end
end Go.Eng
