/- Part of a proof of a law: rules of an evaluator, contracts, plain laws. No condition of its own. -/
import Derived.Test.YtjobofnpmmjeoaaGreatDoorSymB
set_option linter.unusedVariables false
set_option linter.unusedSimpArgs false
namespace Go.Eng
noncomputable section
theorem St.yA {fs:List Fact} {h:Heap} {P:Heap→Prop} (s:St fs h) (hp:∀h,P h):St (.stb P::fs) h:=(St.pure s (Q:=True) trivial).iA fun h _=>hp h
namespace Par
variable {α:Type} {S S1 S2 S3 S4 S5 S6:SQ}
theorem Res.any {β:Type} {f:List Tok→R α} {g:List Tok→R β} {x:α} {y:β} {z:Nat×Nat} (hS:S= .error z) (w:Res S f x S1):Res S g y S1:=by subst hS;exact w
def CP (one:α→List Tok→R α) (e:List UInt8) (k n:Nat) (x:α):List Tok→R α:=fun l=>bn (one x l) fun y l'=>dx one e k (n+1) l' y
theorem vo (one:α→List Tok→R α) (e:List UInt8) (f n:Nat) (l:List Tok) (x:α):dx one e (f+1) n l x=if is e l=true then .ok (x,l.tail) else if n=0 then bn (one x l) (fun y l'=>dx one e f 1 l' y) else bn (must [44] l) fun _ l1=>bn (one x l1) fun y l'=>dx one e f (n+1) l' y:=by kernel_rfl
theorem uJ {s:List UInt8} {l:List Tok} (hi:is s l=true):must s l= .ok (here l,l.tail):=by unfold must;rw [if_pos hi]
theorem CQ {s:List UInt8} {l:List Tok} (hi:is s l=false):must s l= .error (11,here l):=by unfold must;rw [if_neg (by rw [hi];decide)];rfl
theorem gL {s t:List UInt8} {l:List Tok} (h:is s l=true) (hn:s≠t):¬is t l=true:=by rw [FI h hn];decide
section
variable {one:α→List Tok→R α} {e:List UInt8} {k n z:Nat} {x y w:α} {l:List Tok}
theorem yB (hi:isS e S=true) (w:Res S (must e) z S1):Res S (fun l=>several one e l x) x S1:=by cases S with
 |error z=>cases hi
 |ok l=>
  have hi:is e l=true:=hi
  have hw:S1= .ok l.tail:=by unfold Res at w;simp only [uJ hi] at w;exact w.2
  subst hw
  refine Res.qN ?_
  show dx one e l.length 0 l x=_
  obtain ⟨m,hm⟩:∃m,l.length=m+1:=⟨l.length - 1,by have:=gK hi;omega⟩
  rw [hm,vo,if_pos hi]
theorem vw (hi:isS e S=false) (hl:∀l,S= .ok l→0<l.length) (r:Res S (CP one e (S.len - 1) 0 x) y S1):Res S (fun l=>several one e l x) y S1:=by cases S with
 |error z=>exact r
 |ok l=>
  have hi:is e l=false:=hi
  refine Res.one (G:=CP one e (SQ.len (.ok l) - 1) 0 x) ?_ r
  show dx one e l.length 0 l x=_
  obtain ⟨m,hm⟩:∃m,l.length=m+1:=⟨l.length - 1,by have:=hl l rfl;omega⟩
  show dx one e l.length 0 l x=CP one e (l.length - 1) 0 x l
  rw [hm,vo,if_neg (by rw [hi];decide),if_pos rfl];rfl
theorem yC {l2:List Tok} (he:[44]≠e) (q:Res S (one x) y (.ok l2)) (hi:is [44] l2=true) (r:Res (.ok l2.tail) (CP one e k (n+1) y) w S1):Res S (CP one e (k+1) n x) w S1:=by
 refine q.bn (g:=fun y l'=>dx one e (k+1) (n+1) l' y) (Res.one (G:=fun _=>CP one e k (n+1) y l2.tail) ?_ ?_)
 · show dx one e (k+1) (n+1) l2 y=_
   rw [vo,if_neg (gL hi he),if_neg (by omega),uJ hi];rfl
 · exact r
theorem yD (q:Res S (one x) y S1) (hi:isS [44] S1=false) (w:Res S1 (must e) z S2) (hk:∀l,S1= .ok l→1≤k):Res S (CP one e k n x) y S2:=by
 refine q.bn (g:=fun y l'=>dx one e k (n+1) l' y) ?_
 cases S1 with
 |error z=>exact w
 |ok l=>
  have hi:is [44] l=false:=hi
  obtain ⟨k,rfl⟩:∃m,k=m+1:=⟨k - 1,by have:=hk l rfl;omega⟩
  cases he:is e l with
  |true=>
   have hw:S2= .ok l.tail:=by unfold Res at w;simp only [uJ he] at w;exact w.2
   subst hw
   exact Res.qN (by rw [vo,if_pos he])
  |false=>
   have hw:S2= .error (11,here l):=by unfold Res at w;simp only [CQ he] at w;exact w
   subst hw
   exact Res.rZ (by rw [vo,if_neg (by rw [he];decide),if_neg (by omega),CQ hi];rfl)
end
def kE (d:Nat) (as:List (List Nd)) (l:List Tok):R (List (List Nd)):=bn (expr d l) fun e l'=> .ok (as++[e],l')
theorem CS (d:Nat):∀(f:Nat) (as:List (List Nd)) (l:List Tok),iC d f l as=dx (kE d) [41] f as.length l as
 |0,_,_=>rfl
 |f+1,as,l=>by
  rw [vo]
  by_cases hi:is [41] l=true
  · rw [if_pos hi];unfold iC;rw [if_pos hi]
  · rw [if_neg hi];unfold iC;rw [if_neg hi]
    cases as with
    |nil=>
     rw [if_pos (show ([]:List (List Nd)).length=0 from rfl)]
     show (match expr d l with| .error e=> .error e| .ok (e,l')=>iC d f l' [e])=bn (bn (expr d l) fun e l'=> .ok ([]++[e],l')) fun y l'=>dx (kE d) [41] f 1 l' y
     cases expr d l with
     |error e=>rfl
     |ok q=>exact CS d f [q.1] q.2
    |cons a as=>
     rw [if_neg (by simp)]
     show (match must [44] l with| .error e=> .error e| .ok (_,l1)=>match expr d l1 with| .error e=> .error e| .ok (e,l')=>iC d f l' ((a::as)++[e]))=bn (must [44] l) fun _ l1=>bn (bn (expr d l1) fun e l'=> .ok ((a::as)++[e],l')) fun y l'=>dx (kE d) [41] f ((a::as).length+1) l' y
     cases must [44] l with
     |error e=>rfl
     |ok q=>
      show (match expr d q.2 with| .error e=> .error e| .ok (e,l')=>iC d f l' ((a::as)++[e]))=bn (bn (expr d q.2) fun e l'=> .ok ((a::as)++[e],l')) fun y l'=>dx (kE d) [41] f ((a::as).length+1) l' y
      cases expr d q.2 with
      |error e=>rfl
      |ok w=>
       have:=CS d f ((a::as)++[w.1]) w.2
       rw [show ((a::as)++[w.1]).length=(a::as).length+1 by simp] at this
       exact this
theorem RQ (d:Nat) (c:Cl) (l:List Tok):jR d c l=bn (must [40] l) fun _ l1=>bn (several (kE d) [41] l1 []) fun as l2=> .ok ({c with args:=as},l2):=by
 unfold jR several
 cases must [40] l with
 |error e=>rfl
 |ok q=>
  obtain ⟨a,l1⟩:=q
  show (match iC d l1.length l1 [] with| .error e=> .error e| .ok (as,l2)=> .ok ({c with args:=as},l2))=bn (dx (kE d) [41] l1.length 0 l1 []) _
  rw [CS]
  show _=bn (dx (kE d) [41] l1.length ([]:List (List Nd)).length l1 []) _
  cases dx (kE d) [41] l1.length ([]:List (List Nd)).length l1 [] with
  |error e=>rfl
  |ok q=>rfl
theorem Ls (d:Nat) (l:List Tok):bn (gB l) (fun q l1=>if is [61] l1=true then bn (gB l1.tail) (fun r l2=>jR d ⟨true,q.1,q.2,r.1,r.2,[]⟩ l2) else jR d ⟨false,[],[],q.1,q.2,[]⟩ l1)=call d l:=by kernel_rfl
section
variable {d z:Nat} {l:List Tok} {as:List (List Nd)} {q r:List UInt8×List UInt8}
theorem Eu {c:Cl} (w:Res S (must [40]) z S1) (a:Res S1 (fun l=>several (kE d) [41] l []) as S2):Res S (jR d c) {c with args:=as} S2:=
 Res.eqv (fun l=>(RQ d c l).symm) (w.bn (a.bn (Res.pure S2 _)))
theorem CU (hq:Res S gB q (.ok l)) (hi:is [61] l=true) (hr:Res (.ok l.tail) gB r S2) (w:Res S2 (must [40]) z S3) (a:Res S3 (fun l=>several (kE d) [41] l []) as S4):Res S (call d) ⟨true,q.1,q.2,r.1,r.2,as⟩ S4:=
 Res.eqv (Ls d) (hq.bn (Res.yes (A:=fun l1=>bn (gB l1.tail) (fun r l2=>jR d ⟨true,q.1,q.2,r.1,r.2,[]⟩ l2)) hi (Res.bn (S:= .ok l) (f:=fun l1=>gB l1.tail) (g:=fun r l2=>jR d ⟨true,q.1,q.2,r.1,r.2,[]⟩ l2) hr (Eu w a))))
theorem w9 (hq:Res S gB q S1) (hi:isS [61] S1=false) (w:Res S1 (must [40]) z S3) (a:Res S3 (fun l=>several (kE d) [41] l []) as S4):Res S (call d) ⟨false,[],[],q.1,q.2,as⟩ S4:=
 Res.eqv (Ls d) (hq.bn (Res.no hi (Eu w a)))
end
theorem expr_bn (d:Nat) (l:List Tok):bn (whole (unary l.length) d l []) (fun x l'=> .ok (x.2,l'))=expr d l:=by kernel_rfl
theorem fin_bn (s:Sm) (l:List Tok):fin s l=bn (must [59] l) fun _ l'=> .ok (s,l'):=by kernel_rfl
section
variable {blk:Bk} {d a:Nat} {l:List Tok}
theorem Lu:jD blk d a l=bn (expr d l) fun e l1=>bn (blk d l1) fun b l2=>if is [101,108,115,101] l2=true then bn (blk d l2.tail) (fun el l3=> .ok (Sm.mk 5 a [] [] [] false [] [] e [] b el,l3)) else .ok (.mk 5 a [] [] [] false [] [] e [] b [],l2):=by kernel_rfl
theorem Kn:cZ blk d a l=bn (expr d l) fun e l1=>bn (blk d l1) fun b l2=> .ok (.mk 6 a [] [] [] false [] [] e [] b [],l2):=by kernel_rfl
theorem RS:gF d a l=bn (name l) fun n l1=>bn (must [58] l1) fun _ l2=>bn (name l2) fun lb l3=>bn (must [61] l3) fun _ l4=>bn (expr d l4) fun e l5=>fin (.mk 1 a [] n lb false [] [] e [] [] []) l5:=by kernel_rfl
theorem Ig:bI d a l=bn (must [61] l) fun _ l1=>bn (expr d l1) fun e l2=>fin (.mk 3 a [] [] [] false [] [] e [] [] []) l2:=by kernel_rfl
theorem N9:dR d a l=bn (call d l) fun c l1=>fin (.mk 4 a c.mod c.name [] c.has c.tomod c.to [] c.args [] []) l1:=by kernel_rfl
theorem Oa:dS a l=bn (name l) fun n l1=>fin (.mk 7 a [] n [] false [] [] [] [] [] []) l1:=by kernel_rfl
theorem Ih:gM d a l=bn (gB l) fun q l1=>bn (must [61] l1) fun _ l2=>bn (expr d l2) fun e l3=>fin (.mk 2 a q.1 q.2 [] false [] [] e [] [] []) l3:=by kernel_rfl
theorem CV (hk:(hd l).kind=1) (s:List UInt8):¬is s l=true:=by unfold is;rw [hk];simp
end
section
variable {blk:Bk} {d at_ y z:Nat} {l:List Tok} {e:List Nd} {n lb:List UInt8} {b el:List Sm}
theorem vB {s:Sm} (w:Res S (must [59]) z S1):Res S (fin s) s S1:=Res.eqv (fun l=>(fin_bn s l).symm) (w.bn (Res.pure S1 s))
theorem RU {q:List UInt8×List UInt8} {z:Nat} (hk:(hd l).kind=1) (hh:at_=here l) (hq:Res (.ok l) gB q S1) (w:Res S1 (must [61]) y S2) (r:Res S2 (expr d) e S3) (f:Res S3 (must [59]) z S4):Res (.ok l) (dG blk d) (.mk 2 at_ q.1 q.2 [] false [] [] e [] [] []) S4:=by
 subst hh
 refine Res.one (G:=gM d (here l)) (by unfold dG;rw [if_neg (CV hk _),if_neg (CV hk _),if_neg (CV hk _),if_neg (CV hk _),if_neg (CV hk _),if_neg (CV hk _),if_neg (CV hk _)]) ?_
 exact Res.eqv (fun l=>Ih.symm) (hq.bn (w.bn (r.bn (vB f))))
theorem RV (hi:is [108,101,116] l=true) (hh:at_=here l) (h1:Res (.ok l.tail) name n S1) (w1:Res S1 (must [58]) y S2) (h2:Res S2 name lb S3) {y':Nat} (w2:Res S3 (must [61]) y' S4) (r:Res S4 (expr d) e S5) (f:Res S5 (must [59]) z S6):Res (.ok l) (dG blk d) (.mk 1 at_ [] n lb false [] [] e [] [] []) S6:=by
 subst hh
 refine Res.one (G:=fun l0=>gF d (here l) l0.tail) (by unfold dG;rw [if_neg (gL hi (by decide)),if_neg (gL hi (by decide)),if_pos hi]) ?_
 show Res (.ok l.tail) (gF d (here l)) _ _
 exact Res.eqv (fun l=>RS.symm) (h1.bn (w1.bn (h2.bn (w2.bn (r.bn (vB f))))))
theorem Ii (hi:is [114,101,115,117,108,116] l=true) (hh:at_=here l) (w2:Res (.ok l.tail) (must [61]) y S4) (r:Res S4 (expr d) e S5) (f:Res S5 (must [59]) z S6):Res (.ok l) (dG blk d) (.mk 3 at_ [] [] [] false [] [] e [] [] []) S6:=by
 subst hh
 refine Res.one (G:=fun l0=>bI d (here l) l0.tail) (by unfold dG;rw [if_neg (gL hi (by decide)),if_neg (gL hi (by decide)),if_neg (gL hi (by decide)),if_pos hi]) ?_
 show Res (.ok l.tail) (bI d (here l)) _ _
 exact Res.eqv (fun l=>Ig.symm) (w2.bn (r.bn (vB f)))
theorem Ob {c:Cl} (hi:is [99,97,108,108] l=true) (hh:at_=here l) (r:Res (.ok l.tail) (call d) c S5) (f:Res S5 (must [59]) z S6):Res (.ok l) (dG blk d) (.mk 4 at_ c.mod c.name [] c.has c.tomod c.to [] c.args [] []) S6:=by
 subst hh
 refine Res.one (G:=fun l0=>dR d (here l) l0.tail) (by unfold dG;rw [if_neg (gL hi (by decide)),if_neg (gL hi (by decide)),if_neg (gL hi (by decide)),if_neg (gL hi (by decide)),if_pos hi]) ?_
 show Res (.ok l.tail) (dR d (here l)) _ _
 exact Res.eqv (fun l=>N9.symm) (r.bn (vB f))
theorem Oc (hi:is [101,109,105,116] l=true) (hh:at_=here l) (r:Res (.ok l.tail) name n S5) (f:Res S5 (must [59]) z S6):Res (.ok l) (dG blk d) (.mk 7 at_ [] n [] false [] [] [] [] [] []) S6:=by
 subst hh
 refine Res.one (G:=fun l0=>dS (here l) l0.tail) (by unfold dG;rw [if_neg (gL hi (by decide)),if_neg (gL hi (by decide)),if_neg (gL hi (by decide)),if_neg (gL hi (by decide)),if_neg (gL hi (by decide)),if_pos hi]) ?_
 show Res (.ok l.tail) (dS (here l)) _ _
 exact Res.eqv (fun l=>Oa.symm) (r.bn (vB f))
theorem Od (hi:is [115,107,105,112] l=true) (hh:at_=here l) (f:Res (.ok l.tail) (must [59]) z S6):Res (.ok l) (dG blk d) (.mk 8 at_ [] [] [] false [] [] [] [] [] []) S6:=by
 subst hh
 refine Res.one (G:=fun l0=>eB (here l) l0.tail) (by unfold dG;rw [if_neg (gL hi (by decide)),if_neg (gL hi (by decide)),if_neg (gL hi (by decide)),if_neg (gL hi (by decide)),if_neg (gL hi (by decide)),if_neg (gL hi (by decide)),if_pos hi]) ?_
 show Res (.ok l.tail) (eB (here l)) _ _
 exact vB f
theorem Ko (hi:is [119,104,105,108,101] l=true) (hh:at_=here l) (r:Res (.ok l.tail) (expr d) e S1) (q:Res S1 (blk d) b S2):Res (.ok l) (dG blk d) (.mk 6 at_ [] [] [] false [] [] e [] b []) S2:=by
 subst hh
 refine Res.one (G:=fun l0=>cZ blk d (here l) l0.tail) (by unfold dG;rw [if_neg (gL hi (by decide)),if_pos hi]) ?_
 show Res (.ok l.tail) (cZ blk d (here l)) _ _
 exact Res.eqv (fun l=>Kn.symm) (r.bn (q.bn (Res.pure S2 _)))
theorem stmt_if (hi:is [105,102] l=true) (hh:at_=here l) (r:Res (.ok l.tail) (expr d) e S1) (q:Res S1 (blk d) b S2) (hn:isS [101,108,115,101] S2=false):Res (.ok l) (dG blk d) (.mk 5 at_ [] [] [] false [] [] e [] b []) S2:=by
 subst hh
 refine Res.one (G:=fun l0=>jD blk d (here l) l0.tail) (by unfold dG;rw [if_pos hi]) ?_
 show Res (.ok l.tail) (jD blk d (here l)) _ _
 exact Res.eqv (fun l=>Lu.symm) (r.bn (q.bn (Res.no hn (Res.pure S2 _))))
theorem Oe {l2:List Tok} (hi:is [105,102] l=true) (hh:at_=here l) (r:Res (.ok l.tail) (expr d) e S1) (q:Res S1 (blk d) b (.ok l2)) (hy:is [101,108,115,101] l2=true) (q2:Res (.ok l2.tail) (blk d) el S3):Res (.ok l) (dG blk d) (.mk 5 at_ [] [] [] false [] [] e [] b el) S3:=by
 subst hh
 refine Res.one (G:=fun l0=>jD blk d (here l) l0.tail) (by unfold dG;rw [if_pos hi]) ?_
 show Res (.ok l.tail) (jD blk d (here l)) _ _
 refine Res.eqv (fun l=>Lu.symm) (r.bn (q.bn (Res.yes (A:=fun l2=>bn (blk d l2.tail) (fun el l3=> .ok (Sm.mk 5 (here l) [] [] [] false [] [] e [] b el,l3))) hy ?_)))
 exact Res.bn (S:= .ok l2) (f:=fun l2=>blk d l2.tail) (g:=fun el l3=> .ok (Sm.mk 5 (here l) [] [] [] false [] [] e [] b el,l3)) q2 (Res.pure S3 _)
theorem stmt_no {x:Sm} (h1:(hd l).kind≠1) (hn:∀s∈[[105,102],[119,104,105,108,101],[108,101,116],[114,101,115,117,108,116],[99,97,108,108],[101,109,105,116],[115,107,105,112]],is s l=false):Res (.ok l) (dG blk d) x (.error (11,here l)):=by
 refine Res.rZ ?_
 have f:=fun s hs=>(show ¬is s l=true by rw [hn s hs];decide)
 unfold dG
 rw [if_neg (f _ (by decide)),if_neg (f _ (by decide)),if_neg (f _ (by decide)),if_neg (f _ (by decide)),if_neg (f _ (by decide)),if_neg (f _ (by decide)),if_neg (f _ (by decide)),Ih]
 unfold gB name of;rw [if_neg h1];rfl
end
section
variable {stm:Nat→List Tok→R Sm} {d k y:Nat} {l:List Tok} {ss:List Sm}
theorem Og:bn (nW d [123] l) (fun _ l'=>jg stm (d+1) l'.length l' [])=kQ stm d l:=by
 unfold nW kQ
 by_cases hi:is [123] l=true
 · rw [if_pos hi,if_pos hi]
   by_cases h:40≤d
   · rw [if_pos h,if_pos h];rfl
   · rw [if_neg h,if_neg h];rfl
 · rw [if_neg hi,if_neg hi];rfl
theorem Ew:jg stm d (k+1) l ss=if is [125] l=true then .ok (ss,l.tail) else bn (stm d l) fun s l'=>jg stm d k l' (ss++[s]):=by kernel_rfl
theorem Oh {u:List Sm} (o:Res S (nW d [123]) () S1) (r:Res S1 (fun l=>jg stm (d+1) l.length l []) u S2):Res S (kQ stm d) u S2:=Res.eqv (fun l=>Og) (o.bn r)
theorem Ij {s:Sm} {u:List Sm} (hn:is [125] l=false) (q:Res (.ok l) (stm d) s S1) (r:Res S1 (fun l=>jg stm d k l (ss++[s])) u S2):Res (.ok l) (fun l=>jg stm d (k+1) l ss) u S2:=by
 refine Res.one (G:=fun l=>bn (stm d l) fun s l'=>jg stm d k l' (ss++[s])) (by show jg stm d (k+1) l ss=_;rw [Ew,if_neg (by rw [hn];decide)]) (q.bn r)
theorem Kq (hy:is [125] l=true) (w:Res (.ok l) (must [125]) y S1):Res (.ok l) (fun l=>jg stm d (k+1) l ss) ss S1:=by
 have hw:S1= .ok l.tail:=by unfold Res at w;simp only [uJ hy] at w;exact w.2
 subst hw
 exact Res.qN (by rw [Ew,if_pos hy])
end
end Par
end
end Go.Eng
