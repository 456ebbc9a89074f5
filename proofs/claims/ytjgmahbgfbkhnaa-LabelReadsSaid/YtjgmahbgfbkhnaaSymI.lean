/- Part of a proof of a law: rules of an evaluator, contracts, plain laws. No condition of its own. -/
import Derived.Test.YtjgmahbgfbkhnaaSymH
set_option linter.unusedVariables false
set_option linter.unusedSimpArgs false
namespace Go.Eng
noncomputable section
namespace Lab
def iN (n:Nat) (p:Nat→Bool) (k:Nat):List Bool:=(List.range n).map fun x=>decide (x<k)&&p x
theorem jB (n:Nat) (p:Nat→Bool) (k:Nat):(iN n p k).length=n:=by simp [iN]
theorem EN (n:Nat) (p:Nat→Bool):iN n p 0=List.replicate n false:=by
 unfold iN
 apply List.ext_getElem?
 intro i
 rw [List.getElem?_map,List.getElem?_replicate]
 by_cases h:i<n
 · rw [List.getElem?_range h,if_pos h];rfl
 · rw [List.getElem?_eq_none (by simp;omega),if_neg h];rfl
theorem IB {n:Nat} {p:Nat→Bool} {k:Nat} (hk:k<n):(iN n p k).set k (p k)=iN n p (k+1):=by
 apply List.ext_getElem?
 intro i
 rw [List.getElem?_set,jB]
 unfold iN
 by_cases e:k=i
 · subst e
   rw [if_pos rfl,if_pos hk,List.getElem?_map,List.getElem?_range hk];simp
 · rw [if_neg e,List.getElem?_map,List.getElem?_map]
   by_cases h:i<n
   · rw [List.getElem?_range h]
     simp only [Option.map_some]
     congr 2
     exact decide_eq_decide.2 (by omega)
   · rw [List.getElem?_eq_none (by simp;omega)];rfl
theorem zl (n:Nat) (p:Nat→Bool):iN n p n=(List.range n).map p:=by
 unfold iN
 apply List.map_congr_left
 intro x hx
 simp [List.mem_range.1 hx]
theorem KF {n:Nat} {p:Nat→Bool} {k:Nat} (hk:k<n):(iN n p n)[k]? =some (p k):=by
 rw [zl,List.getElem?_map,List.getElem?_range hk];rfl
def trK (n:Nat) (M:List (List Bool)) (i:Nat):List (List Bool):=(List.range i).map fun a=>iN n (fun x=>at2 M x a) n
theorem KG (n:Nat) (M:List (List Bool)) (i:Nat):trK n M (i+1)=trK n M i++[iN n (fun x=>at2 M x i) n]:=by unfold trK;rw [List.range_succ,List.map_append];rfl
theorem trK_all (n:Nat) (M:List (List Bool)):trK n M n=tr n M:=by unfold trK tr;simp only [zl]
theorem EO {n:Nat} {M:List (List Bool)} {a b k:Nat} (hb:b<k):(bQ n M a k)[b]? =some ((join n M a b).getD 0):=by unfold bQ;rw [List.getElem?_map,List.getElem?_range hb];rfl
theorem KH {n:Nat} {M:List (List Bool)} {a k:Nat} (ha:a<k):(fu n M k)[a]? =some (bQ n M a n):=by unfold fu;rw [List.getElem?_map,List.getElem?_range ha];rfl
theorem EP {n:Nat} {M:List (List Bool)} {a b k:Nat} (hb:b<k):(dn n M a k)[b]? =some ((meet n M a b).getD 0):=by unfold dn;rw [List.getElem?_map,List.getElem?_range hb];rfl
theorem KI {n:Nat} {M:List (List Bool)} {a k:Nat} (ha:a<k):(gX n M k)[a]? =some (dn n M a n):=by unfold gX;rw [List.getElem?_map,List.getElem?_range ha];rfl
theorem IC (n:Nat) (M:List (List Bool)) (k:Nat):(fu n M k).length=k:=by simp [fu]
theorem IE (n:Nat) (M:List (List Bool)) (k:Nat):(gX n M k).length=k:=by simp [gX]
theorem uR (n:Nat) (M:List (List Bool)) (a k:Nat):(bQ n M a k).length=k:=by simp [bQ]
theorem CV (n:Nat) (M:List (List Bool)) (a k:Nat):(dn n M a k).length=k:=by simp [dn]
theorem join_lt {n:Nat} {M:List (List Bool)} {a b:Nat} (h0:0<n):(join n M a b).getD 0<n:=by
 cases h:join n M a b with
 |none=>exact h0
 |some x=>exact (least_some h).1
theorem meet_lt {n:Nat} {M:List (List Bool)} {a b:Nat} (h0:0<n):(meet n M a b).getD 0<n:=by
 cases h:meet n M a b with
 |none=>exact h0
 |some x=>exact (least_some h).1
theorem hiF_lt {n:Nat} {M:List (List Bool)} (h0:0<n):∀k,hiF n M k<n
 |0=>h0
 |k+1=>by rw [xU];exact join_lt h0
theorem loF_lt {n:Nat} {M:List (List Bool)} (h0:0<n):∀k,loF n M k<n
 |0=>h0
 |k+1=>by rw [xV];exact meet_lt h0
def KJ (n:Nat) (M:List (List Bool)) (a:Nat):Prop:=∀x y,x<a→y<n→x≠y→¬(at2 M x y=true∧at2 M y x=true)
def Gf (M:List (List Bool)) (a b:Nat):Prop:=∀y,y<b→a≠y→¬(at2 M a y=true∧at2 M y a=true)
theorem qR {M:List (List Bool)} {a b:Nat} (h:Gf M a b) (hn:a≠b→¬(at2 M a b=true∧at2 M b a=true)):Gf M a (b+1):=fun y hy hne=>by
 by_cases e:y=b
 · subst e;exact hn hne
 · exact h y (by omega) hne
theorem EQ {n:Nat} {M:List (List Bool)} {a:Nat} (h:KJ n M a) (hq:Gf M a n):KJ n M (a+1):=fun x y hx hy hne=>by
 by_cases e:x=a
 · subst e;exact hq y hy hne
 · exact h x y (by omega) hy hne
theorem KL {n:Nat} {M:List (List Bool)} (s:Sq n M) {a b:Nat} (ha:a<n) (hb:b<n) (hne:a≠b) (h1:at2 M a b=true) (h2:at2 M b a=true):okT n M n=false:=by
 rw [Bool.eq_false_iff];intro h
 exact ((rZ s).1 h).1 a b ha hb hne ⟨h1,h2⟩
theorem CW {n:Nat} {M:List (List Bool)} (s:Sq n M) (h:okJ n M n=false):okT n M n=false:=by
 rw [Bool.eq_false_iff];intro h2
 rw [((rZ s).1 h2).2.1] at h;cases h
theorem KM {n:Nat} {M:List (List Bool)} (s:Sq n M) (h:okJ n (tr n M) n=false):okT n M n=false:=by
 rw [Bool.eq_false_iff];intro h2
 rw [((rZ s).1 h2).2.2] at h;cases h
def kE (y:Bool) (b:Nat) (r rk:List Bool):List Bool:=if y then dL b r rk else r
theorem r9 {y:Bool} {b n:Nat} {r rk:List Bool} (hr:r.length=n) (hk:rk.length=n) (hb:b≤n):(kE y b r rk).length=n:=by
 unfold kE;split
 · exact o9 hr hk hb
 · exact hr
theorem IG {n k a:Nat} {M:List (List Bool)} {r:List Bool} (s:Sq n M) (ha:a<n) (hr:M[a]? =some r) (y:Bool) (rk:List Bool):(bS k a M).set a (kE y 0 r rk)=bS k a M:=by
 have e:kE y 0 r rk=r:=by unfold kE;split;exact rM r rk;rfl
 rw [e]
 apply List.ext_getElem?
 intro i
 rw [List.getElem?_set]
 by_cases h:a=i
 · subst h
   have:(bS k a M)[a]? =some r:=by rw [jv s (by omega),hr];simp
   rw [if_pos rfl,if_pos (List.getElem?_eq_some_iff.1 this).1,this]
 · rw [if_neg h]
theorem xX {n k a:Nat} {M:List (List Bool)} (s:Sq n M) (ha:a≤n):(bS k a M).length=n:=by unfold bS;rw [List.length_append,List.length_map,List.length_take,List.length_drop,s.len];omega
theorem pE {n k a:Nat} {M:List (List Bool)} {r:List Bool} (s:Sq n M) (ha:a<n):((bS k a M).set a r)[a]? =some r:=by
 rw [List.getElem?_set,if_pos rfl,if_pos (by rw [xX s (by omega)];exact ha)]
theorem rowB_k {n k a b:Nat} {y:Bool} {M:List (List Bool)} {ra rk:List Bool} (s:Sq n M) (ha:a<n) (hk:k<n) (hrk:M[k]? =some rk) (hra:M[a]? =some ra):((bS k a M).set a (kE y b ra rk))[k]? =some (if a=k then kE y b ra rk else rk):=by
 rw [List.getElem?_set,xX s (by omega)]
 by_cases e:a=k
 · rw [if_pos e,if_pos ha,if_pos e]
 · rw [if_neg e,if_neg e,jv s (by omega),hrk]
   simp only [Option.map_some]
   split
   · rw [w9 hrk]
   · rfl
theorem rowB_at {n b i:Nat} {y x:Bool} {r rk:List Bool} (hr:r.length=n) (hk:rk.length=n) (_hi:i<n) (hb:b≤n) (hx:r[i]? =some x) (hbi:b≤i):(kE y b r rk)[i]? =some x:=by
 unfold kE;split
 · rw [kU hr hk hb,if_neg (by omega)];exact hx
 · exact hx
theorem ER {n b k:Nat} {y:Bool} {r rk:List Bool} (hr:r.length=n) (hk:rk.length=n) (hkn:k<n) (hy:r[k]? =some y) (hb:b≤n):(kE y b r rk)[k]? =some y:=by
 unfold kE;split
 · rename_i h
   rw [kU hr hk hb]
   split
   · unfold lJ
     obtain ⟨z,hz⟩:∃z,rk[k]? =some z:=⟨rk[k]'(by omega),List.getElem?_eq_getElem (by omega)⟩
     rw [List.getElem?_zipWith,hy,hz,h];rfl
   · exact hy
 · exact hy
theorem rowB_kb {n b i a k:Nat} {y z:Bool} {r rk:List Bool} (hk:rk.length=n) (hz:rk[i]? =some z) (hb:b≤n) (e:a=k→r=rk:=by intro h;subst h;simp_all):(if a=k then kE y b r rk else rk)[i]? =some z:=by
 by_cases h:a=k
 · rw [if_pos h,e h]
   unfold kE;split
   · rw [rP];exact hz
   · exact hz
 · rw [if_neg h];exact hz
theorem KN {n:Nat} {y:Bool} {r rk:List Bool} (hr:r.length=n) (hk:rk.length=n):kE y n r rk=if y then lJ r rk else r:=by unfold kE;rw [uJ hr hk]
theorem rowB_cl {k:Nat} {y:Bool} {M:List (List Bool)} {r rk:List Bool} (hrk:M[k]? =some rk) (hy:r[k]? =some y):(if y then lJ r rk else r)=jW k M r:=by unfold jW;rw [hrk,hy];rfl
theorem p8 {n b:Nat} {y x z:Bool} {r rk:List Bool} (hr:r.length=n) (hk:rk.length=n) (hb:b<n) (hx:r[b]? =some x) (hz:rk[b]? =some z):(kE y b r rk).set b (x||(y&&z))=kE y (b+1) r rk:=by
 unfold kE
 cases y with
 |true=>simp only [if_true,Bool.true_and];exact rO hr hk hb hx hz
 |false=>
  simp only [Bool.false_and,Bool.or_false,if_false,Bool.false_eq_true]
  apply List.ext_getElem?
  intro i
  rw [List.getElem?_set]
  by_cases e:b=i
  · subst e;rw [if_pos rfl,if_pos (by omega),hx]
  · rw [if_neg e]
end Lab
theorem vC {ps:List Prm} {i:Nat} {p:Prm} (h:ps[i]? =some p):pr (ps.take (i+1))=pr (ps.take i)++[(p.1,p.2.1)]:=by
 unfold pr;rw [List.take_add_one,h,List.map_append];rfl
theorem CX (ps:List Prm) (i:Nat):pr (ps.take i)++(pr ps).drop i=pr ps:=by
 unfold pr;rw [List.map_take,List.take_append_drop]
theorem jh.snoc {h:Heap}:∀{J:List (List Bool)} {vs:List V} {r:List Bool} {v:V},jh h J vs→Rows 1 h v (r.map bv)→jh h (J++[r]) (vs++[v])
 |[],[],_,_,_,hr=>⟨hr,trivial⟩
 |[],_::_,_,_,h,_=>h.elim
 |_::_,[],_,_,h,_=>h.elim
 |_::_,_::_,_,_,h,hr=>⟨h.1,h.2.snoc hr⟩
theorem KO (n:Nat) (p:Nat→Bool):(List.replicate n [V.bool false])=(Lab.iN n p 0).map bv:=by rw [Lab.EN,List.map_replicate];rfl
theorem ES {n:Nat} {p:Nat→Bool} {k:Nat} (hk:k<n):((Lab.iN n p k).map bv).set k [V.bool (p k)]=(Lab.iN n p (k+1)).map bv:=by rw [←Lab.IB hk,List.map_set];rfl
theorem iv_at {h:Heap} {u:V} {r:List Nat} {b x:Nat} (R:Rows 1 h u (r.map iv)) (hx:r[b]? =some x):h.bE (slB u) (slO u+b * 1)=some (.int .i64 (x:Int)):=R.iF (by rw [List.getElem?_map,hx];rfl)
theorem II {ev:Ev} {x y z w:A} {a b c d e f p q r s:V} (hx:(ev x).aV=some [a]) (hy:(ev y).aV=some [b]) (hz:(ev z).aV=some [c]) (hw:(ev w).aV=some [d]):
  fill [(0,1,x),(1,1,y),(2,1,z),(3,1,w)] ev [p,q,r,s,e,f]=some [a,b,c,d,e,f]:=by
 show (Option.rec none (fun l=>bif (bO l).beq 1&&(Nat.add 0 1).ble (bO [p,q,r,s,e,f]) then fill [(1,1,y),(2,1,z),(3,1,w)] ev (fZ 0 l [p,q,r,s,e,f]) else none) (ev x).aV:Option (List V))=_
 rw [hx]
 show (Option.rec none (fun l=>bif (bO l).beq 1&&(Nat.add 1 1).ble (bO [a,q,r,s,e,f]) then fill [(2,1,z),(3,1,w)] ev (fZ 1 l [a,q,r,s,e,f]) else none) (ev y).aV:Option (List V))=_
 rw [hy]
 show (Option.rec none (fun l=>bif (bO l).beq 1&&(Nat.add 2 1).ble (bO [a,b,r,s,e,f]) then fill [(3,1,w)] ev (fZ 2 l [a,b,r,s,e,f]) else none) (ev z).aV:Option (List V))=_
 rw [hz]
 show (Option.rec none (fun l=>bif (bO l).beq 1&&(Nat.add 3 1).ble (bO [a,b,c,s,e,f]) then fill [] ev (fZ 3 l [a,b,c,s,e,f]) else none) (ev w).aV:Option (List V))=_
 rw [hw];rfl
theorem Rows.ET {r:Nat} {h:Heap} {v:V} {rows:List (List V)} (R:Rows r h v rows):v.aV=some [v]:=by cases R<;>rfl
theorem fU.cells {h:Heap} {v:V} {M:List (List Bool)} (t:fU h v M):v.aV=some [v]:=by obtain ⟨_,R,_⟩:=t;exact R.ET
theorem kV.cells {h:Heap} {v:V} {M:List (List Nat)} (t:kV h v M):v.aV=some [v]:=by obtain ⟨_,R,_⟩:=t;exact R.ET
theorem cel_bv {fs:List Fact} {h:Heap} {b n:Nat} {r:List Bool} (s:St (.cel b 1 (r.map bv)::fs) h) (hl:r.length=n):St (.stb (fun h=>Rows 1 h (.sl b 0 n (some n)) (r.map bv))::fs) h:=by
 have:=s.BZ (some n)
 rw [List.length_map,hl] at this;exact this
end
end Go.Eng
