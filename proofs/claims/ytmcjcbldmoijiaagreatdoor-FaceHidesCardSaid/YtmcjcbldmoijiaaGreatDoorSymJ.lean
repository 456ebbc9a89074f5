/- Part of a proof of a law: rules of an evaluator, contracts, plain laws. No condition of its own. -/
import Derived.Test.YtmcjcbldmoijiaaGreatDoorSymE
set_option linter.unusedVariables false
set_option linter.unusedSimpArgs false
namespace Go.Eng
noncomputable section
namespace Lab
def kR (n:Nat) (p:Nat→Bool) (k:Nat):List Bool:=(List.range n).map fun x=>decide (x<k)&&p x
theorem yu (n:Nat) (p:Nat→Bool) (k:Nat):(kR n p k).length=n:=by simp [kR]
theorem aeG (n:Nat) (p:Nat→Bool):kR n p 0=List.replicate n false:=by
 unfold kR
 apply List.ext_getElem?
 intro i
 rw [List.getElem?_map,List.getElem?_replicate]
 by_cases h:i<n
 · rw [List.getElem?_range h,if_pos h];rfl
 · rw [List.getElem?_eq_none (by simp;omega),if_neg h];rfl
theorem aeH {n:Nat} {p:Nat→Bool} {k:Nat} (hk:k<n):(kR n p k).set k (p k)=kR n p (k+1):=by
 apply List.ext_getElem?
 intro i
 rw [List.getElem?_set,yu]
 unfold kR
 by_cases e:k=i
 · subst e
   rw [if_pos rfl,if_pos hk,List.getElem?_map,List.getElem?_range hk];simp
 · rw [if_neg e,List.getElem?_map,List.getElem?_map]
   by_cases h:i<n
   · rw [List.getElem?_range h]
     simp only [Option.map_some]
     congr 2
     exact decide_eq_decide.2 (by omega)
   · rw [List.getElem?_eq_none (by simp;omega)];rfl
theorem SI (n:Nat) (p:Nat→Bool):kR n p n=(List.range n).map p:=by
 unfold kR
 apply List.map_congr_left
 intro x hx
 simp [List.mem_range.1 hx]
theorem aeI {n:Nat} {p:Nat→Bool} {k:Nat} (hk:k<n):(kR n p n)[k]? =some (p k):=by
 rw [SI,List.getElem?_map,List.getElem?_range hk];rfl
def uV (n:Nat) (M:List (List Bool)) (i:Nat):List (List Bool):=(List.range i).map fun a=>kR n (fun x=>cf M x a) n
theorem aeJ (n:Nat) (M:List (List Bool)) (i:Nat):uV n M (i+1)=uV n M i++[kR n (fun x=>cf M x i) n]:=by unfold uV;rw [List.range_succ,List.map_append];rfl
theorem aeK (n:Nat) (M:List (List Bool)):uV n M n=kI n M:=by unfold uV kI;simp only [SI]
theorem aeL {n:Nat} {M:List (List Bool)} {a b k:Nat} (hb:b<k):(lI n M a k)[b]? =some ((join n M a b).getD 0):=by unfold lI;rw [List.getElem?_map,List.getElem?_range hb];rfl
theorem aeM {n:Nat} {M:List (List Bool)} {a k:Nat} (ha:a<k):(jL n M k)[a]? =some (lI n M a n):=by unfold jL;rw [List.getElem?_map,List.getElem?_range ha];rfl
theorem aeN {n:Nat} {M:List (List Bool)} {a b k:Nat} (hb:b<k):(vN n M a k)[b]? =some ((meet n M a b).getD 0):=by unfold vN;rw [List.getElem?_map,List.getElem?_range hb];rfl
theorem aeO {n:Nat} {M:List (List Bool)} {a k:Nat} (ha:a<k):(qC n M k)[a]? =some (vN n M a n):=by unfold qC;rw [List.getElem?_map,List.getElem?_range ha];rfl
theorem aeP (n:Nat) (M:List (List Bool)) (k:Nat):(jL n M k).length=k:=by simp [jL]
theorem aeQ (n:Nat) (M:List (List Bool)) (k:Nat):(qC n M k).length=k:=by simp [qC]
theorem SJ (n:Nat) (M:List (List Bool)) (a k:Nat):(lI n M a k).length=k:=by simp [lI]
theorem aeR (n:Nat) (M:List (List Bool)) (a k:Nat):(vN n M a k).length=k:=by simp [vN]
theorem aeS {n:Nat} {M:List (List Bool)} {a b:Nat} (h0:0<n):(join n M a b).getD 0<n:=by
 cases h:join n M a b with
 |none=>exact h0
 |some x=>exact (CP h).1
theorem aeT {n:Nat} {M:List (List Bool)} {a b:Nat} (h0:0<n):(meet n M a b).getD 0<n:=by
 cases h:meet n M a b with
 |none=>exact h0
 |some x=>exact (CP h).1
theorem aeU {n:Nat} {M:List (List Bool)} (h0:0<n):∀k,iY n M k<n
 |0=>h0
 |k+1=>by rw [KF];exact aeS h0
theorem aeV {n:Nat} {M:List (List Bool)} (h0:0<n):∀k,iZ n M k<n
 |0=>h0
 |k+1=>by rw [KG];exact aeT h0
def L1 (n:Nat) (M:List (List Bool)) (a:Nat):Prop:=∀x y,x<a→y<n→x≠y→¬(cf M x y=true∧cf M y x=true)
def Ho (M:List (List Bool)) (a b:Nat):Prop:=∀y,y<b→a≠y→¬(cf M a y=true∧cf M y a=true)
theorem L2 {M:List (List Bool)} {a b:Nat} (h:Ho M a b) (hn:a≠b→¬(cf M a b=true∧cf M b a=true)):Ho M a (b+1):=fun y hy bG=>by
 by_cases e:y=b
 · subst e;exact hn bG
 · exact h y (by omega) bG
theorem aeW {n:Nat} {M:List (List Bool)} {a:Nat} (h:L1 n M a) (bB:Ho M a n):L1 n M (a+1):=fun x y hx hy bG=>by
 by_cases e:x=a
 · subst e;exact bB y hy bG
 · exact h x y (by omega) hy bG
theorem aeX {n:Nat} {M:List (List Bool)} (s:eJ n M) {a b:Nat} (ha:a<n) (hb:b<n) (bG:a≠b) (h1:cf M a b=true) (h2:cf M b a=true):oA n M n=false:=by
 rw [Bool.eq_false_iff];intro h
 exact ((CQ s).1 h).1 a b ha hb bG ⟨h1,h2⟩
theorem SK {n:Nat} {M:List (List Bool)} (s:eJ n M) (h:nN n M n=false):oA n M n=false:=by
 rw [Bool.eq_false_iff];intro h2
 rw [((CQ s).1 h2).2.1] at h;cases h
theorem aeY {n:Nat} {M:List (List Bool)} (s:eJ n M) (h:nN n (kI n M) n=false):oA n M n=false:=by
 rw [Bool.eq_false_iff];intro h2
 rw [((CQ s).1 h2).2.2] at h;cases h
def jv (y:Bool) (b:Nat) (r en:List Bool):List Bool:=if y then pC b r en else r
theorem Hp {y:Bool} {b n:Nat} {r en:List Bool} (hr:r.length=n) (hk:en.length=n) (hb:b≤n):(jv y b r en).length=n:=by
 unfold jv;split
 · exact Py hr hk hb
 · exact hr
theorem aeZ {n k a:Nat} {M:List (List Bool)} {r:List Bool} (s:eJ n M) (ha:a<n) (hr:M[a]? =some r) (y:Bool) (en:List Bool):(iQ k a M).set a (jv y 0 r en)=iQ k a M:=by
 have e:jv y 0 r en=r:=by unfold jv;split;exact Zg r en;rfl
 rw [e]
 apply List.ext_getElem?
 intro i
 rw [List.getElem?_set]
 by_cases h:a=i
 · subst h
   have:(iQ k a M)[a]? =some r:=by rw [CJ s (by omega),hr];simp
   rw [if_pos rfl,if_pos (List.getElem?_eq_some_iff.1 this).1,this]
 · rw [if_neg h]
theorem SL {n k a:Nat} {M:List (List Bool)} (s:eJ n M) (ha:a≤n):(iQ k a M).length=n:=by unfold iQ;rw [List.length_append,List.length_map,List.length_take,List.length_drop,s.len];omega
theorem DI {n k a:Nat} {M:List (List Bool)} {r:List Bool} (s:eJ n M) (ha:a<n):((iQ k a M).set a r)[a]? =some r:=by
 rw [List.getElem?_set,if_pos rfl,if_pos (by rw [SL s (by omega)];exact ha)]
theorem ae0 {n k a b:Nat} {y:Bool} {M:List (List Bool)} {ra en:List Bool} (s:eJ n M) (ha:a<n) (hk:k<n) (s4:M[k]? =some en) (Hq:M[a]? =some ra):((iQ k a M).set a (jv y b ra en))[k]? =some (if a=k then jv y b ra en else en):=by
 rw [List.getElem?_set,SL s (by omega)]
 by_cases e:a=k
 · rw [if_pos e,if_pos ha,if_pos e]
 · rw [if_neg e,if_neg e,CJ s (by omega),s4]
   simp only [Option.map_some]
   split
   · rw [Zf s4]
   · rfl
theorem ae1 {n b i:Nat} {y x:Bool} {r en:List Bool} (hr:r.length=n) (hk:en.length=n) (_hi:i<n) (hb:b≤n) (hx:r[i]? =some x) (RR:b≤i):(jv y b r en)[i]? =some x:=by
 unfold jv;split
 · rw [FX hr hk hb,if_neg (by omega)];exact hx
 · exact hx
theorem ae2 {n b k:Nat} {y:Bool} {r en:List Bool} (hr:r.length=n) (hk:en.length=n) (aiy:k<n) (hy:r[k]? =some y) (hb:b≤n):(jv y b r en)[k]? =some y:=by
 unfold jv;split
 · rename_i h
   rw [FX hr hk hb]
   split
   · unfold oy
     obtain ⟨z,hz⟩:∃z,en[k]? =some z:=⟨en[k]'(by omega),List.getElem?_eq_getElem (by omega)⟩
     rw [List.getElem?_zipWith,hy,hz,h];rfl
   · exact hy
 · exact hy
theorem ae3 {n b i a k:Nat} {y z:Bool} {r en:List Bool} (hk:en.length=n) (hz:en[i]? =some z) (hb:b≤n) (e:a=k→r=en:=by intro h;subst h;simp_all):(if a=k then jv y b r en else en)[i]? =some z:=by
 by_cases h:a=k
 · rw [if_pos h,e h]
   unfold jv;split
   · rw [Zj];exact hz
   · exact hz
 · rw [if_neg h];exact hz
theorem ae4 {n:Nat} {y:Bool} {r en:List Bool} (hr:r.length=n) (hk:en.length=n):jv y n r en=if y then oy r en else r:=by unfold jv;rw [Zh hr hk]
theorem ae5 {k:Nat} {y:Bool} {M:List (List Bool)} {r en:List Bool} (s4:M[k]? =some en) (hy:r[k]? =some y):(if y then oy r en else r)=qA k M r:=by unfold qA;rw [s4,hy];rfl
theorem Hr {n b:Nat} {y x z:Bool} {r en:List Bool} (hr:r.length=n) (hk:en.length=n) (hb:b<n) (hx:r[b]? =some x) (hz:en[b]? =some z):(jv y b r en).set b (x||(y&&z))=jv y (b+1) r en:=by
 unfold jv
 cases y with
 |true=>simp only [if_true,Bool.true_and];exact Zi hr hk hb hx hz
 |false=>
  simp only [Bool.false_and,Bool.or_false,if_false,Bool.false_eq_true]
  apply List.ext_getElem?
  intro i
  rw [List.getElem?_set]
  by_cases e:b=i
  · subst e;rw [if_pos rfl,if_pos (by omega),hx]
  · rw [if_neg e]
end Lab
theorem Hs {aO:List lJ} {i:Nat} {p:lJ} (h:aO[i]? =some p):er (aO.take (i+1))=er (aO.take i)++[(p.1,p.2.1)]:=by
 unfold er;rw [List.take_add_one,h,List.map_append];rfl
theorem SM (aO:List lJ) (i:Nat):er (aO.take i)++(er aO).drop i=er aO:=by
 unfold er;rw [List.map_take,List.take_append_drop]
theorem mr.snoc {h:ae}:∀{J:List (List Bool)} {vs:List V} {r:List Bool} {v:V},mr h J vs→Rows 1 h v (r.map bv)→mr h (J++[r]) (vs++[v])
 |[],[],_,_,_,hr=>⟨hr,trivial⟩
 |[],_::_,_,_,h,_=>h.elim
 |_::_,[],_,_,h,_=>h.elim
 |_::_,_::_,_,_,h,hr=>⟨h.1,h.2.snoc hr⟩
theorem SN (n:Nat) (p:Nat→Bool):(List.replicate n [V.bool false])=(Lab.kR n p 0).map bv:=by rw [Lab.aeG,List.map_replicate];rfl
theorem L3 {n:Nat} {p:Nat→Bool} {k:Nat} (hk:k<n):((Lab.kR n p k).map bv).set k [V.bool (p k)]=(Lab.kR n p (k+1)).map bv:=by rw [←Lab.aeH hk,List.map_set];rfl
theorem SP {h:ae} {u:V} {r:List Nat} {b x:Nat} (R:Rows 1 h u (r.map rJ)) (hx:r[b]? =some x):h.eb (cY u) (db u+b * 1)=some (.int .i64 (x:Int)):=R.vA (by rw [List.getElem?_map,hx];rfl)
theorem ae6 {ev:dr} {x y z w:A} {a b c d e f p q r s:V} (hx:(ev x).dA=some [a]) (hy:(ev y).dA=some [b]) (hz:(ev z).dA=some [c]) (hw:(ev w).dA=some [d]):
  fill [(0,1,x),(1,1,y),(2,1,z),(3,1,w)] ev [p,q,r,s,e,f]=some [a,b,c,d,e,f]:=by
 show (Option.rec none (fun l=>bif (cI l).beq 1&&(Nat.add 0 1).ble (cI [p,q,r,s,e,f]) then fill [(1,1,y),(2,1,z),(3,1,w)] ev (gL 0 l [p,q,r,s,e,f]) else none) (ev x).dA:Option (List V))=_
 rw [hx]
 show (Option.rec none (fun l=>bif (cI l).beq 1&&(Nat.add 1 1).ble (cI [a,q,r,s,e,f]) then fill [(2,1,z),(3,1,w)] ev (gL 1 l [a,q,r,s,e,f]) else none) (ev y).dA:Option (List V))=_
 rw [hy]
 show (Option.rec none (fun l=>bif (cI l).beq 1&&(Nat.add 2 1).ble (cI [a,b,r,s,e,f]) then fill [(3,1,w)] ev (gL 2 l [a,b,r,s,e,f]) else none) (ev z).dA:Option (List V))=_
 rw [hz]
 show (Option.rec none (fun l=>bif (cI l).beq 1&&(Nat.add 3 1).ble (cI [a,b,c,s,e,f]) then fill [] ev (gL 3 l [a,b,c,s,e,f]) else none) (ev w).dA:Option (List V))=_
 rw [hw];rfl
theorem Rows.L4 {r:Nat} {h:ae} {v:V} {rows:List (List V)} (R:Rows r h v rows):v.dA=some [v]:=by cases R<;>rfl
theorem gb.cells {h:ae} {v:V} {M:List (List Bool)} (t:gb h v M):v.dA=some [v]:=by obtain ⟨_,R,_⟩:=t;exact R.L4
theorem oz.cells {h:ae} {v:V} {M:List (List Nat)} (t:oz h v M):v.dA=some [v]:=by obtain ⟨_,R,_⟩:=t;exact R.L4
theorem ae7 {fs:List Fact} {h:ae} {b n:Nat} {r:List Bool} (s:aq (.mV b 1 (r.map bv)::fs) h) (ar:r.length=n):aq (.aE (fun h=>Rows 1 h (.au b 0 n (some n)) (r.map bv))::fs) h:=by
 have:=s.Pb (some n)
 rw [List.length_map,ar] at this;exact this
end
end Go.Eng
