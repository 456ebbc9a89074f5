/- Part of a proof of a law: rules of an evaluator, contracts, plain laws. No condition of its own. -/
import Derived.Test.YtmcjcbldmoijiaaGreatDoorSymE
set_option linter.unusedVariables false
set_option linter.unusedSimpArgs false
namespace Go.Eng
noncomputable section
namespace Lab
def lK (n:Nat) (p:Nat→Bool) (k:Nat):List Bool:=(List.range n).map fun x=>decide (x<k)&&p x
theorem zG (n:Nat) (p:Nat→Bool) (k:Nat):(lK n p k).length=n:=by simp [lK]
theorem agA (n:Nat) (p:Nat→Bool):lK n p 0=List.replicate n false:=by
 unfold lK
 apply List.ext_getElem?
 intro i
 rw [List.getElem?_map,List.getElem?_replicate]
 by_cases h:i<n
 · rw [List.getElem?_range h,if_pos h];rfl
 · rw [List.getElem?_eq_none (by simp;omega),if_neg h];rfl
theorem agB {n:Nat} {p:Nat→Bool} {k:Nat} (hk:k<n):(lK n p k).set k (p k)=lK n p (k+1):=by
 apply List.ext_getElem?
 intro i
 rw [List.getElem?_set,zG]
 unfold lK
 by_cases e:k=i
 · subst e
   rw [if_pos rfl,if_pos hk,List.getElem?_map,List.getElem?_range hk];simp
 · rw [if_neg e,List.getElem?_map,List.getElem?_map]
   by_cases h:i<n
   · rw [List.getElem?_range h]
     simp only [Option.map_some]
     congr 2
     exact decide_eq_decide.2 (by omega)
   · rw [List.getElem?_eq_none (by simp;omega)];rfl
theorem UA (n:Nat) (p:Nat→Bool):lK n p n=(List.range n).map p:=by
 unfold lK
 apply List.map_congr_left
 intro x hx
 simp [List.mem_range.1 hx]
theorem agC {n:Nat} {p:Nat→Bool} {k:Nat} (hk:k<n):(lK n p n)[k]? =some (p k):=by
 rw [UA,List.getElem?_map,List.getElem?_range hk];rfl
def vY (n:Nat) (M:List (List Bool)) (i:Nat):List (List Bool):=(List.range i).map fun a=>lK n (fun x=>cD M x a) n
theorem agD (n:Nat) (M:List (List Bool)) (i:Nat):vY n M (i+1)=vY n M i++[lK n (fun x=>cD M x i) n]:=by unfold vY;rw [List.range_succ,List.map_append];rfl
theorem agE (n:Nat) (M:List (List Bool)):vY n M n=ly n M:=by unfold vY ly;simp only [UA]
theorem agF {n:Nat} {M:List (List Bool)} {a b k:Nat} (hb:b<k):(my n M a k)[b]? =some ((join n M a b).getD 0):=by unfold my;rw [List.getElem?_map,List.getElem?_range hb];rfl
theorem agG {n:Nat} {M:List (List Bool)} {a k:Nat} (ha:a<k):(kr n M k)[a]? =some (my n M a n):=by unfold kr;rw [List.getElem?_map,List.getElem?_range ha];rfl
theorem agH {n:Nat} {M:List (List Bool)} {a b k:Nat} (hb:b<k):(xc n M a k)[b]? =some ((meet n M a b).getD 0):=by unfold xc;rw [List.getElem?_map,List.getElem?_range hb];rfl
theorem agI {n:Nat} {M:List (List Bool)} {a k:Nat} (ha:a<k):(rI n M k)[a]? =some (xc n M a n):=by unfold rI;rw [List.getElem?_map,List.getElem?_range ha];rfl
theorem agJ (n:Nat) (M:List (List Bool)) (k:Nat):(kr n M k).length=k:=by simp [kr]
theorem agK (n:Nat) (M:List (List Bool)) (k:Nat):(rI n M k).length=k:=by simp [rI]
theorem UB (n:Nat) (M:List (List Bool)) (a k:Nat):(my n M a k).length=k:=by simp [my]
theorem agL (n:Nat) (M:List (List Bool)) (a k:Nat):(xc n M a k).length=k:=by simp [xc]
theorem agM {n:Nat} {M:List (List Bool)} {a b:Nat} (h0:0<n):(join n M a b).getD 0<n:=by
 cases h:join n M a b with
 |none=>exact h0
 |some x=>exact (Eo h).1
theorem agN {n:Nat} {M:List (List Bool)} {a b:Nat} (h0:0<n):(meet n M a b).getD 0<n:=by
 cases h:meet n M a b with
 |none=>exact h0
 |some x=>exact (Eo h).1
theorem agO {n:Nat} {M:List (List Bool)} (h0:0<n):∀k,jJ n M k<n
 |0=>h0
 |k+1=>by rw [MD];exact agM h0
theorem agP {n:Nat} {M:List (List Bool)} (h0:0<n):∀k,jK n M k<n
 |0=>h0
 |k+1=>by rw [ME];exact agN h0
def N9 (n:Nat) (M:List (List Bool)) (a:Nat):Prop:=∀x y,x<a→y<n→x≠y→¬(cD M x y=true∧cD M y x=true)
def Jm (M:List (List Bool)) (a b:Nat):Prop:=∀y,y<b→a≠y→¬(cD M a y=true∧cD M y a=true)
theorem Oa {M:List (List Bool)} {a b:Nat} (h:Jm M a b) (hn:a≠b→¬(cD M a b=true∧cD M b a=true)):Jm M a (b+1):=fun y hy bO=>by
 by_cases e:y=b
 · subst e;exact hn bO
 · exact h y (by omega) bO
theorem agQ {n:Nat} {M:List (List Bool)} {a:Nat} (h:N9 n M a) (bC:Jm M a n):N9 n M (a+1):=fun x y hx hy bO=>by
 by_cases e:x=a
 · subst e;exact bC y hy bO
 · exact h x y (by omega) hy bO
theorem agR {n:Nat} {M:List (List Bool)} (s:fg n M) {a b:Nat} (ha:a<n) (hb:b<n) (bO:a≠b) (h1:cD M a b=true) (h2:cD M b a=true):py n M n=false:=by
 rw [Bool.eq_false_iff];intro h
 exact ((Ep s).1 h).1 a b ha hb bO ⟨h1,h2⟩
theorem UC {n:Nat} {M:List (List Bool)} (s:fg n M) (h:oO n M n=false):py n M n=false:=by
 rw [Bool.eq_false_iff];intro h2
 rw [((Ep s).1 h2).2.1] at h;cases h
theorem agS {n:Nat} {M:List (List Bool)} (s:fg n M) (h:oO n (ly n M) n=false):py n M n=false:=by
 rw [Bool.eq_false_iff];intro h2
 rw [((Ep s).1 h2).2.2] at h;cases h
def j5 (y:Bool) (b:Nat) (r eQ:List Bool):List Bool:=if y then qy b r eQ else r
theorem Jn {y:Bool} {b n:Nat} {r eQ:List Bool} (hr:r.length=n) (hk:eQ.length=n) (hb:b≤n):(j5 y b r eQ).length=n:=by
 unfold j5;split
 · exact Ru hr hk hb
 · exact hr
theorem agT {n k a:Nat} {M:List (List Bool)} {r:List Bool} (s:fg n M) (ha:a<n) (hr:M[a]? =some r) (y:Bool) (eQ:List Bool):(jE k a M).set a (j5 y 0 r eQ)=jE k a M:=by
 have e:j5 y 0 r eQ=r:=by unfold j5;split;exact aaV r eQ;rfl
 rw [e]
 apply List.ext_getElem?
 intro i
 rw [List.getElem?_set]
 by_cases h:a=i
 · subst h
   have:(jE k a M)[a]? =some r:=by rw [Eh s (by omega),hr];simp
   rw [if_pos rfl,if_pos (List.getElem?_eq_some_iff.1 this).1,this]
 · rw [if_neg h]
theorem UD {n k a:Nat} {M:List (List Bool)} (s:fg n M) (ha:a≤n):(jE k a M).length=n:=by unfold jE;rw [List.length_append,List.length_map,List.length_take,List.length_drop,s.len];omega
theorem Fz {n k a:Nat} {M:List (List Bool)} {r:List Bool} (s:fg n M) (ha:a<n):((jE k a M).set a r)[a]? =some r:=by
 rw [List.getElem?_set,if_pos rfl,if_pos (by rw [UD s (by omega)];exact ha)]
theorem agU {n k a b:Nat} {y:Bool} {M:List (List Bool)} {ra eQ:List Bool} (s:fg n M) (ha:a<n) (hk:k<n) (uc:M[k]? =some eQ) (Jo:M[a]? =some ra):((jE k a M).set a (j5 y b ra eQ))[k]? =some (if a=k then j5 y b ra eQ else eQ):=by
 rw [List.getElem?_set,UD s (by omega)]
 by_cases e:a=k
 · rw [if_pos e,if_pos ha,if_pos e]
 · rw [if_neg e,if_neg e,Eh s (by omega),uc]
   simp only [Option.map_some]
   split
   · rw [aaU uc]
   · rfl
theorem agV {n b i:Nat} {y x:Bool} {r eQ:List Bool} (hr:r.length=n) (hk:eQ.length=n) (_hi:i<n) (hb:b≤n) (hx:r[i]? =some x) (EL:b≤i):(j5 y b r eQ)[i]? =some x:=by
 unfold j5;split
 · rw [HL hr hk hb,if_neg (by omega)];exact hx
 · exact hx
theorem agW {n b k:Nat} {y:Bool} {r eQ:List Bool} (hr:r.length=n) (hk:eQ.length=n) (akN:k<n) (hy:r[k]? =some y) (hb:b≤n):(j5 y b r eQ)[k]? =some y:=by
 unfold j5;split
 · rename_i h
   rw [HL hr hk hb]
   split
   · unfold pw
     obtain ⟨z,hz⟩:∃z,eQ[k]? =some z:=⟨eQ[k]'(by omega),List.getElem?_eq_getElem (by omega)⟩
     rw [List.getElem?_zipWith,hy,hz,h];rfl
   · exact hy
 · exact hy
theorem agX {n b i a k:Nat} {y z:Bool} {r eQ:List Bool} (hk:eQ.length=n) (hz:eQ[i]? =some z) (hb:b≤n) (e:a=k→r=eQ:=by intro h;subst h;simp_all):(if a=k then j5 y b r eQ else eQ)[i]? =some z:=by
 by_cases h:a=k
 · rw [if_pos h,e h]
   unfold j5;split
   · rw [aaY];exact hz
   · exact hz
 · rw [if_neg h];exact hz
theorem agY {n:Nat} {y:Bool} {r eQ:List Bool} (hr:r.length=n) (hk:eQ.length=n):j5 y n r eQ=if y then pw r eQ else r:=by unfold j5;rw [aaW hr hk]
theorem agZ {k:Nat} {y:Bool} {M:List (List Bool)} {r eQ:List Bool} (uc:M[k]? =some eQ) (hy:r[k]? =some y):(if y then pw r eQ else r)=rH k M r:=by unfold rH;rw [uc,hy];rfl
theorem Jp {n b:Nat} {y x z:Bool} {r eQ:List Bool} (hr:r.length=n) (hk:eQ.length=n) (hb:b<n) (hx:r[b]? =some x) (hz:eQ[b]? =some z):(j5 y b r eQ).set b (x||(y&&z))=j5 y (b+1) r eQ:=by
 unfold j5
 cases y with
 |true=>simp only [if_true,Bool.true_and];exact aaX hr hk hb hx hz
 |false=>
  simp only [Bool.false_and,Bool.or_false,if_false,Bool.false_eq_true]
  apply List.ext_getElem?
  intro i
  rw [List.getElem?_set]
  by_cases e:b=i
  · subst e;rw [if_pos rfl,if_pos (by omega),hx]
  · rw [if_neg e]
end Lab
theorem Jq {aQ:List nW} {i:Nat} {p:nW} (h:aQ[i]? =some p):eR (aQ.take (i+1))=eR (aQ.take i)++[(p.1,p.2.1)]:=by
 unfold eR;rw [List.take_add_one,h,List.map_append];rfl
theorem UE (aQ:List nW) (i:Nat):eR (aQ.take i)++(eR aQ).drop i=eR aQ:=by
 unfold eR;rw [List.map_take,List.take_append_drop]
theorem nq.snoc {h:ag}:∀{J:List (List Bool)} {vs:List V} {r:List Bool} {v:V},nq h J vs→Rows 1 h v (r.map bv)→nq h (J++[r]) (vs++[v])
 |[],[],_,_,_,hr=>⟨hr,trivial⟩
 |[],_::_,_,_,h,_=>h.elim
 |_::_,[],_,_,h,_=>h.elim
 |_::_,_::_,_,_,h,hr=>⟨h.1,h.2.snoc hr⟩
theorem UF (n:Nat) (p:Nat→Bool):(List.replicate n [V.bool false])=(Lab.lK n p 0).map bv:=by rw [Lab.agA,List.map_replicate];rfl
theorem Ob {n:Nat} {p:Nat→Bool} {k:Nat} (hk:k<n):((Lab.lK n p k).map bv).set k [V.bool (p k)]=(Lab.lK n p (k+1)).map bv:=by rw [←Lab.agB hk,List.map_set];rfl
theorem UG {h:ag} {u:V} {r:List Nat} {b x:Nat} (R:Rows 1 h u (r.map sO)) (hx:r[b]? =some x):h.eZ (ck u) (cu u+b * 1)=some (.int .i64 (x:Int)):=R.tS (by rw [List.getElem?_map,hx];rfl)
theorem ag0 {ev:dM} {x y z w:A} {a b c d e f p q r s:V} (hx:(ev x).dY=some [a]) (hy:(ev y).dY=some [b]) (hz:(ev z).dY=some [c]) (hw:(ev w).dY=some [d]):
  fill [(0,1,x),(1,1,y),(2,1,z),(3,1,w)] ev [p,q,r,s,e,f]=some [a,b,c,d,e,f]:=by
 show (Option.rec none (fun l=>bif (cZ l).beq 1&&(Nat.add 0 1).ble (cZ [p,q,r,s,e,f]) then fill [(1,1,y),(2,1,z),(3,1,w)] ev (hX 0 l [p,q,r,s,e,f]) else none) (ev x).dY:Option (List V))=_
 rw [hx]
 show (Option.rec none (fun l=>bif (cZ l).beq 1&&(Nat.add 1 1).ble (cZ [a,q,r,s,e,f]) then fill [(2,1,z),(3,1,w)] ev (hX 1 l [a,q,r,s,e,f]) else none) (ev y).dY:Option (List V))=_
 rw [hy]
 show (Option.rec none (fun l=>bif (cZ l).beq 1&&(Nat.add 2 1).ble (cZ [a,b,r,s,e,f]) then fill [(3,1,w)] ev (hX 2 l [a,b,r,s,e,f]) else none) (ev z).dY:Option (List V))=_
 rw [hz]
 show (Option.rec none (fun l=>bif (cZ l).beq 1&&(Nat.add 3 1).ble (cZ [a,b,c,s,e,f]) then fill [] ev (hX 3 l [a,b,c,s,e,f]) else none) (ev w).dY:Option (List V))=_
 rw [hw];rfl
theorem Rows.Oc {r:Nat} {h:ag} {v:V} {rows:List (List V)} (R:Rows r h v rows):v.dY=some [v]:=by cases R<;>rfl
theorem gL.cells {h:ag} {v:V} {M:List (List Bool)} (t:gL h v M):v.dY=some [v]:=by obtain ⟨_,R,_⟩:=t;exact R.Oc
theorem px.cells {h:ag} {v:V} {M:List (List Nat)} (t:px h v M):v.dY=some [v]:=by obtain ⟨_,R,_⟩:=t;exact R.Oc
theorem ag1 {fs:List Fact} {h:ag} {b n:Nat} {r:List Bool} (s:ak (.nT b 1 (r.map bv)::fs) h) (au:r.length=n):ak (.ay (fun h=>Rows 1 h (.av b 0 n (some n)) (r.map bv))::fs) h:=by
 have:=s.Ra (some n)
 rw [List.length_map,au] at this;exact this
end
end Go.Eng
