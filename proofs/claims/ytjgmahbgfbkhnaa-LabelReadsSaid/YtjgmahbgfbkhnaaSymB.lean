/- Part of a proof of a law: rules of an evaluator, contracts, plain laws. No condition of its own. -/
import Derived.Test.YtjgmahbgfbkhnaaSymA
set_option linter.unusedVariables false
set_option linter.unusedSimpArgs false
namespace Go.Eng
noncomputable section
def iv (x:Nat):List V:=[.int .i64 (x:Int)]
def fo (h:Heap):List (List Nat)→List V→Prop
 |[],[]=>True
 |r::J,v::vs=>Rows 1 h v (r.map iv)∧fo h J vs
 |_,_=>False
theorem fo.snoc {h:Heap}:∀{J:List (List Nat)} {vs:List V} {r:List Nat} {v:V},fo h J vs→Rows 1 h v (r.map iv)→fo h (J++[r]) (vs++[v])
 |[],[],_,_,_,hr=>⟨hr,trivial⟩
 |[],_::_,_,_,h,_=>h.elim
 |_::_,[],_,_,h,_=>h.elim
 |_::_,_::_,_,_,h,hr=>⟨h.1,h.2.snoc hr⟩
theorem fo.len {h:Heap}:∀{J:List (List Nat)} {vs:List V},fo h J vs→vs.length=J.length
 |[],[],_=>rfl
 |[],_::_,h=>h.elim
 |_::_,[],h=>h.elim
 |_::_,_::_,h=>by simp [h.2.len]
theorem fo.at {h:Heap}:∀{J:List (List Nat)} {vs:List V},fo h J vs→∀{i:Nat} {r:List Nat},J[i]? =some r→∃v,vs[i]? =some v∧Rows 1 h v (r.map iv)
 |[],[],_,i,r,hi=>by simp at hi
 |[],_::_,h,_,_,_=>h.elim
 |_::_,[],h,_,_,_=>h.elim
 |a::J,v::vs,h,0,r,hi=>by simp at hi;subst hi;exact ⟨v,rfl,h.1⟩
 |a::J,v::vs,h,i+1,r,hi=>by
  obtain ⟨w,h1,h2⟩:=h.2.at (i:=i) (r:=r) (by simpa using hi)
  exact ⟨w,by simpa using h1,h2⟩
def kV (h:Heap) (v:V) (J:List (List Nat)):Prop:=∃vs:List V,Rows 1 h v (vs.map fun x=>[x])∧fo h J vs
def yB (lb lo n:Nat) (M:List (List Bool)) (h:Heap):Prop:=∀a,a<n→∃rb ro rcap,h.bE lb (lo+a * 1)=some (.sl rb ro n rcap)∧∀b,b<n→h.bE rb (ro+b * 1)=some (.bool (Lab.at2 M a b))
theorem St.triv {fs:List Fact} {h:Heap} {P:Heap→Prop} (s:St fs h) (hp:∀h,P h):St (.stb P::fs) h:=(St.pure s (Q:=True) trivial).o6 fun h _=>hp h
namespace Lab
def lower (n:Nat) (le:Nat→Nat→Bool) (is:Nat→Bool) (x:Nat):Bool:=(List.range n).all fun d=> !is d||le x d
def least (n:Nat) (le:Nat→Nat→Bool) (is:Nat→Bool):Option Nat:=(List.range n).find? fun x=>is x&&lower n le is x
def join (n:Nat) (M:List (List Bool)) (a b:Nat):Option Nat:=least n (at2 M) fun x=>at2 M a x&&at2 M b x
def meet (n:Nat) (M:List (List Bool)) (a b:Nat):Option Nat:=least n (fun x y=>at2 M y x) fun x=>at2 M x a&&at2 M x b
def okC (n:Nat) (M:List (List Bool)) (a b:Nat):Bool:= !(decide (a≠b)&&(at2 M a b&&at2 M b a))&&((join n M a b).isSome&&(meet n M a b).isSome)
def bQ (n:Nat) (M:List (List Bool)) (a k:Nat):List Nat:=(List.range k).map fun b=>(join n M a b).getD 0
def dn (n:Nat) (M:List (List Bool)) (a k:Nat):List Nat:=(List.range k).map fun b=>(meet n M a b).getD 0
def fu (n:Nat) (M:List (List Bool)) (k:Nat):List (List Nat):=(List.range k).map fun a=>bQ n M a n
def gX (n:Nat) (M:List (List Bool)) (k:Nat):List (List Nat):=(List.range k).map fun a=>dn n M a n
def okR (n:Nat) (M:List (List Bool)) (a k:Nat):Bool:=(List.range k).all fun b=>okC n M a b
def okT (n:Nat) (M:List (List Bool)) (k:Nat):Bool:=(List.range k).all fun a=>okR n M a n
def low (n:Nat) (M:List (List Bool)):Option Nat:=least n (at2 M) fun _=>true
def high (n:Nat) (M:List (List Bool)):Option Nat:=least n (fun x y=>at2 M y x) fun _=>true
def complete (n:Nat) (M:List (List Bool)):Option (Nat×Nat):=if okT n M n&&((low n M).isSome&&(high n M).isSome) then some ((low n M).getD 0,(high n M).getD 0) else none
theorem ku (n:Nat) (M:List (List Bool)) (a k:Nat):bQ n M a (k+1)=bQ n M a k++[(join n M a k).getD 0]:=by unfold bQ;rw [List.range_succ,List.map_append];rfl
theorem nD (n:Nat) (M:List (List Bool)) (a k:Nat):dn n M a (k+1)=dn n M a k++[(meet n M a k).getD 0]:=by unfold dn;rw [List.range_succ,List.map_append];rfl
theorem xg (n:Nat) (M:List (List Bool)) (k:Nat):fu n M (k+1)=fu n M k++[bQ n M k n]:=by unfold fu;rw [List.range_succ,List.map_append];rfl
theorem Em (n:Nat) (M:List (List Bool)) (k:Nat):gX n M (k+1)=gX n M k++[dn n M k n]:=by unfold gX;rw [List.range_succ,List.map_append];rfl
theorem xk (n:Nat) (M:List (List Bool)) (a k:Nat):okR n M a (k+1)=(okR n M a k&&okC n M a k):=by unfold okR;rw [List.range_succ,List.all_append];simp
theorem J7 (n:Nat) (M:List (List Bool)) (k:Nat):okT n M (k+1)=(okT n M k&&okR n M k n):=by unfold okT;rw [List.range_succ,List.all_append];simp
theorem okR_no {n:Nat} {M:List (List Bool)} {a b k:Nat} (hb:b<k) (h:okC n M a b=false):okR n M a k=false:=by
 unfold okR;rw [Bool.eq_false_iff];intro ht
 rw [List.all_eq_true] at ht
 rw [ht b (List.mem_range.2 hb)] at h;cases h
theorem okT_no {n:Nat} {M:List (List Bool)} {a b k:Nat} (ha:a<k) (hb:b<n) (h:okC n M a b=false):okT n M k=false:=by
 unfold okT;rw [Bool.eq_false_iff];intro ht
 rw [List.all_eq_true] at ht
 have:=ht a (List.mem_range.2 ha)
 rw [okR_no hb h] at this;cases this
theorem d9 {n:Nat} {M:List (List Bool)} {a b:Nat} (ha:a<n) (hb:b<n) (h:okC n M a b=false):complete n M=none:=by
 unfold complete;rw [okT_no ha hb h];rfl
end Lab
end
end Go.Eng
