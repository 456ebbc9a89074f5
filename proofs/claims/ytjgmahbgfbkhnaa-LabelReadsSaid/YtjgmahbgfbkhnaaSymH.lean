/- Part of a proof of a law: rules of an evaluator, contracts, plain laws. No condition of its own. -/
import Derived.Test.YtjgmahbgfbkhnaaSymG
set_option linter.unusedVariables false
set_option linter.unusedSimpArgs false
namespace Go.Eng
noncomputable section
namespace Lab
theorem least_some {n:Nat} {le:Nat→Nat→Bool} {is:Nat→Bool} {x:Nat} (h:least n le is=some x):x<n∧is x=true∧∀d,d<n→is d=true→le x d=true:=by
 unfold least at h
 have h1:=List.find?_some h
 have h2:=List.mem_of_find?_eq_some h
 rw [Bool.and_eq_true] at h1
 refine ⟨List.mem_range.1 h2,h1.1,fun d hd hi=> ?_⟩
 have:=h1.2
 unfold lower at this
 rw [List.all_eq_true] at this
 have:=this d (List.mem_range.2 hd)
 rw [hi] at this;simpa using this
theorem EK {n:Nat} {le:Nat→Nat→Bool} {is:Nat→Bool} (h:least n le is=none) {x:Nat} (hx:x<n) (hi:is x=true):lower n le is x=false:=by
 unfold least at h
 rw [List.find?_eq_none] at h
 have:=h x (List.mem_range.2 hx)
 rw [hi] at this;simpa using this
def tr (n:Nat) (M:List (List Bool)):List (List Bool):=(List.range n).map fun i=>(List.range n).map fun k=>at2 M k i
theorem Ky (n:Nat) (M:List (List Bool)):Sq n (tr n M):=⟨by simp [tr],fun r hr=>by
 obtain ⟨i,_,rfl⟩:=List.mem_map.1 hr
 simp⟩
theorem EL {n:Nat} {M:List (List Bool)} (s:Sq n M) (a b:Nat):at2 (tr n M) a b=at2 M b a:=by
 by_cases h:a<n∧b<n
 · have h1:(tr n M)[a]? =some ((List.range n).map fun k=>at2 M k a):=by unfold tr;rw [List.getElem?_map,List.getElem?_range h.1];rfl
   rw [fT h1,List.getElem?_map,List.getElem?_range h.2];rfl
 · cases h1:at2 (tr n M) a b with
   |true=>exact absurd (Ez (Ky n M) h1) h
   |false=>
    cases h2:at2 M b a with
    |true=>exact absurd ((Ez s h2).symm) h
    |false=>rfl
theorem Gb {n:Nat} {M:List (List Bool)} (s:Sq n M) (a b:Nat):join n (tr n M) a b=meet n M a b:=by
 unfold join meet
 congr 1
 · funext x y;exact EL s x y
 · funext x;rw [EL s,EL s]
theorem CK {n:Nat} {M:List (List Bool)} (s:Sq n M) (k:Nat):fu n (tr n M) k=gX n M k:=by
 unfold fu gX bQ dn
 simp only [Gb s]
def CO (n:Nat) (M:List (List Bool)) (a k:Nat):Bool:=(List.range k).all fun b=>(join n M a b).isSome
def okJ (n:Nat) (M:List (List Bool)) (k:Nat):Bool:=(List.range k).all fun a=>CO n M a n
theorem Iy (n:Nat) (M:List (List Bool)) (a k:Nat):CO n M a (k+1)=(CO n M a k&&(join n M a k).isSome):=by unfold CO;rw [List.range_succ,List.all_append];simp
theorem Kz (n:Nat) (M:List (List Bool)) (k:Nat):okJ n M (k+1)=(okJ n M k&&CO n M k n):=by unfold okJ;rw [List.range_succ,List.all_append];simp
theorem okJ_no {n:Nat} {M:List (List Bool)} {a b k:Nat} (ha:a<k) (hb:b<n) (h:join n M a b=none):okJ n M k=false:=by
 rw [Bool.eq_false_iff];intro ht
 unfold okJ CO at ht
 rw [List.all_eq_true] at ht
 have:=ht a (List.mem_range.2 ha)
 rw [List.all_eq_true] at this
 have:=this b (List.mem_range.2 hb)
 rw [h] at this;cases this
def anti (n:Nat) (M:List (List Bool)):Prop:=∀a b,a<n→b<n→a≠b→¬(at2 M a b=true∧at2 M b a=true)
theorem rZ {n:Nat} {M:List (List Bool)} (s:Sq n M):okT n M n=true↔(anti n M∧okJ n M n=true∧okJ n (tr n M) n=true):=by
 unfold okT okR okJ CO anti
 simp only [List.all_eq_true,List.mem_range,Gb s]
 unfold okC
 simp only [Bool.and_eq_true,Bool.not_eq_true',Bool.and_eq_false_iff,decide_eq_false_iff_not]
 constructor
 · intro h
   refine ⟨fun a b ha hb hne ⟨h1,h2⟩=> ?_,fun a ha b hb=>(h a ha b hb).2.1,fun a ha b hb=>(h a ha b hb).2.2⟩
   rcases (h a ha b hb).1 with h|h|h
   · exact h hne
   · rw [h1] at h;cases h
   · rw [h2] at h;cases h
 · rintro ⟨h1,h2,h3⟩ a ha b hb
   refine ⟨?_,h2 a ha b hb,h3 a ha b hb⟩
   by_cases hne:a=b
   · exact .inl (fun h=>h hne)
   · by_cases h4:at2 M a b=true
     · by_cases h5:at2 M b a=true
       · exact absurd ⟨h4,h5⟩ (h1 a b ha hb hne)
       · exact .inr (.inr (by simpa using h5))
     · exact .inr (.inl (by simpa using h4))
def hiF (n:Nat) (M:List (List Bool)) (k:Nat):Nat:=(List.range k).foldl (fun h a=>(join n M h a).getD 0) 0
def loF (n:Nat) (M:List (List Bool)) (k:Nat):Nat:=(List.range k).foldl (fun h a=>(meet n M h a).getD 0) 0
theorem xU (n:Nat) (M:List (List Bool)) (k:Nat):hiF n M (k+1)=(join n M (hiF n M k) k).getD 0:=by unfold hiF;rw [List.range_succ,List.foldl_append];rfl
theorem xV (n:Nat) (M:List (List Bool)) (k:Nat):loF n M (k+1)=(meet n M (loF n M k) k).getD 0:=by unfold loF;rw [List.range_succ,List.foldl_append];rfl
theorem KA {n:Nat} {M:List (List Bool)} (h:okT n M n=true) {a b:Nat} (ha:a<n) (hb:b<n):okC n M a b=true:=by
 unfold okT okR at h
 simp only [List.all_eq_true,List.mem_range] at h
 exact h a ha b hb
theorem Gc {n:Nat} {M:List (List Bool)} (h0:0<n) (tr_:∀a b c,at2 M a b=true→at2 M b c=true→at2 M a c=true) (h:okT n M n=true):∀k,k≤n→hiF n M k<n∧∀a,a<k→at2 M a (hiF n M k)=true
 |0,_=>⟨h0,fun a ha=>absurd ha (by omega)⟩
 |k+1,hk=>by
  obtain ⟨i1,i2⟩:=Gc h0 tr_ h k (by omega)
  have hc:=KA h i1 (show k<n by omega)
  unfold okC at hc
  rw [Bool.and_eq_true,Bool.and_eq_true] at hc
  obtain ⟨x,hx⟩:=Option.isSome_iff_exists.1 hc.2.1
  obtain ⟨p1,p2,_⟩:=least_some hx
  rw [Bool.and_eq_true] at p2
  rw [xU,hx]
  refine ⟨p1,fun a ha=> ?_⟩
  by_cases e:a=k
  · subst e;exact p2.2
  · exact tr_ _ _ _ (i2 a (by omega)) p2.1
theorem Gd {n:Nat} {M:List (List Bool)} (h0:0<n) (tr_:∀a b c,at2 M a b=true→at2 M b c=true→at2 M a c=true) (h:okT n M n=true):∀k,k≤n→loF n M k<n∧∀a,a<k→at2 M (loF n M k) a=true
 |0,_=>⟨h0,fun a ha=>absurd ha (by omega)⟩
 |k+1,hk=>by
  obtain ⟨i1,i2⟩:=Gd h0 tr_ h k (by omega)
  have hc:=KA h i1 (show k<n by omega)
  unfold okC at hc
  rw [Bool.and_eq_true,Bool.and_eq_true] at hc
  obtain ⟨x,hx⟩:=Option.isSome_iff_exists.1 hc.2.2
  obtain ⟨p1,p2,_⟩:=least_some hx
  rw [Bool.and_eq_true] at p2
  rw [xV,hx]
  refine ⟨p1,fun a ha=> ?_⟩
  by_cases e:a=k
  · subst e;exact p2.2
  · exact tr_ _ _ _ p2.1 (i2 a (by omega))
theorem CP {n:Nat} {le:Nat→Nat→Bool} {is:Nat→Bool} {x:Nat} (hx:x<n) (hi:is x=true) (hl:∀d,d<n→is d=true→le x d=true) (hu:∀y,y<n→is y=true→le y x=true→le x y=true→y=x):least n le is=some x:=by
 cases h:least n le is with
 |none=>
  have:=EK h hx hi
  rw [Bool.eq_false_iff] at this
  exact absurd (by unfold lower;rw [List.all_eq_true];intro d hd;cases hd2:is d with|false=>rfl|true=>simp [hl d (List.mem_range.1 hd) hd2]) this
 |some y=>
  obtain ⟨y1,y2,y3⟩:=least_some h
  rw [hu y y1 y2 (y3 x hx hi) (hl y y1 y2)]
theorem CQ {n:Nat} {M:List (List Bool)} (s:Sq n M) (h0:0<n) (tr_:∀a b c,at2 M a b=true→at2 M b c=true→at2 M a c=true):complete n M=if okT n M n=true then some (loF n M n,hiF n M n) else none:=by
 by_cases h:okT n M n=true
 · rw [if_pos h]
   obtain ⟨an,_,_⟩:=(rZ s).1 h
   obtain ⟨h1,h2⟩:=Gc h0 tr_ h n (Nat.le_refl _)
   obtain ⟨l1,l2⟩:=Gd h0 tr_ h n (Nat.le_refl _)
   have eq:∀x y,x<n→y<n→at2 M x y=true→at2 M y x=true→y=x:=fun x y hx hy e1 e2=>by
    by_cases e:y=x
    · exact e
    · exact absurd ⟨e2,e1⟩ (an y x hy hx e)
   have eh:high n M=some (hiF n M n):=CP (le:=fun x y=>at2 M y x) h1 rfl (fun d hd _=>h2 d hd) (fun y hy _ e1 e2=>eq _ _ h1 hy e1 e2)
   have el:low n M=some (loF n M n):=CP (le:=at2 M) l1 rfl (fun d hd _=>l2 d hd) (fun y hy _ e1 e2=>eq _ _ l1 hy e2 e1)
   unfold complete;rw [h,eh,el];rfl
 · rw [if_neg h]
   unfold complete
   rw [Bool.not_eq_true] at h;rw [h];rfl
def Ins (S:List Txt) (s:Txt) (S':List Txt):Prop:=∃i,i≤S.length∧(∀x∈S.take i,x<s)∧(∀x,S[i]? =some x→¬x<s)∧S'=if S[i]? =some s then S else S.take i++s::S.drop i
theorem Ins.mem {S S':List Txt} {s:Txt} (h:Ins S s S') (z:Txt):z∈S'↔(z∈S∨z=s):=by
 obtain ⟨i,hi,_,_,rfl⟩:=h
 by_cases e:S[i]? =some s
 · rw [if_pos e]
   have:=List.mem_of_getElem? e
   constructor
   · exact .inl
   · rintro (h|rfl)
     · exact h
     · exact this
 · rw [if_neg e,List.mem_append,List.mem_cons]
   have:z∈S↔(z∈S.take i∨z∈S.drop i):=by rw [←List.mem_append,List.take_append_drop]
   rw [this]
   constructor
   · rintro (h|h|h)
     · exact .inl (.inl h)
     · exact .inr h
     · exact .inl (.inr h)
   · rintro ((h|h)|h)
     · exact .inl h
     · exact .inr (.inr h)
     · exact .inr (.inl h)
theorem Ins.len {S S':List Txt} {s:Txt} (h:Ins S s S'):S'.length≤S.length+1∧S.length≤S'.length:=by
 obtain ⟨i,hi,_,_,rfl⟩:=h
 split
 · omega
 · simp;omega
theorem Ins.rises {S S':List Txt} {s:Txt} (h:Ins S s S') (hs:S.Pairwise (·<·)):S'.Pairwise (·<·):=by
 obtain ⟨i,hi,h1,h2,rfl⟩:=h
 by_cases e:S[i]? =some s
 · rw [if_pos e];exact hs
 · rw [if_neg e]
   have hs2:(S.take i++S.drop i).Pairwise (·<·):=by rw [List.take_append_drop];exact hs
   rw [List.pairwise_append] at hs2
   obtain ⟨a1,a2,a3⟩:=hs2
   have hgt:∀y∈S.drop i,s<y:=by
    intro y hy
    have hne:S.drop i≠[]:=fun hn=>by rw [hn] at hy;cases hy
    have hil:i<S.length:=by
     rcases Nat.lt_or_ge i S.length with h|h
     · exact h
     · exact absurd (List.drop_of_length_le h) hne
    have hx:=h2 _ (List.getElem?_eq_getElem hil)
    have hxs:s≤S[i]:=hx
    have hlt:s<S[i]:=lt_of_le_ne hxs fun e2=>e (by rw [List.getElem?_eq_getElem hil,←e2])
    rw [List.drop_eq_getElem_cons hil] at hy a2
    rcases List.mem_cons.1 hy with rfl|hy
    · exact hlt
    · exact List.lt_trans hlt ((List.pairwise_cons.1 a2).1 y hy)
   rw [List.pairwise_append]
   refine ⟨a1,List.pairwise_cons.2 ⟨hgt,a2⟩,fun x hx y hy=> ?_⟩
   rcases List.mem_cons.1 hy with rfl|hy
   · exact h1 x hx
   · exact List.lt_trans (h1 x hx) (hgt y hy)
structure Seen (ps:List (Txt×Txt)) (S:List Txt):Prop where
 rises:S.Pairwise (·<·)
 mem:∀z,z∈S↔z∈raw ps
theorem Seen.nil:Seen [] []:=⟨List.Pairwise.nil,fun z=>Iff.rfl⟩
theorem Seen.is {ps:List (Txt×Txt)} {S:List Txt} (h:Seen ps S):S=names ps:=tL h.rises (pz ps) fun z=>(h.mem z).trans (kH ps z).symm
theorem CS (ps:List (Txt×Txt)) (p:Txt×Txt):raw (ps++[p])=raw ps++(if p.2=[] then [p.1] else [p.1,p.2]):=by
 unfold raw;rw [List.flatMap_append];simp
theorem Seen.one {ps:List (Txt×Txt)} {S S':List Txt} {p:Txt×Txt} (h:Seen ps S) (hi:Ins S p.1 S') (he:p.2=[]):Seen (ps++[p]) S':=by
 refine ⟨hi.rises h.rises,fun z=> ?_⟩
 rw [hi.mem,h.mem,CS,if_pos he,List.mem_append,List.mem_singleton]
theorem Seen.two {ps:List (Txt×Txt)} {S S' S2:List Txt} {p:Txt×Txt} (h:Seen ps S) (hi:Ins S p.1 S') (hj:Ins S' p.2 S2) (he:p.2≠[]):Seen (ps++[p]) S2:=by
 refine ⟨hj.rises (hi.rises h.rises),fun z=> ?_⟩
 rw [hj.mem,hi.mem,h.mem,CS,if_neg he,List.mem_append,List.mem_cons,List.mem_singleton,or_assoc]
theorem KC:∀{a b:List Txt},a.Pairwise (·<·)→(∀z,z∈a→z∈b)→a.length≤b.length:=by
 intro a
 induction a with
 |nil=>intro b _ _;exact Nat.zero_le _
 |cons x a ih=>
  intro b ha h
  obtain ⟨h1,h2⟩:=List.pairwise_cons.1 ha
  have hx:x∈b:=h x (by simp)
  have:=ih (b:=b.erase x) h2 fun z hz=>by
   have hne:z≠x:=fun e=>by subst e;exact absurd (h1 z hz) (List.lt_irrefl _)
   exact (List.mem_erase_of_ne hne).2 (h z (by simp [hz]))
  rw [List.length_erase_of_mem hx] at this
  have hb:0<b.length:=List.length_pos_of_mem hx
  rw [List.length_cons];omega
theorem Seen.many {ps rest:List (Txt×Txt)} {S:List Txt} (h:Seen ps S):S.length≤(names (ps++rest)).length:=by
 refine KC h.rises fun z hz=>(kH _ z).2 ?_
 unfold raw;rw [List.flatMap_append,List.mem_append]
 exact .inl ((h.mem z).1 hz)
end Lab
theorem pY {h:Heap} {v:V} {n:Nat} {M:List (List Bool)} (sq:Sq n M) (t:fU h v M) {a:Nat} (ha:a<n):∃(u:V) (r:List Bool),h.bE (slB v) (slO v+a * 1)=some u∧Rows 1 h u (r.map bv)∧r.length=n∧∀b,b<n→r[b]? =some (Lab.at2 M a b):=by
 obtain ⟨r,hr,hl⟩:=sq.at ha
 obtain ⟨u,h1,h2⟩:=t.at hr
 refine ⟨u,r,h1,h2,hl,fun b hb=> ?_⟩
 obtain ⟨x,hx⟩:∃x,r[b]? =some x:=⟨r[b]'(by omega),List.getElem?_eq_getElem (by omega)⟩
 rw [hx,Lab.fT hr,hx];rfl
theorem mO {h:Heap} {u:V} {r:List Bool} {b:Nat} {x:Bool} (R:Rows 1 h u (r.map bv)) (hx:r[b]? =some x):h.bE (slB u) (slO u+b * 1)=some (.bool x):=R.iF (by rw [List.getElem?_map,hx];rfl)
def EM (o:Option Nat):Int:=match o with
 |none=> -1
 |some x=>(x:Int)
namespace Lab
def okP (n:Nat) (M:List (List Bool)) (is:Nat→Bool) (i k:Nat):Bool:=is i&&(List.range k).all fun d=> !is d||at2 M i d
theorem KD (n:Nat) (M:List (List Bool)) (is:Nat→Bool) (i k:Nat):okP n M is i (k+1)=(okP n M is i k&&(!is k||at2 M i k)):=by
 unfold okP;rw [List.range_succ,List.all_append,←Bool.and_assoc];simp
theorem find_range {p:Nat→Bool} {n i:Nat} (hi:i<n) (hp:p i=true) (hno:∀j,j<i→p j=false):(List.range n).find? p=some i:=by
 rw [show n=i+(n - i) by omega,List.range_add,List.find?_append]
 have e1:(List.range i).find? p=none:=by
  rw [List.find?_eq_none];intro x hx
  rw [hno x (List.mem_range.1 hx)];simp
 rw [e1]
 obtain ⟨m,hm⟩:∃m,n - i=m+1:=⟨n - i - 1,by omega⟩
 rw [hm,List.range_succ_eq_map]
 simp [hp]
theorem CU {n:Nat} {M:List (List Bool)} {is:Nat→Bool} {i:Nat} (hi:i<n) (h:okP n M is i n=true) (hno:∀j,j<i→okP n M is j n=false):least n (at2 M) is=some i:=find_range hi h hno
theorem Iz {n:Nat} {M:List (List Bool)} {is:Nat→Bool} (hno:∀j,j<n→okP n M is j n=false):least n (at2 M) is=none:=by
 unfold least;rw [List.find?_eq_none];intro x hx
 have:=hno x (List.mem_range.1 hx)
 unfold okP at this
 unfold lower
 rw [this];simp
end Lab
theorem kD (b:Bool):b=false∨b=true:=by cases b<;>simp
theorem no_step {p:Nat→Bool} {i:Nat} (hno:∀j,j<i→p j=false) (h:p i=false):∀j,j<i+1→p j=false:=fun j hj=>by
 by_cases e:j=i
 · subst e;exact h
 · exact hno j (by omega)
section
variable {ev:Ev} {h:Heap} {x y:A}
theorem L.slss {l m:List UInt8} (hx:ev x=L.str l) (hy:ev y=L.str m):light (.bins .lss x y) ev h= .val (.bool (decide (l<m))):=by
 show (ev x).iT (fun n a=>(ev y).iT fun m b=>_)=_
 rw [hx,hy]
 rw [←lT,←mh,←dM,←dM];rfl
theorem L.nL {v:V} {n:Nat} {M:List (List Bool)} (hx:ev x=v) (t:fU h v M) (hn:M.length=n):light (.len false x) ev h= .val (.int .i64 (n:Int)):=hn▸L.Aq hx t
end
end
end Go.Eng
