/- Part of a proof of a law: rules of an evaluator, contracts, plain laws. No condition of its own. -/
import Derived.Test.YtjobofnpmmjeoaaDoorSymA
set_option linter.unusedVariables false
set_option linter.unusedSimpArgs false
namespace Go.Eng
noncomputable section
namespace Par
structure Two (ts ts':List Tok) (m:Nat):Prop where
 le:m≤ts.length
 le':m≤ts'.length
 same:∀j,j<m→ts[j]? =ts'[j]?
 last:∀t,ts.getLast? =some t→t.kind=0
section
variable {ts ts':List Tok} {m:Nat} {α β:Type}
def Sim (ts ts':List Tok) (m i k:Nat) (r r':R α):Prop:=
 (∃x i1,r= .ok (x,ts.drop i1)∧i≤i1∧k≤i1∧i1<ts.length∧(i1<m→r'= .ok (x,ts'.drop i1)))∨
 (∃e j,r= .error (e+1,here (ts.drop j))∧i≤j∧j<ts.length∧(j<m→r'= .error (e+1,here (ts.drop j))))
theorem Sim.mono {i i1 k k1:Nat} {r r':R α} (h:Sim ts ts' m i1 k1 r r') (hi:i≤i1) (hk:k≤k1):Sim ts ts' m i k r r':=by
 rcases h with ⟨x,j,e,h1,h0,h2,h3⟩|⟨x,j,e,h1,h2,h3⟩
 · exact Or.inl ⟨x,j,e,by omega,by omega,h2,h3⟩
 · exact Or.inr ⟨x,j,e,by omega,h2,h3⟩
theorem Sim.weak {i k k1:Nat} {r r':R α} (h:Sim ts ts' m i k1 r r') (hk:k≤k1):Sim ts ts' m i k r r':=h.mono (Nat.le_refl _) hk
theorem Sim.here {i k:Nat} {r r':R α} (h:Sim ts ts' m i k r r') {j:Nat} (hj:j≤i):Sim ts ts' m i j r r':=by
 rcases h with ⟨x,j,e,h1,h0,h2,h3⟩|⟨x,j,e,h1,h2,h3⟩
 · exact Or.inl ⟨x,j,e,by omega,by omega,h2,h3⟩
 · exact Or.inr ⟨x,j,e,by omega,h2,h3⟩
theorem Sim.any {i k:Nat} {r r' r2:R α} (h:Sim ts ts' m i k r r') (hi:m≤i):Sim ts ts' m i k r r2:=by
 rcases h with ⟨x,j,e,h1,h0,h2,h3⟩|⟨x,j,e,h1,h2,h3⟩
 · exact Or.inl ⟨x,j,e,h1,h0,h2,fun h=>by omega⟩
 · exact Or.inr ⟨x,j,e,h1,h2,fun h=>by omega⟩
theorem Sim.ret {i k i1:Nat} {x x':α} (h1:i≤i1) (h0:k≤i1) (h2:i1<ts.length) (h3:i1<m→x=x'):Sim ts ts' m i k (.ok (x,ts.drop i1)) (.ok (x',ts'.drop i1)):=
 Or.inl ⟨x,i1,rfl,h1,h0,h2,fun h=>by rw [h3 h]⟩
theorem Sim.bind {i k k2:Nat} {r r':R α} {f f':α→List Tok→R β} (h:Sim ts ts' m i k r r') (K:∀x i1,i≤i1→k≤i1→i1<ts.length→Sim ts ts' m i1 k2 (f x (ts.drop i1)) (f' x (ts'.drop i1))):
  Sim ts ts' m i k2 (match (generalizing:=false) r with| .error e=> .error e| .ok (x,l)=>f x l) (match (generalizing:=false) r' with| .error e=> .error e| .ok (x,l)=>f' x l):=by
 rcases h with ⟨x,i1,rfl,h1,h0,h2,h3⟩|⟨e,j,rfl,h1,h2,h3⟩
 · by_cases hm:i1<m
   · rw [h3 hm];exact (K x i1 h1 h0 h2).mono h1 (Nat.le_refl _)
   · exact ((K x i1 h1 h0 h2).any (by omega)).mono h1 (Nat.le_refl _)
 · exact Or.inr ⟨e,j,rfl,h1,h2,fun hm=>by rw [h3 hm]⟩
theorem Sim.ite {i k:Nat} {c c':Prop} [Decidable c] [Decidable c'] {a a' b b':R α} (hc:i<m→(c↔c')) (h1:c→Sim ts ts' m i k a a') (h2:¬c→Sim ts ts' m i k b b'):Sim ts ts' m i k (if c then a else b) (if c' then a' else b'):=by
 by_cases hm:i<m
 · by_cases h:c
   · rw [if_pos h,if_pos ((hc hm).1 h)];exact h1 h
   · rw [if_neg h,if_neg fun h'=>h ((hc hm).2 h')];exact h2 h
 · by_cases h:c
   · rw [if_pos h];exact (h1 h).any (by omega)
   · rw [if_neg h];exact (h2 h).any (by omega)
theorem Two.hd (T:Two ts ts' m) {i:Nat} (h:i<m):hd (ts.drop i)=hd (ts'.drop i):=by
 have e:=T.same i h
 have h1:=T.le;have h2:=T.le'
 rw [List.getElem?_eq_getElem (by omega),List.getElem?_eq_getElem (by omega)] at e
 rw [List.drop_eq_getElem_cons (l:=ts) (i:=i) (by omega),List.drop_eq_getElem_cons (l:=ts') (i:=i) (by omega)]
 exact Option.some.inj e
theorem Two.here (T:Two ts ts' m) {i:Nat} (h:i<m):here (ts.drop i)=here (ts'.drop i):=by unfold Par.here;rw [T.hd h]
theorem Two.is (T:Two ts ts' m) {i:Nat} (h:i<m) (s:List UInt8):is s (ts.drop i)=is s (ts'.drop i):=by unfold Par.is;rw [T.hd h]
theorem Two.find (T:Two ts ts' m) {i:Nat} (h:i<m) (ops:List Opn):find ops (ts.drop i)=find ops (ts'.drop i):=by
 unfold Par.find;congr 1;funext o;rw [T.is h]
theorem Two.tail (T:Two ts ts' m) {i:Nat} (hi:i<ts.length) (hk:(Par.hd (ts.drop i)).kind≠0):i+1<ts.length:=by
 apply Classical.byContradiction
 intro hn
 have e:i+1=ts.length:=by omega
 apply hk
 rw [List.drop_eq_getElem_cons hi]
 show ts[i].kind=0
 refine T.last _ ?_
 rw [List.getLast?_eq_getElem?,show ts.length - 1=i by omega,List.getElem?_eq_getElem hi]
theorem is_kind {s:List UInt8} {l:List Tok} (h:is s l=true):(Par.hd l).kind≠0:=fun e=>by simp [Par.is,e] at h
theorem Two.jq (T:Two ts ts' m) {i:Nat} {s:List UInt8} (hi:i<ts.length) (h:Par.is s (ts.drop i)=true):i+1<ts.length:=T.tail hi (is_kind h)
theorem qi (T:Two ts ts' m) {i k e:Nat} (hi:i<ts.length):Sim ts ts' m i k (fail (e+1) (ts.drop i):R α) (fail (e+1) (ts'.drop i)):=
 Or.inr ⟨e,i,rfl,Nat.le_refl _,hi,fun h=>by unfold fail;rw [T.here h]⟩
theorem tail_drop (l:List Tok) (i:Nat):(l.drop i).tail=l.drop (i+1):=by rw [List.tail_drop]
theorem dJ (T:Two ts ts' m) {i:Nat} (s:List UInt8) (hi:i<ts.length):Sim ts ts' m i (i+1) (must s (ts.drop i)) (must s (ts'.drop i)):=by
 unfold must
 refine Sim.ite (fun h=>by rw [T.is h]) (fun h=> ?_) fun _=>qi T hi
 rw [tail_drop,tail_drop]
 exact Sim.ret (by omega) (by omega) (T.jq hi h) fun h=>T.here (by omega)
theorem OO (T:Two ts ts' m) {i:Nat} {kd:Nat} (hk:kd≠0) (hi:i<ts.length):Sim ts ts' m i (i+1) (of kd (ts.drop i)) (of kd (ts'.drop i)):=by
 unfold of
 refine Sim.ite (fun h=>by rw [T.hd h]) (fun h=> ?_) fun _=>qi T hi
 rw [tail_drop,tail_drop]
 exact Sim.ret (by omega) (by omega) (T.tail hi (by rw [h];exact hk)) fun h=>T.hd (by omega)
theorem Sim.map {i k:Nat} {r r':R α} (g:α→β) (h:Sim ts ts' m i k r r'):Sim ts ts' m i k (match (generalizing:=false) r with| .ok (t,l)=> .ok (g t,l)| .error e=> .error e) (match (generalizing:=false) r' with| .ok (t,l)=> .ok (g t,l)| .error e=> .error e):=by
 rcases h with ⟨x,i1,rfl,h1,h0,h2,h3⟩|⟨e,j,rfl,h1,h2,h3⟩
 · exact Or.inl ⟨g x,i1,rfl,h1,h0,h2,fun hm=>by rw [h3 hm]⟩
 · exact Or.inr ⟨e,j,rfl,h1,h2,fun hm=>by rw [h3 hm]⟩
def bnd (r:R α) (f:α→List Tok→R β):R β:=match r with
 | .error e=> .error e
 | .ok (x,l)=>f x l
def fnd (o:Option Opn) (a:R α) (g:Opn→R α):R α:=match o with
 |none=>a
 |some o=>g o
theorem Sim.bnd {i k k2:Nat} {r r':R α} {f f':α→List Tok→R β} (h:Sim ts ts' m i k r r') (K:∀x i1,i≤i1→k≤i1→i1<ts.length→Sim ts ts' m i1 k2 (f x (ts.drop i1)) (f' x (ts'.drop i1))):
  Sim ts ts' m i k2 (Par.bnd r f) (Par.bnd r' f'):=Sim.bind h K
theorem Sim.fnd (T:Two ts ts' m) {i k:Nat} {ops:List Opn} {a a':R α} {g g':Opn→R α} (hi:i<ts.length) (h0:Sim ts ts' m i k a a') (h1:∀o,i+1<ts.length→Sim ts ts' m i k (g o) (g' o)):
  Sim ts ts' m i k (Par.fnd (find ops (ts.drop i)) a g) (Par.fnd (find ops (ts'.drop i)) a' g'):=by
 have main:Sim ts ts' m i k (Par.fnd (find ops (ts.drop i)) a g) (Par.fnd (find ops (ts.drop i)) a' g'):=by
  cases hf:find ops (ts.drop i) with
  |none=>exact h0
  |some o=>
   have ho:is o.1 (ts.drop i)=true:=List.find?_some (p:=fun o:Opn=>is o.1 (ts.drop i)) hf
   exact h1 o (T.jq hi ho)
 by_cases hm:i<m
 · rw [←T.find hm];exact main
 · exact main.any (by omega)
theorem Sim.at_ (T:Two ts ts' m) {i j k:Nat} {F F':Nat→R α} (hj:j≤i) (h:∀a,Sim ts ts' m i k (F a) (F' a)):Sim ts ts' m i k (F (Par.here (ts.drop j))) (F' (Par.here (ts'.drop j))):=by
 by_cases hm:i<m
 · rw [←T.here (show j<m by omega)];exact h _
 · exact (h (Par.here (ts.drop j))).any (by omega)
theorem xC (l:List Tok):name l=bnd (of 1 l) fun t l=> .ok (t.text,l):=by kernel_rfl
theorem number_eq (l:List Tok):number l=bnd (of 2 l) fun t l=> .ok (Go.Eng.num t.text,l):=by kernel_rfl
theorem tX (l:List Tok):fM l=bnd (name l) fun a l=>if is [46] l=true then bnd (name l.tail) fun b l=> .ok ((a,b),l) else .ok (([],a),l):=by kernel_rfl
theorem qo (un:E) (ops:List Opn) (f d a:Nat) (l:List Tok) (ns:List Nd):eX un ops (f+1) d l a ns=fnd (find ops l) (.ok ((a,ns),l)) fun o=>bnd (un d l.tail ns) fun x l'=>eX un ops f d l' x.2.length (x.2++[⟨o.2,0,[],[],(a:Int),(x.1:Int),here l⟩]):=by kernel_rfl
theorem tY (un:E) (ops:List Opn) (d:Nat) (l:List Tok) (ns:List Nd):chain un ops d l ns=bnd (un d l ns) fun x l'=>eX un ops l'.length d l' x.1 x.2:=by kernel_rfl
theorem tZ (un:E) (d:Nat) (l:List Tok) (ns:List Nd):whole un d l ns=bnd (sum un d l ns) fun x l1=>fnd (find jB l1) (.ok (x,l1)) fun o=>bnd (sum un d l1.tail x.2) fun y l'=> .ok ((y.2.length,y.2++[⟨o.2,0,[],[],(x.1:Int),(y.1:Int),here l1⟩]),l'):=by kernel_rfl
theorem qp (un:E) (d:Nat) (l:List Tok) (ns:List Nd):fU un d l ns=fnd (find jo l)
  (if is [40] l=true then (if 40≤d then fail 12 l else bnd (whole un (d+1) l.tail ns) fun x l'=>bnd (must [41] l') fun _ l'=> .ok (x,l'))
   else if (hd l).kind=2 then bnd (number l) fun n l'=> .ok ((ns.length,ns++[⟨1,(n:Int),[],[], -1, -1,here l⟩]),l')
   else bnd (fM l) fun q l'=> .ok ((ns.length,ns++[⟨2,0,q.1,q.2, -1, -1,here l⟩]),l'))
  fun o=>if 40≤d then fail 12 l else bnd (un (d+1) l.tail ns) fun x l'=> .ok ((x.2.length,x.2++[⟨o.2,0,[],[],(x.1:Int), -1,here l⟩]),l'):=by kernel_rfl
theorem xG (d:Nat) (l:List Tok):expr d l=bnd (whole (unary l.length) d l []) fun x l=> .ok (x.2,l):=by kernel_rfl
theorem eY (T:Two ts ts' m) {i:Nat} (hi:i<ts.length):Sim ts ts' m i (i+1) (name (ts.drop i)) (name (ts'.drop i)):=by
 rw [xC,xC]
 exact Sim.bnd (OO T (by decide) hi) fun x i1 h1 h2 h3=>Sim.ret (Nat.le_refl _) h2 h3 fun _=>rfl
theorem wH (T:Two ts ts' m) {i:Nat} (hi:i<ts.length):Sim ts ts' m i (i+1) (number (ts.drop i)) (number (ts'.drop i)):=by
 rw [number_eq,number_eq]
 exact Sim.bnd (OO T (by decide) hi) fun x i1 h1 h2 h3=>Sim.ret (Nat.le_refl _) h2 h3 fun _=>rfl
theorem uZ (T:Two ts ts' m) {i:Nat} (hi:i<ts.length):Sim ts ts' m i (i+1) (fM (ts.drop i)) (fM (ts'.drop i)):=by
 rw [tX,tX]
 refine Sim.bnd (eY T hi) fun a i1 h1 h2 h3=> ?_
 refine Sim.ite (fun h=>by rw [T.is h]) (fun h=> ?_) fun _=>Sim.ret (Nat.le_refl _) h2 h3 fun _=>rfl
 rw [tail_drop,tail_drop]
 have ht:=T.jq h3 h
 refine (Sim.bnd (eY T ht) fun b i2 h4 h5 h6=> ?_).mono (Nat.le_succ _) (Nat.le_refl _)
 exact Sim.ret (Nat.le_refl _) (by omega) h6 fun _=>rfl
def uf (ts ts':List Tok) (m:Nat) (un un':E) (lo:Nat):Prop:=∀i d ns,lo≤i→i<ts.length→Sim ts ts' m i (i+1) (un d (ts.drop i) ns) (un' d (ts'.drop i) ns)
theorem DN (T:Two ts ts' m) {un un':E} {ops:List Opn} {lo d f f':Nat} (U:uf ts ts' m un un' lo) (i a:Nat) (ns:List Nd) (IH:∀(j b:Nat) (ns:List Nd),i<j→j<ts.length→Sim ts ts' m j j (eX un ops f d (ts.drop j) b ns) (eX un' ops f' d (ts'.drop j) b ns)) (hl:lo≤i) (hi:i<ts.length):
  Sim ts ts' m i i (eX un ops (f+1) d (ts.drop i) a ns) (eX un' ops (f'+1) d (ts'.drop i) a ns):=by
 rw [qo,qo]
 refine Sim.fnd T hi (Sim.ret (Nat.le_refl _) (Nat.le_refl _) hi fun _=>rfl) fun o ht=> ?_
 rw [tail_drop,tail_drop]
 refine (Sim.bnd (U (i+1) d ns (by omega) ht) fun x i2 h1 h2 h3=> ?_).mono (Nat.le_succ _) (Nat.le_refl _)
 exact Sim.at_ T (k:=i) (j:=i) (F:=fun p=>eX un ops f d (ts.drop i2) x.2.length (x.2++[⟨o.2,0,[],[],(a:Int),(x.1:Int),p⟩])) (F':=fun p=>eX un' ops f' d (ts'.drop i2) x.2.length (x.2++[⟨o.2,0,[],[],(a:Int),(x.1:Int),p⟩])) (by omega) fun p=>(IH i2 _ _ (by omega) h3).here (by omega)
theorem wJ (T:Two ts ts' m) {un un':E} {ops:List Opn} {lo d:Nat} (U:uf ts ts' m un un' lo):∀(f f' i a:Nat) (ns:List Nd),lo≤i→i<ts.length→ts.length - i≤f→ts'.length - i≤f'→
  Sim ts ts' m i i (eX un ops f d (ts.drop i) a ns) (eX un' ops f' d (ts'.drop i) a ns)
 |0,_,i,a,ns,_,hi,hf,_=>by omega
 |f+1,0,i,a,ns,hl,hi,hf,hf'=>
  Sim.any (r':=eX un' ops (ts'.length+1) d (ts'.drop i) a ns) (DN T U i a ns (fun j b ns hj hj2=>wJ T U f ts'.length j b ns (by omega) hj2 (by omega) (by omega)) hl hi) (by have:=T.le';omega)
 |f+1,f'+1,i,a,ns,hl,hi,hf,hf'=>DN T U i a ns (fun j b ns hj hj2=>wJ T U f f' j b ns (by omega) hj2 (by omega) (by omega)) hl hi
theorem DR (T:Two ts ts' m) {un un':E} {ops:List Opn} {lo:Nat} (U:uf ts ts' m un un' lo):uf ts ts' m (chain un ops) (chain un' ops) lo:=by
 intro i d ns hl hi
 rw [tY,tY]
 refine Sim.bnd (U i d ns hl hi) fun x i1 h1 h2 h3=> ?_
 refine (wJ T U _ _ i1 x.1 x.2 (by omega) h3 ?_ ?_).weak h2<;>rw [List.length_drop]<;>exact Nat.le_refl _
theorem KM (T:Two ts ts' m) {un un':E} {lo:Nat} (U:uf ts ts' m un un' lo):uf ts ts' m (sum un) (sum un') lo:=DR T (DR T U)
theorem DT (T:Two ts ts' m) {un un':E} {lo:Nat} (U:uf ts ts' m un un' lo):uf ts ts' m (whole un) (whole un') lo:=by
 intro i d ns hl hi
 rw [tZ,tZ]
 refine Sim.bnd (KM T U i d ns hl hi) fun x i1 h1 h2 h3=> ?_
 refine Sim.fnd T h3 (Sim.ret (Nat.le_refl _) h2 h3 fun _=>rfl) fun o ht=> ?_
 rw [tail_drop,tail_drop]
 refine (Sim.bnd (KM T U (i1+1) d x.2 (by omega) ht) fun y i2 h4 h5 h6=> ?_).mono (Nat.le_succ _) (Nat.le_refl _)
 exact Sim.ret (Nat.le_refl _) (by omega) h6 fun hm=>by rw [T.here (show i1<m by omega)]
theorem BN (T:Two ts ts' m) {un un':E} {lo:Nat} (U:uf ts ts' m un un' (lo+1)):uf ts ts' m (fU un) (fU un') lo:=by
 intro i d ns hl hi
 rw [qp,qp]
 refine Sim.fnd T hi ?_ fun o ht=> ?_
 · refine Sim.ite (fun h=>by rw [T.is h]) (fun h=> ?_) fun _=> ?_
   · refine Sim.ite (fun _=>Iff.rfl) (fun _=>qi T hi) fun _=> ?_
     rw [tail_drop,tail_drop]
     refine (Sim.bnd (DT T U (i+1) (d+1) ns (by omega) (T.jq hi h)) fun x i1 h1 h2 h3=> ?_).mono (Nat.le_succ _) (Nat.le_refl _)
     refine Sim.bnd (dJ T _ h3) fun _ i2 h4 h5 h6=> ?_
     exact Sim.ret (Nat.le_refl _) (by omega) h6 fun _=>rfl
   · refine Sim.ite (fun h=>by rw [T.hd h]) (fun h=> ?_) fun _=> ?_
     · refine Sim.bnd (wH T hi) fun n i1 h1 h2 h3=> ?_
       exact Sim.ret (Nat.le_refl _) h2 h3 fun hm=>by rw [T.here (show i<m by omega)]
     · refine Sim.bnd (uZ T hi) fun n i1 h1 h2 h3=> ?_
       exact Sim.ret (Nat.le_refl _) h2 h3 fun hm=>by rw [T.here (show i<m by omega)]
 · refine Sim.ite (fun _=>Iff.rfl) (fun _=>qi T hi) fun _=> ?_
   rw [tail_drop,tail_drop]
   refine (Sim.bnd (U (i+1) (d+1) ns (by omega) ht) fun x i1 h1 h2 h3=> ?_).mono (Nat.le_succ _) (Nat.le_refl _)
   exact Sim.ret (Nat.le_refl _) (by omega) h3 fun hm=>by rw [T.here (show i<m by omega)]
theorem yO (T:Two ts ts' m):∀(f f' lo:Nat),ts.length - lo≤f→ts'.length - lo≤f'→uf ts ts' m (unary f) (unary f') lo
 |0,_,lo,hf,_=>fun i d ns hl hi=>by omega
 |f+1,0,lo,hf,hf'=>fun i d ns hl hi=>Sim.any (BN T (yO T f ts'.length (lo+1) (by omega) (by omega)) i d ns hl hi) (by have:=T.le';omega)
 |f+1,f'+1,lo,hf,hf'=>BN T (yO T f f' (lo+1) (by omega) (by omega))
theorem oC (T:Two ts ts' m) {i d:Nat} (hi:i<ts.length):Sim ts ts' m i (i+1) (expr d (ts.drop i)) (expr d (ts'.drop i)):=by
 rw [xG,xG]
 refine Sim.bnd (DT T (yO T _ _ i (by rw [List.length_drop];exact Nat.le_refl _) (by rw [List.length_drop];exact Nat.le_refl _)) i d [] (Nat.le_refl _) hi) fun x i1 h1 h2 h3=> ?_
 exact Sim.ret (Nat.le_refl _) h2 h3 fun _=>rfl
end
end Par
end
end Go.Eng
namespace Go.Eng
noncomputable section
namespace Par
section
variable {ts ts':List Tok} {m:Nat} {α β:Type}
theorem BO (T:Two ts ts' m) {σ:Type} {g g':Nat→List Tok→σ→R β} {lo:Nat}
  (step:∀f f' i s,lo≤i→i<ts.length→(∀j s,i<j→j<ts.length→Sim ts ts' m j j (g f (ts.drop j) s) (g' f' (ts'.drop j) s))→Sim ts ts' m i i (g (f+1) (ts.drop i) s) (g' (f'+1) (ts'.drop i) s)):
  ∀(f f' i:Nat) (s:σ),lo≤i→i<ts.length→ts.length - i≤f→ts'.length - i≤f'→Sim ts ts' m i i (g f (ts.drop i) s) (g' f' (ts'.drop i) s)
 |0,_,i,s,_,hi,hf,_=>by omega
 |f+1,0,i,s,hl,hi,hf,hf'=>Sim.any (step f ts'.length i s hl hi fun j s hj hj2=>BO T step f ts'.length j s (by omega) hj2 (by omega) (by omega)) (by have:=T.le';omega)
 |f+1,f'+1,i,s,hl,hi,hf,hf'=>step f f' i s hl hi fun j s hj hj2=>BO T step f f' j s (by omega) hj2 (by omega) (by omega)
theorem xH (T:Two ts ts' m) {σ:Type} {g g':Nat→List Tok→σ→R β} {lo:Nat}
  (step:∀f f' i s,lo≤i→i<ts.length→(∀j s,i<j→j<ts.length→Sim ts ts' m j j (g f (ts.drop j) s) (g' f' (ts'.drop j) s))→Sim ts ts' m i i (g (f+1) (ts.drop i) s) (g' (f'+1) (ts'.drop i) s))
  {i:Nat} (s:σ) (hl:lo≤i) (hi:i<ts.length):Sim ts ts' m i i (g (ts.drop i).length (ts.drop i) s) (g' (ts'.drop i).length (ts'.drop i) s):=
 BO T step _ _ i s hl hi (by rw [List.length_drop];exact Nat.le_refl _) (by rw [List.length_drop];exact Nat.le_refl _)
theorem BP (s:Sm) (l:List Tok):fin s l=bnd (must [59] l) fun _ l'=> .ok (s,l'):=by kernel_rfl
theorem u6 (T:Two ts ts' m) {i:Nat} (s:Sm) (hi:i<ts.length):Sim ts ts' m i (i+1) (fin s (ts.drop i)) (fin s (ts'.drop i)):=by
 rw [BP,BP]
 exact Sim.bnd (dJ T _ hi) fun _ i1 h1 h2 h3=>Sim.ret (Nat.le_refl _) h2 h3 fun _=>rfl
theorem qw (d f:Nat) (l:List Tok):fO d (f+1) l []=if is [41] l=true then .ok ([],l.tail) else bnd (expr d l) fun e l'=>fO d f l' [e]:=by kernel_rfl
theorem oD (d f:Nat) (l:List Tok) (a:List Nd) (as:List (List Nd)):fO d (f+1) l (a::as)=if is [41] l=true then .ok (a::as,l.tail) else bnd (must [44] l) fun _ l1=>bnd (expr d l1) fun e l'=>fO d f l' ((a::as)++[e]):=by kernel_rfl
theorem u7 (T:Two ts ts' m) {i:Nat} {s:List UInt8} {x:α} (hi:i<ts.length) (h:is s (ts.drop i)=true):Sim ts ts' m i i (.ok (x,(ts.drop i).tail)) (.ok (x,(ts'.drop i).tail)):=by
 rw [tail_drop,tail_drop]
 exact Sim.ret (Nat.le_succ _) (Nat.le_succ _) (T.jq hi h) fun _=>rfl
theorem Ms (T:Two ts ts' m) {i d:Nat} (as:List (List Nd)) (hi:i<ts.length):Sim ts ts' m i i (fO d (ts.drop i).length (ts.drop i) as) (fO d (ts'.drop i).length (ts'.drop i) as):=by
 refine xH T (lo:=0) (g:=fO d) (g':=fO d) (fun f f' i as _ hi IH=> ?_) as (Nat.zero_le _) hi
 cases as with
 |nil=>
  rw [qw,qw]
  refine Sim.ite (fun h=>by rw [T.is h]) (fun h=>u7 T hi h) fun _=> ?_
  exact Sim.bnd (oC T hi) fun e i1 h1 h2 h3=>(IH i1 _ (by omega) h3).here (by omega)
 |cons a as=>
  rw [oD,oD]
  refine Sim.ite (fun h=>by rw [T.is h]) (fun h=>u7 T hi h) fun _=> ?_
  refine Sim.bnd (dJ T _ hi) fun _ i1 h1 h2 h3=> ?_
  exact Sim.bnd (oC T h3) fun e i2 h4 h5 h6=>(IH i2 _ (by omega) h6).here (by omega)
theorem ug (d:Nat) (c:Cl) (l:List Tok):iY d c l=bnd (must [40] l) fun _ l1=>bnd (fO d l1.length l1 []) fun as l2=> .ok ({c with args:=as},l2):=by kernel_rfl
theorem DU (T:Two ts ts' m) {i d:Nat} (c:Cl) (hi:i<ts.length):Sim ts ts' m i (i+1) (iY d c (ts.drop i)) (iY d c (ts'.drop i)):=by
 rw [ug,ug]
 refine Sim.bnd (dJ T _ hi) fun _ i1 h1 h2 h3=> ?_
 exact Sim.bnd (Ms T [] h3) fun as i2 h4 h5 h6=>Sim.ret (Nat.le_refl _) (by omega) h6 fun _=>rfl
theorem xI (d:Nat) (l:List Tok):call d l=bnd (fM l) fun q l1=>if is [61] l1=true then bnd (fM l1.tail) fun r l2=>iY d ⟨true,q.1,q.2,r.1,r.2,[]⟩ l2 else iY d ⟨false,[],[],q.1,q.2,[]⟩ l1:=by kernel_rfl
theorem OP (T:Two ts ts' m) {i d:Nat} (hi:i<ts.length):Sim ts ts' m i (i+1) (call d (ts.drop i)) (call d (ts'.drop i)):=by
 rw [xI,xI]
 refine Sim.bnd (uZ T hi) fun q i1 h1 h2 h3=> ?_
 refine Sim.ite (fun h=>by rw [T.is h]) (fun h=> ?_) fun _=>(DU T _ h3).weak (by omega)
 rw [tail_drop,tail_drop]
 refine (Sim.bnd (uZ T (T.jq h3 h)) fun r i2 h4 h5 h6=> ?_).mono (Nat.le_succ _) (Nat.le_refl _)
 exact (DU T _ h6).weak (by omega)
def KN (ts ts':List Tok) (m:Nat) (blk blk':Bk) (lo:Nat):Prop:=∀i d,lo≤i→i<ts.length→Sim ts ts' m i (i+1) (blk d (ts.drop i)) (blk' d (ts'.drop i))
def KO (ts ts':List Tok) (m:Nat) (stm stm':Nat→List Tok→R Sm) (lo:Nat):Prop:=∀i d,lo≤i→i<ts.length→Sim ts ts' m i (i+1) (stm d (ts.drop i)) (stm' d (ts'.drop i))
theorem xJ (blk:Bk) (d a:Nat) (l:List Tok):iF blk d a l=bnd (expr d l) fun e l1=>bnd (blk d l1) fun b l2=>if is [101,108,115,101] l2=true then bnd (blk d l2.tail) fun el l3=> .ok (.mk 5 a [] [] [] false [] [] e [] b el,l3) else .ok (.mk 5 a [] [] [] false [] [] e [] b [],l2):=by kernel_rfl
theorem OQ (T:Two ts ts' m) {blk blk':Bk} {lo i d:Nat} (a:Nat) (K:KN ts ts' m blk blk' lo) (hl:lo≤i) (hi:i<ts.length):Sim ts ts' m i (i+1) (iF blk d a (ts.drop i)) (iF blk' d a (ts'.drop i)):=by
 rw [xJ,xJ]
 refine Sim.bnd (oC T hi) fun e i1 h1 h2 h3=> ?_
 refine Sim.bnd (K i1 d (by omega) h3) fun b i2 h4 h5 h6=> ?_
 refine Sim.ite (fun h=>by rw [T.is h]) (fun h=> ?_) fun _=>Sim.ret (Nat.le_refl _) (by omega) h6 fun _=>rfl
 rw [tail_drop,tail_drop]
 refine (Sim.bnd (K (i2+1) d (by omega) (T.jq h6 h)) fun el i3 h7 h8 h9=> ?_).mono (Nat.le_succ _) (Nat.le_refl _)
 exact Sim.ret (Nat.le_refl _) (by omega) h9 fun _=>rfl
theorem oF (blk:Bk) (d a:Nat) (l:List Tok):bP blk d a l=bnd (expr d l) fun e l1=>bnd (blk d l1) fun b l2=> .ok (.mk 6 a [] [] [] false [] [] e [] b [],l2):=by kernel_rfl
theorem GQ (T:Two ts ts' m) {blk blk':Bk} {lo i d:Nat} (a:Nat) (K:KN ts ts' m blk blk' lo) (hl:lo≤i) (hi:i<ts.length):Sim ts ts' m i (i+1) (bP blk d a (ts.drop i)) (bP blk' d a (ts'.drop i)):=by
 rw [oF,oF]
 refine Sim.bnd (oC T hi) fun e i1 h1 h2 h3=> ?_
 refine Sim.bnd (K i1 d (by omega) h3) fun b i2 h4 h5 h6=> ?_
 exact Sim.ret (Nat.le_refl _) (by omega) h6 fun _=>rfl
theorem uj (d a:Nat) (l:List Tok):fo d a l=bnd (name l) fun n l1=>bnd (must [58] l1) fun _ l2=>bnd (name l2) fun lb l3=>bnd (must [61] l3) fun _ l4=>bnd (expr d l4) fun e l5=>fin (.mk 1 a [] n lb false [] [] e [] [] []) l5:=by kernel_rfl
theorem Mt (T:Two ts ts' m) {i d:Nat} (a:Nat) (hi:i<ts.length):Sim ts ts' m i (i+1) (fo d a (ts.drop i)) (fo d a (ts'.drop i)):=by
 rw [uj,uj]
 refine Sim.bnd (eY T hi) fun n i1 h1 h2 h3=> ?_
 refine Sim.bnd (dJ T _ h3) fun _ i2 h4 h5 h6=> ?_
 refine Sim.bnd (eY T h6) fun lb i3 g1 g2 g3=> ?_
 refine Sim.bnd (dJ T _ g3) fun _ i4 g4 g5 g6=> ?_
 refine Sim.bnd (oC T g6) fun e i5 k1 k2 k3=> ?_
 exact (u6 T _ k3).weak (by omega)
theorem mZ (d a:Nat) (l:List Tok):aZ d a l=bnd (must [61] l) fun _ l1=>bnd (expr d l1) fun e l2=>fin (.mk 3 a [] [] [] false [] [] e [] [] []) l2:=by kernel_rfl
theorem Fj (T:Two ts ts' m) {i d:Nat} (a:Nat) (hi:i<ts.length):Sim ts ts' m i (i+1) (aZ d a (ts.drop i)) (aZ d a (ts'.drop i)):=by
 rw [mZ,mZ]
 refine Sim.bnd (dJ T _ hi) fun _ i1 h1 h2 h3=> ?_
 refine Sim.bnd (oC T h3) fun e i2 h4 h5 h6=> ?_
 exact (u6 T _ h6).weak (by omega)
theorem qx (d a:Nat) (l:List Tok):dG d a l=bnd (call d l) fun c l1=>fin (.mk 4 a c.mod c.name [] c.has c.tomod c.to [] c.args [] []) l1:=by kernel_rfl
theorem Jv (T:Two ts ts' m) {i d:Nat} (a:Nat) (hi:i<ts.length):Sim ts ts' m i (i+1) (dG d a (ts.drop i)) (dG d a (ts'.drop i)):=by
 rw [qx,qx]
 refine Sim.bnd (OP T hi) fun c i1 h1 h2 h3=> ?_
 exact (u6 T _ h3).weak (by omega)
theorem qy (a:Nat) (l:List Tok):dH a l=bnd (name l) fun n l1=>fin (.mk 7 a [] n [] false [] [] [] [] [] []) l1:=by kernel_rfl
theorem Jw (T:Two ts ts' m) {i:Nat} (a:Nat) (hi:i<ts.length):Sim ts ts' m i (i+1) (dH a (ts.drop i)) (dH a (ts'.drop i)):=by
 rw [qy,qy]
 refine Sim.bnd (eY T hi) fun c i1 h1 h2 h3=> ?_
 exact (u6 T _ h3).weak (by omega)
theorem Jy (T:Two ts ts' m) {i:Nat} (a:Nat) (hi:i<ts.length):Sim ts ts' m i (i+1) (dL a (ts.drop i)) (dL a (ts'.drop i)):=u6 T _ hi
theorem uq (d a:Nat) (l:List Tok):fC d a l=bnd (fM l) fun q l1=>bnd (must [61] l1) fun _ l2=>bnd (expr d l2) fun e l3=>fin (.mk 2 a q.1 q.2 [] false [] [] e [] [] []) l3:=by kernel_rfl
theorem Mv (T:Two ts ts' m) {i d:Nat} (a:Nat) (hi:i<ts.length):Sim ts ts' m i (i+1) (fC d a (ts.drop i)) (fC d a (ts'.drop i)):=by
 rw [uq,uq]
 refine Sim.bnd (uZ T hi) fun q i1 h1 h2 h3=> ?_
 refine Sim.bnd (dJ T _ h3) fun _ i2 h4 h5 h6=> ?_
 refine Sim.bnd (oC T h6) fun e i3 g1 g2 g3=> ?_
 exact (u6 T _ g3).weak (by omega)
theorem DV (T:Two ts ts' m) {blk blk':Bk} {lo:Nat} (K:KN ts ts' m blk blk' (lo+1)):KO ts ts' m (cO blk) (cO blk') lo:=by
 intro i d hl hi
 unfold cO
 have up:∀{s:List UInt8},is s (ts.drop i)=true→i+1<ts.length:=fun h=>T.jq hi h
 refine Sim.ite (fun h=>by rw [T.is h]) (fun h=> ?_) fun _=> ?_
 · exact Sim.at_ T (j:=i) (F:=fun a=>iF blk d a (ts.drop i).tail) (F':=fun a=>iF blk' d a (ts'.drop i).tail) (Nat.le_refl _) fun a=>by
    rw [tail_drop,tail_drop];exact (OQ T a K (by omega) (up h)).mono (Nat.le_succ _) (Nat.le_succ _)
 refine Sim.ite (fun h=>by rw [T.is h]) (fun h=> ?_) fun _=> ?_
 · exact Sim.at_ T (j:=i) (F:=fun a=>bP blk d a (ts.drop i).tail) (F':=fun a=>bP blk' d a (ts'.drop i).tail) (Nat.le_refl _) fun a=>by
    rw [tail_drop,tail_drop];exact (GQ T a K (by omega) (up h)).mono (Nat.le_succ _) (Nat.le_succ _)
 refine Sim.ite (fun h=>by rw [T.is h]) (fun h=> ?_) fun _=> ?_
 · exact Sim.at_ T (j:=i) (F:=fun a=>fo d a (ts.drop i).tail) (F':=fun a=>fo d a (ts'.drop i).tail) (Nat.le_refl _) fun a=>by
    rw [tail_drop,tail_drop];exact (Mt T a (up h)).mono (Nat.le_succ _) (Nat.le_succ _)
 refine Sim.ite (fun h=>by rw [T.is h]) (fun h=> ?_) fun _=> ?_
 · exact Sim.at_ T (j:=i) (F:=fun a=>aZ d a (ts.drop i).tail) (F':=fun a=>aZ d a (ts'.drop i).tail) (Nat.le_refl _) fun a=>by
    rw [tail_drop,tail_drop];exact (Fj T a (up h)).mono (Nat.le_succ _) (Nat.le_succ _)
 refine Sim.ite (fun h=>by rw [T.is h]) (fun h=> ?_) fun _=> ?_
 · exact Sim.at_ T (j:=i) (F:=fun a=>dG d a (ts.drop i).tail) (F':=fun a=>dG d a (ts'.drop i).tail) (Nat.le_refl _) fun a=>by
    rw [tail_drop,tail_drop];exact (Jv T a (up h)).mono (Nat.le_succ _) (Nat.le_succ _)
 refine Sim.ite (fun h=>by rw [T.is h]) (fun h=> ?_) fun _=> ?_
 · exact Sim.at_ T (j:=i) (F:=fun a=>dH a (ts.drop i).tail) (F':=fun a=>dH a (ts'.drop i).tail) (Nat.le_refl _) fun a=>by
    rw [tail_drop,tail_drop];exact (Jw T a (up h)).mono (Nat.le_succ _) (Nat.le_succ _)
 refine Sim.ite (fun h=>by rw [T.is h]) (fun h=> ?_) fun _=> ?_
 · exact Sim.at_ T (j:=i) (F:=fun a=>dL a (ts.drop i).tail) (F':=fun a=>dL a (ts'.drop i).tail) (Nat.le_refl _) fun a=>by
    rw [tail_drop,tail_drop];exact (Jy T a (up h)).mono (Nat.le_succ _) (Nat.le_succ _)
 exact Sim.at_ T (j:=i) (F:=fun a=>fC d a (ts.drop i)) (F':=fun a=>fC d a (ts'.drop i)) (Nat.le_refl _) fun a=>Mv T a hi
theorem mh (stm:Nat→List Tok→R Sm) (d f:Nat) (l:List Tok) (ss:List Sm):gF stm d (f+1) l ss=if is [125] l=true then .ok (ss,l.tail) else bnd (stm d l) fun s l'=>gF stm d f l' (ss++[s]):=by kernel_rfl
theorem wK (T:Two ts ts' m) {stm stm':Nat→List Tok→R Sm} {lo:Nat} (K:KO ts ts' m stm stm' (lo+1)):KN ts ts' m (jQ stm) (jQ stm') lo:=by
 intro i d hl hi
 unfold jQ
 refine Sim.ite (fun h=>by rw [T.is h]) (fun h=> ?_) fun _=>qi T hi
 refine Sim.ite (fun _=>Iff.rfl) (fun _=>qi T hi) fun _=> ?_
 rw [tail_drop,tail_drop]
 refine (xH T (lo:=lo+1) (g:=gF stm (d+1)) (g':=gF stm' (d+1)) (fun f f' i ss hl hi IH=> ?_) [] (by omega) (T.jq hi h)).mono (Nat.le_succ _) (Nat.le_refl _)
 rw [mh,mh]
 refine Sim.ite (fun h=>by rw [T.is h]) (fun h=>u7 T hi h) fun _=> ?_
 exact Sim.bnd (K i (d+1) hl hi) fun s i1 h1 h2 h3=>(IH i1 _ (by omega) h3).here (by omega)
theorem xK (T:Two ts ts' m):∀(f f' lo:Nat),ts.length - lo≤f→ts'.length - lo≤f'→KO ts ts' m (stmt f) (stmt f') lo
 |0,_,lo,hf,_=>fun i d hl hi=>by omega
 |f+1,0,lo,hf,hf'=>fun i d hl hi=>Sim.any (DV T (wK T fun i d hl hi=>xK T f ts'.length (lo+1) (by omega) (by omega) i d (by omega) hi) i d hl hi) (by have:=T.le';omega)
 |f+1,f'+1,lo,hf,hf'=>DV T (wK T fun i d hl hi=>xK T f f' (lo+1) (by omega) (by omega) i d (by omega) hi)
theorem Mw (T:Two ts ts' m) {i d:Nat} (hi:i<ts.length):Sim ts ts' m i (i+1) (block d (ts.drop i)) (block d (ts'.drop i)):=by
 unfold block
 refine wK T (lo:=i) (fun j d hl hj=> ?_) i d (Nat.le_refl _) hi
 exact xK T _ _ j (by rw [List.length_drop];omega) (by rw [List.length_drop];omega) j d (Nat.le_refl _) hj
theorem ng {x:α} (one:α→List Tok→R α) (e:List UInt8) (f n:Nat) (l:List Tok):bU one e (f+1) n l x=if is e l=true then .ok (x,l.tail) else if n=0 then bnd (one x l) fun y l'=>bU one e f 1 l' y else bnd (must [44] l) fun _ l1=>bnd (one x l1) fun y l'=>bU one e f (n+1) l' y:=by kernel_rfl
theorem o9 (T:Two ts ts' m) {one:α→List Tok→R α} {e:List UInt8} (K:∀x i,i<ts.length→Sim ts ts' m i (i+1) (one x (ts.drop i)) (one x (ts'.drop i))) {i:Nat} (x:α) (hi:i<ts.length):Sim ts ts' m i i (several one e (ts.drop i) x) (several one e (ts'.drop i) x):=by
 unfold several
 refine xH T (lo:=0) (g:=fun f l (s:Nat×α)=>bU one e f s.1 l s.2) (g':=fun f l (s:Nat×α)=>bU one e f s.1 l s.2) (fun f f' i s _ hi IH=> ?_) (0,x) (Nat.zero_le _) hi
 obtain ⟨n,x⟩:=s
 simp only
 rw [ng,ng]
 refine Sim.ite (fun h=>by rw [T.is h]) (fun h=>u7 T hi h) fun _=> ?_
 refine Sim.ite (fun _=>Iff.rfl) (fun _=> ?_) fun _=> ?_
 · exact Sim.bnd (K x i hi) fun y i1 h1 h2 h3=>(IH i1 (1,y) (by omega) h3).here (by omega)
 · refine Sim.bnd (dJ T _ hi) fun _ i1 h1 h2 h3=> ?_
   exact Sim.bnd (K x i1 h3) fun y i2 h4 h5 h6=>(IH i2 (n+1,y) (by omega) h6).here (by omega)
theorem xL (x:List Pm) (l:List Tok):pO x l=bnd (name l) fun n l1=>bnd (must [58] l1) fun _ l2=>bnd (name l2) fun b l3=> .ok (x++[⟨n,b,here l⟩],l3):=by kernel_rfl
theorem GR (T:Two ts ts' m) (x:List Pm) (i:Nat) (hi:i<ts.length):Sim ts ts' m i (i+1) (pO x (ts.drop i)) (pO x (ts'.drop i)):=by
 rw [xL,xL]
 refine Sim.bnd (eY T hi) fun n i1 h1 h2 h3=> ?_
 refine Sim.bnd (dJ T _ h3) fun _ i2 h4 h5 h6=> ?_
 refine Sim.bnd (eY T h6) fun b i3 g1 g2 g3=> ?_
 exact Sim.ret (Nat.le_refl _) (by omega) g3 fun hm=>by rw [T.here (show i<m by omega)]
theorem BQ (x:List (List UInt8)) (l:List Tok):use x l=bnd (name l) fun n l1=> .ok (x++[n],l1):=by kernel_rfl
theorem KP (T:Two ts ts' m) (x:List (List UInt8)) (i:Nat) (hi:i<ts.length):Sim ts ts' m i (i+1) (use x (ts.drop i)) (use x (ts'.drop i)):=by
 rw [BQ,BQ]
 exact Sim.bnd (eY T hi) fun n i1 h1 h2 h3=>Sim.ret (Nat.le_refl _) h2 h3 fun _=>rfl
theorem oH (d:Nat) (q:Pr) (l:List Tok):dW d q l=bnd (must [112,99] l) fun _ l1=>bnd (name l1) fun pc l2=>bnd (must [117,115,101,115] l2) fun _ l3=>bnd (must [123] l3) fun _ l4=>bnd (several use [125] l4 []) fun us l5=>bnd (block d l5) fun b l6=> .ok ({q with pc:=pc,uses:=us,body:=b},l6):=by kernel_rfl
theorem DW (T:Two ts ts' m) {i d:Nat} (q:Pr) (hi:i<ts.length):Sim ts ts' m i (i+1) (dW d q (ts.drop i)) (dW d q (ts'.drop i)):=by
 rw [oH,oH]
 refine Sim.bnd (dJ T _ hi) fun _ i1 h1 h2 h3=> ?_
 refine Sim.bnd (eY T h3) fun pc i2 h4 h5 h6=> ?_
 refine Sim.bnd (dJ T _ h6) fun _ i3 g1 g2 g3=> ?_
 refine Sim.bnd (dJ T _ g3) fun _ i4 g4 g5 g6=> ?_
 refine Sim.bnd (o9 T (KP T) [] g6) fun us i5 k1 k2 k3=> ?_
 refine Sim.bnd (Mw T k3) fun b i6 k4 k5 k6=> ?_
 exact Sim.ret (Nat.le_refl _) (by omega) k6 fun _=>rfl
theorem qV (d:Nat) (l:List Tok):proc d l=bnd (name l) fun n l1=>bnd (must [40] l1) fun _ l2=>bnd (several pO [41] l2 []) fun ps l3=>if is [45,62] l3=true then bnd (name l3.tail) fun r l4=>dW d ⟨n,ps,true,r,[],[],[],here l⟩ l4 else dW d ⟨n,ps,false,[],[],[],[],here l⟩ l3:=by kernel_rfl
theorem OT (T:Two ts ts' m) {i d:Nat} (hi:i<ts.length):Sim ts ts' m i (i+1) (proc d (ts.drop i)) (proc d (ts'.drop i)):=by
 rw [qV,qV]
 refine Sim.bnd (eY T hi) fun n i1 h1 h2 h3=> ?_
 refine Sim.bnd (dJ T _ h3) fun _ i2 h4 h5 h6=> ?_
 refine Sim.bnd (o9 T (GR T) [] h6) fun ps i3 g1 g2 g3=> ?_
 refine Sim.ite (fun h=>by rw [T.is h]) (fun h=> ?_) fun _=> ?_
 · rw [tail_drop,tail_drop]
   refine (Sim.bnd (eY T (T.jq g3 h)) fun r i4 g4 g5 g6=> ?_).mono (Nat.le_succ _) (Nat.le_refl _)
   exact Sim.at_ T (k:=i+1) (j:=i) (F:=fun a=>dW d ⟨n,ps,true,r,[],[],[],a⟩ (ts.drop i4)) (F':=fun a=>dW d ⟨n,ps,true,r,[],[],[],a⟩ (ts'.drop i4)) (by omega) fun a=>(DW T _ g6).weak (by omega)
 · exact Sim.at_ T (k:=i+1) (j:=i) (F:=fun a=>dW d ⟨n,ps,false,[],[],[],[],a⟩ (ts.drop i3)) (F':=fun a=>dW d ⟨n,ps,false,[],[],[],[],a⟩ (ts'.drop i3)) (by omega) fun a=>(DW T _ g3).weak (by omega)
theorem qX (n lb:List UInt8) (at_:Nat) (neg:Bool) (l:List Tok):iG n lb at_ neg l=bnd (number l) fun k l1=>bnd (must [59] l1) fun _ l2=> .ok (⟨n,lb,if neg then -(k:Int) else (k:Int),at_⟩,l2):=by kernel_rfl
theorem GU (T:Two ts ts' m) {i:Nat} {n lb:List UInt8} {neg:Bool} (a:Nat) (hi:i<ts.length):Sim ts ts' m i (i+1) (iG n lb a neg (ts.drop i)) (iG n lb a neg (ts'.drop i)):=by
 rw [qX,qX]
 refine Sim.bnd (wH T hi) fun k i1 h1 h2 h3=> ?_
 exact Sim.bnd (dJ T _ h3) fun _ i2 h4 h5 h6=>Sim.ret (Nat.le_refl _) (by omega) h6 fun _=>rfl
theorem qY (l:List Tok):lH l=bnd (name l) fun n l1=>bnd (must [58] l1) fun _ l2=>bnd (name l2) fun b l3=>bnd (must [61] l3) fun _ l4=>if is [45] l4=true then iG n b (here l) true l4.tail else iG n b (here l) false l4:=by kernel_rfl
theorem OU (T:Two ts ts' m) {i:Nat} (hi:i<ts.length):Sim ts ts' m i (i+1) (lH (ts.drop i)) (lH (ts'.drop i)):=by
 rw [qY,qY]
 refine Sim.bnd (eY T hi) fun n i1 h1 h2 h3=> ?_
 refine Sim.bnd (dJ T _ h3) fun _ i2 h4 h5 h6=> ?_
 refine Sim.bnd (eY T h6) fun b i3 g1 g2 g3=> ?_
 refine Sim.bnd (dJ T _ g3) fun _ i4 g4 g5 g6=> ?_
 refine Sim.ite (fun h=>by rw [T.is h]) (fun h=> ?_) fun _=> ?_
 · rw [tail_drop,tail_drop]
   exact Sim.at_ T (k:=i+1) (j:=i) (F:=fun a=>iG n b a true (ts.drop (i4+1))) (F':=fun a=>iG n b a true (ts'.drop (i4+1))) (by omega) fun a=>(GU T a (T.jq g6 h)).mono (by omega) (by omega)
 · exact Sim.at_ T (k:=i+1) (j:=i) (F:=fun a=>iG n b a false (ts.drop i4)) (F':=fun a=>iG n b a false (ts'.drop i4)) (by omega) fun a=>(GU T a g6).weak (by omega)
theorem ni (f:Nat) (l:List Tok) (x:List Im):fq (f+1) l x=if is [105,109,112,111,114,116] l=true then bnd (name l.tail) fun n l1=>bnd (must [59] l1) fun _ l2=>fq f l2 (x++[⟨n,here l.tail⟩]) else .ok (x,l):=by kernel_rfl
theorem Mx (T:Two ts ts' m) {i:Nat} (x:List Im) (hi:i<ts.length):Sim ts ts' m i i (fq (ts.drop i).length (ts.drop i) x) (fq (ts'.drop i).length (ts'.drop i) x):=by
 refine xH T (lo:=0) (g:=fq) (g':=fq) (fun f f' i x _ hi IH=> ?_) x (Nat.zero_le _) hi
 rw [ni,ni]
 refine Sim.ite (fun h=>by rw [T.is h]) (fun h=> ?_) fun _=>Sim.ret (Nat.le_refl _) (Nat.le_refl _) hi fun _=>rfl
 rw [tail_drop,tail_drop]
 refine (Sim.bnd (eY T (T.jq hi h)) fun n i1 h1 h2 h3=> ?_).mono (Nat.le_succ _) (Nat.le_refl _)
 refine Sim.bnd (dJ T _ h3) fun _ i2 h4 h5 h6=> ?_
 exact Sim.at_ T (k:=i) (j:=i+1) (F:=fun a=>fq f (ts.drop i2) (x++[⟨n,a⟩])) (F':=fun a=>fq f' (ts'.drop i2) (x++[⟨n,a⟩])) (by omega) fun a=>(IH i2 _ (by omega) h6).here (by omega)
theorem kE (d f:Nat) (l:List Tok) (vs:List Vr) (ps:List Pr):bO d (f+1) l vs ps=if (hd l).kind=0 then .ok ((vs,ps),l) else if is [118,97,114] l=true then bnd (lH l.tail) fun v l1=>bO d f l1 (vs++[v]) ps else bnd (must [112,114,111,99] l) fun _ l1=>bnd (proc d l1) fun p l2=>bO d f l2 vs (ps++[p]):=by kernel_rfl
theorem Jz (T:Two ts ts' m) {i d:Nat} (x:List Vr×List Pr) (hi:i<ts.length):Sim ts ts' m i i (bO d (ts.drop i).length (ts.drop i) x.1 x.2) (bO d (ts'.drop i).length (ts'.drop i) x.1 x.2):=by
 refine xH T (lo:=0) (g:=fun f l (x:List Vr×List Pr)=>bO d f l x.1 x.2) (g':=fun f l (x:List Vr×List Pr)=>bO d f l x.1 x.2) (fun f f' i x _ hi IH=> ?_) x (Nat.zero_le _) hi
 obtain ⟨vs,ps⟩:=x
 simp only
 rw [kE,kE]
 refine Sim.ite (fun h=>by rw [T.hd h]) (fun _=>Sim.ret (Nat.le_refl _) (Nat.le_refl _) hi fun _=>rfl) fun _=> ?_
 refine Sim.ite (fun h=>by rw [T.is h]) (fun h=> ?_) fun _=> ?_
 · rw [tail_drop,tail_drop]
   exact (Sim.bnd (OU T (T.jq hi h)) fun v i1 h1 h2 h3=>(IH i1 (vs++[v],ps) (by omega) h3).here (by omega)).mono (Nat.le_succ _) (Nat.le_refl _)
 · refine Sim.bnd (dJ T _ hi) fun _ i1 h1 h2 h3=> ?_
   exact Sim.bnd (OT T h3) fun p i2 h4 h5 h6=>(IH i2 (vs,ps++[p]) (by omega) h6).here (by omega)
theorem nk (d:Nat) (l:List Tok):gT d l=bnd (must [109,111,100,117,108,101] l) fun _ l1=>bnd (name l1) fun n l2=>bnd (must [59] l2) fun _ l3=>bnd (fq l3.length l3 []) fun is l4=>bnd (bO d l4.length l4 [] []) fun x l5=> .ok (⟨n,here l1,is,x.1,x.2⟩,l5):=by kernel_rfl
theorem yP (T:Two ts ts' m) {d:Nat} (hi:0<ts.length):Sim ts ts' m 0 0 (gT d ts) (gT d ts'):=by
 have hh:Sim ts ts' m 0 0 (gT d (ts.drop 0)) (gT d (ts'.drop 0)):=by
  rw [nk,nk]
  refine Sim.bnd (dJ T _ hi) fun _ i1 h1 h2 h3=> ?_
  refine Sim.bnd (eY T h3) fun n i2 h4 h5 h6=> ?_
  refine Sim.bnd (dJ T _ h6) fun _ i3 g1 g2 g3=> ?_
  refine Sim.bnd (Mx T [] g3) fun is i4 g4 g5 g6=> ?_
  refine Sim.bnd (Jz T ([],[]) g6) fun x i5 k1 k2 k3=> ?_
  exact Sim.ret (Nat.le_refl _) (by omega) k3 fun hm=>by rw [T.here (show i1<m by omega)]
 exact hh
end
end Par
end
end Go.Eng
namespace Go.Eng
noncomputable section
namespace Lex
def cK:List UInt8→List UInt8
 |[]=>[]
 |c::r=>if blank c then [c] else if c.toNat=35 then (c::r).takeWhile j6 else if small c then (c::r).takeWhile within else if digit c then (c::r).takeWhile digit else sign (c::r)
def cls:List UInt8→Option (Nat×Nat)
 |[]=>none
 |c::r=>if blank c then none else if c.toNat=35 then none else if small c then some (word ((c::r).takeWhile within)) else
  if digit c then some (number ((c::r).takeWhile digit) ((c::r).drop ((c::r).takeWhile digit).length)) else some (if sign (c::r)=[] then (4,10) else (4,0))
def go (t:Option (Nat×Nat)) (w:List UInt8) (pos:Nat) (out:List Tok) (k:List Tok→Except (Nat×Nat) (List Tok)):Except (Nat×Nat) (List Tok):=match t with
 |none=>k out
 |some t=>put t w pos out k
theorem all_eq (f pos:Nat) (c:UInt8) (r:List UInt8) (out:List Tok):
  all (f+1) pos (c::r) out=go (cls (c::r)) (cK (c::r)) pos out (all f (pos+(cK (c::r)).length) ((c::r).drop (cK (c::r)).length)):=by
 simp only [all,cls,cK]
 by_cases h1:blank c=true
 · simp only [if_pos h1];rfl
 simp only [if_neg h1]
 by_cases h2:c.toNat=35
 · simp only [if_pos h2];rfl
 simp only [if_neg h2]
 by_cases h3:small c=true
 · simp only [if_pos h3];rfl
 simp only [if_neg h3]
 by_cases h4:digit c=true
 · simp only [if_pos h4];rfl
 simp only [if_neg h4];rfl
theorem yQ {f:UInt8→Bool}:∀{w r:List UInt8},(∀b∈w,f b=true)→(∀c,r.head? =some c→f c=false)→(w++r).takeWhile f=w
 |[],[],_,_=>rfl
 |[],c::r,_,h=>by rw [List.nil_append,List.takeWhile_cons,if_neg (by rw [h c rfl];decide)]
 |a::w,r,h1,h2=>by
  rw [List.cons_append,List.takeWhile_cons,if_pos (h1 a (by simp)),yQ (fun b hb=>h1 b (by simp [hb])) h2]
theorem Ag {f:UInt8→Bool}:∀(l:List UInt8) {c:UInt8},(l.drop (l.takeWhile f).length).head? =some c→f c=false
 |[],c,h=>by simp at h
 |a::l,c,h=>by
  rw [List.takeWhile_cons] at h
  by_cases ha:f a=true
  · rw [if_pos ha] at h;exact Ag l (by simpa using h)
  · rw [if_neg ha] at h;simp at h;subst h;simpa using ha
theorem BR {f:UInt8→Bool} (l:List UInt8):l.takeWhile f++l.drop (l.takeWhile f).length=l:=by
 induction l with
 |nil=>rfl
 |cons a l ih=>
  rw [List.takeWhile_cons]
  by_cases ha:f a=true
  · rw [if_pos ha];simpa using ih
  · rw [if_neg ha];rfl
theorem xM (l:List UInt8):sign l=l.take (sign l).length:=by
 unfold sign
 cases e:kD.find? (iD · l) with
 |some t=>
  have:=List.find?_some e
  simp [iD] at this;exact this.2.symm
 |none=>
  cases l with
  |nil=>rfl
  |cons c r=>simp only;split<;>simp
theorem Gu (l:List UInt8):(sign l).length≤2:=by
 unfold sign
 cases e:kD.find? (iD · l) with
 |some t=>
  have:=List.mem_of_find?_eq_some e
  simp [kD] at this
  rcases this with rfl|rfl|rfl<;>simp
 |none=>
  cases l with
  |nil=>simp
  |cons c r=>simp only;split<;>simp
theorem MB {t l l':List UInt8} (ht:t∈kD) (h:l.take 2=l'.take 2):iD t l=iD t l':=by
 have h2:t.length=2:=by simp [kD] at ht;rcases ht with rfl|rfl|rfl<;>rfl
 have hl:(2≤l.length)↔(2≤l'.length):=by
  have:=congrArg List.length h
  simp at this;omega
 simp only [iD,h2,h,hl]
theorem find_congr {α:Type} {p q:α→Bool}:∀{l:List α},(∀x∈l,p x=q x)→l.find? p=l.find? q
 |[],_=>rfl
 |a::l,h=>by rw [List.find?_cons,List.find?_cons,h a (by simp),find_congr fun x hx=>h x (by simp [hx])]
theorem BU {l l':List UInt8} (h:l.take 2=l'.take 2):sign l=sign l':=by
 unfold sign
 rw [find_congr (q:=(iD · l')) fun t ht=>MB ht h]
 have hh:l.head? =l'.head? :=by
  have:=congrArg List.head? h
  simpa [List.head?_take] using this
 cases kD.find? (iD · l') with
 |some t=>rfl
 |none=>
  cases l with
  |nil=>cases l' with
   |nil=>rfl
   |cons a l'=>cases hh
  |cons b l=>cases l' with
   |nil=>cases hh
   |cons a l'=>cases hh;rfl
structure Piece (l w r:List UInt8):Prop where
 split:l=w++r
 cut:cK l=w
theorem OV {w r r':List UInt8} (hw:w≠[]) (h:r.head? =r'.head?):(w++r).take 2=(w++r').take 2:=by
 cases w with
 |nil=>exact absurd rfl hw
 |cons a w=>
  cases w with
  |cons b w=>rfl
  |nil=>
   cases r with
   |nil=>cases r' with
    |nil=>rfl
    |cons a r'=>cases h
   |cons b r=>cases r' with
    |nil=>cases h
    |cons a r'=>cases h;simp
theorem GV {w r r':List UInt8} (h:r.head? =r'.head?):number w r=number w r':=by
 unfold number
 cases r with
 |nil=>cases r' with
  |nil=>rfl
  |cons a r'=>cases h
 |cons b r=>cases r' with
  |nil=>cases h
  |cons a r'=>cases h;rfl
theorem yR {w f:List UInt8} (h:(number w f).2=0):number w f=(2,0):=by
 unfold number at *
 by_cases h1:w.length>9
 · rw [if_pos h1] at h;cases h
 rw [if_neg h1] at h ⊢
 by_cases h2:w.head? =some 48∧w.length>1
 · rw [if_pos h2] at h;cases h
 rw [if_neg h2] at h ⊢
 cases f with
 |nil=>rfl
 |cons c f=>
  simp only at h ⊢
  by_cases h3:within c=true
  · rw [if_pos h3] at h;cases h
  · rw [if_neg h3]
def Bl (r:List UInt8):Prop:=∃b,r.head? =some b∧blank b=true
theorem Bl.four {r:List UInt8} (h:Bl r):∃m,r=32::m∨r=9::m∨r=10::m∨r=13::m:=by
 obtain ⟨b,h1,h2⟩:=h
 cases r with
 |nil=>cases h1
 |cons a m=>
  cases h1
  refine ⟨m, ?_⟩
  simp [blank] at h2
  rcases h2 with h2|h2|h2|h2
  · exact Or.inl (by rw [show b=32 from UInt8.toNat_inj.1 h2])
  · exact Or.inr (Or.inl (by rw [show b=9 from UInt8.toNat_inj.1 h2]))
  · exact Or.inr (Or.inr (Or.inl (by rw [show b=10 from UInt8.toNat_inj.1 h2])))
  · exact Or.inr (Or.inr (Or.inr (by rw [show b=13 from UInt8.toNat_inj.1 h2])))
theorem Fp {w f f':List UInt8} (h:(number w f).2=0) (hf:Bl f'):number w f'=number w f:=by
 rw [yR h]
 unfold number at *
 by_cases h1:w.length>9
 · rw [if_pos h1] at h;cases h
 rw [if_neg h1] at h ⊢
 by_cases h2:w.head? =some 48∧w.length>1
 · rw [if_pos h2] at h;cases h
 rw [if_neg h2]
 obtain ⟨m,rfl|rfl|rfl|rfl⟩:=hf.four<;>rfl
theorem JA {c:UInt8} {r r':List UInt8} (hne:sign (c::r)≠[]) (hf:Bl r'):sign (sign (c::r)++r')=sign (c::r):=by
 have hp:=xM (c::r)
 have h2:=Gu (c::r)
 have h1:=List.length_pos_iff.2 hne
 by_cases hl:(sign (c::r)).length=2
 · refine BU ?_
   rw [←hl,←hp,List.take_left'];rfl
 · have hs:sign (c::r)=[c]:=by
    rw [hp,show (sign (c::r)).length=1 by omega];rfl
   have hone:0≤Lib.indexByte ones c:=by
    unfold sign at hs
    cases e:kD.find? (iD · (c::r)) with
    |some t=>
     have ht:=List.mem_of_find?_eq_some e
     rw [e] at hs
     simp only at hs
     subst hs
     simp [kD] at ht
    |none=>
     rw [e] at hs
     simp only at hs
     by_cases h0:0≤Lib.indexByte ones c
     · exact h0
     · rw [if_neg h0] at hs;cases hs
   rw [hs]
   have main:∀(b:UInt8) (m:List UInt8),b≠61→b≠62→sign (c::b::m)=[c]:=by
    intro b m h61 h62
    unfold sign
    have hf:kD.find? (iD · (c::b::m))=none:=by
     rw [List.find?_eq_none]
     intro t ht
     simp [kD] at ht
     rcases ht with rfl|rfl|rfl<;>simp [iD,h61,h62]
    rw [hf]
    simp only
    rw [if_pos hone]
   obtain ⟨m,rfl|rfl|rfl|rfl⟩:=hf.four<;>exact main _ m (by decide) (by decide)
theorem BX {f:UInt8→Bool} {c:UInt8} {r:List UInt8} (h:f c=true):(c::r).takeWhile f=c::r.takeWhile f:=by rw [List.takeWhile_cons,if_pos h]
theorem GX {c:UInt8} (h:small c=true):within c=true:=by unfold within;rw [h];rfl
theorem OW {c:UInt8} (h:c.toNat=35):j6 c=true:=by unfold j6;rw [h];rfl
theorem yT {c:UInt8} {r r':List UInt8} (hne:cK (c::r)≠[]) (hr:(r'.head? =((c::r).drop (cK (c::r)).length).head?)∨(Bl r'∧∃t,cls (c::r)=some t∧t.2=0)):
  cls (cK (c::r)++r')=cls (c::r)∧cK (cK (c::r)++r')=cK (c::r):=by
 by_cases h1:blank c=true
 · have e:cK (c::r)=[c]:=by simp only [cK,if_pos h1]
   rw [e]
   simp only [List.singleton_append,cls,cK,if_pos h1,and_self]
 by_cases h2:c.toNat=35
 · have e:∀x,cK (c::x)=(c::x).takeWhile j6:=fun x=>by simp only [cK,if_neg h1,if_pos h2]
   have g:∀x,cls (c::x)=none:=fun x=>by simp only [cls,if_neg h1,if_pos h2]
   rw [e] at hr ⊢
   have hw:((c::r).takeWhile j6++r').takeWhile j6=(c::r).takeWhile j6:=by
    refine yQ (fun b hb=>jP hb) fun b hb=> ?_
    rcases hr with hr|⟨_,t,ht,_⟩
    · rw [hr] at hb;exact Ag (c::r) hb
    · rw [g] at ht;cases ht
   rw [BX (OW h2)] at hw ⊢
   rw [List.cons_append] at hw ⊢
   rw [g,g,e];exact ⟨rfl,hw⟩
 by_cases h3:small c=true
 · have e:∀x,cK (c::x)=(c::x).takeWhile within:=fun x=>by simp only [cK,if_neg h1,if_neg h2,if_pos h3]
   have g:∀x,cls (c::x)=some (word ((c::x).takeWhile within)):=fun x=>by simp only [cls,if_neg h1,if_neg h2,if_pos h3]
   rw [e] at hr ⊢
   have hw:((c::r).takeWhile within++r').takeWhile within=(c::r).takeWhile within:=by
    refine yQ (fun b hb=>jP hb) fun b hb=> ?_
    rcases hr with hr|⟨hr,_⟩
    · rw [hr] at hb;exact Ag (c::r) hb
    · obtain ⟨m,rfl|rfl|rfl|rfl⟩:=hr.four<;>cases hb<;>rfl
   rw [g]
   rw [BX (GX h3)] at hw ⊢
   rw [List.cons_append] at hw ⊢
   rw [g,e,hw];exact ⟨rfl,rfl⟩
 by_cases h4:digit c=true
 · have e:∀x,cK (c::x)=(c::x).takeWhile digit:=fun x=>by simp only [cK,if_neg h1,if_neg h2,if_neg h3,if_pos h4]
   have g:∀x,cls (c::x)=some (number ((c::x).takeWhile digit) ((c::x).drop ((c::x).takeWhile digit).length)):=fun x=>by simp only [cls,if_neg h1,if_neg h2,if_neg h3,if_pos h4]
   rw [e] at hr ⊢
   have hw:((c::r).takeWhile digit++r').takeWhile digit=(c::r).takeWhile digit:=by
    refine yQ (fun b hb=>jP hb) fun b hb=> ?_
    rcases hr with hr|⟨hr,_⟩
    · rw [hr] at hb;exact Ag (c::r) hb
    · obtain ⟨m,rfl|rfl|rfl|rfl⟩:=hr.four<;>cases hb<;>rfl
   have hn:number ((c::r).takeWhile digit) r'=number ((c::r).takeWhile digit) ((c::r).drop ((c::r).takeWhile digit).length):=by
    rcases hr with hr|⟨hr,t,ht,h0⟩
    · exact GV hr
    · rw [g] at ht;cases ht;exact Fp h0 hr
   rw [g]
   obtain ⟨x,hx⟩:∃x,(c::r).takeWhile digit++r'=c::x:=⟨_,by rw [BX h4,List.cons_append]⟩
   rw [hx,g,e,←hx,hw,List.drop_left' rfl,hn];exact ⟨rfl,rfl⟩
 · have e:∀x,cK (c::x)=sign (c::x):=fun x=>by simp only [cK,if_neg h1,if_neg h2,if_neg h3,if_neg h4]
   have g:∀x,cls (c::x)=some (if sign (c::x)=[] then (4,10) else (4,0)):=fun x=>by simp only [cls,if_neg h1,if_neg h2,if_neg h3,if_neg h4]
   rw [e] at hr hne ⊢
   have hs:sign (sign (c::r)++r')=sign (c::r):=by
    rcases hr with hr|⟨hr,_⟩
    · refine BU ?_
      have hsp:c::r=sign (c::r)++(c::r).drop (sign (c::r)).length:=by
       conv=>lhs;rw [←List.take_append_drop (sign (c::r)).length (c::r)]
       rw [←xM]
      conv=>rhs;rw [hsp]
      exact OV hne hr
    · exact JA hne hr
   obtain ⟨x,hx⟩:∃x,sign (c::r)++r'=c::x:=by
    have hp:=xM (c::r)
    have h1:=List.length_pos_iff.2 hne
    obtain ⟨n,hn⟩:∃n,(sign (c::r)).length=n+1:=⟨(sign (c::r)).length - 1,by omega⟩
    rw [hn,List.take_succ_cons] at hp
    rw [hp];exact ⟨_,rfl⟩
   rw [g,hx,g,e,←hx,hs];exact ⟨rfl,rfl⟩
theorem all_eq' {f pos:Nat} {l:List UInt8} {out:List Tok} (h:l≠[]):all (f+1) pos l out=go (cls l) (cK l) pos out (all f (pos+(cK l).length) (l.drop (cK l).length)):=by
 cases l with
 |nil=>exact absurd rfl h
 |cons c r=>exact all_eq ..
theorem go_ok {t:Option (Nat×Nat)} {w:List UInt8} {pos:Nat} {out ts:List Tok} {k:List Tok→Except (Nat×Nat) (List Tok)} (h:go t w pos out k= .ok ts):(t=none∧k out= .ok ts)∨∃u,t=some u∧u.2=0∧k (out++[⟨u.1,w,pos⟩])= .ok ts:=by
 cases t with
 |none=>exact Or.inl ⟨rfl,h⟩
 |some u=>
  obtain ⟨h1,h2⟩:=wE h
  exact Or.inr ⟨u,rfl,h1,h2⟩
theorem GY {u:Nat×Nat} {w:List UInt8} {pos:Nat} {out:List Tok} {k:List Tok→Except (Nat×Nat) (List Tok)} (h:u.2=0):go (some u) w pos out k=k (out++[⟨u.1,w,pos⟩]):=by
 show put u w pos out k=_
 unfold put
 rw [if_neg (by rw [h];decide)]
theorem uw {c:UInt8} {r:List UInt8} (h:cls (c::r)=none∨∃u,cls (c::r)=some u∧u.2=0):cK (c::r)≠[]:=by
 by_cases h1:blank c=true
 · simp only [cK,if_pos h1];simp
 by_cases h2:c.toNat=35
 · simp only [cK,if_neg h1,if_pos h2];rw [BX (OW h2)];simp
 by_cases h3:small c=true
 · simp only [cK,if_neg h1,if_neg h2,if_pos h3];rw [BX (GX h3)];simp
 by_cases h4:digit c=true
 · simp only [cK,if_neg h1,if_neg h2,if_neg h3,if_pos h4];rw [BX h4];simp
 · simp only [cls,if_neg h1,if_neg h2,if_neg h3,if_neg h4] at h
   simp only [cK,if_neg h1,if_neg h2,if_neg h3,if_neg h4]
   intro e
   rw [if_pos e] at h
   rcases h with h|⟨u,h,h0⟩
   · cases h
   · cases h;cases h0
theorem DY (l:List UInt8):cK l++l.drop (cK l).length=l:=by
 cases l with
 |nil=>rfl
 |cons c r=>
  by_cases h1:blank c=true
  · simp only [cK,if_pos h1];rfl
  by_cases h2:c.toNat=35
  · simp only [cK,if_neg h1,if_pos h2];exact BR _
  by_cases h3:small c=true
  · simp only [cK,if_neg h1,if_neg h2,if_pos h3];exact BR _
  by_cases h4:digit c=true
  · simp only [cK,if_neg h1,if_neg h2,if_neg h3,if_pos h4];exact BR _
  · simp only [cK,if_neg h1,if_neg h2,if_neg h3,if_neg h4]
    conv=>lhs;arg 1;rw [xM]
    exact List.take_append_drop ..
theorem Ah:∀{f pos:Nat} {r:List UInt8} {out ts:List Tok},all f pos r out= .ok ts→∃vs,ts=out++vs
 |0,_,_,_,_,h=>by cases h
 |f+1,pos,[],out,ts,h=>by simp only [all] at h;cases h;exact ⟨_,rfl⟩
 |f+1,pos,c::r,out,ts,h=>by
  rw [all_eq] at h
  rcases go_ok h with ⟨_,h⟩|⟨u,_,_,h⟩
  · exact Ah h
  · obtain ⟨vs,e⟩:=Ah h
    exact ⟨_::vs,by rw [e,List.append_assoc];rfl⟩
theorem yU:∀{f pos:Nat} {r:List UInt8} {out ts:List Tok},all f pos r out= .ok ts→∀(f' pos':Nat) (out':List Tok),r.length<f'→∃vs,all f' pos' r out'= .ok vs
 |0,_,_,_,_,h=>by cases h
 |f+1,pos,[],out,ts,h=>fun f' pos' out' hf=>by
  obtain ⟨n,rfl⟩:∃n,f'=n+1:=⟨f' - 1,by omega⟩
  exact ⟨_,rfl⟩
 |f+1,pos,c::r,out,ts,h=>fun f' pos' out' hf=>by
  obtain ⟨n,rfl⟩:∃n,f'=n+1:=⟨f' - 1,by omega⟩
  rw [all_eq] at h
  rw [all_eq]
  have len:0<(cK (c::r)).length→((c::r).drop (cK (c::r)).length).length<n:=fun h=>Nat.lt_of_lt_of_le (by rw [List.length_drop];exact Nat.sub_lt (Nat.succ_pos _) h) (Nat.le_of_lt_succ hf)
  rcases go_ok h with ⟨e,h⟩|⟨u,e,h0,h⟩
  · have hp:=len (List.length_pos_iff.2 (uw (Or.inl e)))
    rw [e]
    exact yU h _ _ _ hp
  · have hp:=len (List.length_pos_iff.2 (uw (Or.inr ⟨u,e,h0⟩)))
    rw [e,GY h0]
    exact yU h _ _ _ hp
theorem head_take {x:Nat} {l m:List UInt8} (hx:0<x) (hl:0<l.length):(l.take x++m).head? =l.head? :=by
 cases l with
 |nil=>simp at hl
 |cons a l=>
  obtain ⟨n,rfl⟩:∃n,x=n+1:=⟨x - 1,by omega⟩
  rfl
theorem take_split {l w r:List UInt8} (h:w++r=l):l.take w.length=w:=by subst h;exact List.take_left' rfl
theorem KQ {more:List UInt8} (M:∀{f' pos':Nat} {out':List Tok},more.length<f'→∃vs,all f' pos' more out'= .ok vs):∀{f pos:Nat} {r:List UInt8} {out ts:List Tok},all f pos r out= .ok ts→∀(k:Nat) (t:Tok),out.length≤k→k+1<ts.length→ts[k]? =some t→
  pos≤t.at_∧0<t.text.length∧t.at_+t.text.length≤pos+r.length∧∀{f':Nat},(r.take (t.at_+t.text.length - pos)++32::more).length<f'→∃vs,all f' pos (r.take (t.at_+t.text.length - pos)++32::more) out= .ok vs∧vs.take (k+1)=ts.take (k+1)
 |0,_,_,_,_,h=>by cases h
 |f+1,pos,[],out,ts,h=>fun k t h1 h2 h3=>by
  have h:(Except.ok (out++[⟨0,[],pos⟩]):Except (Nat×Nat) (List Tok))= .ok ts:=h
  cases h;simp at h2;omega
 |f+1,pos,c::r,out,ts,h=>fun k t h1 h2 h3=>by
  rw [all_eq] at h
  have hsp:=DY (c::r)
  have on:∀out',(cK (c::r))≠[]→(∀r' n,r'.head? =((c::r).drop (cK (c::r)).length).head?→all (n+1) pos (cK (c::r)++r') out=all n (pos+(cK (c::r)).length) r' out')→
    all f (pos+(cK (c::r)).length) ((c::r).drop (cK (c::r)).length) out'= .ok ts→out'.length≤k→
    pos≤t.at_∧0<t.text.length∧t.at_+t.text.length≤pos+(c::r).length∧∀{f':Nat},((c::r).take (t.at_+t.text.length - pos)++32::more).length<f'→∃vs,all f' pos ((c::r).take (t.at_+t.text.length - pos)++32::more) out= .ok vs∧vs.take (k+1)=ts.take (k+1):=by
   intro out' hne go1 h hk
   obtain ⟨i1,i2,i3,i4⟩:=KQ M h k t hk h2 h3
   generalize cK (c::r)=w at *
   have hw:=List.length_pos_iff.2 hne
   have hl:w.length≤(c::r).length:=by rw [←hsp];simp
   have hdl:((c::r).drop w.length).length=(c::r).length - w.length:=List.length_drop
   refine ⟨by omega,i2,by omega,fun {f'} hf=> ?_⟩
   have et:(c::r).take (t.at_+t.text.length - pos)=w++((c::r).drop w.length).take (t.at_+t.text.length - (pos+w.length)):=by
    conv=>lhs;rw [←hsp]
    rw [List.take_append,List.take_of_length_le (by omega)]
    congr 2;omega
   rw [et,List.append_assoc] at hf ⊢
   obtain ⟨n,rfl⟩:∃n,f'=n+1:=⟨f' - 1,by omega⟩
   rw [go1 _ n (head_take (by omega) (by omega))]
   rw [List.length_append] at hf
   exact i4 (by omega)
  rcases go_ok h with ⟨e,h⟩|⟨u,e,h0,h⟩
  · have hne:=uw (Or.inl e)
    refine on out hne (fun r' n hr=> ?_) h h1
    obtain ⟨l1,l2⟩:=yT hne (Or.inl hr)
    rw [all_eq' (by simp [hne]),l1,l2,e,List.drop_left' rfl];rfl
  · have hne:=uw (Or.inr ⟨u,e,h0⟩)
    by_cases hk:k=out.length
    · obtain ⟨vs,ev⟩:=Ah h
      have et:t=⟨u.1,cK (c::r),pos⟩:=by
       rw [ev,hk] at h3
       simp at h3;exact h3.symm
      subst et
      have hl:(cK (c::r)).length≤(c::r).length:=by conv=>rhs;rw [←hsp]
                                                   simp
      refine ⟨Nat.le_refl _,List.length_pos_iff.2 hne,by show pos+(cK (c::r)).length≤_;omega,fun {f'} hf=> ?_⟩
      have eq:(c::r).take (pos+(cK (c::r)).length - pos)=cK (c::r):=by
       rw [Nat.add_sub_cancel_left]
       exact take_split hsp
      simp only [eq] at hf ⊢
      obtain ⟨l1,l2⟩:=yT (r':=32::more) hne (Or.inr ⟨⟨32,rfl,rfl⟩,u,e,h0⟩)
      rw [List.length_append,List.length_cons] at hf
      have hw:=List.length_pos_iff.2 hne
      obtain ⟨n,rfl⟩:∃n,f'=n+2:=⟨f' - 2,by omega⟩
      rw [all_eq' (by simp [hne]),l1,l2,e,GY h0,List.drop_left' rfl]
      have hb:all (n+1) (pos+(cK (c::r)).length) (32::more) (out++[⟨u.1,cK (c::r),pos⟩])=all n (pos+(cK (c::r)).length+1) more (out++[⟨u.1,cK (c::r),pos⟩]):=by
       simp only [all];rw [if_pos (by decide)]
      rw [hb]
      obtain ⟨us,hu⟩:=M (f':=n) (pos':=pos+(cK (c::r)).length+1) (out':=out++[⟨u.1,cK (c::r),pos⟩]) (by omega)
      obtain ⟨ws,ew⟩:=Ah hu
      refine ⟨us,hu, ?_⟩
      rw [ew,ev,hk,List.take_left' (by simp),List.take_left' (by simp)]
    · refine on (out++[⟨u.1,cK (c::r),pos⟩]) hne (fun r' n hr=> ?_) h (by simp;omega)
      obtain ⟨l1,l2⟩:=yT hne (Or.inl hr)
      rw [all_eq' (by simp [hne]),l1,l2,e,GY h0,List.drop_left' rfl]
end Lex
end
end Go.Eng
namespace Go.Eng
noncomputable section
namespace Par
section
variable {ts ts':List Tok} {m:Nat} {α β:Type}
def fD (ts ts':List Tok) (m i:Nat) (r r':R α):Prop:=∀x l,r= .ok (x,l)→∃i1,l=ts.drop i1∧i<i1∧i1<ts.length∧(i1≤m→r'= .ok (x,ts'.drop i1))
theorem fD.any {i:Nat} {r r' r2:R α} (h:fD ts ts' m i r r') (hm:m≤i):fD ts ts' m i r r2:=by
 intro x l e
 obtain ⟨i1,h1,h2,h3,h4⟩:=h x l e
 exact ⟨i1,h1,h2,h3,fun h=>by omega⟩
theorem fD.mono {i j:Nat} {r r':R α} (h:fD ts ts' m i r r') (hj:j≤i):fD ts ts' m j r r':=by
 intro x l e
 obtain ⟨i1,h1,h2,h3,h4⟩:=h x l e
 exact ⟨i1,h1,by omega,h3,h4⟩
theorem fD.bnd {i k:Nat} {r r':R α} {f f':α→List Tok→R β} (h:Sim ts ts' m i k r r') (K:∀x i1,i≤i1→k≤i1→i1<ts.length→fD ts ts' m i1 (f x (ts.drop i1)) (f' x (ts'.drop i1))):fD ts ts' m i (Par.bnd r f) (Par.bnd r' f'):=by
 rcases h with ⟨x,i1,rfl,h1,h0,h2,h3⟩|⟨e,j,rfl,_⟩
 · intro y l hy
   obtain ⟨i2,e2,h4,h5,h6⟩:=K x i1 h1 h0 h2 y l hy
   refine ⟨i2,e2,by omega,h5,fun hm=> ?_⟩
   rw [h3 (by omega)];exact h6 hm
 · intro y l hy;cases hy
theorem fD.bnd1 {i:Nat} {r r':R α} {f f':α→List Tok→R β} (h:fD ts ts' m i r r') (K:∀x i1,i<i1→i1<ts.length→fD ts ts' m i1 (f x (ts.drop i1)) (f' x (ts'.drop i1))):fD ts ts' m i (Par.bnd r f) (Par.bnd r' f'):=by
 intro y l hy
 cases hr:r with
 |error e=>rw [hr] at hy;cases hy
 |ok q=>
  obtain ⟨x,l0⟩:=q
  obtain ⟨i1,e1,h1,h2,h3⟩:=h x l0 hr
  rw [hr] at hy
  subst e1
  obtain ⟨i2,e2,h4,h5,h6⟩:=K x i1 h1 h2 y l hy
  refine ⟨i2,e2,by omega,h5,fun hm=> ?_⟩
  rw [h3 (by omega)];exact h6 hm
theorem fD.ret {i:Nat} {r r':R α} (g:α→β) (h:fD ts ts' m i r r'):fD ts ts' m i (Par.bnd r fun x l=> .ok (g x,l)) (Par.bnd r' fun x l=> .ok (g x,l)):=by
 intro y l hy
 cases hr:r with
 |error e=>rw [hr] at hy;cases hy
 |ok q=>
  obtain ⟨x,l0⟩:=q
  obtain ⟨i1,e1,h1,h2,h3⟩:=h x l0 hr
  rw [hr] at hy
  cases hy
  exact ⟨i1,e1,h1,h2,fun hm=>by rw [h3 hm];rfl⟩
theorem fD.ite {i:Nat} {c c':Prop} [Decidable c] [Decidable c'] {a a' b b':R α} (hc:i<m→(c↔c')) (h1:c→fD ts ts' m i a a') (h2:¬c→fD ts ts' m i b b'):fD ts ts' m i (if c then a else b) (if c' then a' else b'):=by
 by_cases hm:i<m
 · by_cases h:c
   · rw [if_pos h,if_pos ((hc hm).1 h)];exact h1 h
   · rw [if_neg h,if_neg fun h'=>h ((hc hm).2 h')];exact h2 h
 · by_cases h:c
   · rw [if_pos h];exact (h1 h).any (by omega)
   · rw [if_neg h];exact (h2 h).any (by omega)
theorem fD.at_ (T:Two ts ts' m) {i j:Nat} {F F':Nat→R α} (hj:j≤i) (h:∀a,fD ts ts' m i (F a) (F' a)):fD ts ts' m i (F (Par.here (ts.drop j))) (F' (Par.here (ts'.drop j))):=by
 by_cases hm:i<m
 · rw [←T.here (show j<m by omega)];exact h _
 · exact (h (Par.here (ts.drop j))).any (by omega)
theorem OX {i e:Nat} {r':R α} {l:List Tok}:fD ts ts' m i (fail e l) r':=by intro x l h;cases h
theorem take1 (T:Two ts ts' m) {i:Nat} {s:List UInt8} {x:α} (hi:i<ts.length) (h:is s (ts.drop i)=true):fD ts ts' m i (.ok (x,(ts.drop i).tail)) (.ok (x,(ts'.drop i).tail)):=by
 intro y l hy
 cases hy
 exact ⟨i+1,tail_drop _ _,by omega,T.jq hi h,fun hm=>by rw [tail_drop]⟩
theorem OY (T:Two ts ts' m) {i:Nat} (s:List UInt8) (hi:i<ts.length):fD ts ts' m i (must s (ts.drop i)) (must s (ts'.drop i)):=by
 unfold must
 refine fD.ite (fun h=>by rw [T.is h]) (fun h=> ?_) fun _=>OX
 exact fD.at_ T (F:=fun a=> .ok (a,(ts.drop i).tail)) (F':=fun a=> .ok (a,(ts'.drop i).tail)) (Nat.le_refl _) fun a=>take1 T hi h
theorem varE1 (T:Two ts ts' m) {i:Nat} {n lb:List UInt8} {neg:Bool} (a:Nat) (hi:i<ts.length):fD ts ts' m i (iG n lb a neg (ts.drop i)) (iG n lb a neg (ts'.drop i)):=by
 rw [qX,qX]
 exact fD.bnd (wH T hi) fun k i1 h1 h2 h3=>(OY T _ h3).ret _
theorem varD1 (T:Two ts ts' m) {i:Nat} (hi:i<ts.length):fD ts ts' m i (lH (ts.drop i)) (lH (ts'.drop i)):=by
 rw [qY,qY]
 refine fD.bnd (eY T hi) fun n i1 h1 h2 h3=> ?_
 refine fD.bnd (dJ T _ h3) fun _ i2 h4 h5 h6=> ?_
 refine fD.bnd (eY T h6) fun b i3 h7 h8 h9=> ?_
 refine fD.bnd (dJ T _ h9) fun _ i4 h10 h11 h12=> ?_
 refine fD.ite (fun h=>by rw [T.is h]) (fun h=> ?_) fun _=> ?_
 · rw [tail_drop,tail_drop]
   exact (fD.at_ T (i:=i4+1) (j:=i) (F:=fun a=>iG n b a true (ts.drop (i4+1))) (F':=fun a=>iG n b a true (ts'.drop (i4+1))) (by omega) fun a=>varE1 T a (T.jq h12 h)).mono (Nat.le_succ _)
 · exact fD.at_ T (i:=i4) (j:=i) (F:=fun a=>iG n b a false (ts.drop i4)) (F':=fun a=>iG n b a false (ts'.drop i4)) (by omega) fun a=>varE1 T a h12
theorem KR (T:Two ts ts' m) {stm stm':Nat→List Tok→R Sm} {lo d:Nat} (K:KO ts ts' m stm stm' lo):∀(f f' i:Nat) (ss:List Sm),lo≤i→i<ts.length→ts.length - i≤f→ts'.length - i≤f'→fD ts ts' m i (gF stm d f (ts.drop i) ss) (gF stm' d f' (ts'.drop i) ss)
 |0,_,i,ss,_,hi,hf,_=>by omega
 |f+1,f',i,ss,hl,hi,hf,hf'=>by
  have main:∀f',ts'.length - i≤f'+1→fD ts ts' m i (gF stm d (f+1) (ts.drop i) ss) (gF stm' d (f'+1) (ts'.drop i) ss):=by
   intro f' hf'
   rw [mh,mh]
   refine fD.ite (fun h=>by rw [T.is h]) (fun h=>take1 T hi h) fun _=> ?_
   exact fD.bnd (K i d hl hi) fun s i1 h1 h2 h3=>KR T K f f' i1 _ (by omega) h3 (by omega) (by omega)
  cases f' with
  |zero=>exact (main ts'.length (by omega)).any (by have:=T.le';omega)
  |succ f'=>exact main f' hf'
theorem block1 (T:Two ts ts' m) {i d:Nat} (hi:i<ts.length):fD ts ts' m i (block d (ts.drop i)) (block d (ts'.drop i)):=by
 unfold block jQ
 refine fD.ite (fun h=>by rw [T.is h]) (fun h=> ?_) fun _=>OX
 refine fD.ite (fun _=>Iff.rfl) (fun _=>OX) fun _=> ?_
 rw [tail_drop,tail_drop]
 refine (KR T (lo:=i) (xK T _ _ i (by rw [List.length_drop];exact Nat.le_refl _) (by rw [List.length_drop];exact Nat.le_refl _)) _ _ (i+1) [] (by omega) (T.jq hi h) ?_ ?_).mono (Nat.le_succ _)<;>rw [List.length_drop]<;>exact Nat.le_refl _
theorem OZ (T:Two ts ts' m) {i d:Nat} (q:Pr) (hi:i<ts.length):fD ts ts' m i (dW d q (ts.drop i)) (dW d q (ts'.drop i)):=by
 rw [oH,oH]
 refine fD.bnd (dJ T _ hi) fun _ i1 h1 h2 h3=> ?_
 refine fD.bnd (eY T h3) fun _ i2 h4 h5 h6=> ?_
 refine fD.bnd (dJ T _ h6) fun _ i3 h7 h8 h9=> ?_
 refine fD.bnd (dJ T _ h9) fun _ i4 h10 h11 h12=> ?_
 refine fD.bnd (o9 T (fun x i hi=>KP T x i hi) [] h12) fun _ i5 h13 h14 h15=> ?_
 exact (block1 T h15).ret _
theorem proc1 (T:Two ts ts' m) {i d:Nat} (hi:i<ts.length):fD ts ts' m i (proc d (ts.drop i)) (proc d (ts'.drop i)):=by
 rw [qV,qV]
 refine fD.bnd (eY T hi) fun n i1 h1 h2 h3=> ?_
 refine fD.bnd (dJ T _ h3) fun _ i2 h4 h5 h6=> ?_
 refine fD.bnd (o9 T (fun x i hi=>GR T x i hi) [] h6) fun ps i3 h7 h8 h9=> ?_
 refine fD.ite (fun h=>by rw [T.is h]) (fun h=> ?_) fun _=> ?_
 · rw [tail_drop,tail_drop]
   refine (fD.bnd (eY T (T.jq h9 h)) fun r i4 h10 h11 h12=> ?_).mono (Nat.le_succ _)
   exact fD.at_ T (i:=i4) (j:=i) (F:=fun a=>dW d ⟨n,ps,true,r,[],[],[],a⟩ (ts.drop i4)) (F':=fun a=>dW d ⟨n,ps,true,r,[],[],[],a⟩ (ts'.drop i4)) (by omega) fun a=>OZ T _ h12
 · exact fD.at_ T (i:=i3) (j:=i) (F:=fun a=>dW d ⟨n,ps,false,[],[],[],[],a⟩ (ts.drop i3)) (F':=fun a=>dW d ⟨n,ps,false,[],[],[],[],a⟩ (ts'.drop i3)) (by omega) fun a=>OZ T _ h9
end
section
variable {ts ts':List Tok} {m:Nat}
theorem decls1 (T:Two ts ts' m) (hl:ts.length=m+1) (hz:∀j,j<m→(hd (ts.drop j)).kind≠0) {d:Nat}:∀(f i:Nat) (vs:List Vr) (ps:List Pr) (V:List Vr) (P:List Pr) (l:List Tok),i<ts.length→bO d f (ts.drop i) vs ps= .ok ((V,P),l)→
  ∃n,n+i≤m∧∀g,bO d (g+n) (ts'.drop i) vs ps=bO d g (ts'.drop m) V P
 |0,_,_,_,_,_,_,_,h=>by cases h
 |f+1,i,vs,ps,V,P,l,hi,h=>by
  rw [kE] at h
  by_cases h0:(hd (ts.drop i)).kind=0
  · rw [if_pos h0] at h;cases h
    have:i=m:=by
     apply Classical.byContradiction
     intro hne
     exact hz i (by omega) h0
    subst this
    exact ⟨0,by omega,fun g=>rfl⟩
  rw [if_neg h0] at h
  have him:i<m:=by
   apply Classical.byContradiction
   intro hne
   have e:i+1=ts.length:=by omega
   have hk:=T.last ts[i] (by rw [List.getLast?_eq_getElem?,show ts.length - 1=i by omega,List.getElem?_eq_getElem hi])
   rw [List.drop_eq_getElem_cons hi] at h0
   exact h0 hk
  have h0':(hd (ts'.drop i)).kind≠0:=by rw [←T.hd him];exact h0
  by_cases hv:is [118,97,114] (ts.drop i)=true
  · rw [if_pos hv,tail_drop] at h
    have ht:=T.jq hi hv
    cases hr:lH (ts.drop (i+1)) with
    |error e=>rw [hr] at h;cases h
    |ok q=>
     obtain ⟨v,l1⟩:=q
     obtain ⟨i1,rfl,h1,h2,h3⟩:=varD1 T ht v l1 hr
     rw [hr] at h
     obtain ⟨n,hn,hg⟩:=decls1 T hl hz f i1 (vs++[v]) ps V P l h2 h
     refine ⟨n+1,by omega,fun g=> ?_⟩
     rw [show g+(n+1)=(g+n)+1 by omega,kE,if_neg h0',if_pos (by rw [←T.is him];exact hv),tail_drop,h3 (by omega)]
     exact hg g
  · rw [if_neg hv] at h
    by_cases hp:is [112,114,111,99] (ts.drop i)=true
    · have em:must [112,114,111,99] (ts.drop i)= .ok (here (ts.drop i),(ts.drop i).tail):=by unfold must;rw [if_pos hp]
      rw [em,tail_drop] at h
      have ht:=T.jq hi hp
      have h:bnd (proc d (ts.drop (i+1))) (fun p l2=>bO d f l2 vs (ps++[p]))= .ok ((V,P),l):=h
      cases hr:proc d (ts.drop (i+1)) with
      |error e=>rw [hr] at h;cases h
      |ok q=>
       obtain ⟨p,l1⟩:=q
       obtain ⟨i1,rfl,h1,h2,h3⟩:=proc1 T ht p l1 hr
       rw [hr] at h
       obtain ⟨n,hn,hg⟩:=decls1 T hl hz f i1 vs (ps++[p]) V P l h2 h
       refine ⟨n+1,by omega,fun g=> ?_⟩
       have em':must [112,114,111,99] (ts'.drop i)= .ok (here (ts'.drop i),(ts'.drop i).tail):=by unfold must;rw [if_pos (by rw [←T.is him];exact hp)]
       rw [show g+(n+1)=(g+n)+1 by omega,kE,if_neg h0',if_neg (by rw [←T.is him];exact hv),em',tail_drop]
       show bnd (proc d (ts'.drop (i+1))) (fun p l2=>bO d (g+n) l2 vs (ps++[p]))=_
       rw [h3 (by omega)]
       exact hg g
    · have em:must [112,114,111,99] (ts.drop i)= .error (11,here (ts.drop i)):=by unfold must;rw [if_neg hp];rfl
      rw [em] at h;cases h
theorem imps1 (T:Two ts ts' m) (hl:ts.length=m+1) (hni:is [105,109,112,111,114,116] (ts'.drop m)=false):∀(f i:Nat) (x X:List Im) (l:List Tok),i<ts.length→fq f (ts.drop i) x= .ok (X,l)→
  ∃i1 n,l=ts.drop i1∧i≤i1∧i1≤m∧n+i≤i1∧∀g,fq (g+n+1) (ts'.drop i) x= .ok (X,ts'.drop i1)
 |0,_,_,_,_,_,h=>by cases h
 |f+1,i,x,X,l,hi,h=>by
  rw [ni] at h
  by_cases hv:is [105,109,112,111,114,116] (ts.drop i)=true
  · rw [if_pos hv,tail_drop] at h
    have ht:=T.jq hi hv
    have him:i<m:=by omega
    have S:fD ts ts' m (i+1) (bnd (name (ts.drop (i+1))) fun n l1=>bnd (must [59] l1) fun _ l2=> .ok (n,l2)) (bnd (name (ts'.drop (i+1))) fun n l1=>bnd (must [59] l1) fun _ l2=> .ok (n,l2)):=
     fD.bnd (eY T ht) fun n i1 h1 h2 h3=>(OY T _ h3).ret _
    cases hn:name (ts.drop (i+1)) with
    |error e=>rw [hn] at h;cases h
    |ok q=>
     obtain ⟨n,l1⟩:=q
     rw [hn] at h
     have h:bnd (must [59] l1) (fun _ l2=>fq f l2 (x++[⟨n,here (ts.drop (i+1))⟩]))= .ok (X,l):=h
     cases hm:must [59] l1 with
     |error e=>rw [hm] at h;cases h
     |ok q=>
      obtain ⟨z,l2⟩:=q
      rw [hm] at h
      have h:fq f l2 (x++[⟨n,here (ts.drop (i+1))⟩])= .ok (X,l):=h
      obtain ⟨i1,rfl,h1,h2,h3⟩:=S n l2 (by rw [hn];show bnd (must [59] l1) _=_;rw [hm];rfl)
      obtain ⟨i2,k,rfl,h4,h5,h6,h7⟩:=imps1 T hl hni f i1 _ X l h2 h
      refine ⟨i2,k+1,rfl,by omega,h5,by omega,fun g=> ?_⟩
      have h3:=h3 (by omega)
      have hh:here (ts.drop (i+1))=here (ts'.drop (i+1)):=T.here (by omega)
      rw [show g+(k+1)+1=(g+k+1)+1 by omega,ni,if_pos (by rw [←T.is him];exact hv),tail_drop]
      cases hn':name (ts'.drop (i+1)) with
      |error e=>rw [hn'] at h3;cases h3
      |ok q'=>
       obtain ⟨n',l1'⟩:=q'
       rw [hn'] at h3
       have h3:bnd (must [59] l1') (fun _ l2=> .ok (n',l2))=(.ok (n,ts'.drop i1):R (List UInt8)):=h3
       cases hm':must [59] l1' with
       |error e=>rw [hm'] at h3;cases h3
       |ok q'=>
        obtain ⟨z',l2'⟩:=q'
        rw [hm'] at h3
        have h3:(.ok (n',l2'):R (List UInt8))= .ok (n,ts'.drop i1):=h3
        cases h3
        show bnd (must [59] l1') (fun _ l2=>fq (g+k+1) l2 (x++[⟨n,here (ts'.drop (i+1))⟩]))=_
        rw [hm',←hh]
        exact h7 g
  · rw [if_neg hv] at h;cases h
    refine ⟨i,0,rfl,Nat.le_refl _,by omega,by omega,fun g=> ?_⟩
    have hv':¬is [105,109,112,111,114,116] (ts'.drop i)=true:=by
     by_cases hm:i<m
     · rw [←T.is hm];exact hv
     · rw [show i=m by omega,hni];decide
    rw [ni,if_neg hv']
theorem JB (T:Two ts ts' m) (hl:ts.length=m+1) (hm':m<ts'.length) (hz:∀j,j<m→(hd (ts.drop j)).kind≠0) (hni:is [105,109,112,111,114,116] (ts'.drop m)=false) {d:Nat} {M:Md} {l:List Tok} (h:gT d ts= .ok (M,l)):
  ∃g,ts'.length - m≤g∧gT d ts'=bnd (bO d g (ts'.drop m) M.vars M.procs) fun x l5=> .ok (⟨M.name,M.at_,M.imports,x.1,x.2⟩,l5):=by
 rw [nk] at h
 have hi0:0<ts.length:=by omega
 have S:fD ts ts' m 0 (bnd (must [109,111,100,117,108,101] (ts.drop 0)) fun _ l1=>bnd (name l1) fun n l2=>bnd (must [59] l2) fun _ l3=> .ok ((n,here l1),l3)) (bnd (must [109,111,100,117,108,101] (ts'.drop 0)) fun _ l1=>bnd (name l1) fun n l2=>bnd (must [59] l2) fun _ l3=> .ok ((n,here l1),l3)):=by
  refine fD.bnd (dJ T _ hi0) fun _ i1 h1 h2 h3=> ?_
  refine fD.at_ T (i:=i1) (j:=i1) (F:=fun a=>bnd (name (ts.drop i1)) fun n l2=>bnd (must [59] l2) fun _ l3=> .ok ((n,a),l3)) (F':=fun a=>bnd (name (ts'.drop i1)) fun n l2=>bnd (must [59] l2) fun _ l3=> .ok ((n,a),l3)) (Nat.le_refl _) fun a=> ?_
  exact fD.bnd (eY T h3) fun n i2 h4 h5 h6=>(OY T _ h6).ret _
 have A:∀t:List Tok,gT d t=bnd (bnd (must [109,111,100,117,108,101] (t.drop 0)) fun _ l1=>bnd (name l1) fun n l2=>bnd (must [59] l2) fun _ l3=> .ok ((n,here l1),l3)) fun q l3=>bnd (fq l3.length l3 []) fun is l4=>bnd (bO d l4.length l4 [] []) fun x l5=> .ok (⟨q.1,q.2,is,x.1,x.2⟩,l5):=by
  intro t
  rw [nk,List.drop_zero]
  cases must [109,111,100,117,108,101] t with
  |error e=>rfl
  |ok q=>
   show bnd (name q.2) _=bnd (bnd (name q.2) _) _
   cases name q.2 with
   |error e=>rfl
   |ok r=>
    show bnd (must [59] r.2) _=bnd (bnd (must [59] r.2) _) _
    cases must [59] r.2 with
    |error e=>rfl
    |ok s=>rfl
 rw [←nk,A] at h
 cases hr:(bnd (must [109,111,100,117,108,101] (ts.drop 0)) fun _ l1=>bnd (name l1) fun n l2=>bnd (must [59] l2) fun _ l3=> .ok ((n,here l1),l3):R (List UInt8×Nat)) with
 |error e=>rw [hr] at h;cases h
 |ok q=>
  obtain ⟨⟨n,a⟩,l3⟩:=q
  obtain ⟨i3,rfl,h1,h2,h3⟩:=S (n,a) l3 hr
  rw [hr] at h
  have h:bnd (fq (ts.drop i3).length (ts.drop i3) []) (fun is l4=>bnd (bO d l4.length l4 [] []) fun x l5=> .ok ((⟨n,a,is,x.1,x.2⟩:Md),l5))= .ok (M,l):=h
  cases hi:fq (ts.drop i3).length (ts.drop i3) [] with
  |error e=>rw [hi] at h;cases h
  |ok q=>
   obtain ⟨X,l4⟩:=q
   obtain ⟨i4,k,rfl,h4,h5,h6,h7⟩:=imps1 T hl hni _ i3 [] X l4 h2 hi
   rw [hi] at h
   have h:bnd (bO d (ts.drop i4).length (ts.drop i4) [] []) (fun x l5=> .ok ((⟨n,a,X,x.1,x.2⟩:Md),l5))= .ok (M,l):=h
   cases hd':bO d (ts.drop i4).length (ts.drop i4) [] [] with
   |error e=>rw [hd'] at h;cases h
   |ok q=>
    obtain ⟨⟨V,P⟩,l5⟩:=q
    rw [hd'] at h
    have h:(.ok ((⟨n,a,X,V,P⟩:Md),l5):R Md)= .ok (M,l):=h
    cases h
    obtain ⟨c,hc,hg⟩:=decls1 T hl hz _ i4 [] [] V P _ (by omega) hd'
    have hle:=T.le'
    refine ⟨(ts'.drop i4).length - c,by rw [List.length_drop];omega, ?_⟩
    rw [A,h3 (by omega)]
    show bnd (fq (ts'.drop i3).length (ts'.drop i3) []) _=_
    obtain ⟨g0,hg0⟩:∃g0,(ts'.drop i3).length=g0+k+1∨(ts'.drop i3).length≤k:=⟨(ts'.drop i3).length - k - 1,by omega⟩
    rcases hg0 with hg0|hg0
    · rw [hg0,h7 g0]
      show bnd (bO d (ts'.drop i4).length (ts'.drop i4) [] []) _=_
      have:=hg ((ts'.drop i4).length - c)
      rw [Nat.sub_add_cancel (by rw [List.length_drop];omega)] at this
      rw [this]
    · rw [List.length_drop] at hg0;omega
end
end Par
end
end Go.Eng
namespace Go.Eng
noncomputable section
theorem BZ {s:List UInt8} {ts:List Tok} (h:Lex.lex s= .ok ts):∃us a,ts=us++[⟨0,[],a⟩]:=by
 unfold Lex.lex at h
 by_cases hs:8192<s.length
 · rw [if_pos hs] at h;cases h
 · rw [if_neg hs] at h
   obtain ⟨us,a,e,_⟩:=Lex.wF h (fun t ht=>by simp at ht)
   exact ⟨us,a,e⟩
theorem Ai {s:List UInt8} {ts:List Tok} (h:Lex.lex s= .ok ts):Lex.all (s.length+1) 0 s []= .ok ts:=by
 unfold Lex.lex at h
 by_cases hs:8192<s.length
 · rw [if_pos hs] at h;cases h
 · rw [if_neg hs] at h;exact h
theorem err_place {s:List UInt8} {ts:List Tok} {e a:Nat} (hs:Lex.lex s= .ok ts) (he:Par.gT 0 ts= .error (e,a)):∃(j:Nat) (t:Tok),ts[j]? =some t∧t.at_=a:=by
 obtain ⟨us,b,rfl⟩:=BZ hs
 have T:Par.Two (us++[⟨0,[],b⟩]) (us++[⟨0,[],b⟩]) 0:=⟨Nat.zero_le _,Nat.zero_le _,fun _ _=>rfl,fun (t:Tok) ht=>by simp at ht;subst ht;rfl⟩
 rcases Par.yP T (d:=0) (by simp) with ⟨x,i,h,_⟩|⟨e',j,h,_,h2,_⟩
 · rw [h] at he;cases he
 · rw [h] at he;cases he
   refine ⟨j,(us++[⟨0,[],b⟩])[j],List.getElem?_eq_getElem h2, ?_⟩
   rw [List.drop_eq_getElem_cons h2];rfl
theorem err_stays {s more:List UInt8} {ts us:List Tok} {e a k:Nat} {t:Tok} (hs:Lex.lex s= .ok ts) (hm:Lex.lex more= .ok us) (hl:s.length≤1000) (hl2:more.length≤1000) (he:Par.gT 0 ts= .error (e,a))
  (hk:k+1<ts.length) (ht:ts[k]? =some t) (hlast:∀j u,ts[j]? =some u→u.at_=a→j≤k) (hta:t.at_=a):
  a+t.text.length≤s.length∧∃ts',Lex.lex (s.take (a+t.text.length)++32::more)= .ok ts'∧Par.gT 0 ts'= .error (e,a):=by
 have ha:=Ai hs
 have hma:=Ai hm
 obtain ⟨c1,c2,c3,c4⟩:=Lex.KQ (more:=more) (fun {f'} {pos'} {out'} hf=>Lex.yU hma f' pos' out' hf) ha k t (Nat.zero_le _) hk ht
 rw [Nat.sub_zero,hta] at c4
 rw [hta] at c3
 have hlen:(s.take (a+t.text.length)++32::more).length≤2001:=by simp;omega
 obtain ⟨ts',h1,h2⟩:=c4 (Nat.lt_succ_self _)
 have hlex:Lex.lex (s.take (a+t.text.length)++32::more)= .ok ts':=by
  unfold Lex.lex
  rw [if_neg (by omega)];exact h1
 refine ⟨by omega,ts',hlex, ?_⟩
 obtain ⟨ws,b,ets⟩:=BZ hs
 have hle:k+1≤ts'.length:=by
  have:=congrArg List.length h2
  simp at this;omega
 have T:Par.Two ts ts' (k+1):=by
  refine ⟨by omega,hle,fun j hj=> ?_,fun u hu=> ?_⟩
  · have:=congrArg (fun l=>l[j]?) h2
    simp only [List.getElem?_take,if_pos hj] at this
    exact this.symm
  · rw [ets] at hu;simp at hu;subst hu;rfl
 rcases Par.yP T (d:=0) (by omega) with ⟨x,i,h,_⟩|⟨e',j,h,_,g2,g3⟩
 · rw [h] at he;cases he
 · rw [h] at he;cases he
   have hj:j≤k:=hlast j _ (List.getElem?_eq_getElem g2) (by rw [List.drop_eq_getElem_cons g2];rfl)
   exact g3 (by omega)
end
end Go.Eng
namespace Go.Eng
noncomputable section
namespace Lex
theorem xP:∀(f pos:Nat) (r:List UInt8) (out:List Tok),all f pos r out=match all f pos r [] with
  | .ok us=> .ok (out++us)
  | .error e=> .error e
 |0,_,_,_=>rfl
 |f+1,pos,[],out=>by simp [all]
 |f+1,pos,c::r,out=>by
  rw [all_eq,all_eq]
  cases cls (c::r) with
  |none=>exact xP f _ _ out
  |some u=>
   show put u _ pos out _=(match put u _ pos [] _ with
    | .ok us=> .ok (out++us)
    | .error e=> .error e)
   unfold put
   by_cases hu:u.2≠0
   · rw [if_pos hu,if_pos hu]
   · rw [if_neg hu,if_neg hu,xP f _ _ (out++_),xP f _ _ ([]++_)]
     cases all f (pos+(cK (c::r)).length) ((c::r).drop (cK (c::r)).length) [] with
     |error e=>rfl
     |ok us=>simp
theorem O0 {l:List UInt8} {u:Nat×Nat} (h:cls l=some u) (h0:u.2=0):u.1≠0:=by
 cases l with
 |nil=>cases h
 |cons c r=>
  by_cases h1:blank c=true
  · simp only [cls,if_pos h1] at h;cases h
  by_cases h2:c.toNat=35
  · simp only [cls,if_neg h1,if_pos h2] at h;cases h
  by_cases h3:small c=true
  · simp only [cls,if_neg h1,if_neg h2,if_pos h3] at h
    cases h
    revert h0;unfold word;split
    · intro _;decide
    · split
      · intro h;cases h
      · intro _;decide
  by_cases h4:digit c=true
  · simp only [cls,if_neg h1,if_neg h2,if_neg h3,if_pos h4] at h
    cases h
    rw [yR h0];decide
  · simp only [cls,if_neg h1,if_neg h2,if_neg h3,if_neg h4] at h
    cases h
    split<;>decide
theorem none_nl {c:UInt8} {r m:List UInt8} (h:cls (c::r)=none):cls (cK (c::r)++10::m)=none∧cK (cK (c::r)++10::m)=cK (c::r):=by
 by_cases h1:blank c=true
 · have e:cK (c::r)=[c]:=by simp only [cK,if_pos h1]
   rw [e]
   simp only [List.singleton_append,cls,cK,if_pos h1,and_self]
 by_cases h2:c.toNat=35
 · have e:∀x,cK (c::x)=(c::x).takeWhile j6:=fun x=>by simp only [cK,if_neg h1,if_pos h2]
   have g:∀x,cls (c::x)=none:=fun x=>by simp only [cls,if_neg h1,if_pos h2]
   rw [e]
   have hw:((c::r).takeWhile j6++10::m).takeWhile j6=(c::r).takeWhile j6:=
    yQ (fun b hb=>jP hb) fun b hb=>by cases hb;rfl
   rw [BX (OW h2)] at hw ⊢
   rw [List.cons_append] at hw ⊢
   rw [g,e];exact ⟨rfl,hw⟩
 by_cases h3:small c=true
 · simp only [cls,if_neg h1,if_neg h2,if_pos h3] at h;cases h
 by_cases h4:digit c=true
 · simp only [cls,if_neg h1,if_neg h2,if_neg h3,if_pos h4] at h;cases h
 · simp only [cls,if_neg h1,if_neg h2,if_neg h3,if_neg h4] at h;cases h
theorem GZ {m:List UInt8}:∀{f pos:Nat} {r:List UInt8} {out ts:List Tok},all f pos r out= .ok ts→∃us,ts=out++us++[⟨0,[],pos+r.length⟩]∧(∀t∈us,t.kind≠0)∧∀f',(r++10::m).length<f'→∃g,(10::m).length<g∧all f' pos (r++10::m) out=all g (pos+r.length) (10::m) (out++us)
 |0,_,_,_,_,h=>by cases h
 |f+1,pos,[],out,ts,h=>by
  simp only [all] at h;cases h
  exact ⟨[],by simp,by simp,fun f' hf=>⟨f',hf,by simp⟩⟩
 |f+1,pos,c::r,out,ts,h=>by
  rw [all_eq] at h
  have hsp:=DY (c::r)
  have one:(cls (c::r)=none∨∃u,cls (c::r)=some u∧u.2=0)→cls (cK (c::r)++((c::r).drop (cK (c::r)).length++10::m))=cls (c::r)∧cK (cK (c::r)++((c::r).drop (cK (c::r)).length++10::m))=cK (c::r):=by
   intro hc
   have hne:=uw hc
   cases hr:(c::r).drop (cK (c::r)).length with
   |cons b r'=>exact yT hne (Or.inl (by rw [hr];rfl))
   |nil=>
    rcases hc with hc|hc
    · have:=none_nl (m:=m) hc
      rw [hc];exact this
    · exact yT hne (Or.inr ⟨⟨10,rfl,rfl⟩,hc⟩)
  have on:∀out',(cls (c::r)=none∨∃u,cls (c::r)=some u∧u.2=0)→all f (pos+(cK (c::r)).length) ((c::r).drop (cK (c::r)).length) out'= .ok ts→(∀n,go (cls (c::r)) (cK (c::r)) pos out (all n (pos+(cK (c::r)).length) ((c::r).drop (cK (c::r)).length++10::m))=all n (pos+(cK (c::r)).length) ((c::r).drop (cK (c::r)).length++10::m) out')→
    ∃us,ts=out'++us++[⟨0,[],pos+(c::r).length⟩]∧(∀t∈us,t.kind≠0)∧∀f',(c::r++10::m).length<f'→∃g,(10::m).length<g∧all f' pos (c::r++10::m) out=all g (pos+(c::r).length) (10::m) (out'++us):=by
   intro out' hc h hgo
   obtain ⟨us,e1,e2,e3⟩:=GZ h
   obtain ⟨o1,o2⟩:=one hc
   have hw:=List.length_pos_iff.2 (uw hc)
   have hl:(cK (c::r)).length+((c::r).drop (cK (c::r)).length).length=(c::r).length:=by rw [←List.length_append,hsp]
   have hp:pos+(cK (c::r)).length+((c::r).drop (cK (c::r)).length).length=pos+(c::r).length:=by omega
   rw [hp] at e1 e3
   refine ⟨us,e1,e2,fun f' hf=> ?_⟩
   obtain ⟨n,rfl⟩:∃n,f'=n+1:=⟨f' - 1,by omega⟩
   have hf2:((c::r).drop (cK (c::r)).length++10::m).length<n:=by rw [List.length_append] at hf ⊢;omega
   obtain ⟨g,hg,eg⟩:=e3 n hf2
   refine ⟨g,hg, ?_⟩
   have es:c::r++10::m=cK (c::r)++((c::r).drop (cK (c::r)).length++10::m):=by rw [←List.append_assoc,hsp]
   rw [es,all_eq' (by simp),o1,o2,List.drop_left' rfl,hgo n,eg]
  rcases go_ok h with ⟨e,h⟩|⟨u,e,h0,h⟩
  · exact on out (Or.inl e) h fun n=>by rw [e];rfl
  · obtain ⟨us,e1,e2,e3⟩:=on _ (Or.inr ⟨u,e,h0⟩) h fun n=>by rw [e,GY h0]
    refine ⟨⟨u.1,cK (c::r),pos⟩::us,by rw [e1];simp,fun t ht=> ?_,fun f' hf=> ?_⟩
    · rcases List.mem_cons.1 ht with rfl|ht
      · exact O0 e h0
      · exact e2 t ht
    · obtain ⟨g,hg,eg⟩:=e3 f' hf
      exact ⟨g,hg,by rw [eg,List.append_assoc];rfl⟩
def Fq:List UInt8:=[10,118,97,114,32,118,32,58,32,108,32,61,32,45,32,51,59,32,112,114,111,99,32,113,40,41,32,112,99,32,108,32,117,115,101,115,32,123,32,125,32,123,32,125]
def bX:Nat→List UInt8
 |0=>[]
 |k+1=>Fq++bX k
def G5 (p:Nat):List Tok:=[⟨3,[118,97,114],p+1⟩,⟨1,[118],p+5⟩,⟨4,[58],p+7⟩,⟨1,[108],p+9⟩,⟨4,[61],p+11⟩,⟨4,[45],p+13⟩,⟨2,[51],p+15⟩,⟨4,[59],p+16⟩,⟨3,[112,114,111,99],p+18⟩,⟨1,[113],p+23⟩,⟨4,[40],p+24⟩,⟨4,[41],p+25⟩,⟨3,[112,99],p+27⟩,⟨1,[108],p+30⟩,⟨3,[117,115,101,115],p+32⟩,⟨4,[123],p+37⟩,⟨4,[125],p+39⟩,⟨4,[123],p+41⟩,⟨4,[125],p+43⟩]
def rR:Nat→Nat→List Tok
 |0,p=>[⟨0,[],p⟩]
 |k+1,p=>G5 p++rR k (p+44)
theorem pie_one (f p:Nat) (m:List UInt8):all (f+35) p (Fq++10::m) []=all f (p+44) (10::m) (G5 p):=by kernel_rfl
theorem O1 (f p:Nat):all (f+35) p Fq []=all f (p+44) [] (G5 p):=by kernel_rfl
theorem Aj:Fq.length=44:=rfl
theorem Ca (k:Nat):∃m,bX (k+1)=10::m:=⟨_,rfl⟩
theorem G6:∀(k f p:Nat),(bX k).length<f→all f p (bX k) []= .ok (rR k p)
 |0,f,p,h=>by
  obtain ⟨n,rfl⟩:∃n,f=n+1:=⟨f - 1,by simp [bX] at h;omega⟩
  rfl
 |k+1,f,p,h=>by
  rw [bX,List.length_append,Aj] at h
  obtain ⟨n,rfl⟩:∃n,f=n+35:=⟨f - 35,by omega⟩
  have ih:=G6 k n (p+44) (by omega)
  have e:all (n+35) p (Fq++bX k) []=all n (p+44) (bX k) (G5 p):=by
   cases k with
   |zero=>rw [show Fq++bX 0=Fq from by simp [bX]];exact O1 n p
   |succ k=>
    obtain ⟨m,em⟩:=Ca k
    rw [em];exact pie_one n p m
  rw [bX,e,xP,ih];rfl
end Lex
namespace Par
def pieV (p:Nat):Vr:=⟨[118],[108], -3,p+5⟩
def pieP (p:Nat):Pr:=⟨[113],[],false,[],[108],[],[],p+23⟩
theorem MC (g p:Nat) (l:List Tok) (V:List Vr) (P:List Pr):bO 0 (g+2) (Lex.G5 p++l) V P=bO 0 g l (V++[pieV p]) (P++[pieP p]):=by kernel_rfl
theorem Cb:∀(k g p:Nat) (V:List Vr) (P:List Pr),∃vs ps l,vs.length=k∧ps.length=k∧(∀v∈vs,v.init= -3)∧bO 0 (g+2 * k+1) (Lex.rR k p) V P= .ok ((V++vs,P++ps),l)
 |0,g,p,V,P=>⟨[],[],[⟨0,[],p⟩],rfl,rfl,by simp,by
  rw [List.append_nil,List.append_nil];exact kE ..⟩
 |k+1,g,p,V,P=>by
  have e:=MC (g+2 * k+1) p (Lex.rR k (p+44)) V P
  obtain ⟨vs,ps,l,h1,h2,h3,h4⟩:=Cb k g (p+44) (V++[pieV p]) (P++[pieP p])
  refine ⟨pieV p::vs,pieP p::ps,l,by simp [h1],by simp [h2],fun v hv=> ?_, ?_⟩
  · rcases List.mem_cons.1 hv with rfl|hv
    · rfl
    · exact h3 v hv
  · rw [show g+2 * (k+1)+1=(g+2 * k+1)+2 by omega]
    show bO 0 ((g+2 * k+1)+2) (Lex.G5 p++Lex.rR k (p+44)) V P=_
    rw [e,h4,List.append_assoc,List.append_assoc];rfl
theorem ME {s:List UInt8} {k:Nat} {M:Md} (h:Par.text s= .ok M) (hs:s.length≤1000) (hk:k≤9):∃vs ps,vs.length=k∧ps.length=k∧(∀v∈vs,v.init= -3)∧Par.text (s++Lex.bX k)= .ok ⟨M.name,M.at_,M.imports,M.vars++vs,M.procs++ps⟩:=by
 cases k with
 |zero=>exact ⟨[],[],rfl,rfl,by simp,by rw [List.append_nil,List.append_nil,show s++Lex.bX 0=s from List.append_nil s];exact h⟩
 |succ k=>
  have hm:(Lex.bX (k+1)).length=44 * (k+1):=by
   clear hk
   induction k with
   |zero=>rfl
   |succ k ih=>rw [Lex.bX,List.length_append,ih,Lex.Aj];omega
  obtain ⟨m,em⟩:=Lex.Ca k
  unfold Par.text at h
  cases hx:Lex.lex s with
  |error x=>rw [hx] at h;cases h
  |ok ts=>
   rw [hx] at h
   cases hd:Par.gT 0 ts with
   |error x=>simp only [hd] at h;cases h
   |ok q=>
    obtain ⟨M',l⟩:=q
    simp only [hd] at h
    cases h
    obtain ⟨us,e1,e2,e3⟩:=Lex.GZ (m:=m) (Ai hx)
    rw [List.nil_append,Nat.zero_add] at e1
    have hlen:(s++Lex.bX (k+1)).length<8192:=by rw [List.length_append,hm];omega
    obtain ⟨g,hg,eg⟩:=e3 ((s++Lex.bX (k+1)).length+1) (by rw [←em];omega)
    rw [←em] at hg eg
    have h2:=Lex.xP g s.length (Lex.bX (k+1)) us
    rw [Lex.G6 (k+1) g _ hg] at h2
    rw [List.nil_append,Nat.zero_add,h2] at eg
    have hx':Lex.lex (s++Lex.bX (k+1))= .ok (us++Lex.rR (k+1) s.length):=by
     unfold Lex.lex
     rw [if_neg (by omega)];exact eg
    have hmt:0<(Lex.rR (k+1) s.length).length:=by rw [Lex.rR,List.length_append];exact Nat.lt_of_lt_of_le (by decide:0<(Lex.G5 0).length) (Nat.le_add_right (Lex.G5 s.length).length _)
    have T:Two ts (us++Lex.rR (k+1) s.length) us.length:=by
     subst e1
     refine ⟨by simp,by simp,fun j hj=> ?_,fun t ht=> ?_⟩
     · rw [List.getElem?_append_left hj,List.getElem?_append_left hj]
     · simp at ht;subst ht;rfl
    obtain ⟨g2,hg2,eq⟩:=JB T (by subst e1;simp) (by rw [List.length_append];omega) (fun j hj=>by
     subst e1
     have hj':j<(us++[(⟨0,[],s.length⟩:Tok)]).length:=by simp;omega
     rw [List.drop_eq_getElem_cons hj']
     show ((us++[(⟨0,[],s.length⟩:Tok)])[j]).kind≠0
     rw [List.getElem_append_left hj]
     exact e2 _ (List.getElem_mem hj)) (by rw [List.drop_left' rfl];rfl) hd
    rw [List.drop_left' rfl] at eq
    rw [List.length_append,Nat.add_sub_cancel_left] at hg2
    have hml:2 * (k+1)+1≤(Lex.rR (k+1) s.length).length:=by
     have:∀j p,(Lex.rR j p).length=19 * j+1:=by
      intro j
      induction j with
      |zero=>intro p;rfl
      |succ j ih=>intro p;rw [Lex.rR,List.length_append,ih];show 19+_=_;omega
     rw [this];omega
    obtain ⟨n,rfl⟩:∃n,g2=n+2 * (k+1)+1:=⟨g2 - (2 * (k+1)+1),by omega⟩
    obtain ⟨vs,ps,l',h1,h2,h3,h4⟩:=Cb (k+1) n s.length M.vars M.procs
    rw [h4] at eq
    refine ⟨vs,ps,h1,h2,h3, ?_⟩
    unfold Par.text
    rw [hx']
    simp only [eq];rfl
end Par
end
end Go.Eng
namespace Go.Eng
noncomputable section
namespace Par
variable {α:Type} {S S1 S2 S3 S4 S5 S6 S7 S8:SQ}
theorem Res.Cc {at_:Nat} {F:Nat→List Tok→R α} {g:List Tok→R α} {x:α} (hh:∀l,S= .ok l→at_=here l) (e:∀l,F (here l) l=g l) (r:Res S (F at_) x S1):Res S g x S1:=Res.cast (fun l h=>by rw [hh l h];exact e l) r
theorem varD_bn (l:List Tok):bn (name l) (fun n l1=>bn (must [58] l1) fun _ l2=>bn (name l2) fun b l3=>bn (must [61] l3) fun _ l4=>if is [45] l4=true then iG n b (here l) true l4.tail else iG n b (here l) false l4)=lH l:=by kernel_rfl
theorem KS (n lb:List UInt8) (at_:Nat) (neg:Bool) (l:List Tok):bn (number l) (fun k l1=>bn (must [59] l1) fun _ l2=> .ok (⟨n,lb,if neg then -(k:Int) else (k:Int),at_⟩,l2))=iG n lb at_ neg l:=by kernel_rfl
theorem yR {l:List Tok} (hk:(hd l).kind=2):Res (.ok l) number (num (hd l).text) (.ok l.tail):=Res.rQ (by rw [yM];unfold of;rw [if_pos hk];rfl)
section
variable {n lb:List UInt8} {at_ y y2 z k:Nat} {neg:Bool} {x:Vr}
theorem varE_ok (q:Res S number k S1) (w:Res S1 (must [59]) z S2):Res S (iG n lb at_ neg) ⟨n,lb,if neg then -(k:Int) else (k:Int),at_⟩ S2:=Res.eqv (KS n lb at_ neg) (q.bn (w.bn (Res.pure S2 _)))
theorem varE_no (hk:∀l,S= .ok l→(hd l).kind≠2):Res S (iG n lb at_ neg) x (DC 11 S):=by cases S with
 |error z=>rfl
 |ok l=>exact Res.qR (by rw [←KS,yM];unfold of;rw [if_neg (hk l rfl)];rfl)
theorem varD_res (hh:∀l,S= .ok l→at_=here l) (h1:Res S name n S1) (w1:Res S1 (must [58]) y S2) (h2:Res S2 name lb S3) (w2:Res S3 (must [61]) y2 S4) (v:Res S4 (fun l=>if is [45] l=true then iG n lb at_ true l.tail else iG n lb at_ false l) x S5):Res S lH x S5:=
 Res.Cc (F:=fun a l=>bn (name l) fun n l1=>bn (must [58] l1) fun _ l2=>bn (name l2) fun lb l3=>bn (must [61] l3) fun _ l4=>if is [45] l4=true then iG n lb a true l4.tail else iG n lb a false l4) hh varD_bn (h1.bn (w1.bn (h2.bn (w2.bn v))))
theorem var_neg {l:List Tok} (hi:is [45] l=true) (v:Res (.ok l.tail) (iG n lb at_ true) x S5):Res (.ok l) (fun l=>if is [45] l=true then iG n lb at_ true l.tail else iG n lb at_ false l) x S5:=Res.yes (A:=fun l=>iG n lb at_ true l.tail) hi v
theorem var_pos (hi:isS [45] S=false) (v:Res S (iG n lb at_ false) x S5):Res S (fun l=>if is [45] l=true then iG n lb at_ true l.tail else iG n lb at_ false l) x S5:=Res.no hi v
end
theorem parm_bn (x:List Pm) (l:List Tok):bn (name l) (fun n l1=>bn (must [58] l1) fun _ l2=>bn (name l2) fun b l3=> .ok (x++[⟨n,b,here l⟩],l3))=pO x l:=by kernel_rfl
theorem use_bn (x:List (List UInt8)) (l:List Tok):bn (name l) (fun n l1=> .ok (x++[n],l1))=use x l:=by kernel_rfl
theorem parm_res {at_ y:Nat} {n b:List UInt8} {x:List Pm} (hh:∀l,S= .ok l→at_=here l) (h1:Res S name n S1) (w:Res S1 (must [58]) y S2) (h2:Res S2 name b S3):Res S (pO x) (x++[⟨n,b,at_⟩]) S3:=
 Res.Cc (F:=fun a l=>bn (name l) fun n l1=>bn (must [58] l1) fun _ l2=>bn (name l2) fun b l3=> .ok (x++[⟨n,b,a⟩],l3)) hh (parm_bn x) (h1.bn (w.bn (h2.bn (Res.pure S3 _))))
theorem use_res {n:List UInt8} {x:List (List UInt8)} (h1:Res S name n S1):Res S (use x) (x++[n]) S1:=Res.eqv (use_bn x) (h1.bn (Res.pure S1 _))
theorem O3 (d:Nat) (q:Pr) (l:List Tok):bn (must [112,99] l) (fun _ l1=>bn (name l1) fun pc l2=>bn (must [117,115,101,115] l2) fun _ l3=>bn (must [123] l3) fun _ l4=>bn (several use [125] l4 []) fun us l5=>bn (block d l5) fun b l6=> .ok ({q with pc:=pc,uses:=us,body:=b},l6))=dW d q l:=by kernel_rfl
theorem KU (d:Nat) (l:List Tok):bn (name l) (fun n l1=>bn (must [40] l1) fun _ l2=>bn (several pO [41] l2 []) fun ps l3=>if is [45,62] l3=true then bn (name l3.tail) (fun r l4=>dW d ⟨n,ps,true,r,[],[],[],here l⟩ l4) else dW d ⟨n,ps,false,[],[],[],[],here l⟩ l3)=proc d l:=by kernel_rfl
section
variable {d at_ y y2 y3:Nat} {n r pc:List UInt8} {ps:List Pm} {us:List (List UInt8)} {b:List Sm} {q:Pr}
theorem procB_res (w1:Res S (must [112,99]) y S1) (h:Res S1 name pc S2) (w2:Res S2 (must [117,115,101,115]) y2 S3) (w3:Res S3 (must [123]) y3 S4) (u:Res S4 (fun l=>several use [125] l []) us S5) (bl:Res S5 (block d) b S6):Res S (dW d q) {q with pc:=pc,uses:=us,body:=b} S6:=
 Res.eqv (O3 d q) (w1.bn (h.bn (w2.bn (w3.bn (u.bn (bl.bn (Res.pure S6 _)))))))
theorem proc_arrow {x:Pr} {l:List Tok} (hh:∀l,S= .ok l→at_=here l) (h1:Res S name n S1) (w:Res S1 (must [40]) y S2) (p:Res S2 (fun l=>several pO [41] l []) ps (.ok l)) (hi:is [45,62] l=true) (h2:Res (.ok l.tail) name r S4) (v:Res S4 (dW d ⟨n,ps,true,r,[],[],[],at_⟩) x S5):Res S (proc d) x S5:=
 Res.Cc (F:=fun a l=>bn (name l) fun n l1=>bn (must [40] l1) fun _ l2=>bn (several pO [41] l2 []) fun ps l3=>if is [45,62] l3=true then bn (name l3.tail) (fun r l4=>dW d ⟨n,ps,true,r,[],[],[],a⟩ l4) else dW d ⟨n,ps,false,[],[],[],[],a⟩ l3) hh (KU d) (h1.bn (w.bn (p.bn (Res.yes (A:=fun l3=>bn (name l3.tail) (fun r l4=>dW d ⟨n,ps,true,r,[],[],[],at_⟩ l4)) hi (Res.bn (S:= .ok l) (f:=fun l3=>name l3.tail) (g:=fun r l4=>dW d ⟨n,ps,true,r,[],[],[],at_⟩ l4) h2 v)))))
theorem proc_plain {x:Pr} (hh:∀l,S= .ok l→at_=here l) (h1:Res S name n S1) (w:Res S1 (must [40]) y S2) (p:Res S2 (fun l=>several pO [41] l []) ps S3) (hi:isS [45,62] S3=false) (v:Res S3 (dW d ⟨n,ps,false,[],[],[],[],at_⟩) x S5):Res S (proc d) x S5:=
 Res.Cc (F:=fun a l=>bn (name l) fun n l1=>bn (must [40] l1) fun _ l2=>bn (several pO [41] l2 []) fun ps l3=>if is [45,62] l3=true then bn (name l3.tail) (fun r l4=>dW d ⟨n,ps,true,r,[],[],[],a⟩ l4) else dW d ⟨n,ps,false,[],[],[],[],a⟩ l3) hh (KU d) (h1.bn (w.bn (p.bn (Res.no hi v))))
end
theorem G7 (k:Nat) (l:List Tok) (x:List Im):fq (k+1) l x=if is [105,109,112,111,114,116] l=true then bn (name l.tail) (fun n l1=>bn (must [59] l1) fun _ l2=>fq k l2 (x++[⟨n,here l.tail⟩])) else .ok (x,l):=by kernel_rfl
theorem imps_step {k y at_:Nat} {l:List Tok} {n:List UInt8} {x u:List Im} (hi:is [105,109,112,111,114,116] l=true) (hh:at_=here l.tail) (h1:Res (.ok l.tail) name n S1) (w:Res S1 (must [59]) y S2) (r:Res S2 (fun l=>fq k l (x++[⟨n,at_⟩])) u S3):Res (.ok l) (fun l=>fq (k+1) l x) u S3:=by
 subst hh
 exact Res.one (G:=fun _=>bn (name l.tail) (fun n l1=>bn (must [59] l1) fun _ l2=>fq k l2 (x++[⟨n,here l.tail⟩]))) (by show fq (k+1) l x=_;rw [G7,if_pos hi]) (Res.bn (S:= .ok l) (f:=fun _=>name l.tail) (g:=fun n l1=>bn (must [59] l1) fun _ l2=>fq k l2 (x++[⟨n,here l.tail⟩])) h1 (w.bn r))
theorem imps_stop {k:Nat} {x:List Im} (hn:isS [105,109,112,111,114,116] S=false) (hk:∀l,S= .ok l→1≤k):Res S (fun l=>fq k l x) x S:=by cases S with
 |error z=>rfl
 |ok l=>
  have hn:is [105,109,112,111,114,116] l=false:=hn
  obtain ⟨k,rfl⟩:∃m,k=m+1:=⟨k - 1,by have:=hk l rfl;omega⟩
  exact Res.rQ (by rw [G7,if_neg (by rw [hn];decide)])
theorem vg (d k:Nat) (l:List Tok) (vs:List Vr) (ps:List Pr):bO d (k+1) l vs ps=if (hd l).kind=0 then .ok ((vs,ps),l) else if is [118,97,114] l=true then bn (lH l.tail) (fun v l1=>bO d k l1 (vs++[v]) ps) else bn (must [112,114,111,99] l) fun _ l1=>bn (proc d l1) fun p l2=>bO d k l2 vs (ps++[p]):=by kernel_rfl
section
variable {d k:Nat} {l:List Tok} {vs:List Vr} {ps:List Pr} {u:List Vr×List Pr}
theorem decls_var {v:Vr} (h0:(hd l).kind≠0) (hi:is [118,97,114] l=true) (q:Res (.ok l.tail) lH v S1) (r:Res S1 (fun l=>bO d k l (vs++[v]) ps) u S2):Res (.ok l) (fun l=>bO d (k+1) l vs ps) u S2:=
 Res.one (G:=fun _=>bn (lH l.tail) (fun v l1=>bO d k l1 (vs++[v]) ps)) (by show bO d (k+1) l vs ps=_;rw [vg,if_neg h0,if_pos hi]) (Res.bn (S:= .ok l) (f:=fun _=>lH l.tail) (g:=fun v l1=>bO d k l1 (vs++[v]) ps) q r)
theorem decls_proc {p:Pr} (h0:(hd l).kind≠0) (hv:is [118,97,114] l=false) (hi:is [112,114,111,99] l=true) (q:Res (.ok l.tail) (proc d) p S1) (r:Res S1 (fun l=>bO d k l vs (ps++[p])) u S2):Res (.ok l) (fun l=>bO d (k+1) l vs ps) u S2:=
 Res.one (G:=fun _=>bn (proc d l.tail) (fun p l1=>bO d k l1 vs (ps++[p]))) (by show bO d (k+1) l vs ps=_;rw [vg,if_neg h0,if_neg (by rw [hv];decide),tV hi];rfl) (Res.bn (S:= .ok l) (f:=fun _=>proc d l.tail) (g:=fun p l1=>bO d k l1 vs (ps++[p])) q r)
theorem decls_no {F:List Tok→R (List Vr×List Pr)} (h0:(hd l).kind≠0) (hv:is [118,97,114] l=false) (hi:is [112,114,111,99] l=false) (r:Res (DC 11 (.ok l)) F u S2):Res (.ok l) (fun l=>bO d (k+1) l vs ps) u S2:=by
 have r:S2= .error (11,here l):=r
 subst r
 exact Res.qR (by rw [vg,if_neg h0,if_neg (by rw [hv];decide),BH hi];rfl)
theorem decls_end (h0:(hd l).kind=0):Res (.ok l) (fun l=>bO d (k+1) l vs ps) (vs,ps) (.ok l):=Res.rQ (by rw [vg,if_pos h0])
end
theorem O4 (d:Nat) (l:List Tok):bn (must [109,111,100,117,108,101] l) (fun _ l1=>bn (name l1) fun n l2=>bn (must [59] l2) fun _ l3=>bn (fq l3.length l3 []) fun is l4=>bn (bO d l4.length l4 [] []) fun x l5=> .ok (⟨n,here l1,is,x.1,x.2⟩,l5))=gT d l:=by kernel_rfl
theorem modul_res {d y y2 at_:Nat} {n:List UInt8} {is:List Im} {x:List Vr×List Pr} (w1:Res S (must [109,111,100,117,108,101]) y S1) (hh:∀l,S1= .ok l→at_=here l) (h1:Res S1 name n S2) (w2:Res S2 (must [59]) y2 S3) (i:Res S3 (fun l=>fq l.length l []) is S4) (q:Res S4 (fun l=>bO d l.length l [] []) x S5):Res S (gT d) ⟨n,at_,is,x.1,x.2⟩ S5:=
 Res.eqv (O4 d) (w1.bn (Res.Cc (F:=fun a l1=>bn (name l1) fun n l2=>bn (must [59] l2) fun _ l3=>bn (fq l3.length l3 []) fun is l4=>bn (bO d l4.length l4 [] []) fun x l5=> .ok ((⟨n,a,is,x.1,x.2⟩:Md),l5)) (g:=fun l1=>bn (name l1) fun n l2=>bn (must [59] l2) fun _ l3=>bn (fq l3.length l3 []) fun is l4=>bn (bO d l4.length l4 [] []) fun x l5=> .ok ((⟨n,here l1,is,x.1,x.2⟩:Md),l5)) hh (fun _=>rfl) (h1.bn (w2.bn (i.bn (q.bn (Res.pure S5 _)))))))
end Par
theorem XAt.dig_ {p:RP} {i:Nat} {l:List Tok} {t:Tok} (h:XAt p i 0 0 (.ok l)) (ht:p.ts[i]? =some t) (hk:t.kind=2):pG t.text:=by
 have hd:=h.hd ht
 obtain ⟨u,l',rfl⟩:=h.ok0.2.2.cons
 have e:u=t:=hd
 subst e
 exact h.ok0.2.2.num u (by simp) hk
theorem adv_t {a b c eb:Nat} (h1:a≤b+min eb 1) (h2:b+1≤c):a≤c:=by omega
theorem PrR.of {h:Heap} {p:Pr} {vp vu vb:V} (h1:Rows 3 h vp (p.params.map Pm.row)) (h2:Rows 1 h vu (p.uses.map fH)) (h3:pJ h vb p.body):PrR h p [L.str p.name,vp, .bool p.has,L.str p.result,L.str p.pc,vu,vb, .int .i64 (p.at_:Int)]:=⟨vp,vu,vb,rfl,h1,h2,h3⟩
end
end Go.Eng
namespace Go.Eng
noncomputable section
def Nd.er (n:Nd):Nd:={n with at_:=0}
def nu (b:Bool) (es es':List Nd):Prop:=es.map Nd.er=es'.map Nd.er∧(b=true→es=es')
theorem nu.len {b:Bool} {es es':List Nd} (h:nu b es es'):es'.length=es.length:=by simpa using (congrArg List.length h.1).symm
theorem nu.at_ {b:Bool} {es es':List Nd} (h:nu b es es') {i:Nat} {x y:Nd} (hb:b=true) (hx:es[i]? =some x) (hy:es'[i]? =some y):x.at_=y.at_:=by
 rw [←h.2 hb,hx] at hy;cases hy;rfl
def Cg (b:Bool) (as as':List (List Nd)):Prop:=as'.length=as.length∧∀(i:Nat) (e e':List Nd),as[i]? =some e→as'[i]? =some e'→nu b e e'
mutual
inductive JC (b:Bool):Sm→Sm→Prop
 |mk {k a a':Nat} {m n l:List UInt8} {hs:Bool} {tm t:List UInt8} {e e':List Nd} {as as':List (List Nd)} {bd bd' el el':List Sm} (ha:b=true→a=a') (he:nu b e e') (has:Cg b as as') (hb:lJ b bd bd') (hl:lJ b el el'):
   JC b (.mk k a m n l hs tm t e as bd el) (.mk k a' m n l hs tm t e' as' bd' el')
inductive lJ (b:Bool):List Sm→List Sm→Prop
 |nil:lJ b [] []
 |cons {s s':Sm} {l l':List Sm} (hs:JC b s s') (hl:lJ b l l'):lJ b (s::l) (s'::l')
end
theorem lJ.len {b:Bool}:∀{l l':List Sm},lJ b l l'→l'.length=l.length
 |_,_, .nil=>rfl
 |_,_, .cons _ h=>by simp [h.len]
theorem lJ.at_ {b:Bool}:∀{l l':List Sm} {i:Nat} {s:Sm},lJ b l l'→l[i]? =some s→∃s',l'[i]? =some s'∧JC b s s'
 |_,_,_,_, .nil,h=>by simp at h
 |_,_,0,s, .cons hs _,h=>by simp at h;subst h;exact ⟨_,rfl,hs⟩
 |_,_,i+1,s, .cons _ hl,h=>by
  obtain ⟨s',h1,h2⟩:=hl.at_ (i:=i) (s:=s) (by simpa using h)
  exact ⟨s',by simpa using h1,h2⟩
def iE (as:List (List Nd)):Nat:=as.foldr (fun e n=>1+e.length+n) 0
theorem yV:∀{as:List (List Nd)} {i:Nat} {e:List Nd},as[i]? =some e→e.length≤iE as
 |[],_,_,h=>by simp at h
 |a::as,0,e,h=>by simp at h;subst h;simp [iE];omega
 |a::as,i+1,e,h=>by
  have:=yV (as:=as) (i:=i) (e:=e) (by simpa using h)
  simp [iE] at this ⊢;omega
theorem wL:∀as:List (List Nd),as.length≤iE as
 |[]=>by simp
 |a::as=>by have:=wL as;simp [iE] at this ⊢;omega
mutual
def Sm.sz:Sm→Nat
 | .mk _ _ _ _ _ _ _ _ e as bd el=>1+e.length+iE as+Sms.sz bd+Sms.sz el
def Sms.sz:List Sm→Nat
 |[]=>0
 |s::l=>Sm.sz s+Sms.sz l
end
theorem Sms.O5:∀{l:List Sm} {i:Nat} {s:Sm},l[i]? =some s→Sm.sz s≤Sms.sz l
 |[],_,_,h=>by simp at h
 |a::l,0,s,h=>by simp at h;subst h;simp [Sms.sz]
 |a::l,i+1,s,h=>by
  have:=Sms.O5 (l:=l) (i:=i) (s:=s) (by simpa using h)
  simp [Sms.sz];omega
theorem Sm.sz_pos (s:Sm):1≤Sm.sz s:=by cases s;simp [Sm.sz];omega
theorem Sms.O6:∀l:List Sm,l.length≤Sms.sz l
 |[]=>by simp
 |s::l=>by have:=Sms.O6 l;have:=Sm.sz_pos s;simp [Sms.sz];omega
theorem bH.at_ {h:Heap}:∀{l:List Sm} {rw:List (List V)} {i:Nat} {s:Sm},bH h l rw→l[i]? =some s→∃row,rw[i]? =some row∧SmR h s row
 |[],_,_,_,_,h=>by simp at h
 |a::l,rw,0,s,hr,h=>by
  simp only [bH] at hr
  obtain ⟨r,rs,rfl,h1,_⟩:=hr
  simp at h;subst h;exact ⟨r,rfl,h1⟩
 |a::l,rw,i+1,s,hr,h=>by
  simp only [bH] at hr
  obtain ⟨r,rs,rfl,_,h2⟩:=hr
  obtain ⟨row,h3,h4⟩:=bH.at_ (i:=i) (s:=s) h2 (by simpa using h)
  exact ⟨row,by simpa using h3,h4⟩
theorem bH.len {h:Heap}:∀{l:List Sm} {rw:List (List V)},bH h l rw→rw.length=l.length
 |[],rw,hr=>by simp only [bH] at hr;subst hr;rfl
 |a::l,rw,hr=>by
  simp only [bH] at hr
  obtain ⟨r,rs,rfl,_,h2⟩:=hr
  simp [h2.len]
theorem St.smAt {fs:List Fact} {h:Heap} {l:List Sm} {rw:List (List V)} {i k a:Nat} {m n lb:List UInt8} {hs:Bool} {tm t:List UInt8} {e:List Nd} {as:List (List Nd)} {bd el:List Sm} (st:St (.stb (fun h=>bH h l rw)::fs) h) (hi:l[i]? =some (.mk k a m n lb hs tm t e as bd el)):
  ∃ve va vb vl,rw[i]? =some [.int .i64 (k:Int), .int .i64 (a:Int),L.str m,L.str n,L.str lb, .bool hs,L.str tm,L.str t,ve,va,vb,vl]∧
   St (.stb (fun h=>Rows 7 h ve (e.map Nd.row)):: .stb (fun h=>Gq h va as):: .stb (fun h=>pJ h vb bd):: .stb (fun h=>pJ h vl el):: .stb (fun h=>bH h l rw)::fs) h:=by
 obtain ⟨row,h1,h2⟩:=(st.aF 0 rfl).at_ hi
 simp only [SmR] at h2
 obtain ⟨ve,va,vb,vl,rfl,_⟩:=h2
 refine ⟨ve,va,vb,vl,h1, ?_⟩
 have all:∀h,bH h l rw→Rows 7 h ve (e.map Nd.row)∧Gq h va as∧pJ h vb bd∧pJ h vl el:=by
  intro h hr
  obtain ⟨row',g1,g2⟩:=hr.at_ hi
  rw [h1] at g1
  cases g1
  simp only [SmR] at g2
  obtain ⟨ve',va',vb',vl',ge,g3,g4,g5,g6⟩:=g2
  simp only [List.cons.injEq,true_and,and_true] at ge
  obtain ⟨rfl,rfl,rfl,rfl⟩:=ge
  exact ⟨g3,g4,g5,g6⟩
 have s1:=st.imp fun h hr=>(all h hr).2.2.2
 have s2:=((s1.pick 1 rfl).imp fun h hr=>(all h hr).2.2.1)
 have s3:=((s2.pick 1 rfl).imp fun h hr=>(all h hr).2.1)
 have s4:=((s3.pick 1 rfl).imp fun h hr=>(all h hr).1)
 exact ((((s4.pick 1 rfl).pick 4 rfl).pick 4 rfl).pick 4 rfl).pick 4 rfl
theorem St.argsAt {fs:List Fact} {h:Heap} {va:V} {as:List (List Nd)} (st:St (.stb (fun h=>Gq h va as)::fs) h):
  ∃vs:List V,St (.stb (fun h=>Rows 1 h va (vs.map fun x=>[x])):: .stb (fun h=>dh h as vs)::fs) h:=by
 have s0:St (.stb (fun h=>∃rows,Rows 1 h va rows∧∃vs:List V,rows=vs.map (fun x=>[x])∧dh h as vs)::fs) h:=
  st.kI fun h ⟨vs,h1,h2⟩=>⟨_,h1,vs,rfl,h2⟩
 obtain ⟨rows,s1⟩:=s0.E8
 obtain ⟨vs,rfl,_⟩:=s1.aF 1 rfl
 refine ⟨vs, ?_⟩
 have s2:=(s1.pick 1 rfl).kI (Q:=fun h=>dh h as vs) fun h ⟨vs',e,hr⟩=>by
  have hinj:vs'=vs:=by
   have:=congrArg (fun l:List (List V)=>l.map fun r=>r.headD .bot) e
   simpa [List.map_map,Function.comp_def] using this.symm
  subst hinj;exact hr
 exact s2.pick 1 rfl
theorem dh.at_ {h:Heap}:∀{as:List (List Nd)} {vs:List V} {i:Nat} {e:List Nd},dh h as vs→as[i]? =some e→∃v,vs[i]? =some v∧Rows 7 h v (e.map Nd.row)
 |[],_,_,_,_,h=>by simp at h
 |a::as,[],_,_,hr,_=>by simp [dh] at hr
 |a::as,v::vs,0,e,hr,h=>by
  simp only [dh] at hr
  simp at h;subst h;exact ⟨v,rfl,hr.1⟩
 |a::as,v::vs,i+1,e,hr,h=>by
  simp only [dh] at hr
  obtain ⟨w,h1,h2⟩:=dh.at_ (i:=i) (e:=e) hr.2 (by simpa using h)
  exact ⟨w,by simpa using h1,h2⟩
theorem St.KV {fs:List Fact} {h:Heap} {as:List (List Nd)} {vs:List V} {i:Nat} {e:List Nd} (st:St (.stb (fun h=>dh h as vs)::fs) h) (hi:as[i]? =some e):
  ∃v,vs[i]? =some v∧St (.stb (fun h=>Rows 7 h v (e.map Nd.row)):: .stb (fun h=>dh h as vs)::fs) h:=by
 obtain ⟨v,h1,_⟩:=(st.aF 0 rfl).at_ hi
 refine ⟨v,h1,st.imp fun h hr=> ?_⟩
 obtain ⟨w,g1,g2⟩:=hr.at_ hi
 rw [h1] at g1;cases g1;exact g2
end
end Go.Eng
namespace Go.Eng
noncomputable section
structure kQ {α:Type} (R:α→α→Prop) (l l':List α):Prop where
 len:l'.length=l.length
 at_:∀(i:Nat) (x y:α),l[i]? =some x→l'[i]? =some y→R x y
structure ImEq (b:Bool) (x y:Im):Prop where
 name:x.name=y.name
 at_:b=true→x.at_=y.at_
structure O7 (b:Bool) (x y:Vr):Prop where
 name:x.name=y.name
 label:x.label=y.label
 init:x.init=y.init
 at_:b=true→x.at_=y.at_
structure PmEq (b:Bool) (x y:Pm):Prop where
 name:x.name=y.name
 label:x.label=y.label
 at_:b=true→x.at_=y.at_
structure PrEq (b:Bool) (x y:Pr):Prop where
 name:x.name=y.name
 has:x.has=y.has
 result:x.result=y.result
 pc:x.pc=y.pc
 uses:x.uses=y.uses
 params:kQ (PmEq b) x.params y.params
 body:lJ b x.body y.body
 at_:b=true→x.at_=y.at_
structure O8 (b:Bool) (x y:Md):Prop where
 name:x.name=y.name
 at_:b=true→x.at_=y.at_
 imports:kQ (ImEq b) x.imports y.imports
 vars:kQ (O7 b) x.vars y.vars
 procs:kQ (PrEq b) x.procs y.procs
structure G8 (m:Md):Prop where
 imports:m.imports.length<4294967296
 vars:m.vars.length<4294967296
 procs:m.procs.length<4294967296
 proc:∀p∈m.procs,p.params.length<4294967296∧p.uses.length<4294967296∧Sms.sz p.body<4294967296
theorem cB.at_ {h:Heap}:∀{l:List Pr} {rw:List (List V)} {i:Nat} {s:Pr},cB h l rw→l[i]? =some s→∃row,rw[i]? =some row∧PrR h s row
 |[],_,_,_,_,h=>by simp at h
 |a::l,rw,0,s,hr,h=>by
  simp only [cB] at hr
  obtain ⟨r,rs,rfl,h1,_⟩:=hr
  simp at h;subst h;exact ⟨r,rfl,h1⟩
 |a::l,rw,i+1,s,hr,h=>by
  simp only [cB] at hr
  obtain ⟨r,rs,rfl,_,h2⟩:=hr
  obtain ⟨row,h3,h4⟩:=cB.at_ (i:=i) (s:=s) h2 (by simpa using h)
  exact ⟨row,by simpa using h3,h4⟩
theorem cB.len {h:Heap}:∀{l:List Pr} {rw:List (List V)},cB h l rw→rw.length=l.length
 |[],rw,hr=>by simp only [cB] at hr;subst hr;rfl
 |a::l,rw,hr=>by
  simp only [cB] at hr
  obtain ⟨r,rs,rfl,_,h2⟩:=hr
  simp [h2.len]
theorem St.prAt {fs:List Fact} {h:Heap} {l:List Pr} {rw:List (List V)} {i:Nat} {p:Pr} (st:St (.stb (fun h=>cB h l rw)::fs) h) (hi:l[i]? =some p):
  ∃vp vu vb,rw[i]? =some [L.str p.name,vp, .bool p.has,L.str p.result,L.str p.pc,vu,vb, .int .i64 (p.at_:Int)]∧
   St (.stb (fun h=>Rows 3 h vp (p.params.map Pm.row)):: .stb (fun h=>Rows 1 h vu (p.uses.map fH)):: .stb (fun h=>pJ h vb p.body):: .stb (fun h=>cB h l rw)::fs) h:=by
 obtain ⟨row,h1,vp,vu,vb,rfl,_⟩:=(st.aF 0 rfl).at_ hi
 refine ⟨vp,vu,vb,h1, ?_⟩
 have all:∀h,cB h l rw→Rows 3 h vp (p.params.map Pm.row)∧Rows 1 h vu (p.uses.map fH)∧pJ h vb p.body:=by
  intro h hr
  obtain ⟨row',g1,vp',vu',vb',ge,g3,g4,g5⟩:=hr.at_ hi
  rw [h1,ge] at g1
  simp only [Option.some.injEq,List.cons.injEq,true_and,and_true] at g1
  obtain ⟨rfl,rfl,rfl⟩:=g1
  exact ⟨g3,g4,g5⟩
 have s1:=st.imp fun h hr=>(all h hr).2.2
 have s2:=((s1.pick 1 rfl).imp fun h hr=>(all h hr).2.1)
 have s3:=((s2.pick 1 rfl).imp fun h hr=>(all h hr).1)
 exact (((s3.pick 1 rfl).pick 3 rfl).pick 3 rfl).pick 3 rfl
theorem St.mdAt {fs:List Fact} {h:Heap} {m:Md} {row:List V} (st:St (.stb (fun h=>MdR h m row)::fs) h):
  ∃vi vv vp rw,row=[L.str m.name, .int .i64 (m.at_:Int),vi,vv,vp]∧
   St (.stb (fun h=>Rows 2 h vi (m.imports.map Im.row)):: .stb (fun h=>Rows 4 h vv (m.vars.map Vr.row)):: .stb (fun h=>Rows 8 h vp rw):: .stb (fun h=>cB h m.procs rw)::fs) h:=by
 obtain ⟨vi,vv,vp,rfl,_⟩:=st.aF 0 rfl
 have all:∀h,MdR h m [L.str m.name, .int .i64 (m.at_:Int),vi,vv,vp]→Rows 2 h vi (m.imports.map Im.row)∧Rows 4 h vv (m.vars.map Vr.row)∧∃rows,Rows 8 h vp rows∧cB h m.procs rows:=by
  intro h hr
  obtain ⟨vi',vv',vp',ge,g3,g4,g5⟩:=hr
  simp only [List.cons.injEq,true_and,and_true] at ge
  obtain ⟨rfl,rfl,rfl⟩:=ge
  exact ⟨g3,g4,g5⟩
 have s1:=st.imp fun h hr=>(all h hr).1
 have s2:=((s1.pick 1 rfl).imp fun h hr=>(all h hr).2.1)
 have s3:=((s2.pick 1 rfl).kI fun h hr=>(all h hr).2.2)
 obtain ⟨rw,s4⟩:=s3.E8
 refine ⟨vi,vv,vp,rw,rfl, ?_⟩
 exact (s4.pick 2 rfl).pick 3 rfl
end
end Go.Eng
namespace Go.Eng
noncomputable section
namespace Par
def Tok.er (t:Tok):Nat×List UInt8:=(t.kind,t.text)
def Alike (l l':List Tok):Prop:=l.map Tok.er=l'.map Tok.er
theorem Alike.len {l l':List Tok} (h:Alike l l'):l.length=l'.length:=by simpa using congrArg List.length h
theorem Alike.hd {l l':List Tok} (h:Alike l l'):(Par.hd l).kind=(Par.hd l').kind∧(Par.hd l).text=(Par.hd l').text:=by
 cases l with
 |nil=>cases l' with
  |nil=>exact ⟨rfl,rfl⟩
  |cons a l'=>cases h
 |cons b l=>cases l' with
  |nil=>cases h
  |cons a l'=>
   have:=(List.cons.inj h).1
   exact ⟨congrArg Prod.fst this,congrArg Prod.snd this⟩
theorem Alike.tail {l l':List Tok} (h:Alike l l'):Alike l.tail l'.tail:=by
 cases l with
 |nil=>cases l' with
  |nil=>exact rfl
  |cons a l'=>cases h
 |cons b l=>cases l' with
  |nil=>cases h
  |cons a l'=>exact (List.cons.inj h).2
theorem Alike.is {l l':List Tok} (h:Alike l l') (s:List UInt8):Par.is s l=Par.is s l':=by
 unfold Par.is;rw [h.hd.1,h.hd.2]
theorem Alike.find {l l':List Tok} (h:Alike l l') (ops:List Opn):Par.find ops l=Par.find ops l':=by
 unfold Par.find;congr 1;funext o;rw [h.is]
section
variable {α β:Type}
def Lk (X:α→α→Prop) (r r':R α):Prop:=(∃x x' l l',r= .ok (x,l)∧r'= .ok (x',l')∧X x x'∧Alike l l')∨∃e a a',r= .error (e,a)∧r'= .error (e,a')
theorem Lk.ret {X:α→α→Prop} {x x':α} {l l':List Tok} (hx:X x x') (hl:Alike l l'):Lk X (.ok (x,l)) (.ok (x',l')):=Or.inl ⟨x,x',l,l',rfl,rfl,hx,hl⟩
theorem Lk.bnd {X:α→α→Prop} {Y:β→β→Prop} {r r':R α} {f f':α→List Tok→R β} (h:Lk X r r') (K:∀x x' l l',X x x'→Alike l l'→Lk Y (f x l) (f' x' l')):Lk Y (Par.bnd r f) (Par.bnd r' f'):=by
 rcases h with ⟨x,x',l,l',rfl,rfl,hx,hl⟩|⟨e,a,a',rfl,rfl⟩
 · exact K x x' l l' hx hl
 · exact Or.inr ⟨e,a,a',rfl,rfl⟩
theorem Lk.ite {X:α→α→Prop} {c c':Prop} [Decidable c] [Decidable c'] {a a' b b':R α} (hc:c↔c') (h1:Lk X a a') (h2:Lk X b b'):Lk X (if c then a else b) (if c' then a' else b'):=by
 by_cases h:c
 · rw [if_pos h,if_pos (hc.1 h)];exact h1
 · rw [if_neg h,if_neg fun g=>h (hc.2 g)];exact h2
theorem Lk.isc {X:α→α→Prop} {l l':List Tok} {s:List UInt8} {a a' b b':R α} (hl:Alike l l') (h1:Lk X a a') (h2:Lk X b b'):Lk X (if is s l=true then a else b) (if is s l'=true then a' else b'):=Lk.ite (by rw [hl.is]) h1 h2
theorem vk {X:α→α→Prop} {e:Nat} {l l':List Tok}:Lk X (fail e l) (fail e l'):=Or.inr ⟨e,_,_,rfl,rfl⟩
def Any (_ _:Nat):Prop:=True
theorem gJ {l l':List Tok} (s:List UInt8) (h:Alike l l'):Lk Any (must s l) (must s l'):=by
 unfold must
 exact Lk.isc h (Lk.ret trivial h.tail) vk
theorem of_lk {l l':List Tok} (k:Nat) (h:Alike l l'):Lk (fun t t':Tok=>t.text=t'.text) (of k l) (of k l'):=by
 unfold of
 exact Lk.ite (by rw [h.hd.1]) (Lk.ret h.hd.2 h.tail) vk
theorem jC {l l':List Tok} (h:Alike l l'):Lk Eq (name l) (name l'):=by
 rw [xC,xC]
 exact Lk.bnd (of_lk 1 h) fun t t' m m' ht hm=>Lk.ret ht hm
theorem DZ {l l':List Tok} (h:Alike l l'):Lk Eq (number l) (number l'):=by
 rw [number_eq,number_eq]
 exact Lk.bnd (of_lk 2 h) fun t t' m m' ht hm=>Lk.ret (by rw [ht]) hm
theorem xQ {l l':List Tok} (h:Alike l l'):Lk Eq (fM l) (fM l'):=by
 rw [tX,tX]
 refine Lk.bnd (jC h) fun a a' m m' ha hm=> ?_
 subst ha
 refine Lk.isc hm ?_ (Lk.ret rfl hm)
 exact Lk.bnd (jC hm.tail) fun b b' n n' hb hn=>Lk.ret (by rw [hb]) hn
def NX (x x':Nat×List Nd):Prop:=x.1=x'.1∧x.2.map Nd.er=x'.2.map Nd.er
theorem NX.snoc {ns ns':List Nd} (h:ns.map Nd.er=ns'.map Nd.er) {n n':Nd} (hn:n.er=n'.er):NX (ns.length,ns++[n]) (ns'.length,ns'++[n']):=by
 refine ⟨by simpa using congrArg List.length h, ?_⟩
 simp only [List.map_append,h,List.map_cons,hn]
def CP (un:E):Prop:=∀d l l' ns ns',Alike l l'→ns.map Nd.er=ns'.map Nd.er→Lk NX (un d l ns) (un d l' ns')
theorem JD {X:α→α→Prop} {ops:List Opn} {l l':List Tok} {a a':R α} {g g':Opn→R α} (h:Alike l l') (h0:Lk X a a') (h1:∀o,Lk X (g o) (g' o)):Lk X (fnd (find ops l) a g) (fnd (find ops l') a' g'):=by
 rw [h.find]
 cases find ops l' with
 |none=>exact h0
 |some o=>exact h1 o
theorem D5 {un:E} (U:CP un) {ops:List Opn} {d:Nat}:∀(f:Nat) {l l':List Tok} {a a':Nat} {ns ns':List Nd},Alike l l'→a=a'→ns.map Nd.er=ns'.map Nd.er→Lk NX (eX un ops f d l a ns) (eX un ops f d l' a' ns')
 |0,_,_,_,_,_,_,hl,ha,hn=>Lk.ret ⟨ha,hn⟩ hl
 |f+1,l,l',a,a',ns,ns',hl,ha,hn=>by
  subst ha
  rw [qo,qo]
  refine JD hl (Lk.ret ⟨rfl,hn⟩ hl) fun o=> ?_
  refine Lk.bnd (U d _ _ _ _ hl.tail hn) fun x x' m m' hx hm=> ?_
  have hs:=NX.snoc hx.2 (n:=⟨o.2,0,[],[],(a:Int),(x.1:Int),here l⟩) (n':=⟨o.2,0,[],[],(a:Int),(x'.1:Int),here l'⟩) (by simp [Nd.er,hx.1])
  exact D5 U f hm hs.1 hs.2
theorem G9 {un:E} (U:CP un) (ops:List Opn):CP (chain un ops):=by
 intro d l l' ns ns' hl hn
 rw [tY,tY]
 refine Lk.bnd (U d _ _ _ _ hl hn) fun x x' m m' hx hm=> ?_
 rw [hm.len]
 exact D5 U _ hm hx.1 hx.2
theorem O9 {un:E} (U:CP un):CP (sum un):=G9 (G9 U _) _
theorem He {un:E} (U:CP un):CP (whole un):=by
 intro d l l' ns ns' hl hn
 rw [tZ,tZ]
 refine Lk.bnd (O9 U d _ _ _ _ hl hn) fun x x' m m' hx hm=> ?_
 refine JD hm (Lk.ret hx hm) fun o=> ?_
 refine Lk.bnd (O9 U d _ _ _ _ hm.tail hx.2) fun y y' n n' hy hn=> ?_
 exact Lk.ret (NX.snoc hy.2 (by simp [Nd.er,hx.1,hy.1])) hn
theorem MF {un:E} (U:CP un):CP (fU un):=by
 intro d l l' ns ns' hl hn
 rw [qp,qp]
 refine JD hl ?_ fun o=> ?_
 · refine Lk.isc hl (Lk.ite Iff.rfl vk ?_) (Lk.ite (by rw [hl.hd.1]) ?_ ?_)
   · refine Lk.bnd (He U _ _ _ _ _ hl.tail hn) fun x x' m m' hx hm=> ?_
     exact Lk.bnd (gJ _ hm) fun _ _ n n' _ hn=>Lk.ret hx hn
   · refine Lk.bnd (DZ hl) fun k k' m m' hk hm=> ?_
     exact Lk.ret (NX.snoc hn (by simp [Nd.er,hk])) hm
   · refine Lk.bnd (xQ hl) fun q q' m m' hq hm=> ?_
     exact Lk.ret (NX.snoc hn (by simp [Nd.er,hq])) hm
 · refine Lk.ite Iff.rfl vk ?_
   refine Lk.bnd (U _ _ _ _ _ hl.tail hn) fun x x' m m' hx hm=> ?_
   exact Lk.ret (NX.snoc hx.2 (by simp [Nd.er,hx.1])) hm
theorem Hf:∀f,CP (unary f)
 |0=>fun _ _ _ _ _ _ _=>Or.inr ⟨0,0,0,rfl,rfl⟩
 |f+1=>MF (Hf f)
def EX (e e':List Nd):Prop:=nu false e e'
theorem EX.mk {e e':List Nd} (h:e.map Nd.er=e'.map Nd.er):EX e e':=⟨h,fun h=>by cases h⟩
theorem qZ {d:Nat} {l l':List Tok} (h:Alike l l'):Lk EX (expr d l) (expr d l'):=by
 rw [xG,xG,h.len]
 exact Lk.bnd (He (Hf _) d _ _ [] [] h rfl) fun x x' m m' hx hm=>Lk.ret (EX.mk hx.2) hm
def SX (s s':Sm):Prop:=JC false s s'
theorem xR {a a':Nat}:false=true→a=a':=fun h=>by cases h
theorem yX {s s':Sm} {l l':List Tok} (hs:SX s s') (h:Alike l l'):Lk SX (fin s l) (fin s' l'):=by
 rw [BP,BP]
 exact Lk.bnd (gJ _ h) fun _ _ m m' _ hm=>Lk.ret hs hm
def AX (as as':List (List Nd)):Prop:=Cg false as as'
theorem AX.nil:AX [] []:=⟨rfl,fun i e e' h=>by simp at h⟩
theorem nR {l:List α} {x y:α} {i:Nat} (h:(l++[x])[i]? =some y):l[i]? =some y∨(i=l.length∧x=y):=by
 by_cases hi:i<l.length
 · rw [List.getElem?_append_left hi] at h;exact Or.inl h
 · rw [List.getElem?_append_right (by omega)] at h
   have hlt:=(List.getElem?_eq_some_iff.1 h).1
   simp at hlt
   obtain rfl:i=l.length:=by omega
   simp at h;exact Or.inr ⟨rfl,h⟩
theorem AX.snoc {as as':List (List Nd)} {e e':List Nd} (h:AX as as') (he:EX e e'):AX (as++[e]) (as'++[e']):=by
 refine ⟨by simp [h.1],fun i x y hx hy=> ?_⟩
 rcases nR hx with hx|⟨hi,rfl⟩<;>rcases nR hy with hy|⟨hj,rfl⟩
 · exact h.2 i x y hx hy
 · have:=(List.getElem?_eq_some_iff.1 hx).1;have:=h.1;omega
 · have:=(List.getElem?_eq_some_iff.1 hy).1;have:=h.1;omega
 · exact he
theorem Ch {d:Nat}:∀(f:Nat) {l l':List Tok} {as as':List (List Nd)},Alike l l'→AX as as'→Lk AX (fO d f l as) (fO d f l' as')
 |0,_,_,_,_,_,_=>Or.inr ⟨0,0,0,rfl,rfl⟩
 |f+1,l,l',[],as',hl,ha=>by
  obtain rfl:as'=[]:=by simpa using ha.1
  rw [qw,qw]
  refine Lk.isc hl (Lk.ret AX.nil hl.tail) ?_
  exact Lk.bnd (qZ hl) fun e e' m m' he hm=>Ch f hm (AX.nil.snoc he)
 |f+1,l,l',a::as,[],hl,ha=>by have:=ha.1;simp at this
 |f+1,l,l',a::as,a'::as',hl,ha=>by
  rw [oD,oD]
  refine Lk.isc hl (Lk.ret ha hl.tail) ?_
  refine Lk.bnd (gJ _ hl) fun _ _ m m' _ hm=> ?_
  exact Lk.bnd (qZ hm) fun e e' n n' he hn=>Ch f hn (ha.snoc he)
structure CX (c c':Cl):Prop where
 has:c.has=c'.has
 mod:c.mod=c'.mod
 name:c.name=c'.name
 tomod:c.tomod=c'.tomod
 to:c.to=c'.to
 args:AX c.args c'.args
theorem Hg {d:Nat} {c:Cl} {l l':List Tok} (hl:Alike l l'):Lk CX (iY d c l) (iY d c l'):=by
 rw [ug,ug]
 refine Lk.bnd (gJ _ hl) fun _ _ m m' _ hm=> ?_
 rw [hm.len]
 exact Lk.bnd (Ch _ hm AX.nil) fun as as' n n' ha hn=>Lk.ret ⟨rfl,rfl,rfl,rfl,rfl,ha⟩ hn
theorem call_lk {d:Nat} {l l':List Tok} (hl:Alike l l'):Lk CX (call d l) (call d l'):=by
 rw [xI,xI]
 refine Lk.bnd (xQ hl) fun q q' m m' hq hm=> ?_
 subst hq
 refine Lk.isc hm ?_ (Hg hm)
 refine Lk.bnd (xQ hm.tail) fun r r' n n' hr hn=> ?_
 subst hr
 exact Hg hn
def SsX (s s':List Sm):Prop:=lJ false s s'
theorem SsX.snoc:∀{l l':List Sm} {s s':Sm},SsX l l'→SX s s'→SsX (l++[s]) (l'++[s'])
 |_,_,_,_, .nil,h=> .cons h .nil
 |_,_,_,_, .cons h1 h2,h=> .cons h1 (SsX.snoc h2 h)
def BkLk (blk:Bk):Prop:=∀d l l',Alike l l'→Lk SsX (blk d l) (blk d l')
def StLk (stm:Nat→List Tok→R Sm):Prop:=∀d l l',Alike l l'→Lk SX (stm d l) (stm d l')
theorem nu.Pb:nu false [] []:=⟨rfl,fun _=>rfl⟩
theorem stIf_lk {blk:Bk} (K:BkLk blk) {d a a':Nat} {l l':List Tok} (hl:Alike l l'):Lk SX (iF blk d a l) (iF blk d a' l'):=by
 rw [xJ,xJ]
 refine Lk.bnd (qZ hl) fun e e' m m' he hm=> ?_
 refine Lk.bnd (K d _ _ hm) fun b b' n n' hb hn=> ?_
 refine Lk.isc hn ?_ (Lk.ret (.mk xR he AX.nil hb .nil) hn)
 exact Lk.bnd (K d _ _ hn.tail) fun el el' k k' hel hk=>Lk.ret (.mk xR he AX.nil hb hel) hk
theorem JE {blk:Bk} (K:BkLk blk) {d a a':Nat} {l l':List Tok} (hl:Alike l l'):Lk SX (bP blk d a l) (bP blk d a' l'):=by
 rw [oF,oF]
 refine Lk.bnd (qZ hl) fun e e' m m' he hm=> ?_
 exact Lk.bnd (K d _ _ hm) fun b b' n n' hb hn=>Lk.ret (.mk xR he AX.nil hb .nil) hn
theorem Pf {d a a':Nat} {l l':List Tok} (hl:Alike l l'):Lk SX (fo d a l) (fo d a' l'):=by
 rw [uj,uj]
 refine Lk.bnd (jC hl) fun n n' m m' hn hm=> ?_
 subst hn
 refine Lk.bnd (gJ _ hm) fun _ _ m m' _ hm=> ?_
 refine Lk.bnd (jC hm) fun n n' m m' hn hm=> ?_
 subst hn
 refine Lk.bnd (gJ _ hm) fun _ _ m m' _ hm=> ?_
 exact Lk.bnd (qZ hm) fun e e' m m' he hm=>yX (.mk xR he AX.nil .nil .nil) hm
theorem Hl {d a a':Nat} {l l':List Tok} (hl:Alike l l'):Lk SX (aZ d a l) (aZ d a' l'):=by
 rw [mZ,mZ]
 refine Lk.bnd (gJ _ hl) fun _ _ m m' _ hm=> ?_
 exact Lk.bnd (qZ hm) fun e e' m m' he hm=>yX (.mk xR he AX.nil .nil .nil) hm
theorem MG {d a a':Nat} {l l':List Tok} (hl:Alike l l'):Lk SX (dG d a l) (dG d a' l'):=by
 rw [qx,qx]
 refine Lk.bnd (call_lk hl) fun c c' m m' hc hm=> ?_
 obtain ⟨h1,h2,h3,h4,h5,h6⟩:=hc
 rw [h1,h2,h3,h4,h5]
 exact yX (.mk xR nu.Pb h6 .nil .nil) hm
theorem MH {a a':Nat} {l l':List Tok} (hl:Alike l l'):Lk SX (dH a l) (dH a' l'):=by
 rw [qy,qy]
 refine Lk.bnd (jC hl) fun n n' m m' hn hm=> ?_
 subst hn
 exact yX (.mk xR nu.Pb AX.nil .nil .nil) hm
theorem MI {a a':Nat} {l l':List Tok} (hl:Alike l l'):Lk SX (dL a l) (dL a' l'):=yX (.mk xR nu.Pb AX.nil .nil .nil) hl
theorem Pg {d a a':Nat} {l l':List Tok} (hl:Alike l l'):Lk SX (fC d a l) (fC d a' l'):=by
 rw [uq,uq]
 refine Lk.bnd (xQ hl) fun q q' m m' hq hm=> ?_
 subst hq
 refine Lk.bnd (gJ _ hm) fun _ _ m m' _ hm=> ?_
 exact Lk.bnd (qZ hm) fun e e' m m' he hm=>yX (.mk xR he AX.nil .nil .nil) hm
theorem Ph {blk:Bk} (K:BkLk blk):StLk (cO blk):=by
 intro d l l' hl
 unfold cO
 exact Lk.isc hl (stIf_lk K hl.tail) (Lk.isc hl (JE K hl.tail) (Lk.isc hl (Pf hl.tail) (Lk.isc hl (Hl hl.tail) (Lk.isc hl (MG hl.tail) (Lk.isc hl (MH hl.tail) (Lk.isc hl (MI hl.tail) (Pg hl)))))))
theorem D6 {stm:Nat→List Tok→R Sm} (K:StLk stm) {d:Nat}:∀(f:Nat) {l l':List Tok} {ss ss':List Sm},Alike l l'→SsX ss ss'→Lk SsX (gF stm d f l ss) (gF stm d f l' ss')
 |0,_,_,_,_,_,_=>Or.inr ⟨0,0,0,rfl,rfl⟩
 |f+1,l,l',ss,ss',hl,hs=>by
  rw [mh,mh]
  refine Lk.isc hl (Lk.ret hs hl.tail) ?_
  exact Lk.bnd (K d _ _ hl) fun s s' m m' h hm=>D6 K f hm (SsX.snoc hs h)
theorem D7 {stm:Nat→List Tok→R Sm} (K:StLk stm):BkLk (jQ stm):=by
 intro d l l' hl
 unfold jQ
 refine Lk.isc hl (Lk.ite Iff.rfl vk ?_) vk
 rw [hl.tail.len]
 exact D6 K _ hl.tail .nil
theorem KW:∀f,StLk (stmt f)
 |0=>fun _ _ _ _=>Or.inr ⟨0,0,0,rfl,rfl⟩
 |f+1=>Ph (D7 (KW f))
theorem Pj {d:Nat} {l l':List Tok} (hl:Alike l l'):Lk SsX (block d l) (block d l'):=by
 unfold block
 rw [hl.len]
 exact D7 (KW _) d _ _ hl
theorem uy {X:α→α→Prop} {one:α→List Tok→R α} {e:List UInt8} (K:∀x x' l l',X x x'→Alike l l'→Lk X (one x l) (one x' l')):∀(f n:Nat) {l l':List Tok} {x x':α},Alike l l'→X x x'→Lk X (bU one e f n l x) (bU one e f n l' x')
 |0,_,_,_,_,_,_,_=>Or.inr ⟨0,0,0,rfl,rfl⟩
 |f+1,n,l,l',x,x',hl,hx=>by
  rw [ng,ng]
  refine Lk.isc hl (Lk.ret hx hl.tail) (Lk.ite Iff.rfl ?_ ?_)
  · exact Lk.bnd (K x x' _ _ hx hl) fun y y' m m' hy hm=>uy K f 1 hm hy
  · refine Lk.bnd (gJ _ hl) fun _ _ m m' _ hm=> ?_
    exact Lk.bnd (K x x' _ _ hx hm) fun y y' m m' hy hm=>uy K f (n+1) hm hy
theorem Ci {X:α→α→Prop} {one:α→List Tok→R α} {e:List UInt8} (K:∀x x' l l',X x x'→Alike l l'→Lk X (one x l) (one x' l')) {l l':List Tok} {x x':α} (hl:Alike l l') (hx:X x x'):Lk X (several one e l x) (several one e l' x'):=by
 unfold several
 rw [hl.len]
 exact uy K _ _ hl hx
theorem kQ.nil {Rr:α→α→Prop}:kQ Rr [] []:=⟨rfl,fun i x y h=>by simp at h⟩
theorem kQ.snoc {Rr:α→α→Prop} {l l':List α} {a a':α} (h:kQ Rr l l') (ha:Rr a a'):kQ Rr (l++[a]) (l'++[a']):=by
 refine ⟨by simp [h.len],fun i x y hx hy=> ?_⟩
 rcases nR hx with hx|⟨hi,rfl⟩<;>rcases nR hy with hy|⟨hj,rfl⟩
 · exact h.at_ i x y hx hy
 · have:=(List.getElem?_eq_some_iff.1 hx).1;have:=h.len;omega
 · have:=(List.getElem?_eq_some_iff.1 hy).1;have:=h.len;omega
 · exact ha
theorem parm_lk (x x':List Pm) (l l':List Tok) (hx:kQ (PmEq false) x x') (hl:Alike l l'):Lk (kQ (PmEq false)) (pO x l) (pO x' l'):=by
 rw [xL,xL]
 refine Lk.bnd (jC hl) fun n n' m m' hn hm=> ?_
 refine Lk.bnd (gJ _ hm) fun _ _ m m' _ hm=> ?_
 exact Lk.bnd (jC hm) fun b b' m m' hb hm=>Lk.ret (kQ.snoc hx ⟨hn,hb,xR⟩) hm
theorem use_lk (x x':List (List UInt8)) (l l':List Tok) (hx:x=x') (hl:Alike l l'):Lk Eq (use x l) (use x' l'):=by
 subst hx
 rw [BQ,BQ]
 exact Lk.bnd (jC hl) fun n n' m m' hn hm=>Lk.ret (by rw [hn]) hm
def PX (p p':Pr):Prop:=PrEq false p p'
theorem Ho {d:Nat} {q q':Pr} {l l':List Tok} (h1:q.name=q'.name) (h2:q.has=q'.has) (h3:q.result=q'.result) (h4:kQ (PmEq false) q.params q'.params) (hl:Alike l l'):Lk PX (dW d q l) (dW d q' l'):=by
 rw [oH,oH]
 refine Lk.bnd (gJ _ hl) fun _ _ m m' _ hm=> ?_
 refine Lk.bnd (jC hm) fun pc pc' m m' hpc hm=> ?_
 refine Lk.bnd (gJ _ hm) fun _ _ m m' _ hm=> ?_
 refine Lk.bnd (gJ _ hm) fun _ _ m m' _ hm=> ?_
 refine Lk.bnd (Ci use_lk hm rfl) fun us us' m m' hu hm=> ?_
 exact Lk.bnd (Pj hm) fun b b' m m' hb hm=>Lk.ret ⟨h1,h2,h3,hpc,hu,h4,hb,xR⟩ hm
theorem proc_lk {d:Nat} {l l':List Tok} (hl:Alike l l'):Lk PX (proc d l) (proc d l'):=by
 rw [qV,qV]
 refine Lk.bnd (jC hl) fun n n' m m' hn hm=> ?_
 refine Lk.bnd (gJ _ hm) fun _ _ m m' _ hm=> ?_
 refine Lk.bnd (Ci parm_lk hm kQ.nil) fun ps ps' m m' hp hm=> ?_
 refine Lk.isc hm ?_ (Ho hn rfl rfl hp hm)
 exact Lk.bnd (jC hm.tail) fun r r' m m' hr hm=>Ho hn rfl hr hp hm
theorem KX {n n' lb lb':List UInt8} {a a':Nat} {neg:Bool} {l l':List Tok} (hn:n=n') (hb:lb=lb') (hl:Alike l l'):Lk (O7 false) (iG n lb a neg l) (iG n' lb' a' neg l'):=by
 rw [qX,qX]
 refine Lk.bnd (DZ hl) fun k k' m m' hk hm=> ?_
 exact Lk.bnd (gJ _ hm) fun _ _ m m' _ hm=>Lk.ret ⟨hn,hb,by rw [hk],xR⟩ hm
theorem varD_lk {l l':List Tok} (hl:Alike l l'):Lk (O7 false) (lH l) (lH l'):=by
 rw [qY,qY]
 refine Lk.bnd (jC hl) fun n n' m m' hn hm=> ?_
 refine Lk.bnd (gJ _ hm) fun _ _ m m' _ hm=> ?_
 refine Lk.bnd (jC hm) fun b b' m m' hb hm=> ?_
 refine Lk.bnd (gJ _ hm) fun _ _ m m' _ hm=> ?_
 exact Lk.isc hm (KX hn hb hm.tail) (KX hn hb hm)
theorem Hq:∀(f:Nat) {l l':List Tok} {x x':List Im},Alike l l'→kQ (ImEq false) x x'→Lk (kQ (ImEq false)) (fq f l x) (fq f l' x')
 |0,_,_,_,_,_,_=>Or.inr ⟨0,0,0,rfl,rfl⟩
 |f+1,l,l',x,x',hl,hx=>by
  rw [ni,ni]
  refine Lk.isc hl ?_ (Lk.ret hx hl)
  refine Lk.bnd (jC hl.tail) fun n n' m m' hn hm=> ?_
  exact Lk.bnd (gJ _ hm) fun _ _ m m' _ hm=>Hq f hm (kQ.snoc hx ⟨hn,xR⟩)
def DX (x x':List Vr×List Pr):Prop:=kQ (O7 false) x.1 x'.1∧kQ PX x.2 x'.2
theorem yY {d:Nat}:∀(f:Nat) {l l':List Tok} {vs vs':List Vr} {ps ps':List Pr},Alike l l'→kQ (O7 false) vs vs'→kQ PX ps ps'→Lk DX (bO d f l vs ps) (bO d f l' vs' ps')
 |0,_,_,_,_,_,_,_,_,_=>Or.inr ⟨0,0,0,rfl,rfl⟩
 |f+1,l,l',vs,vs',ps,ps',hl,hv,hp=>by
  rw [kE,kE]
  refine Lk.ite (by rw [hl.hd.1]) (Lk.ret ⟨hv,hp⟩ hl) (Lk.isc hl ?_ ?_)
  · exact Lk.bnd (varD_lk hl.tail) fun v v' m m' h hm=>yY f hm (kQ.snoc hv h) hp
  · refine Lk.bnd (gJ _ hl) fun _ _ m m' _ hm=> ?_
    exact Lk.bnd (proc_lk hm) fun p p' m m' h hm=>yY f hm hv (kQ.snoc hp h)
theorem modul_lk {d:Nat} {l l':List Tok} (hl:Alike l l'):Lk (O8 false) (gT d l) (gT d l'):=by
 rw [nk,nk]
 refine Lk.bnd (gJ _ hl) fun _ _ m m' _ hm=> ?_
 refine Lk.bnd (jC hm) fun n n' m m' hn hm=> ?_
 refine Lk.bnd (gJ _ hm) fun _ _ m m' _ hm=> ?_
 rw [hm.len]
 refine Lk.bnd (Hq _ hm kQ.nil) fun is is' m m' hi hm=> ?_
 rw [hm.len]
 exact Lk.bnd (yY _ hm kQ.nil kQ.nil) fun x x' m m' hx hm=>Lk.ret ⟨hn,xR,hi,hx.1,hx.2⟩ hm
end
end Par
end
end Go.Eng
namespace Go.Eng
noncomputable section
namespace Lex
def MJ:List (List UInt8):=[[32],[10],[32,35,32,105,102,32,120,10],[9,13,10]]
def sep (w i:Nat):List UInt8:=MJ.getD ((i+w) % 4) []
def bt (w:Nat):Nat→List Tok→List UInt8
 |_,[]=>[]
 |i,t::l=>sep w i++t.text++bt w (i+1) l
theorem bt_snoc (w:Nat) (x:Tok):∀(l:List Tok) (i:Nat),bt w i (l++[x])=bt w i l++sep w (i+l.length)++x.text
 |[],i=>by simp [bt]
 |t::l,i=>by
  rw [List.cons_append,bt,bt,bt_snoc w x l (i+1),List.length_cons,show i+1+l.length=i+(l.length+1) by omega]
  simp [List.append_assoc]
theorem Fu (w i:Nat):sep w i∈MJ:=by
 unfold sep
 have h:(i+w) % 4<MJ.length:=Nat.mod_lt _ (by decide)
 rw [List.getD_eq_getElem?_getD,List.getElem?_eq_getElem h]
 exact List.getElem_mem h
theorem Pk {w i:Nat} (r:List UInt8):Bl (sep w i++r):=by
 have h:=Fu w i
 generalize sep w i=s at h
 simp [MJ] at h
 rcases h with rfl|rfl|rfl|rfl
 · exact ⟨32,rfl,rfl⟩
 · exact ⟨10,rfl,rfl⟩
 · exact ⟨32,rfl,rfl⟩
 · exact ⟨9,rfl,rfl⟩
theorem kS {c:UInt8} (hc:blank c=true) (f pos:Nat) (r:List UInt8) (out:List Tok):all (f+1) pos (c::r) out=all f (pos+1) r out:=by
 simp only [all];rw [if_pos hc]
theorem Hr (f pos:Nat) (r:List UInt8) (out:List Tok):all (f+1) pos (35::32::105::102::32::120::10::r) out=all f (pos+6) (10::r) out:=by
 have e:(35::32::105::102::32::120::10::r).takeWhile j6=[35,32,105,102,32,120]:=by
  have:=yQ (f:=j6) (w:=[35,32,105,102,32,120]) (r:=10::r) (by decide) (fun c hc=>by cases hc;rfl)
  simpa using this
 simp only [all]
 rw [if_neg (by decide),if_pos (by decide),e]
 rfl
theorem Ht {s:List UInt8} (hs:s∈MJ) {f pos:Nat} {r:List UInt8} {out:List Tok} (hf:(s++r).length<f):∃f' pos',r.length<f'∧all f pos (s++r) out=all f' pos' r out:=by
 simp [MJ] at hs
 rcases hs with rfl|rfl|rfl|rfl
 · obtain ⟨n,rfl⟩:∃n,f=n+1:=⟨f - 1,by omega⟩
   exact ⟨n,pos+1,by simp at hf;omega,kS (by decide) ..⟩
 · obtain ⟨n,rfl⟩:∃n,f=n+1:=⟨f - 1,by omega⟩
   exact ⟨n,pos+1,by simp at hf;omega,kS (by decide) ..⟩
 · obtain ⟨n,rfl⟩:∃n,f=n+3:=⟨f - 3,by simp at hf;omega⟩
   refine ⟨n,pos+1+6+1,by simp at hf;omega, ?_⟩
   show all (n+2+1) pos (32::35::32::105::102::32::120::10::r) out=_
   rw [kS (by decide),Hr,kS (by decide)]
 · obtain ⟨n,rfl⟩:∃n,f=n+3:=⟨f - 3,by simp at hf;omega⟩
   refine ⟨n,pos+1+1+1,by simp at hf;omega, ?_⟩
   show all (n+2+1) pos (9::13::10::r) out=_
   rw [kS (by decide),kS (by decide),kS (by decide)]
def Hu (t:Tok):Prop:=∃c r u,cls (c::r)=some u∧u.2=0∧t.kind=u.1∧t.text=cK (c::r)
theorem Pn {t:Tok} (ht:Hu t) {f pos:Nat} {r:List UInt8} {out:List Tok} (hr:Bl r):all (f+1) pos (t.text++r) out=all f (pos+t.text.length) r (out++[⟨t.kind,t.text,pos⟩]):=by
 obtain ⟨c,x,u,h1,h2,h3,h4⟩:=ht
 have hne:=uw (Or.inr ⟨u,h1,h2⟩)
 obtain ⟨l1,l2⟩:=yT (r':=r) hne (Or.inr ⟨hr,u,h1,h2⟩)
 rw [h4,all_eq' (by simp [hne]),l1,l2,h1,GY h2,List.drop_left' rfl,h3]
theorem tok_ne {t:Tok} (ht:Hu t):0<t.text.length:=by
 obtain ⟨c,x,u,h1,h2,_,h4⟩:=ht
 rw [h4];exact List.length_pos_iff.2 (uw (Or.inr ⟨u,h1,h2⟩))
theorem Ck:∀{f pos:Nat} {r:List UInt8} {out ts:List Tok},all f pos r out= .ok ts→(∀t∈out,Hu t)→∃us a,ts=us++[⟨0,[],a⟩]∧∀t∈us,Hu t
 |0,_,_,_,_,h,_=>by cases h
 |f+1,pos,[],out,ts,h,ho=>by simp only [all] at h;cases h;exact ⟨out,pos,rfl,ho⟩
 |f+1,pos,c::r,out,ts,h,ho=>by
  rw [all_eq] at h
  rcases go_ok h with ⟨_,h⟩|⟨u,e,h0,h⟩
  · exact Ck h ho
  · refine Ck h fun t ht=> ?_
    rcases List.mem_append.1 ht with ht|ht
    · exact ho t ht
    · simp at ht;subst ht;exact ⟨c,r,u,e,h0,rfl,rfl⟩
theorem Po {w a:Nat}:∀{l:List Tok} {i f pos:Nat} {out:List Tok},(∀t∈l,Hu t)→(bt w i (l++[⟨0,[],a⟩])).length<f→∃vs,all f pos (bt w i (l++[⟨0,[],a⟩])) out= .ok (out++vs)∧Par.Alike (l++[⟨0,[],a⟩]) vs
 |[],i,f,pos,out,_,hf=>by
  have e:bt w i ([]++[(⟨0,[],a⟩:Tok)])=sep w i++[]:=by simp [bt]
  rw [e] at hf ⊢
  obtain ⟨f',pos',h1,h2⟩:=Ht (Fu w i) (out:=out) (pos:=pos) hf
  rw [h2]
  obtain ⟨n,rfl⟩:∃n,f'=n+1:=⟨f' - 1,by omega⟩
  exact ⟨[⟨0,[],pos'⟩],rfl,rfl⟩
 |t::l,i,f,pos,out,ht,hf=>by
  have e:bt w i (t::l++[(⟨0,[],a⟩:Tok)])=sep w i++(t.text++bt w (i+1) (l++[⟨0,[],a⟩])):=by rw [List.cons_append,bt,List.append_assoc]
  rw [e] at hf ⊢
  obtain ⟨f',pos',h1,h2⟩:=Ht (Fu w i) (out:=out) (pos:=pos) hf
  rw [h2]
  obtain ⟨n,rfl⟩:∃n,f'=n+1:=⟨f' - 1,by omega⟩
  have hb:Bl (bt w (i+1) (l++[(⟨0,[],a⟩:Tok)])):=by
   cases l with
   |nil=>rw [List.nil_append,bt,List.append_assoc];exact Pk _
   |cons x l=>rw [List.cons_append,bt,List.append_assoc];exact Pk _
  rw [Pn (ht t (by simp)) hb]
  have hne:=tok_ne (ht t (by simp))
  obtain ⟨vs,h3,h4⟩:=Po (w:=w) (a:=a) (l:=l) (i:=i+1) (f:=n) (pos:=pos'+t.text.length) (out:=out++[⟨t.kind,t.text,pos'⟩]) (fun x hx=>ht x (by simp [hx])) (by rw [List.length_append] at h1;omega)
  refine ⟨⟨t.kind,t.text,pos'⟩::vs,by rw [h3,List.append_assoc];rfl, ?_⟩
  exact congrArg (Par.Tok.er t::·) h4
end Lex
theorem rebuilt {s:List UInt8} {ts:List Tok} (w:Nat) (hs:Lex.lex s= .ok ts) (hl:(Lex.bt w 0 ts).length≤8192):∃ts',Lex.lex (Lex.bt w 0 ts)= .ok ts'∧Par.Alike ts ts':=by
 obtain ⟨us,a,rfl,ho⟩:=Lex.Ck (Ai hs) (fun t ht=>by simp at ht)
 obtain ⟨vs,h1,h2⟩:=Lex.Po (w:=w) (a:=a) (i:=0) (pos:=0) (out:=[]) ho (Nat.lt_succ_self _)
 refine ⟨vs, ?_,h2⟩
 unfold Lex.lex
 rw [if_neg (by omega)]
 simpa using h1
end
end Go.Eng
namespace Go.Eng
noncomputable section
namespace Par
section
variable {α β:Type}
def Fw (z:α→Nat) (n:Nat) (r:R α):Prop:=∀x l',r= .ok (x,l')→z x+l'.length≤n
theorem Fw.bnd {z:α→Nat} {z2:β→Nat} {n n2:Nat} {r:R α} {f:α→List Tok→R β} (h:Fw z n r) (K:∀x l',z x+l'.length≤n→Fw z2 n2 (f x l')):Fw z2 n2 (Par.bnd r f):=by
 intro y l' e
 cases r with
 |error x=>cases e
 |ok x=>
  obtain ⟨x,l1⟩:=x
  exact K x l1 (h x l1 rfl) y l' e
theorem Fw.ret {z:α→Nat} {n:Nat} {x:α} {l:List Tok} (h:z x+l.length≤n):Fw z n (.ok (x,l)):=by
 intro y l' e;cases e;exact h
theorem Fw.err {z:α→Nat} {n:Nat} {e:Nat×Nat}:Fw z n (.error e:R α):=by intro y l' h;cases h
theorem Fw.fail {z:α→Nat} {n e:Nat} {l:List Tok}:Fw z n (fail e l:R α):=by intro y l' h;cases h
theorem Fw.ite {z:α→Nat} {n:Nat} {c:Prop} [Decidable c] {a b:R α} (h1:c→Fw z n a) (h2:¬c→Fw z n b):Fw z n (if c then a else b):=by
 by_cases h:c
 · rw [if_pos h];exact h1 h
 · rw [if_neg h];exact h2 h
theorem Fw.le {z:α→Nat} {n m:Nat} {r:R α} (h:Fw z n r) (hm:n≤m):Fw z m r:=fun x l e=>Nat.le_trans (h x l e) hm
theorem kU {s:List UInt8} {l:List Tok} (h:is s l=true):l.tail.length+1=l.length:=by
 cases l with
 |nil=>simp [is,hd] at h
 |cons a l=>rfl
theorem gL (s:List UInt8) (l:List Tok):Fw (fun _=>1) l.length (must s l):=by
 unfold must
 exact Fw.ite (fun h=>Fw.ret (by have:=kU h;omega)) fun _=>Fw.fail
theorem of_fw {k:Nat} (hk:k≠0) (l:List Tok):Fw (fun _=>1) l.length (of k l):=by
 unfold of
 refine Fw.ite (fun h=>Fw.ret ?_) fun _=>Fw.fail
 cases l with
 |nil=>exact absurd h.symm hk
 |cons a l=>simp;omega
theorem jE (l:List Tok):Fw (fun _=>1) l.length (name l):=by
 rw [xC];exact Fw.bnd (of_fw (by decide) l) fun _ _ h=>Fw.ret h
theorem D9 (l:List Tok):Fw (fun _=>1) l.length (number l):=by
 rw [number_eq];exact Fw.bnd (of_fw (by decide) l) fun _ _ h=>Fw.ret h
theorem xS (l:List Tok):Fw (fun _=>1) l.length (fM l):=by
 rw [tX]
 refine Fw.bnd (jE l) fun a m h=>Fw.ite (fun hi=> ?_) fun _=>Fw.ret h
 exact Fw.bnd (jE m.tail) fun b k h2=>Fw.ret (by simp at h2 ⊢;omega)
def NZ (x:Nat×List Nd):Nat:=x.2.length
def CQ (un:E):Prop:=∀d l ns,Fw NZ (ns.length+l.length) (un d l ns)
theorem JF {z:α→Nat} {n:Nat} {ops:List Opn} {l:List Tok} {a:R α} {g:Opn→R α} (h0:Fw z n a) (h1:∀o,l.tail.length+1=l.length→Fw z n (g o)):Fw z n (fnd (find ops l) a g):=by
 cases hf:find ops l with
 |none=>exact h0
 |some o=>
  have ho:is o.1 l=true:=List.find?_some (p:=fun o:Opn=>is o.1 l) hf
  exact h1 o (kU ho)
theorem Ea {un:E} (U:CQ un) {ops:List Opn} {d:Nat}:∀(f a:Nat) (l:List Tok) (ns:List Nd),Fw NZ (ns.length+l.length) (eX un ops f d l a ns)
 |0,a,l,ns=>Fw.ret (Nat.le_refl _)
 |f+1,a,l,ns=>by
  rw [qo]
  refine JF (Fw.ret (Nat.le_refl _)) fun o ht=> ?_
  refine Fw.bnd (U d l.tail ns) fun x m h=>(Ea U f _ _ _).le ?_
  simp [NZ] at h ⊢;omega
theorem Hw {un:E} (U:CQ un) (ops:List Opn):CQ (chain un ops):=by
 intro d l ns
 rw [tY]
 exact Fw.bnd (U d l ns) fun x m h=>(Ea U _ _ _ _).le h
theorem Pp {un:E} (U:CQ un):CQ (sum un):=Hw (Hw U _) _
theorem Hy {un:E} (U:CQ un):CQ (whole un):=by
 intro d l ns
 rw [tZ]
 refine Fw.bnd (Pp U d l ns) fun x m h=>JF (Fw.ret h) fun o ht=> ?_
 refine Fw.bnd (Pp U d m.tail x.2) fun y k h2=>Fw.ret ?_
 simp [NZ] at h h2 ⊢;omega
theorem MK {un:E} (U:CQ un):CQ (fU un):=by
 intro d l ns
 rw [qp]
 refine JF (Fw.ite (fun hi=>Fw.ite (fun _=>Fw.fail) fun _=> ?_) fun _=>Fw.ite (fun _=> ?_) fun _=> ?_) fun o ht=>Fw.ite (fun _=>Fw.fail) fun _=> ?_
 · have:=kU hi
   refine Fw.bnd (Hy U (d+1) l.tail ns) fun x m h=> ?_
   exact Fw.bnd (gL _ m) fun _ k h2=>Fw.ret (by simp [NZ] at h h2 ⊢;omega)
 · exact Fw.bnd (D9 l) fun k m h=>Fw.ret (by simp [NZ] at h ⊢;omega)
 · exact Fw.bnd (xS l) fun k m h=>Fw.ret (by simp [NZ] at h ⊢;omega)
 · exact Fw.bnd (U (d+1) l.tail ns) fun x m h=>Fw.ret (by simp [NZ] at h ⊢;omega)
theorem Hz:∀f,CQ (unary f)
 |0=>fun _ _ _=>Fw.err
 |f+1=>MK (Hz f)
theorem q8 (d:Nat) (l:List Tok):Fw List.length l.length (expr d l):=by
 rw [xG]
 exact Fw.bnd (Hy (Hz _) d l []) fun x m h=>Fw.ret (by simpa [NZ] using h)
theorem yZ (s:Sm) (l:List Tok):Fw Sm.sz (Sm.sz s+l.length) (fin s l):=by
 rw [BP]
 exact Fw.bnd (gL _ l) fun _ m h=>Fw.ret (by omega)
theorem HV (as:List (List Nd)) (e:List Nd):iE (as++[e])=iE as+1+e.length:=by
 induction as with
 |nil=>simp [iE]
 |cons a as ih=>simp [iE] at ih ⊢;omega
theorem Cm {d:Nat}:∀(f:Nat) (l:List Tok) (as:List (List Nd)),Fw (fun x=>iE x+1) (iE as+l.length+(if as=[] then 1 else 0)) (fO d f l as)
 |0,_,_=>Fw.err
 |f+1,l,[]=>by
  rw [qw]
  refine Fw.ite (fun hi=>Fw.ret (by have:=kU hi;simp;omega)) fun _=> ?_
  refine Fw.bnd (q8 d l) fun e m h=>(Cm f m [e]).le ?_
  simp [iE];omega
 |f+1,l,a::as=>by
  rw [oD]
  refine Fw.ite (fun hi=>Fw.ret (by have:=kU hi;simp;omega)) fun _=> ?_
  refine Fw.bnd (gL _ l) fun _ m h=> ?_
  refine Fw.bnd (q8 d m) fun e k h2=>(Cm f k _).le ?_
  rw [HV];simp;omega
def CZ (c:Cl):Nat:=iE c.args
theorem HZ {d:Nat} (c:Cl) (l:List Tok):Fw CZ l.length (iY d c l):=by
 rw [ug]
 refine Fw.bnd (gL _ l) fun _ m h=> ?_
 refine Fw.bnd (Cm _ m []) fun as k h2=>Fw.ret ?_
 simp [iE,CZ] at h2 ⊢;omega
theorem call_fw {d:Nat} (l:List Tok):Fw CZ l.length (call d l):=by
 rw [xI]
 refine Fw.bnd (xS l) fun q m h=>Fw.ite (fun hi=> ?_) fun _=>(HZ _ m).le (by omega)
 have:=kU hi
 exact Fw.bnd (xS m.tail) fun r k h2=>(HZ _ k).le (by omega)
def BkFw (blk:Bk):Prop:=∀d l,Fw Sms.sz l.length (blk d l)
def StFw (stm:Nat→List Tok→R Sm):Prop:=∀d l,Fw Sm.sz l.length (stm d l)
theorem stIf_fw {blk:Bk} (K:BkFw blk) {d a:Nat} (l:List Tok):Fw Sm.sz (l.length+1) (iF blk d a l):=by
 rw [xJ]
 refine Fw.bnd (q8 d l) fun e m h=>Fw.bnd (K d m) fun b k h2=>Fw.ite (fun hi=> ?_) fun _=>Fw.ret (by simp [Sm.sz,Sms.sz,iE];omega)
 have:=kU hi
 exact Fw.bnd (K d k.tail) fun el n h3=>Fw.ret (by simp [Sm.sz,iE] at h3 ⊢;omega)
theorem JG {blk:Bk} (K:BkFw blk) {d a:Nat} (l:List Tok):Fw Sm.sz (l.length+1) (bP blk d a l):=by
 rw [oF]
 exact Fw.bnd (q8 d l) fun e m h=>Fw.bnd (K d m) fun b k h2=>Fw.ret (by simp [Sm.sz,Sms.sz,iE];omega)
theorem Pt {d a:Nat} (l:List Tok):Fw Sm.sz (l.length+1) (fo d a l):=by
 rw [uj]
 refine Fw.bnd (jE l) fun n m h=>Fw.bnd (gL _ m) fun _ m2 h2=>Fw.bnd (jE m2) fun lb m3 h3=>Fw.bnd (gL _ m3) fun _ m4 h4=>Fw.bnd (q8 d m4) fun e m5 h5=>(yZ _ m5).le ?_
 simp [Sm.sz,Sms.sz,iE];omega
theorem H6 {d a:Nat} (l:List Tok):Fw Sm.sz (l.length+1) (aZ d a l):=by
 rw [mZ]
 refine Fw.bnd (gL _ l) fun _ m h=>Fw.bnd (q8 d m) fun e m5 h5=>(yZ _ m5).le ?_
 simp [Sm.sz,Sms.sz,iE];omega
theorem ML {d a:Nat} (l:List Tok):Fw Sm.sz (l.length+1) (dG d a l):=by
 rw [qx]
 refine Fw.bnd (call_fw l) fun c m h=>(yZ _ m).le ?_
 simp [Sm.sz,Sms.sz,CZ] at h ⊢;omega
theorem MN {a:Nat} (l:List Tok):Fw Sm.sz (l.length+1) (dH a l):=by
 rw [qy]
 refine Fw.bnd (jE l) fun c m h=>(yZ _ m).le ?_
 simp [Sm.sz,Sms.sz,iE] at h ⊢;omega
theorem MO {a:Nat} (l:List Tok):Fw Sm.sz (l.length+1) (dL a l):=by
 refine (yZ _ l).le ?_
 simp [Sm.sz,Sms.sz,iE];omega
theorem Pv {d a:Nat} (l:List Tok):Fw Sm.sz l.length (fC d a l):=by
 rw [uq]
 refine Fw.bnd (xS l) fun n m h=>Fw.bnd (gL _ m) fun _ m4 h4=>Fw.bnd (q8 d m4) fun e m5 h5=>(yZ _ m5).le ?_
 simp [Sm.sz,Sms.sz,iE];omega
theorem Pw {blk:Bk} (K:BkFw blk):StFw (cO blk):=by
 intro d l
 unfold cO
 have up:∀{s:List UInt8} {r:R Sm},Fw Sm.sz (l.tail.length+1) r→is s l=true→Fw Sm.sz l.length r:=fun h hi=>h.le (by have:=kU hi;omega)
 exact Fw.ite (up (stIf_fw K _)) fun _=>Fw.ite (up (JG K _)) fun _=>Fw.ite (up (Pt _)) fun _=>Fw.ite (up (H6 _)) fun _=>Fw.ite (up (ML _)) fun _=>Fw.ite (up (MN _)) fun _=>Fw.ite (up (MO _)) fun _=>Pv l
theorem Sms.sz_snoc (l:List Sm) (s:Sm):Sms.sz (l++[s])=Sms.sz l+Sm.sz s:=by
 induction l with
 |nil=>simp [Sms.sz]
 |cons a l ih=>simp [Sms.sz,ih];omega
theorem Eb {stm:Nat→List Tok→R Sm} (K:StFw stm) {d:Nat}:∀(f:Nat) (l:List Tok) (ss:List Sm),Fw Sms.sz (Sms.sz ss+l.length) (gF stm d f l ss)
 |0,_,_=>Fw.err
 |f+1,l,ss=>by
  rw [mh]
  refine Fw.ite (fun hi=>Fw.ret (by have:=kU hi;omega)) fun _=>Fw.bnd (K d l) fun s m h=>(Eb K f m _).le ?_
  rw [Sms.sz_snoc];omega
theorem Ec {stm:Nat→List Tok→R Sm} (K:StFw stm):BkFw (jQ stm):=by
 intro d l
 unfold jQ
 refine Fw.ite (fun hi=>Fw.ite (fun _=>Fw.fail) fun _=>(Eb K _ _ _).le ?_) fun _=>Fw.fail
 have:=kU hi
 simp [Sms.sz] at this ⊢
theorem KY:∀f,StFw (stmt f)
 |0=>fun _ _=>Fw.err
 |f+1=>Pw (Ec (KY f))
theorem Px (d:Nat) (l:List Tok):Fw Sms.sz l.length (block d l):=Ec (KY _) d l
theorem uz {z:α→Nat} {one:α→List Tok→R α} {e:List UInt8} (K:∀x l,Fw z (z x+l.length) (one x l)):∀(f n:Nat) (l:List Tok) (x:α),Fw z (z x+l.length) (bU one e f n l x)
 |0,_,_,_=>Fw.err
 |f+1,n,l,x=>by
  rw [ng]
  refine Fw.ite (fun hi=>Fw.ret (by have:=kU hi;omega)) fun _=>Fw.ite (fun _=> ?_) fun _=> ?_
  · exact Fw.bnd (K x l) fun y m h=>(uz K f 1 m y).le h
  · exact Fw.bnd (gL _ l) fun _ m h=>Fw.bnd (K x m) fun y k h2=>(uz K f (n+1) k y).le (by omega)
theorem Cn {z:α→Nat} {one:α→List Tok→R α} {e:List UInt8} (K:∀x l,Fw z (z x+l.length) (one x l)) (l:List Tok) (x:α):Fw z (z x+l.length) (several one e l x):=uz K _ _ _ _
theorem parm_fw (x:List Pm) (l:List Tok):Fw List.length (x.length+l.length) (pO x l):=by
 rw [xL]
 exact Fw.bnd (jE l) fun n m h=>Fw.bnd (gL _ m) fun _ m2 h2=>Fw.bnd (jE m2) fun b m3 h3=>Fw.ret (by simp;omega)
theorem use_fw (x:List (List UInt8)) (l:List Tok):Fw List.length (x.length+l.length) (use x l):=by
 rw [BQ]
 exact Fw.bnd (jE l) fun n m h=>Fw.ret (by simp;omega)
def PZ (p:Pr):Nat:=1+p.params.length+p.uses.length+Sms.sz p.body
theorem H7 {d:Nat} (q:Pr) (l:List Tok):Fw PZ (1+q.params.length+l.length) (dW d q l):=by
 rw [oH]
 refine Fw.bnd (gL _ l) fun _ m h=>Fw.bnd (jE m) fun pc m2 h2=>Fw.bnd (gL _ m2) fun _ m3 h3=>Fw.bnd (gL _ m3) fun _ m4 h4=>Fw.bnd (Cn use_fw m4 []) fun us m5 h5=>Fw.bnd (Px d m5) fun b m6 h6=>Fw.ret ?_
 simp [PZ] at h5 ⊢;omega
theorem proc_fw {d:Nat} (l:List Tok):Fw PZ l.length (proc d l):=by
 rw [qV]
 refine Fw.bnd (jE l) fun n m h=>Fw.bnd (gL _ m) fun _ m2 h2=>Fw.bnd (Cn parm_fw m2 []) fun ps m3 h3=>Fw.ite (fun hi=> ?_) fun _=>(H7 _ m3).le (by simp at h3 ⊢;omega)
 have:=kU hi
 exact Fw.bnd (jE m3.tail) fun r m4 h4=>(H7 _ m4).le (by simp at h3 h4 ⊢;omega)
theorem KZ {n lb:List UInt8} {a:Nat} {neg:Bool} (l:List Tok):Fw (fun _=>1) l.length (iG n lb a neg l):=by
 rw [qX]
 exact Fw.bnd (D9 l) fun k m h=>Fw.bnd (gL _ m) fun _ m2 h2=>Fw.ret (by omega)
theorem varD_fw (l:List Tok):Fw (fun _=>1) l.length (lH l):=by
 rw [qY]
 refine Fw.bnd (jE l) fun n m h=>Fw.bnd (gL _ m) fun _ m2 h2=>Fw.bnd (jE m2) fun b m3 h3=>Fw.bnd (gL _ m3) fun _ m4 h4=>Fw.ite (fun hi=>(KZ _).le ?_) fun _=>(KZ _).le (by omega)
 have:=kU hi;omega
theorem H8:∀(f:Nat) (l:List Tok) (x:List Im),Fw List.length (x.length+l.length) (fq f l x)
 |0,_,_=>Fw.err
 |f+1,l,x=>by
  rw [ni]
  refine Fw.ite (fun hi=> ?_) fun _=>Fw.ret (Nat.le_refl _)
  have:=kU hi
  exact Fw.bnd (jE l.tail) fun n m h=>Fw.bnd (gL _ m) fun _ m2 h2=>(H8 f m2 _).le (by simp at h ⊢;omega)
def PsZ (ps:List Pr):Nat:=ps.foldr (fun p n=>PZ p+n) 0
theorem PsZ.snoc (ps:List Pr) (p:Pr):PsZ (ps++[p])=PsZ ps+PZ p:=by
 induction ps with
 |nil=>simp [PsZ]
 |cons a ps ih=>simp [PsZ] at ih ⊢;omega
theorem PsZ.len (ps:List Pr):ps.length≤PsZ ps:=by
 induction ps with
 |nil=>simp
 |cons a ps ih=>simp [PsZ,PZ] at ih ⊢;omega
theorem PsZ.mem {p:Pr}:∀{ps:List Pr},p∈ps→PZ p≤PsZ ps
 |[],h=>by simp at h
 |a::ps,h=>by
  rcases List.mem_cons.1 h with rfl|h
  · simp [PsZ]
  · have:=PsZ.mem h;simp [PsZ] at this ⊢;omega
theorem y5 {d:Nat}:∀(f:Nat) (l:List Tok) (vs:List Vr) (ps:List Pr),Fw (fun x=>x.1.length+PsZ x.2) (vs.length+PsZ ps+l.length) (bO d f l vs ps)
 |0,_,_,_=>Fw.err
 |f+1,l,vs,ps=>by
  rw [kE]
  refine Fw.ite (fun _=>Fw.ret (Nat.le_refl _)) fun _=>Fw.ite (fun hi=> ?_) fun _=> ?_
  · have:=kU hi
    exact Fw.bnd (varD_fw l.tail) fun v m h=>(y5 f m _ _).le (by simp at h ⊢;omega)
  · exact Fw.bnd (gL _ l) fun _ m h=>Fw.bnd (proc_fw m) fun p k h2=>(y5 f k _ _).le (by rw [PsZ.snoc];omega)
theorem Py {d:Nat} (l:List Tok):Fw (fun m=>m.imports.length+m.vars.length+PsZ m.procs) l.length (gT d l):=by
 rw [nk]
 refine Fw.bnd (gL _ l) fun _ m h=>Fw.bnd (jE m) fun n m2 h2=>Fw.bnd (gL _ m2) fun _ m3 h3=>Fw.bnd (H8 _ m3 []) fun is m4 h4=>Fw.bnd (y5 _ m4 [] []) fun x m5 h5=>Fw.ret ?_
 simp [PsZ] at h4 h5 ⊢;omega
end
end Par
theorem MP {d:Nat} {l l':List Tok} {m:Md} (h:Par.gT d l= .ok (m,l')) (hl:l.length<4294967296):G8 m:=by
 have hf:=Par.Py l m l' h
 have hp:=Par.PsZ.len m.procs
 simp only at hf
 refine ⟨by omega,by omega,by omega,fun p hp=> ?_⟩
 have:=Par.PsZ.mem hp
 simp only [Par.PZ] at this
 refine ⟨by omega,by omega,by omega⟩
end
end Go.Eng
namespace Go.Eng
noncomputable section
theorem nu.rf (b:Bool) (e:List Nd):nu b e e:=⟨rfl,fun _=>rfl⟩
theorem Cg.rf (b:Bool) (l:List (List Nd)):Cg b l l:=⟨rfl,fun i e e' h1 h2=>by rw [h1] at h2;cases h2;exact nu.rf b e⟩
mutual
theorem JC.rf (b:Bool):∀s:Sm,JC b s s
 | .mk k a m n l hs tm t e ag bd el=> .mk (fun _=>rfl) (nu.rf b e) (Cg.rf b ag) (lJ.rf b bd) (lJ.rf b el)
theorem lJ.rf (b:Bool):∀l:List Sm,lJ b l l
 |[]=> .nil
 |s::l=> .cons (JC.rf b s) (lJ.rf b l)
end
theorem kQ.rf {α:Type} {R:α→α→Prop} (h:∀x,R x x) (l:List α):kQ R l l:=⟨rfl,fun i x y h1 h2=>by rw [h1] at h2;cases h2;exact h x⟩
theorem O8.rf (b:Bool) (m:Md):O8 b m m:=⟨rfl,fun _=>rfl,kQ.rf (fun _=>⟨rfl,fun _=>rfl⟩) _,kQ.rf (fun _=>⟨rfl,rfl,rfl,fun _=>rfl⟩) _,kQ.rf (fun x=>⟨rfl,rfl,rfl,rfl,rfl,kQ.rf (fun _=>⟨rfl,rfl,fun _=>rfl⟩) _,lJ.rf b x.body,fun _=>rfl⟩) _⟩
def zMd:Md:=⟨[],0,[],[],[]⟩
theorem K3:G8 zMd:=⟨by decide,by decide,by decide,fun p hp=>by simp [zMd] at hp⟩
def txM (s:List UInt8):Md:=match Par.text s with
 | .ok m=>m
 | .error _=>zMd
def txE (s:List UInt8):Nat:=match Par.text s with
 | .ok _=>0
 | .error z=>z.1
def txA (s:List UInt8):Nat:=match Par.text s with
 | .ok _=>0
 | .error z=>z.2
def rwP (s:List UInt8):List Pm:=match Par.rows s with
 | .ok m=>m
 | .error _=>[]
def rwE (s:List UInt8):Nat:=match Par.rows s with
 | .ok _=>0
 | .error z=>z.1
def rwA (s:List UInt8):Nat:=match Par.rows s with
 | .ok _=>0
 | .error z=>z.2
theorem Pz {s:List UInt8} {ts:List Tok} (h:Lex.lex s= .ok ts):ts.length≤8193:=by
 unfold Lex.lex at h
 by_cases hs:8192<s.length
 · rw [if_pos hs] at h;cases h
 · rw [if_neg hs] at h;have:=Lex.o8 h;simp at this;omega
theorem Ak (s:List UInt8):G8 (txM s):=by
 unfold txM Par.text
 cases hl:Lex.lex s with
 |error z=>exact K3
 |ok ts=>
  cases hm:Par.gT 0 ts with
  |error z=>simp only [hm];exact K3
  |ok q=>obtain ⟨m,l⟩:=q;simp only [hm];exact MP hm (by have:=Pz hl;omega)
theorem MdR.zero (h:Heap):MdR h zMd [.str 0 0, .int .i64 0, .slN, .slN, .slN]:=⟨.slN, .slN, .slN,rfl, .nil, .nil,[], .nil,rfl⟩
end
end Go.Eng
namespace Go.Eng
noncomputable section
def CS:V→Prop
 | .sl _ _ _ none=>True
 | .slN=>True
 |_=>False
def cutV (v:V) (j:Nat):V:=match v with
 | .sl b o _ cap=> .sl b o j cap
 |v=>v
theorem tH.open_ {f r:Nat} {h:Heap} {v:V} {rows:List (List V)} (a:tH f r h v rows):CS v:=by cases a<;>trivial
theorem vw (v:V) (j:Nat) (h:CS v):(cutV v j).bW=some [cutV v j]:=by
 unfold CS at h
 split at h
 · rfl
 · rfl
 · exact absurd h id
theorem Rows.cut {r j:Nat} {h:Heap} {v:V} {rows:List (List V)} (a:Rows r h v rows) (hj:j≤rows.length):Rows r h (cutV v j) (rows.take j):=by
 cases a with
 |nil=>rw [List.take_nil];exact .nil
 | @row b o f ap sz cap t _ hr hob ho hrow hsz hlen=>
   have e:(rows.take j).length=j:=by rw [List.length_take];omega
   have:=Nat.mul_le_mul_right r hj
   have R:=Rows.row (h:=h) (cap:=cap) (rows:=rows.take j) hr hob ho (fun i row hi=>hrow i row (by
    rw [List.getElem?_take] at hi
    split at hi
    · exact hi
    · cases hi)) (by rw [e];omega) fun row hm=>hlen row (List.mem_of_mem_take hm)
   rw [e] at R
   exact R
theorem Rows.cel0 {r b o n:Nat} {h:Heap} {cap:Option Nat} {rows:List (List V)} (a:Rows r h (.sl b o n cap) rows):∃f ap sz t,T.get b h.t=some (.cells r f ap sz t):=by
 cases a with
 |row _ hob _ _ _ _=>exact ⟨_,_,_,_,hob⟩
theorem L.ssl0 {ev:Ev} {h:Heap} {x:A} {lo hi:Option A} {r b o n i j:Nat} {rows:List (List V)} (hx:ev x= .sl b o n none) (a:Rows r h (.sl b o n none) rows) (hhi:bF hi ev n=some j) (hlo:bF lo ev 0=some i) (hij:i≤j) (hjn:j≤n):light (.ssl r x lo hi none) ev h= .val (.sl b (o+i * r) (j - i) none):=by
 obtain ⟨f,ap,sz,t,hob⟩:=a.cel0
 show (match ev x with
  | .slN=>match bF hi ev 0,bF lo ev 0,bF none ev 0 with
    |some 0,some 0,some 0=>LR.val .slN
    |_,_,_=> .bad
  | .sl b o n cap=>match bF hi ev n,bF lo ev 0 with
    |some j,some i=>wO r b o n cap i j (Option.rec none (fun x=>some (ev x).asNat) none) h
    |_,_=> .bad
  |_=> .bad)=_
 rw [hx]
 simp only [hhi,hlo]
 show wO r b o n none i j none h=_
 unfold wO
 simp only [Heap.obj,hob]
 have e1:(r.beq r&&(i.ble j&&(j.ble n||(Nat.add o (Nat.mul j r)).ble sz)))=true:=by
  rw [Nat.beq_refl,show i.ble j=true from Nat.ble_eq_true_of_le hij,show j.ble n=true from Nat.ble_eq_true_of_le hjn];rfl
 rw [e1,cond_true]
 unfold slF
 simp
theorem L.sslR {ev:Ev} {h:Heap} {x:A} {hi:Option A} {r j:Nat} {v:V} {rows:List (List V)} (hx:ev x=v) (hc:CS v) (a:Rows r h v rows) (hhi:∀n,bF hi ev n=some j) (hj:j≤rows.length):light (.ssl r x none hi none) ev h= .val (cutV v j):=by
 cases a with
 |nil=>
  have:j=0:=by simpa using hj
  subst this
  show (match ev x with
   | .slN=>match bF hi ev 0,bF none ev 0,bF none ev 0 with
     |some 0,some 0,some 0=>LR.val .slN
     |_,_,_=> .bad
   | .sl b o n cap=>match bF hi ev n,bF none ev 0 with
     |some j,some i=>wO r b o n cap i j (Option.rec none (fun x=>some (ev x).asNat) none) h
     |_,_=> .bad
   |_=> .bad)=_
  rw [hx]
  simp only [hhi 0]
  rfl
 | @row b o f ap sz cap t _ hr hob ho hrow hsz hlen=>
   cases cap with
   |some k=>exact absurd hc id
   |none=>
    have:=L.ssl0 (lo:=none) (i:=0) hx (.row hr hob ho hrow hsz hlen) (hhi _) rfl (Nat.zero_le _) hj
    rw [this,Nat.zero_mul];rfl
theorem cB.cut {h:Heap} {qs:List Pr}:∀{l:List Pr} {rows:List (List V)},cB h (l++qs) rows→cB h l (rows.take l.length)
 |[],rows,_=>rfl
 |p::l,rows,hr=>by
  obtain ⟨r,rs,rfl,h1,h2⟩:=hr
  exact ⟨r,rs.take l.length,rfl,h1,h2.cut⟩
def uD (h:Heap) (m:Md) (row:List V):Prop:=MdR h m row∧∃a b vi vv vp,row=[a,b,vi,vv,vp]∧CS vv∧CS vp
theorem uD.zero (h:Heap):uD h zMd [.str 0 0, .int .i64 0, .slN, .slN, .slN]:=⟨MdR.zero h,_,_,_,_,_,rfl,trivial,trivial⟩
theorem uD.row {h:Heap} {m:Md} {row:List V} (a:uD h m row):∃vi vv vp,row=[L.str m.name, .int .i64 (m.at_:Int),vi,vv,vp]∧CS vv∧CS vp:=by
 obtain ⟨⟨vi,vv,vp,rfl,_⟩,a1,a2,a3,a4,a5,e,h1,h2⟩:=a
 cases e
 exact ⟨vi,vv,vp,rfl,h1,h2⟩
section
variable {h:Heap} {m:Md} {x y vi vv vp:V}
theorem uD.vars (a:uD h m [x,y,vi,vv,vp]):Rows 4 h vv (m.vars.map Vr.row):=by
 obtain ⟨⟨_,_,_,e,_,h2,_⟩,_⟩:=a
 cases e;exact h2
theorem uD.procs (a:uD h m [x,y,vi,vv,vp]):∃rows,Rows 8 h vp rows∧rows.length=m.procs.length:=by
 obtain ⟨⟨_,_,_,e,_,_,rows,h3,h4⟩,_⟩:=a
 cases e;exact ⟨rows,h3,h4.len⟩
theorem uD.cut {n:Md} {vs:List Vr} {ps:List Pr} (a:uD h m [x,y,vi,vv,vp]) (e:m=⟨n.name,n.at_,n.imports,n.vars++vs,n.procs++ps⟩):MdR h n [x,y,vi,cutV vv n.vars.length,cutV vp n.procs.length]:=by
 subst e
 obtain ⟨⟨_,_,_,e,h1,h2,rows,h3,h4⟩,_⟩:=a
 cases e
 refine ⟨_,_,_,rfl,h1, ?_,rows.take n.procs.length,h3.cut ?_,h4.cut⟩
 · have:=h2.cut (j:=n.vars.length) (by simp)
   rw [←List.map_take,List.take_left' rfl] at this;exact this
 · rw [h4.len];simp
end
theorem Co:∀k,Lex.bX k++Lex.Fq=Lex.bX (k+1)
 |0=>by simp [Lex.bX]
 |k+1=>by rw [Lex.bX,List.append_assoc,Co k];rfl
theorem y7:∀k,(Lex.bX k).length=44 * k
 |0=>rfl
 |k+1=>by rw [Lex.bX,List.length_append,y7 k,Lex.Aj];omega
theorem PD {s:List UInt8} {e a:Nat} (h:Par.text s= .error (e,a)):e≠0:=by
 unfold Par.text at h
 cases hx:Lex.lex s with
 |error z=>obtain ⟨e',a'⟩:=z;rw [hx] at h;cases h;exact Fb hx
 |ok ts=>
  rw [hx] at h
  obtain ⟨us,b,rfl⟩:=BZ hx
  have T:Par.Two (us++[⟨0,[],b⟩]) (us++[⟨0,[],b⟩]) 0:=⟨Nat.zero_le _,Nat.zero_le _,fun _ _=>rfl,fun (t:Tok) ht=>by simp at ht;subst ht;rfl⟩
  rcases Par.yP T (d:=0) (by simp) with ⟨x,i,g,_⟩|⟨e',j,g,_,g2,_⟩
  · simp only [g] at h;cases h
  · simp only [g] at h;cases h;omega
theorem tx_more {s:List UInt8} {k:Nat} (h:txE s=0) (hs:s.length≤1000) (hk:k≤9):∃vs ps,vs.length=k∧ps.length=k∧(∀v∈vs,v.init= -3)∧txE (s++Lex.bX k)=0∧txM (s++Lex.bX k)=⟨(txM s).name,(txM s).at_,(txM s).imports,(txM s).vars++vs,(txM s).procs++ps⟩:=by
 cases hx:Par.text s with
 |error z=>
  obtain ⟨e,a⟩:=z
  unfold txE at h;rw [hx] at h
  exact absurd h (PD hx)
 |ok M=>
  obtain ⟨vs,ps,h1,h2,h3,h4⟩:=Par.ME hx hs hk
  have e:txM s=M:=by unfold txM;rw [hx]
  refine ⟨vs,ps,h1,h2,h3, ?_, ?_⟩
  · unfold txE;rw [h4]
  · rw [e];show txM (s++Lex.bX k)=_;unfold txM;rw [h4]
theorem MQ {V vs:List Vr} {k:Nat} (hl:vs.length=k) (hk:0<k) (hi:∀v∈vs,v.init= -3):∃v,(V++vs)[V.length+k - 1]? =some v∧v.init= -3:=by
 have hlt:k - 1<vs.length:=by omega
 refine ⟨vs[k - 1], ?_,hi _ (List.getElem_mem hlt)⟩
 rw [List.getElem?_append_right (by omega),show V.length+k - 1 - V.length=k - 1 by omega,List.getElem?_eq_getElem hlt]
end
end Go.Eng
