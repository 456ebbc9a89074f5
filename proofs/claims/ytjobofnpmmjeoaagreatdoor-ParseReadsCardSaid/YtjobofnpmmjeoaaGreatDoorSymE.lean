/- Part of a proof of a law: rules of an evaluator, contracts, plain laws. No condition of its own. -/
import Derived.Test.YtjobofnpmmjeoaaGreatDoorSymA
set_option linter.unusedVariables false
set_option linter.unusedSimpArgs false
namespace Go.Eng
noncomputable section
namespace Par
structure Two (ts ts':List Tok) (m:Nat):Prop where
 le:m≤ts.length
 le':m≤ts'.length
 same:∀j,j<m→ts[j]? =ts'[j]?
 last:∀t,ts.getLast? =some t→t.kind=0
section
variable {ts ts':List Tok} {m:Nat} {α β:Type}
def Sim (ts ts':List Tok) (m i k:Nat) (r r':R α):Prop:=
 (∃x i1,r= .ok (x,ts.drop i1)∧i≤i1∧k≤i1∧i1<ts.length∧(i1<m→r'= .ok (x,ts'.drop i1)))∨
 (∃e j,r= .error (e,here (ts.drop j))∧i≤j∧j<ts.length∧(j<m→r'= .error (e,here (ts.drop j))))
theorem Sim.mono {i i1 k k1:Nat} {r r':R α} (h:Sim ts ts' m i1 k1 r r') (hi:i≤i1) (hk:k≤k1):Sim ts ts' m i k r r':=by
 rcases h with ⟨x,j,e,h1,h0,h2,h3⟩|⟨x,j,e,h1,h2,h3⟩
 · exact Or.inl ⟨x,j,e,by omega,by omega,h2,h3⟩
 · exact Or.inr ⟨x,j,e,by omega,h2,h3⟩
theorem Sim.here {i k:Nat} {r r':R α} (h:Sim ts ts' m i k r r') {j:Nat} (hj:j≤i):Sim ts ts' m i j r r':=by
 rcases h with ⟨x,j,e,h1,h0,h2,h3⟩|⟨x,j,e,h1,h2,h3⟩
 · exact Or.inl ⟨x,j,e,by omega,by omega,h2,h3⟩
 · exact Or.inr ⟨x,j,e,by omega,h2,h3⟩
theorem Sim.any {i k:Nat} {r r' r2:R α} (h:Sim ts ts' m i k r r') (hi:m≤i):Sim ts ts' m i k r r2:=by
 rcases h with ⟨x,j,e,h1,h0,h2,h3⟩|⟨x,j,e,h1,h2,h3⟩
 · exact Or.inl ⟨x,j,e,h1,h0,h2,fun h=>by omega⟩
 · exact Or.inr ⟨x,j,e,h1,h2,fun h=>by omega⟩
theorem Sim.bind {i k k2:Nat} {r r':R α} {f f':α→List Tok→R β} (h:Sim ts ts' m i k r r') (K:∀x i1,i≤i1→k≤i1→i1<ts.length→Sim ts ts' m i1 k2 (f x (ts.drop i1)) (f' x (ts'.drop i1))):
  Sim ts ts' m i k2 (match (generalizing:=false) r with| .error e=> .error e| .ok (x,l)=>f x l) (match (generalizing:=false) r' with| .error e=> .error e| .ok (x,l)=>f' x l):=by
 rcases h with ⟨x,i1,rfl,h1,h0,h2,h3⟩|⟨e,j,rfl,h1,h2,h3⟩
 · by_cases hm:i1<m
   · rw [h3 hm];exact (K x i1 h1 h0 h2).mono h1 (Nat.le_refl _)
   · exact ((K x i1 h1 h0 h2).any (by omega)).mono h1 (Nat.le_refl _)
 · exact Or.inr ⟨e,j,rfl,h1,h2,fun hm=>by rw [h3 hm]⟩
theorem Two.hd (T:Two ts ts' m) {i:Nat} (h:i<m):hd (ts.drop i)=hd (ts'.drop i):=by
 have e:=T.same i h
 have h1:=T.le;have h2:=T.le'
 rw [List.getElem?_eq_getElem (by omega),List.getElem?_eq_getElem (by omega)] at e
 rw [List.drop_eq_getElem_cons (l:=ts) (i:=i) (by omega),List.drop_eq_getElem_cons (l:=ts') (i:=i) (by omega)]
 exact Option.some.inj e
theorem Two.here (T:Two ts ts' m) {i:Nat} (h:i<m):here (ts.drop i)=here (ts'.drop i):=by unfold Par.here;rw [T.hd h]
theorem Two.is (T:Two ts ts' m) {i:Nat} (h:i<m) (s:List UInt8):is s (ts.drop i)=is s (ts'.drop i):=by unfold Par.is;rw [T.hd h]
theorem Two.find (T:Two ts ts' m) {i:Nat} (h:i<m) (ops:List Opn):find ops (ts.drop i)=find ops (ts'.drop i):=by
 unfold Par.find;congr 1;funext o;rw [T.is h]
theorem Two.tail (T:Two ts ts' m) {i:Nat} (hi:i<ts.length) (hk:(Par.hd (ts.drop i)).kind≠0):i+1<ts.length:=by
 apply Classical.byContradiction
 intro hn
 have e:i+1=ts.length:=by omega
 apply hk
 rw [List.drop_eq_getElem_cons hi]
 show ts[i].kind=0
 refine T.last _ ?_
 rw [List.getLast?_eq_getElem?,show ts.length - 1=i by omega,List.getElem?_eq_getElem hi]
theorem is_kind {s:List UInt8} {l:List Tok} (h:is s l=true):(Par.hd l).kind≠0:=fun e=>by simp [Par.is,e] at h
theorem Two.isTail (T:Two ts ts' m) {i:Nat} {s:List UInt8} (hi:i<ts.length) (h:Par.is s (ts.drop i)=true):i+1<ts.length:=T.tail hi (is_kind h)
theorem Sim.map {i k:Nat} {r r':R α} (g:α→β) (h:Sim ts ts' m i k r r'):Sim ts ts' m i k (match (generalizing:=false) r with| .ok (t,l)=> .ok (g t,l)| .error e=> .error e) (match (generalizing:=false) r' with| .ok (t,l)=> .ok (g t,l)| .error e=> .error e):=by
 rcases h with ⟨x,i1,rfl,h1,h0,h2,h3⟩|⟨e,j,rfl,h1,h2,h3⟩
 · exact Or.inl ⟨g x,i1,rfl,h1,h0,h2,fun hm=>by rw [h3 hm]⟩
 · exact Or.inr ⟨e,j,rfl,h1,h2,fun hm=>by rw [h3 hm]⟩
def bnd (r:R α) (f:α→List Tok→R β):R β:=match r with
 | .error e=> .error e
 | .ok (x,l)=>f x l
def fnd (o:Option Opn) (a:R α) (g:Opn→R α):R α:=match o with
 |none=>a
 |some o=>g o
theorem Sim.bnd {i k k2:Nat} {r r':R α} {f f':α→List Tok→R β} (h:Sim ts ts' m i k r r') (K:∀x i1,i≤i1→k≤i1→i1<ts.length→Sim ts ts' m i1 k2 (f x (ts.drop i1)) (f' x (ts'.drop i1))):
  Sim ts ts' m i k2 (Par.bnd r f) (Par.bnd r' f'):=Sim.bind h K
theorem Sim.fnd (T:Two ts ts' m) {i k:Nat} {ops:List Opn} {a a':R α} {g g':Opn→R α} (hi:i<ts.length) (h0:Sim ts ts' m i k a a') (h1:∀o,i+1<ts.length→Sim ts ts' m i k (g o) (g' o)):
  Sim ts ts' m i k (Par.fnd (find ops (ts.drop i)) a g) (Par.fnd (find ops (ts'.drop i)) a' g'):=by
 have main:Sim ts ts' m i k (Par.fnd (find ops (ts.drop i)) a g) (Par.fnd (find ops (ts.drop i)) a' g'):=by
  cases hf:find ops (ts.drop i) with
  |none=>exact h0
  |some o=>
   have ho:is o.1 (ts.drop i)=true:=List.find?_some (p:=fun o:Opn=>is o.1 (ts.drop i)) hf
   exact h1 o (T.isTail hi ho)
 by_cases hm:i<m
 · rw [←T.find hm];exact main
 · exact main.any (by omega)
theorem name_eq (l:List Tok):name l=bnd (of 1 l) fun t l=> .ok (t.text,l):=by kernel_rfl
theorem number_eq (l:List Tok):number l=bnd (of 2 l) fun t l=> .ok (Go.Eng.num t.text,l):=by kernel_rfl
theorem Sd (l:List Tok):gB l=bnd (name l) fun a l=>if is [46] l=true then bnd (name l.tail) fun b l=> .ok ((a,b),l) else .ok (([],a),l):=by kernel_rfl
theorem Ov (un:E) (ops:List Opn) (f d a:Nat) (l:List Tok) (ns:List Nd):gQ un ops (f+1) d l a ns=fnd (find ops l) (.ok ((a,ns),l)) fun o=>bnd (un d l.tail ns) fun x l'=>gQ un ops f d l' x.2.length (x.2++[⟨o.2,0,[],[],(a:Int),(x.1:Int),here l⟩]):=by kernel_rfl
theorem Sg (un:E) (ops:List Opn) (d:Nat) (l:List Tok) (ns:List Nd):chain un ops d l ns=bnd (un d l ns) fun x l'=>gQ un ops l'.length d l' x.1 x.2:=by kernel_rfl
theorem Si (un:E) (d:Nat) (l:List Tok) (ns:List Nd):whole un d l ns=bnd (sum un d l ns) fun x l1=>fnd (find jJ l1) (.ok (x,l1)) fun o=>bnd (sum un d l1.tail x.2) fun y l'=> .ok ((y.2.length,y.2++[⟨o.2,0,[],[],(x.1:Int),(y.1:Int),here l1⟩]),l'):=by kernel_rfl
theorem Ow (un:E) (d:Nat) (l:List Tok) (ns:List Nd):gT un d l ns=fnd (find iB l)
  (if is [40] l=true then (if 40≤d then fail 12 l else bnd (whole un (d+1) l.tail ns) fun x l'=>bnd (must [41] l') fun _ l'=> .ok (x,l'))
   else if (hd l).kind=2 then bnd (number l) fun n l'=> .ok ((ns.length,ns++[⟨1,(n:Int),[],[], -1, -1,here l⟩]),l')
   else bnd (gB l) fun q l'=> .ok ((ns.length,ns++[⟨2,0,q.1,q.2, -1, -1,here l⟩]),l'))
  fun o=>if 40≤d then fail 12 l else bnd (un (d+1) l.tail ns) fun x l'=> .ok ((x.2.length,x.2++[⟨o.2,0,[],[],(x.1:Int), -1,here l⟩]),l'):=by kernel_rfl
theorem expr_eq (d:Nat) (l:List Tok):expr d l=bnd (whole (unary l.length) d l []) fun x l=> .ok (x.2,l):=by kernel_rfl
end
end Par
end
end Go.Eng
namespace Go.Eng
noncomputable section
namespace Par
section
variable {ts ts':List Tok} {m:Nat} {α β:Type}
theorem fin_eq (s:Sm) (l:List Tok):fin s l=bnd (must [59] l) fun _ l'=> .ok (s,l'):=by kernel_rfl
theorem Ox (d f:Nat) (l:List Tok):iC d (f+1) l []=if is [41] l=true then .ok ([],l.tail) else bnd (expr d l) fun e l'=>iC d f l' [e]:=by kernel_rfl
theorem Kz (d f:Nat) (l:List Tok) (a:List Nd) (as:List (List Nd)):iC d (f+1) l (a::as)=if is [41] l=true then .ok (a::as,l.tail) else bnd (must [44] l) fun _ l1=>bnd (expr d l1) fun e l'=>iC d f l' ((a::as)++[e]):=by kernel_rfl
theorem Sj (d:Nat) (c:Cl) (l:List Tok):jR d c l=bnd (must [40] l) fun _ l1=>bnd (iC d l1.length l1 []) fun as l2=> .ok ({c with args:=as},l2):=by kernel_rfl
theorem call_eq (d:Nat) (l:List Tok):call d l=bnd (gB l) fun q l1=>if is [61] l1=true then bnd (gB l1.tail) fun r l2=>jR d ⟨true,q.1,q.2,r.1,r.2,[]⟩ l2 else jR d ⟨false,[],[],q.1,q.2,[]⟩ l1:=by kernel_rfl
theorem stIf_eq (blk:Bk) (d a:Nat) (l:List Tok):jD blk d a l=bnd (expr d l) fun e l1=>bnd (blk d l1) fun b l2=>if is [101,108,115,101] l2=true then bnd (blk d l2.tail) fun el l3=> .ok (.mk 5 a [] [] [] false [] [] e [] b el,l3) else .ok (.mk 5 a [] [] [] false [] [] e [] b [],l2):=by kernel_rfl
theorem KA (blk:Bk) (d a:Nat) (l:List Tok):cZ blk d a l=bnd (expr d l) fun e l1=>bnd (blk d l1) fun b l2=> .ok (.mk 6 a [] [] [] false [] [] e [] b [],l2):=by kernel_rfl
theorem Sk (d a:Nat) (l:List Tok):gF d a l=bnd (name l) fun n l1=>bnd (must [58] l1) fun _ l2=>bnd (name l2) fun lb l3=>bnd (must [61] l3) fun _ l4=>bnd (expr d l4) fun e l5=>fin (.mk 1 a [] n lb false [] [] e [] [] []) l5:=by kernel_rfl
theorem IU (d a:Nat) (l:List Tok):bI d a l=bnd (must [61] l) fun _ l1=>bnd (expr d l1) fun e l2=>fin (.mk 3 a [] [] [] false [] [] e [] [] []) l2:=by kernel_rfl
theorem Oy (d a:Nat) (l:List Tok):dR d a l=bnd (call d l) fun c l1=>fin (.mk 4 a c.mod c.name [] c.has c.tomod c.to [] c.args [] []) l1:=by kernel_rfl
theorem Oz (a:Nat) (l:List Tok):dS a l=bnd (name l) fun n l1=>fin (.mk 7 a [] n [] false [] [] [] [] [] []) l1:=by kernel_rfl
theorem Sl (d a:Nat) (l:List Tok):gM d a l=bnd (gB l) fun q l1=>bnd (must [61] l1) fun _ l2=>bnd (expr d l2) fun e l3=>fin (.mk 2 a q.1 q.2 [] false [] [] e [] [] []) l3:=by kernel_rfl
theorem OA (stm:Nat→List Tok→R Sm) (d f:Nat) (l:List Tok) (ss:List Sm):jg stm d (f+1) l ss=if is [125] l=true then .ok (ss,l.tail) else bnd (stm d l) fun s l'=>jg stm d f l' (ss++[s]):=by kernel_rfl
theorem IV {x:α} (one:α→List Tok→R α) (e:List UInt8) (f n:Nat) (l:List Tok):dx one e (f+1) n l x=if is e l=true then .ok (x,l.tail) else if n=0 then bnd (one x l) fun y l'=>dx one e f 1 l' y else bnd (must [44] l) fun _ l1=>bnd (one x l1) fun y l'=>dx one e f (n+1) l' y:=by kernel_rfl
theorem parm_eq (x:List Pm) (l:List Tok):qM x l=bnd (name l) fun n l1=>bnd (must [58] l1) fun _ l2=>bnd (name l2) fun b l3=> .ok (x++[⟨n,b,here l⟩],l3):=by kernel_rfl
theorem use_eq (x:List (List UInt8)) (l:List Tok):use x l=bnd (name l) fun n l1=> .ok (x++[n],l1):=by kernel_rfl
theorem Sn (d:Nat) (q:Pr) (l:List Tok):gN d q l=bnd (must [112,99] l) fun _ l1=>bnd (name l1) fun pc l2=>bnd (must [117,115,101,115] l2) fun _ l3=>bnd (must [123] l3) fun _ l4=>bnd (several use [125] l4 []) fun us l5=>bnd (block d l5) fun b l6=> .ok ({q with pc:=pc,uses:=us,body:=b},l6):=by kernel_rfl
theorem proc_eq (d:Nat) (l:List Tok):proc d l=bnd (name l) fun n l1=>bnd (must [40] l1) fun _ l2=>bnd (several qM [41] l2 []) fun ps l3=>if is [45,62] l3=true then bnd (name l3.tail) fun r l4=>gN d ⟨n,ps,true,r,[],[],[],here l⟩ l4 else gN d ⟨n,ps,false,[],[],[],[],here l⟩ l3:=by kernel_rfl
theorem varE_eq (n lb:List UInt8) (at_:Nat) (neg:Bool) (l:List Tok):kX n lb at_ neg l=bnd (number l) fun k l1=>bnd (must [59] l1) fun _ l2=> .ok (⟨n,lb,if neg then -(k:Int) else (k:Int),at_⟩,l2):=by kernel_rfl
theorem varD_eq (l:List Tok):pz l=bnd (name l) fun n l1=>bnd (must [58] l1) fun _ l2=>bnd (name l2) fun b l3=>bnd (must [61] l3) fun _ l4=>if is [45] l4=true then kX n b (here l) true l4.tail else kX n b (here l) false l4:=by kernel_rfl
theorem Sv (f:Nat) (l:List Tok) (x:List Im):iU (f+1) l x=if is [105,109,112,111,114,116] l=true then bnd (name l.tail) fun n l1=>bnd (must [59] l1) fun _ l2=>iU f l2 (x++[⟨n,here l.tail⟩]) else .ok (x,l):=by kernel_rfl
theorem OB (d f:Nat) (l:List Tok) (vs:List Vr) (ps:List Pr):dU d (f+1) l vs ps=if (hd l).kind=0 then .ok ((vs,ps),l) else if is [118,97,114] l=true then bnd (pz l.tail) fun v l1=>dU d f l1 (vs++[v]) ps else bnd (must [112,114,111,99] l) fun _ l1=>bnd (proc d l1) fun p l2=>dU d f l2 vs (ps++[p]):=by kernel_rfl
theorem Sw (d:Nat) (l:List Tok):kD d l=bnd (must [109,111,100,117,108,101] l) fun _ l1=>bnd (name l1) fun n l2=>bnd (must [59] l2) fun _ l3=>bnd (iU l3.length l3 []) fun is l4=>bnd (dU d l4.length l4 [] []) fun x l5=> .ok (⟨n,here l1,is,x.1,x.2⟩,l5):=by kernel_rfl
end
end Par
end
end Go.Eng
namespace Go.Eng
noncomputable section
namespace Lex
def cutl:List UInt8→List UInt8
 |[]=>[]
 |c::r=>if blank c then [c] else if c.toNat=35 then (c::r).takeWhile iV else if small c then (c::r).takeWhile within else if digit c then (c::r).takeWhile digit else sign (c::r)
structure Piece (l w r:List UInt8):Prop where
 split:l=w++r
 cut:cutl l=w
end Lex
end
end Go.Eng
namespace Go.Eng
noncomputable section
end
end Go.Eng
namespace Go.Eng
noncomputable section
def Nd.er (n:Nd):Nd:={n with at_:=0}
def uM (b:Bool) (es es':List Nd):Prop:=es.map Nd.er=es'.map Nd.er∧(b=true→es=es')
theorem uM.len {b:Bool} {es es':List Nd} (h:uM b es es'):es'.length=es.length:=by simpa using (congrArg List.length h.1).symm
theorem uM.at_ {b:Bool} {es es':List Nd} (h:uM b es es') {i:Nat} {x y:Nd} (hb:b=true) (hx:es[i]? =some x) (hy:es'[i]? =some y):x.at_=y.at_:=by
 rw [←h.2 hb,hx] at hy;cases hy;rfl
def Db (b:Bool) (as as':List (List Nd)):Prop:=as'.length=as.length∧∀(i:Nat) (e e':List Nd),as[i]? =some e→as'[i]? =some e'→uM b e e'
mutual
inductive OC (b:Bool):Sm→Sm→Prop
 |mk {k a a':Nat} {m n l:List UInt8} {hs:Bool} {tm t:List UInt8} {e e':List Nd} {as as':List (List Nd)} {bd bd' el el':List Sm} (ha:b=true→a=a') (he:uM b e e') (has:Db b as as') (hb:nM b bd bd') (hl:nM b el el'):
   OC b (.mk k a m n l hs tm t e as bd el) (.mk k a' m n l hs tm t e' as' bd' el')
inductive nM (b:Bool):List Sm→List Sm→Prop
 |nil:nM b [] []
 |cons {s s':Sm} {l l':List Sm} (hs:OC b s s') (hl:nM b l l'):nM b (s::l) (s'::l')
end
theorem nM.len {b:Bool}:∀{l l':List Sm},nM b l l'→l'.length=l.length
 |_,_, .nil=>rfl
 |_,_, .cons _ h=>by simp [h.len]
theorem nM.at_ {b:Bool}:∀{l l':List Sm} {i:Nat} {s:Sm},nM b l l'→l[i]? =some s→∃s',l'[i]? =some s'∧OC b s s'
 |_,_,_,_, .nil,h=>by simp at h
 |_,_,0,s, .cons hs _,h=>by simp at h;subst h;exact ⟨_,rfl,hs⟩
 |_,_,i+1,s, .cons _ hl,h=>by
  obtain ⟨s',h1,h2⟩:=hl.at_ (i:=i) (s:=s) (by simpa using h)
  exact ⟨s',by simpa using h1,h2⟩
def iT (as:List (List Nd)):Nat:=as.foldr (fun e n=>1+e.length+n) 0
theorem zl:∀{as:List (List Nd)} {i:Nat} {e:List Nd},as[i]? =some e→e.length≤iT as
 |[],_,_,h=>by simp at h
 |a::as,0,e,h=>by simp at h;subst h;simp [iT];omega
 |a::as,i+1,e,h=>by
  have:=zl (as:=as) (i:=i) (e:=e) (by simpa using h)
  simp [iT] at this ⊢;omega
theorem xg:∀as:List (List Nd),as.length≤iT as
 |[]=>by simp
 |a::as=>by have:=xg as;simp [iT] at this ⊢;omega
mutual
def Sm.sz:Sm→Nat
 | .mk _ _ _ _ _ _ _ _ e as bd el=>1+e.length+iT as+Sms.sz bd+Sms.sz el
def Sms.sz:List Sm→Nat
 |[]=>0
 |s::l=>Sm.sz s+Sms.sz l
end
theorem Sms.SA:∀{l:List Sm} {i:Nat} {s:Sm},l[i]? =some s→Sm.sz s≤Sms.sz l
 |[],_,_,h=>by simp at h
 |a::l,0,s,h=>by simp at h;subst h;simp [Sms.sz]
 |a::l,i+1,s,h=>by
  have:=Sms.SA (l:=l) (i:=i) (s:=s) (by simpa using h)
  simp [Sms.sz];omega
theorem Sm.sz_pos (s:Sm):1≤Sm.sz s:=by cases s;simp [Sm.sz];omega
theorem Sms.SB:∀l:List Sm,l.length≤Sms.sz l
 |[]=>by simp
 |s::l=>by have:=Sms.SB l;have:=Sm.sz_pos s;simp [Sms.sz];omega
theorem bF.at_ {h:Heap}:∀{l:List Sm} {rw:List (List V)} {i:Nat} {s:Sm},bF h l rw→l[i]? =some s→∃row,rw[i]? =some row∧SmR h s row
 |[],_,_,_,_,h=>by simp at h
 |a::l,rw,0,s,hr,h=>by
  simp only [bF] at hr
  obtain ⟨r,rs,rfl,h1,_⟩:=hr
  simp at h;subst h;exact ⟨r,rfl,h1⟩
 |a::l,rw,i+1,s,hr,h=>by
  simp only [bF] at hr
  obtain ⟨r,rs,rfl,_,h2⟩:=hr
  obtain ⟨row,h3,h4⟩:=bF.at_ (i:=i) (s:=s) h2 (by simpa using h)
  exact ⟨row,by simpa using h3,h4⟩
theorem bF.len {h:Heap}:∀{l:List Sm} {rw:List (List V)},bF h l rw→rw.length=l.length
 |[],rw,hr=>by simp only [bF] at hr;subst hr;rfl
 |a::l,rw,hr=>by
  simp only [bF] at hr
  obtain ⟨r,rs,rfl,_,h2⟩:=hr
  simp [h2.len]
theorem St.smAt {fs:List Fact} {h:Heap} {l:List Sm} {rw:List (List V)} {i k a:Nat} {m n lb:List UInt8} {hs:Bool} {tm t:List UInt8} {e:List Nd} {as:List (List Nd)} {bd el:List Sm} (st:St (.stb (fun h=>bF h l rw)::fs) h) (hi:l[i]? =some (.mk k a m n lb hs tm t e as bd el)):
  ∃ve va vb vl,rw[i]? =some [.int .i64 (k:Int), .int .i64 (a:Int),L.str m,L.str n,L.str lb, .bool hs,L.str tm,L.str t,ve,va,vb,vl]∧
   St (.stb (fun h=>Rows 7 h ve (e.map Nd.row)):: .stb (fun h=>lM h va as):: .stb (fun h=>iD h vb bd):: .stb (fun h=>iD h vl el):: .stb (fun h=>bF h l rw)::fs) h:=by
 obtain ⟨row,h1,h2⟩:=(st.aJ 0 rfl).at_ hi
 simp only [SmR] at h2
 obtain ⟨ve,va,vb,vl,rfl,_⟩:=h2
 refine ⟨ve,va,vb,vl,h1, ?_⟩
 have all:∀h,bF h l rw→Rows 7 h ve (e.map Nd.row)∧lM h va as∧iD h vb bd∧iD h vl el:=by
  intro h hr
  obtain ⟨row',g1,g2⟩:=hr.at_ hi
  rw [h1] at g1
  cases g1
  simp only [SmR] at g2
  obtain ⟨ve',va',vb',vl',ge,g3,g4,g5,g6⟩:=g2
  simp only [List.cons.injEq,true_and,and_true] at ge
  obtain ⟨rfl,rfl,rfl,rfl⟩:=ge
  exact ⟨g3,g4,g5,g6⟩
 have s1:=st.imp fun h hr=>(all h hr).2.2.2
 have s2:=((s1.pick 1 rfl).imp fun h hr=>(all h hr).2.2.1)
 have s3:=((s2.pick 1 rfl).imp fun h hr=>(all h hr).2.1)
 have s4:=((s3.pick 1 rfl).imp fun h hr=>(all h hr).1)
 exact ((((s4.pick 1 rfl).pick 4 rfl).pick 4 rfl).pick 4 rfl).pick 4 rfl
theorem St.argsAt {fs:List Fact} {h:Heap} {va:V} {as:List (List Nd)} (st:St (.stb (fun h=>lM h va as)::fs) h):
  ∃vs:List V,St (.stb (fun h=>Rows 1 h va (vs.map fun x=>[x])):: .stb (fun h=>bH h as vs)::fs) h:=by
 have s0:St (.stb (fun h=>∃rows,Rows 1 h va rows∧∃vs:List V,rows=vs.map (fun x=>[x])∧bH h as vs)::fs) h:=
  st.iA fun h ⟨vs,h1,h2⟩=>⟨_,h1,vs,rfl,h2⟩
 obtain ⟨rows,s1⟩:=s0.Fp
 obtain ⟨vs,rfl,_⟩:=s1.aJ 1 rfl
 refine ⟨vs, ?_⟩
 have s2:=(s1.pick 1 rfl).iA (Q:=fun h=>bH h as vs) fun h ⟨vs',e,hr⟩=>by
  have hinj:vs'=vs:=by
   have:=congrArg (fun l:List (List V)=>l.map fun r=>r.headD .bot) e
   simpa [List.map_map,Function.comp_def] using this.symm
  subst hinj;exact hr
 exact s2.pick 1 rfl
theorem bH.at_ {h:Heap}:∀{as:List (List Nd)} {vs:List V} {i:Nat} {e:List Nd},bH h as vs→as[i]? =some e→∃v,vs[i]? =some v∧Rows 7 h v (e.map Nd.row)
 |[],_,_,_,_,h=>by simp at h
 |a::as,[],_,_,hr,_=>by simp [bH] at hr
 |a::as,v::vs,0,e,hr,h=>by
  simp only [bH] at hr
  simp at h;subst h;exact ⟨v,rfl,hr.1⟩
 |a::as,v::vs,i+1,e,hr,h=>by
  simp only [bH] at hr
  obtain ⟨w,h1,h2⟩:=bH.at_ (i:=i) (e:=e) hr.2 (by simpa using h)
  exact ⟨w,by simpa using h1,h2⟩
theorem St.LJ {fs:List Fact} {h:Heap} {as:List (List Nd)} {vs:List V} {i:Nat} {e:List Nd} (st:St (.stb (fun h=>bH h as vs)::fs) h) (hi:as[i]? =some e):
  ∃v,vs[i]? =some v∧St (.stb (fun h=>Rows 7 h v (e.map Nd.row)):: .stb (fun h=>bH h as vs)::fs) h:=by
 obtain ⟨v,h1,_⟩:=(st.aJ 0 rfl).at_ hi
 refine ⟨v,h1,st.imp fun h hr=> ?_⟩
 obtain ⟨w,g1,g2⟩:=hr.at_ hi
 rw [h1] at g1;cases g1;exact g2
end
end Go.Eng
namespace Go.Eng
noncomputable section
structure Ab {α:Type} (R:α→α→Prop) (l l':List α):Prop where
 len:l'.length=l.length
 at_:∀(i:Nat) (x y:α),l[i]? =some x→l'[i]? =some y→R x y
structure ImEq (b:Bool) (x y:Im):Prop where
 name:x.name=y.name
 at_:b=true→x.at_=y.at_
structure VrEq (b:Bool) (x y:Vr):Prop where
 name:x.name=y.name
 label:x.label=y.label
 init:x.init=y.init
 at_:b=true→x.at_=y.at_
structure PmEq (b:Bool) (x y:Pm):Prop where
 name:x.name=y.name
 label:x.label=y.label
 at_:b=true→x.at_=y.at_
structure PrEq (b:Bool) (x y:Pr):Prop where
 name:x.name=y.name
 has:x.has=y.has
 result:x.result=y.result
 pc:x.pc=y.pc
 uses:x.uses=y.uses
 params:Ab (PmEq b) x.params y.params
 body:nM b x.body y.body
 at_:b=true→x.at_=y.at_
structure MdEq (b:Bool) (x y:Md):Prop where
 name:x.name=y.name
 at_:b=true→x.at_=y.at_
 imports:Ab (ImEq b) x.imports y.imports
 vars:Ab (VrEq b) x.vars y.vars
 procs:Ab (PrEq b) x.procs y.procs
structure IW (m:Md):Prop where
 imports:m.imports.length<4294967296
 vars:m.vars.length<4294967296
 procs:m.procs.length<4294967296
 proc:∀p∈m.procs,p.params.length<4294967296∧p.uses.length<4294967296∧Sms.sz p.body<4294967296
theorem bZ.at_ {h:Heap}:∀{l:List Pr} {rw:List (List V)} {i:Nat} {s:Pr},bZ h l rw→l[i]? =some s→∃row,rw[i]? =some row∧PrR h s row
 |[],_,_,_,_,h=>by simp at h
 |a::l,rw,0,s,hr,h=>by
  simp only [bZ] at hr
  obtain ⟨r,rs,rfl,h1,_⟩:=hr
  simp at h;subst h;exact ⟨r,rfl,h1⟩
 |a::l,rw,i+1,s,hr,h=>by
  simp only [bZ] at hr
  obtain ⟨r,rs,rfl,_,h2⟩:=hr
  obtain ⟨row,h3,h4⟩:=bZ.at_ (i:=i) (s:=s) h2 (by simpa using h)
  exact ⟨row,by simpa using h3,h4⟩
theorem bZ.len {h:Heap}:∀{l:List Pr} {rw:List (List V)},bZ h l rw→rw.length=l.length
 |[],rw,hr=>by simp only [bZ] at hr;subst hr;rfl
 |a::l,rw,hr=>by
  simp only [bZ] at hr
  obtain ⟨r,rs,rfl,_,h2⟩:=hr
  simp [h2.len]
theorem St.prAt {fs:List Fact} {h:Heap} {l:List Pr} {rw:List (List V)} {i:Nat} {p:Pr} (st:St (.stb (fun h=>bZ h l rw)::fs) h) (hi:l[i]? =some p):
  ∃vp vu vb,rw[i]? =some [L.str p.name,vp, .bool p.has,L.str p.result,L.str p.pc,vu,vb, .int .i64 (p.at_:Int)]∧
   St (.stb (fun h=>Rows 3 h vp (p.params.map Pm.row)):: .stb (fun h=>Rows 1 h vu (p.uses.map bK)):: .stb (fun h=>iD h vb p.body):: .stb (fun h=>bZ h l rw)::fs) h:=by
 obtain ⟨row,h1,vp,vu,vb,rfl,_⟩:=(st.aJ 0 rfl).at_ hi
 refine ⟨vp,vu,vb,h1, ?_⟩
 have all:∀h,bZ h l rw→Rows 3 h vp (p.params.map Pm.row)∧Rows 1 h vu (p.uses.map bK)∧iD h vb p.body:=by
  intro h hr
  obtain ⟨row',g1,vp',vu',vb',ge,g3,g4,g5⟩:=hr.at_ hi
  rw [h1,ge] at g1
  simp only [Option.some.injEq,List.cons.injEq,true_and,and_true] at g1
  obtain ⟨rfl,rfl,rfl⟩:=g1
  exact ⟨g3,g4,g5⟩
 have s1:=st.imp fun h hr=>(all h hr).2.2
 have s2:=((s1.pick 1 rfl).imp fun h hr=>(all h hr).2.1)
 have s3:=((s2.pick 1 rfl).imp fun h hr=>(all h hr).1)
 exact (((s3.pick 1 rfl).pick 3 rfl).pick 3 rfl).pick 3 rfl
theorem St.mdAt {fs:List Fact} {h:Heap} {m:Md} {row:List V} (st:St (.stb (fun h=>MdR h m row)::fs) h):
  ∃vi vv vp rw,row=[L.str m.name, .int .i64 (m.at_:Int),vi,vv,vp]∧
   St (.stb (fun h=>Rows 2 h vi (m.imports.map Im.row)):: .stb (fun h=>Rows 4 h vv (m.vars.map Vr.row)):: .stb (fun h=>Rows 8 h vp rw):: .stb (fun h=>bZ h m.procs rw)::fs) h:=by
 obtain ⟨vi,vv,vp,rfl,_⟩:=st.aJ 0 rfl
 have all:∀h,MdR h m [L.str m.name, .int .i64 (m.at_:Int),vi,vv,vp]→Rows 2 h vi (m.imports.map Im.row)∧Rows 4 h vv (m.vars.map Vr.row)∧∃rows,Rows 8 h vp rows∧bZ h m.procs rows:=by
  intro h hr
  obtain ⟨vi',vv',vp',ge,g3,g4,g5⟩:=hr
  simp only [List.cons.injEq,true_and,and_true] at ge
  obtain ⟨rfl,rfl,rfl⟩:=ge
  exact ⟨g3,g4,g5⟩
 have s1:=st.imp fun h hr=>(all h hr).1
 have s2:=((s1.pick 1 rfl).imp fun h hr=>(all h hr).2.1)
 have s3:=((s2.pick 1 rfl).iA fun h hr=>(all h hr).2.2)
 obtain ⟨rw,s4⟩:=s3.Fp
 refine ⟨vi,vv,vp,rw,rfl, ?_⟩
 exact (s4.pick 2 rfl).pick 3 rfl
end
end Go.Eng
namespace Go.Eng
noncomputable section
namespace Par
def Tok.er (t:Tok):Nat×List UInt8:=(t.kind,t.text)
def Alike (l l':List Tok):Prop:=l.map Tok.er=l'.map Tok.er
theorem Alike.hd {l l':List Tok} (h:Alike l l'):(Par.hd l).kind=(Par.hd l').kind∧(Par.hd l).text=(Par.hd l').text:=by
 cases l with
 |nil=>cases l' with
  |nil=>exact ⟨rfl,rfl⟩
  |cons a l'=>cases h
 |cons b l=>cases l' with
  |nil=>cases h
  |cons a l'=>
   have:=(List.cons.inj h).1
   exact ⟨congrArg Prod.fst this,congrArg Prod.snd this⟩
theorem Alike.tail {l l':List Tok} (h:Alike l l'):Alike l.tail l'.tail:=by
 cases l with
 |nil=>cases l' with
  |nil=>exact rfl
  |cons a l'=>cases h
 |cons b l=>cases l' with
  |nil=>cases h
  |cons a l'=>exact (List.cons.inj h).2
theorem Alike.is {l l':List Tok} (h:Alike l l') (s:List UInt8):Par.is s l=Par.is s l':=by
 unfold Par.is;rw [h.hd.1,h.hd.2]
theorem Alike.find {l l':List Tok} (h:Alike l l') (ops:List Opn):Par.find ops l=Par.find ops l':=by
 unfold Par.find;congr 1;funext o;rw [h.is]
section
variable {α β:Type}
def Lk (X:α→α→Prop) (r r':R α):Prop:=(∃x x' l l',r= .ok (x,l)∧r'= .ok (x',l')∧X x x'∧Alike l l')∨∃e a a',r= .error (e,a)∧r'= .error (e,a')
theorem Lk.bnd {X:α→α→Prop} {Y:β→β→Prop} {r r':R α} {f f':α→List Tok→R β} (h:Lk X r r') (K:∀x x' l l',X x x'→Alike l l'→Lk Y (f x l) (f' x' l')):Lk Y (Par.bnd r f) (Par.bnd r' f'):=by
 rcases h with ⟨x,x',l,l',rfl,rfl,hx,hl⟩|⟨e,a,a',rfl,rfl⟩
 · exact K x x' l l' hx hl
 · exact Or.inr ⟨e,a,a',rfl,rfl⟩
def AX (as as':List (List Nd)):Prop:=Db false as as'
theorem AX.nil:AX [] []:=⟨rfl,fun i e e' h=>by simp at h⟩
structure CX (c c':Cl):Prop where
 has:c.has=c'.has
 mod:c.mod=c'.mod
 name:c.name=c'.name
 tomod:c.tomod=c'.tomod
 to:c.to=c'.to
 args:AX c.args c'.args
theorem Ab.nil {Rr:α→α→Prop}:Ab Rr [] []:=⟨rfl,fun i x y h=>by simp at h⟩
end
end Par
end
end Go.Eng
namespace Go.Eng
noncomputable section
namespace Lex
end Lex
end
end Go.Eng
namespace Go.Eng
noncomputable section
namespace Par
section
variable {α β:Type}
def Fw (z:α→Nat) (n:Nat) (r:R α):Prop:=∀x l',r= .ok (x,l')→z x+l'.length≤n
theorem Fw.bnd {z:α→Nat} {z2:β→Nat} {n n2:Nat} {r:R α} {f:α→List Tok→R β} (h:Fw z n r) (K:∀x l',z x+l'.length≤n→Fw z2 n2 (f x l')):Fw z2 n2 (Par.bnd r f):=by
 intro y l' e
 cases r with
 |error x=>cases e
 |ok x=>
  obtain ⟨x,l1⟩:=x
  exact K x l1 (h x l1 rfl) y l' e
theorem Fw.ret {z:α→Nat} {n:Nat} {x:α} {l:List Tok} (h:z x+l.length≤n):Fw z n (.ok (x,l)):=by
 intro y l' e;cases e;exact h
theorem Fw.err {z:α→Nat} {n:Nat} {e:Nat×Nat}:Fw z n (.error e:R α):=by intro y l' h;cases h
theorem Fw.fail {z:α→Nat} {n e:Nat} {l:List Tok}:Fw z n (fail e l:R α):=by intro y l' h;cases h
theorem Fw.ite {z:α→Nat} {n:Nat} {c:Prop} [Decidable c] {a b:R α} (h1:c→Fw z n a) (h2:¬c→Fw z n b):Fw z n (if c then a else b):=by
 by_cases h:c
 · rw [if_pos h];exact h1 h
 · rw [if_neg h];exact h2 h
theorem Fw.le {z:α→Nat} {n m:Nat} {r:R α} (h:Fw z n r) (hm:n≤m):Fw z m r:=fun x l e=>Nat.le_trans (h x l e) hm
theorem lI {s:List UInt8} {l:List Tok} (h:is s l=true):l.tail.length+1=l.length:=by
 cases l with
 |nil=>simp [is,hd] at h
 |cons a l=>rfl
theorem gW (s:List UInt8) (l:List Tok):Fw (fun _=>1) l.length (must s l):=by
 unfold must
 exact Fw.ite (fun h=>Fw.ret (by have:=lI h;omega)) fun _=>Fw.fail
theorem of_fw {k:Nat} (hk:k≠0) (l:List Tok):Fw (fun _=>1) l.length (of k l):=by
 unfold of
 refine Fw.ite (fun h=>Fw.ret ?_) fun _=>Fw.fail
 cases l with
 |nil=>exact absurd h.symm hk
 |cons a l=>simp;omega
theorem jM (l:List Tok):Fw (fun _=>1) l.length (name l):=by
 rw [name_eq];exact Fw.bnd (of_fw (by decide) l) fun _ _ h=>Fw.ret h
theorem EA (l:List Tok):Fw (fun _=>1) l.length (number l):=by
 rw [number_eq];exact Fw.bnd (of_fw (by decide) l) fun _ _ h=>Fw.ret h
theorem yE (l:List Tok):Fw (fun _=>1) l.length (gB l):=by
 rw [Sd]
 refine Fw.bnd (jM l) fun a m h=>Fw.ite (fun hi=> ?_) fun _=>Fw.ret h
 exact Fw.bnd (jM m.tail) fun b k h2=>Fw.ret (by simp at h2 ⊢;omega)
def NZ (x:Nat×List Nd):Nat:=x.2.length
def Dv (un:E):Prop:=∀d l ns,Fw NZ (ns.length+l.length) (un d l ns)
theorem KC {z:α→Nat} {n:Nat} {ops:List Opn} {l:List Tok} {a:R α} {g:Opn→R α} (h0:Fw z n a) (h1:∀o,l.tail.length+1=l.length→Fw z n (g o)):Fw z n (fnd (find ops l) a g):=by
 cases hf:find ops l with
 |none=>exact h0
 |some o=>
  have ho:is o.1 l=true:=List.find?_some (p:=fun o:Opn=>is o.1 l) hf
  exact h1 o (lI ho)
theorem EB {un:E} (U:Dv un) {ops:List Opn} {d:Nat}:∀(f a:Nat) (l:List Tok) (ns:List Nd),Fw NZ (ns.length+l.length) (gQ un ops f d l a ns)
 |0,a,l,ns=>Fw.ret (Nat.le_refl _)
 |f+1,a,l,ns=>by
  rw [Ov]
  refine KC (Fw.ret (Nat.le_refl _)) fun o ht=> ?_
  refine Fw.bnd (U d l.tail ns) fun x m h=>(EB U f _ _ _).le ?_
  simp [NZ] at h ⊢;omega
theorem IX {un:E} (U:Dv un) (ops:List Opn):Dv (chain un ops):=by
 intro d l ns
 rw [Sg]
 exact Fw.bnd (U d l ns) fun x m h=>(EB U _ _ _ _).le h
theorem SC {un:E} (U:Dv un):Dv (sum un):=IX (IX U _) _
theorem IY {un:E} (U:Dv un):Dv (whole un):=by
 intro d l ns
 rw [Si]
 refine Fw.bnd (SC U d l ns) fun x m h=>KC (Fw.ret h) fun o ht=> ?_
 refine Fw.bnd (SC U d m.tail x.2) fun y k h2=>Fw.ret ?_
 simp [NZ] at h h2 ⊢;omega
theorem OD {un:E} (U:Dv un):Dv (gT un):=by
 intro d l ns
 rw [Ow]
 refine KC (Fw.ite (fun hi=>Fw.ite (fun _=>Fw.fail) fun _=> ?_) fun _=>Fw.ite (fun _=> ?_) fun _=> ?_) fun o ht=>Fw.ite (fun _=>Fw.fail) fun _=> ?_
 · have:=lI hi
   refine Fw.bnd (IY U (d+1) l.tail ns) fun x m h=> ?_
   exact Fw.bnd (gW _ m) fun _ k h2=>Fw.ret (by simp [NZ] at h h2 ⊢;omega)
 · exact Fw.bnd (EA l) fun k m h=>Fw.ret (by simp [NZ] at h ⊢;omega)
 · exact Fw.bnd (yE l) fun k m h=>Fw.ret (by simp [NZ] at h ⊢;omega)
 · exact Fw.bnd (U (d+1) l.tail ns) fun x m h=>Fw.ret (by simp [NZ] at h ⊢;omega)
theorem IZ:∀f,Dv (unary f)
 |0=>fun _ _ _=>Fw.err
 |f+1=>OD (IZ f)
theorem su (d:Nat) (l:List Tok):Fw List.length l.length (expr d l):=by
 rw [expr_eq]
 exact Fw.bnd (IY (IZ _) d l []) fun x m h=>Fw.ret (by simpa [NZ] using h)
theorem zm (s:Sm) (l:List Tok):Fw Sm.sz (Sm.sz s+l.length) (fin s l):=by
 rw [fin_eq]
 exact Fw.bnd (gW _ l) fun _ m h=>Fw.ret (by omega)
theorem I4 (as:List (List Nd)) (e:List Nd):iT (as++[e])=iT as+1+e.length:=by
 induction as with
 |nil=>simp [iT]
 |cons a as ih=>simp [iT] at ih ⊢;omega
theorem Dc {d:Nat}:∀(f:Nat) (l:List Tok) (as:List (List Nd)),Fw (fun x=>iT x+1) (iT as+l.length+(if as=[] then 1 else 0)) (iC d f l as)
 |0,_,_=>Fw.err
 |f+1,l,[]=>by
  rw [Ox]
  refine Fw.ite (fun hi=>Fw.ret (by have:=lI hi;simp;omega)) fun _=> ?_
  refine Fw.bnd (su d l) fun e m h=>(Dc f m [e]).le ?_
  simp [iT];omega
 |f+1,l,a::as=>by
  rw [Kz]
  refine Fw.ite (fun hi=>Fw.ret (by have:=lI hi;simp;omega)) fun _=> ?_
  refine Fw.bnd (gW _ l) fun _ m h=> ?_
  refine Fw.bnd (su d m) fun e k h2=>(Dc f k _).le ?_
  rw [I4];simp;omega
def CZ (c:Cl):Nat:=iT c.args
theorem I5 {d:Nat} (c:Cl) (l:List Tok):Fw CZ l.length (jR d c l):=by
 rw [Sj]
 refine Fw.bnd (gW _ l) fun _ m h=> ?_
 refine Fw.bnd (Dc _ m []) fun as k h2=>Fw.ret ?_
 simp [iT,CZ] at h2 ⊢;omega
theorem call_fw {d:Nat} (l:List Tok):Fw CZ l.length (call d l):=by
 rw [call_eq]
 refine Fw.bnd (yE l) fun q m h=>Fw.ite (fun hi=> ?_) fun _=>(I5 _ m).le (by omega)
 have:=lI hi
 exact Fw.bnd (yE m.tail) fun r k h2=>(I5 _ k).le (by omega)
def BkFw (blk:Bk):Prop:=∀d l,Fw Sms.sz l.length (blk d l)
def StFw (stm:Nat→List Tok→R Sm):Prop:=∀d l,Fw Sm.sz l.length (stm d l)
theorem stIf_fw {blk:Bk} (K:BkFw blk) {d a:Nat} (l:List Tok):Fw Sm.sz (l.length+1) (jD blk d a l):=by
 rw [stIf_eq]
 refine Fw.bnd (su d l) fun e m h=>Fw.bnd (K d m) fun b k h2=>Fw.ite (fun hi=> ?_) fun _=>Fw.ret (by simp [Sm.sz,Sms.sz,iT];omega)
 have:=lI hi
 exact Fw.bnd (K d k.tail) fun el n h3=>Fw.ret (by simp [Sm.sz,iT] at h3 ⊢;omega)
theorem KD {blk:Bk} (K:BkFw blk) {d a:Nat} (l:List Tok):Fw Sm.sz (l.length+1) (cZ blk d a l):=by
 rw [KA]
 exact Fw.bnd (su d l) fun e m h=>Fw.bnd (K d m) fun b k h2=>Fw.ret (by simp [Sm.sz,Sms.sz,iT];omega)
theorem SE {d a:Nat} (l:List Tok):Fw Sm.sz (l.length+1) (gF d a l):=by
 rw [Sk]
 refine Fw.bnd (jM l) fun n m h=>Fw.bnd (gW _ m) fun _ m2 h2=>Fw.bnd (jM m2) fun lb m3 h3=>Fw.bnd (gW _ m3) fun _ m4 h4=>Fw.bnd (su d m4) fun e m5 h5=>(zm _ m5).le ?_
 simp [Sm.sz,Sms.sz,iT];omega
theorem I6 {d a:Nat} (l:List Tok):Fw Sm.sz (l.length+1) (bI d a l):=by
 rw [IU]
 refine Fw.bnd (gW _ l) fun _ m h=>Fw.bnd (su d m) fun e m5 h5=>(zm _ m5).le ?_
 simp [Sm.sz,Sms.sz,iT];omega
theorem OE {d a:Nat} (l:List Tok):Fw Sm.sz (l.length+1) (dR d a l):=by
 rw [Oy]
 refine Fw.bnd (call_fw l) fun c m h=>(zm _ m).le ?_
 simp [Sm.sz,Sms.sz,CZ] at h ⊢;omega
theorem OG {a:Nat} (l:List Tok):Fw Sm.sz (l.length+1) (dS a l):=by
 rw [Oz]
 refine Fw.bnd (jM l) fun c m h=>(zm _ m).le ?_
 simp [Sm.sz,Sms.sz,iT] at h ⊢;omega
theorem OH {a:Nat} (l:List Tok):Fw Sm.sz (l.length+1) (eB a l):=by
 refine (zm _ l).le ?_
 simp [Sm.sz,Sms.sz,iT];omega
theorem SF {d a:Nat} (l:List Tok):Fw Sm.sz l.length (gM d a l):=by
 rw [Sl]
 refine Fw.bnd (yE l) fun n m h=>Fw.bnd (gW _ m) fun _ m4 h4=>Fw.bnd (su d m4) fun e m5 h5=>(zm _ m5).le ?_
 simp [Sm.sz,Sms.sz,iT];omega
theorem SG {blk:Bk} (K:BkFw blk):StFw (dG blk):=by
 intro d l
 unfold dG
 have up:∀{s:List UInt8} {r:R Sm},Fw Sm.sz (l.tail.length+1) r→is s l=true→Fw Sm.sz l.length r:=fun h hi=>h.le (by have:=lI hi;omega)
 exact Fw.ite (up (stIf_fw K _)) fun _=>Fw.ite (up (KD K _)) fun _=>Fw.ite (up (SE _)) fun _=>Fw.ite (up (I6 _)) fun _=>Fw.ite (up (OE _)) fun _=>Fw.ite (up (OG _)) fun _=>Fw.ite (up (OH _)) fun _=>SF l
theorem Sms.sz_snoc (l:List Sm) (s:Sm):Sms.sz (l++[s])=Sms.sz l+Sm.sz s:=by
 induction l with
 |nil=>simp [Sms.sz]
 |cons a l ih=>simp [Sms.sz,ih];omega
theorem EC {stm:Nat→List Tok→R Sm} (K:StFw stm) {d:Nat}:∀(f:Nat) (l:List Tok) (ss:List Sm),Fw Sms.sz (Sms.sz ss+l.length) (jg stm d f l ss)
 |0,_,_=>Fw.err
 |f+1,l,ss=>by
  rw [OA]
  refine Fw.ite (fun hi=>Fw.ret (by have:=lI hi;omega)) fun _=>Fw.bnd (K d l) fun s m h=>(EC K f m _).le ?_
  rw [Sms.sz_snoc];omega
theorem ED {stm:Nat→List Tok→R Sm} (K:StFw stm):BkFw (kQ stm):=by
 intro d l
 unfold kQ
 refine Fw.ite (fun hi=>Fw.ite (fun _=>Fw.fail) fun _=>(EC K _ _ _).le ?_) fun _=>Fw.fail
 have:=lI hi
 simp [Sms.sz] at this ⊢
theorem LK:∀f,StFw (stmt f)
 |0=>fun _ _=>Fw.err
 |f+1=>SG (ED (LK f))
theorem SH (d:Nat) (l:List Tok):Fw Sms.sz l.length (block d l):=ED (LK _) d l
theorem uN {z:α→Nat} {one:α→List Tok→R α} {e:List UInt8} (K:∀x l,Fw z (z x+l.length) (one x l)):∀(f n:Nat) (l:List Tok) (x:α),Fw z (z x+l.length) (dx one e f n l x)
 |0,_,_,_=>Fw.err
 |f+1,n,l,x=>by
  rw [IV]
  refine Fw.ite (fun hi=>Fw.ret (by have:=lI hi;omega)) fun _=>Fw.ite (fun _=> ?_) fun _=> ?_
  · exact Fw.bnd (K x l) fun y m h=>(uN K f 1 m y).le h
  · exact Fw.bnd (gW _ l) fun _ m h=>Fw.bnd (K x m) fun y k h2=>(uN K f (n+1) k y).le (by omega)
theorem Df {z:α→Nat} {one:α→List Tok→R α} {e:List UInt8} (K:∀x l,Fw z (z x+l.length) (one x l)) (l:List Tok) (x:α):Fw z (z x+l.length) (several one e l x):=uN K _ _ _ _
theorem parm_fw (x:List Pm) (l:List Tok):Fw List.length (x.length+l.length) (qM x l):=by
 rw [parm_eq]
 exact Fw.bnd (jM l) fun n m h=>Fw.bnd (gW _ m) fun _ m2 h2=>Fw.bnd (jM m2) fun b m3 h3=>Fw.ret (by simp;omega)
theorem use_fw (x:List (List UInt8)) (l:List Tok):Fw List.length (x.length+l.length) (use x l):=by
 rw [use_eq]
 exact Fw.bnd (jM l) fun n m h=>Fw.ret (by simp;omega)
def PZ (p:Pr):Nat:=1+p.params.length+p.uses.length+Sms.sz p.body
theorem I7 {d:Nat} (q:Pr) (l:List Tok):Fw PZ (1+q.params.length+l.length) (gN d q l):=by
 rw [Sn]
 refine Fw.bnd (gW _ l) fun _ m h=>Fw.bnd (jM m) fun pc m2 h2=>Fw.bnd (gW _ m2) fun _ m3 h3=>Fw.bnd (gW _ m3) fun _ m4 h4=>Fw.bnd (Df use_fw m4 []) fun us m5 h5=>Fw.bnd (SH d m5) fun b m6 h6=>Fw.ret ?_
 simp [PZ] at h5 ⊢;omega
theorem proc_fw {d:Nat} (l:List Tok):Fw PZ l.length (proc d l):=by
 rw [proc_eq]
 refine Fw.bnd (jM l) fun n m h=>Fw.bnd (gW _ m) fun _ m2 h2=>Fw.bnd (Df parm_fw m2 []) fun ps m3 h3=>Fw.ite (fun hi=> ?_) fun _=>(I7 _ m3).le (by simp at h3 ⊢;omega)
 have:=lI hi
 exact Fw.bnd (jM m3.tail) fun r m4 h4=>(I7 _ m4).le (by simp at h3 h4 ⊢;omega)
theorem LM {n lb:List UInt8} {a:Nat} {neg:Bool} (l:List Tok):Fw (fun _=>1) l.length (kX n lb a neg l):=by
 rw [varE_eq]
 exact Fw.bnd (EA l) fun k m h=>Fw.bnd (gW _ m) fun _ m2 h2=>Fw.ret (by omega)
theorem varD_fw (l:List Tok):Fw (fun _=>1) l.length (pz l):=by
 rw [varD_eq]
 refine Fw.bnd (jM l) fun n m h=>Fw.bnd (gW _ m) fun _ m2 h2=>Fw.bnd (jM m2) fun b m3 h3=>Fw.bnd (gW _ m3) fun _ m4 h4=>Fw.ite (fun hi=>(LM _).le ?_) fun _=>(LM _).le (by omega)
 have:=lI hi;omega
theorem I8:∀(f:Nat) (l:List Tok) (x:List Im),Fw List.length (x.length+l.length) (iU f l x)
 |0,_,_=>Fw.err
 |f+1,l,x=>by
  rw [Sv]
  refine Fw.ite (fun hi=> ?_) fun _=>Fw.ret (Nat.le_refl _)
  have:=lI hi
  exact Fw.bnd (jM l.tail) fun n m h=>Fw.bnd (gW _ m) fun _ m2 h2=>(I8 f m2 _).le (by simp at h ⊢;omega)
def PsZ (ps:List Pr):Nat:=ps.foldr (fun p n=>PZ p+n) 0
theorem PsZ.snoc (ps:List Pr) (p:Pr):PsZ (ps++[p])=PsZ ps+PZ p:=by
 induction ps with
 |nil=>simp [PsZ]
 |cons a ps ih=>simp [PsZ] at ih ⊢;omega
theorem PsZ.len (ps:List Pr):ps.length≤PsZ ps:=by
 induction ps with
 |nil=>simp
 |cons a ps ih=>simp [PsZ,PZ] at ih ⊢;omega
theorem PsZ.mem {p:Pr}:∀{ps:List Pr},p∈ps→PZ p≤PsZ ps
 |[],h=>by simp at h
 |a::ps,h=>by
  rcases List.mem_cons.1 h with rfl|h
  · simp [PsZ]
  · have:=PsZ.mem h;simp [PsZ] at this ⊢;omega
theorem zn {d:Nat}:∀(f:Nat) (l:List Tok) (vs:List Vr) (ps:List Pr),Fw (fun x=>x.1.length+PsZ x.2) (vs.length+PsZ ps+l.length) (dU d f l vs ps)
 |0,_,_,_=>Fw.err
 |f+1,l,vs,ps=>by
  rw [OB]
  refine Fw.ite (fun _=>Fw.ret (Nat.le_refl _)) fun _=>Fw.ite (fun hi=> ?_) fun _=> ?_
  · have:=lI hi
    exact Fw.bnd (varD_fw l.tail) fun v m h=>(zn f m _ _).le (by simp at h ⊢;omega)
  · exact Fw.bnd (gW _ l) fun _ m h=>Fw.bnd (proc_fw m) fun p k h2=>(zn f k _ _).le (by rw [PsZ.snoc];omega)
theorem SI {d:Nat} (l:List Tok):Fw (fun m=>m.imports.length+m.vars.length+PsZ m.procs) l.length (kD d l):=by
 rw [Sw]
 refine Fw.bnd (gW _ l) fun _ m h=>Fw.bnd (jM m) fun n m2 h2=>Fw.bnd (gW _ m2) fun _ m3 h3=>Fw.bnd (I8 _ m3 []) fun is m4 h4=>Fw.bnd (zn _ m4 [] []) fun x m5 h5=>Fw.ret ?_
 simp [PsZ] at h4 h5 ⊢;omega
end
end Par
theorem OI {d:Nat} {l l':List Tok} {m:Md} (h:Par.kD d l= .ok (m,l')) (hl:l.length<4294967296):IW m:=by
 have hf:=Par.SI l m l' h
 have hp:=Par.PsZ.len m.procs
 simp only at hf
 refine ⟨by omega,by omega,by omega,fun p hp=> ?_⟩
 have:=Par.PsZ.mem hp
 simp only [Par.PZ] at this
 refine ⟨by omega,by omega,by omega⟩
end
end Go.Eng
