/- Part of a proof of a law: rules of an evaluator, contracts, plain laws. No condition of its own. -/
import Derived.Test.YtjgmahbgfbkhnaaSymC
set_option linter.unusedVariables false
set_option linter.unusedSimpArgs false
namespace Go.Eng
noncomputable section
structure Pm where
 name:List UInt8
 label:List UInt8
 at_:Nat
def Pm.row (x:Pm):List V:=[L.str x.name,L.str x.label, .int .i64 (x.at_:Int)]
structure Vr where
 name:List UInt8
 label:List UInt8
 init:Int
 at_:Nat
def Vr.row (x:Vr):List V:=[L.str x.name,L.str x.label, .int .i64 x.init, .int .i64 (x.at_:Int)]
structure Im where
 name:List UInt8
 at_:Nat
def Im.row (x:Im):List V:=[L.str x.name, .int .i64 (x.at_:Int)]
structure Pr where
 name:List UInt8
 params:List Pm
 has:Bool
 result:List UInt8
 pc:List UInt8
 uses:List (List UInt8)
 body:List Sm
 at_:Nat
def qU (u:List UInt8):List V:=[L.str u]
def PrR (h:Heap) (p:Pr) (row:List V):Prop:=∃vp vu vb,row=[L.str p.name,vp, .bool p.has,L.str p.result,L.str p.pc,vu,vb, .int .i64 (p.at_:Int)]∧Rows 3 h vp (p.params.map Pm.row)∧Rows 1 h vu (p.uses.map qU)∧SmsR h vb p.body
def qV (h:Heap):List Pr→List (List V)→Prop
 |[],rows=>rows=[]
 |p::l,rows=>∃r rs,rows=r::rs∧PrR h p r∧qV h l rs
structure Md where
 name:List UInt8
 at_:Nat
 imports:List Im
 vars:List Vr
 procs:List Pr
def MdR (h:Heap) (m:Md) (row:List V):Prop:=∃vi vv vp,row=[L.str m.name, .int .i64 (m.at_:Int),vi,vv,vp]∧Rows 2 h vi (m.imports.map Im.row)∧Rows 4 h vv (m.vars.map Vr.row)∧∃rows,Rows 8 h vp rows∧qV h m.procs rows
theorem qV.nil {h:Heap}:qV h [] []:=rfl
theorem qV.snoc {h:Heap}:∀{l:List Pr} {rows:List (List V)} {s:Pr} {row:List V},qV h l rows→PrR h s row→qV h (l++[s]) (rows++[row])
 |[],rows,s,row,hl,hs=>by
  have hl:rows=[]:=hl
  subst hl;exact ⟨row,[],rfl,hs,rfl⟩
 |a::l,rows,s,row,hl,hs=>by
  obtain ⟨r,rs,rfl,h1,h2⟩:=hl
  exact ⟨r,rs++[row],rfl,h1,h2.snoc hs⟩
namespace Par
def xY {α:Type} (one:α→List Tok→R α) (e:List UInt8):Nat→Nat→List Tok→α→R α
 |0,_,_,_=> .error (0,0)
 |f+1,n,l,x=>if is e l=true then .ok (x,l.tail) else
   if n=0 then (match one x l with
    | .error e=> .error e
    | .ok (y,l')=>xY one e f 1 l' y)
   else (match must [44] l with
    | .error e=> .error e
    | .ok (_,l1)=>match one x l1 with
      | .error e=> .error e
      | .ok (y,l')=>xY one e f (n+1) l' y)
def several {α:Type} (one:α→List Tok→R α) (e:List UInt8) (l:List Tok) (x:α):R α:=xY one e l.length 0 l x
def parm (x:List Pm) (l:List Tok):R (List Pm):=match name l with
 | .error e=> .error e
 | .ok (n,l1)=>match must [58] l1 with
   | .error e=> .error e
   | .ok (_,l2)=>match name l2 with
     | .error e=> .error e
     | .ok (b,l3)=> .ok (x++[⟨n,b,here l⟩],l3)
def use (x:List (List UInt8)) (l:List Tok):R (List (List UInt8)):=match name l with
 | .error e=> .error e
 | .ok (n,l1)=> .ok (x++[n],l1)
def procB (d:Nat) (q:Pr) (l:List Tok):R Pr:=match must [112,99] l with
 | .error e=> .error e
 | .ok (_,l1)=>match name l1 with
   | .error e=> .error e
   | .ok (pc,l2)=>match must [117,115,101,115] l2 with
     | .error e=> .error e
     | .ok (_,l3)=>match must [123] l3 with
       | .error e=> .error e
       | .ok (_,l4)=>match several use [125] l4 [] with
         | .error e=> .error e
         | .ok (us,l5)=>match block d l5 with
           | .error e=> .error e
           | .ok (b,l6)=> .ok ({q with pc:=pc,uses:=us,body:=b},l6)
def proc (d:Nat) (l:List Tok):R Pr:=match name l with
 | .error e=> .error e
 | .ok (n,l1)=>match must [40] l1 with
   | .error e=> .error e
   | .ok (_,l2)=>match several parm [41] l2 [] with
     | .error e=> .error e
     | .ok (ps,l3)=>if is [45,62] l3=true then (match name l3.tail with
         | .error e=> .error e
         | .ok (r,l4)=>procB d ⟨n,ps,true,r,[],[],[],here l⟩ l4)
       else procB d ⟨n,ps,false,[],[],[],[],here l⟩ l3
def varE (n lb:List UInt8) (at_:Nat) (neg:Bool) (l:List Tok):R Vr:=match number l with
 | .error e=> .error e
 | .ok (k,l1)=>match must [59] l1 with
   | .error e=> .error e
   | .ok (_,l2)=> .ok (⟨n,lb,if neg then -(k:Int) else (k:Int),at_⟩,l2)
def varD (l:List Tok):R Vr:=match name l with
 | .error e=> .error e
 | .ok (n,l1)=>match must [58] l1 with
   | .error e=> .error e
   | .ok (_,l2)=>match name l2 with
     | .error e=> .error e
     | .ok (b,l3)=>match must [61] l3 with
       | .error e=> .error e
       | .ok (_,l4)=>if is [45] l4=true then varE n b (here l) true l4.tail else varE n b (here l) false l4
def impsL:Nat→List Tok→List Im→R (List Im)
 |0,_,_=> .error (0,0)
 |f+1,l,x=>if is [105,109,112,111,114,116] l=true then (match name l.tail with
   | .error e=> .error e
   | .ok (n,l1)=>match must [59] l1 with
     | .error e=> .error e
     | .ok (_,l2)=>impsL f l2 (x++[⟨n,here l.tail⟩]))
  else .ok (x,l)
def EU (d:Nat):Nat→List Tok→List Vr→List Pr→R (List Vr×List Pr)
 |0,_,_,_=> .error (0,0)
 |f+1,l,vs,ps=>if (hd l).kind=0 then .ok ((vs,ps),l) else
   if is [118,97,114] l=true then (match varD l.tail with
    | .error e=> .error e
    | .ok (v,l1)=>EU d f l1 (vs++[v]) ps)
   else (match must [112,114,111,99] l with
    | .error e=> .error e
    | .ok (_,l1)=>match proc d l1 with
      | .error e=> .error e
      | .ok (p,l2)=>EU d f l2 vs (ps++[p]))
def modul (d:Nat) (l:List Tok):R Md:=match must [109,111,100,117,108,101] l with
 | .error e=> .error e
 | .ok (_,l1)=>match name l1 with
   | .error e=> .error e
   | .ok (n,l2)=>match must [59] l2 with
     | .error e=> .error e
     | .ok (_,l3)=>match impsL l3.length l3 [] with
       | .error e=> .error e
       | .ok (is,l4)=>match EU d l4.length l4 [] [] with
         | .error e=> .error e
         | .ok (x,l5)=> .ok (⟨n,here l1,is,x.1,x.2⟩,l5)
def jC:Nat→List Tok→List UInt8→List Pm→Bool→R ((List UInt8×Bool)×List Pm)
 |0,_,_,_,_=> .error (0,0)
 |f+1,l,last,x,alone=>if is [60] l=true then (match name l.tail with
   | .error e=> .error e
   | .ok (n,l1)=>jC f l1 n (x++[⟨last,n,here l.tail⟩]) false)
  else .ok (((last,alone),x),l)
def dA:Nat→List Tok→List Pm→R (List Pm)
 |0,_,_=> .error (0,0)
 |f+1,l,x=>if (hd l).kind=0 then .ok (x,l) else match name l with
  | .error e=> .error e
  | .ok (n,l1)=>match jC l1.length l1 n x true with
    | .error e=> .error e
    | .ok (((last,alone),y),l2)=>match must [59] l2 with
      | .error e=> .error e
      | .ok (_,l3)=>dA f l3 (if alone then y++[⟨last,[],here l⟩] else y)
def labels (l:List Tok):R (List Pm):=match must [108,97,98,101,108,115] l with
 | .error e=> .error e
 | .ok (_,l1)=>dA l1.length l1 []
end Par
theorem Left.rb_ {p:RP} {i:Nat} {l:List Tok} (h:Left p i l) (b:Nat):Left {p with rb:=b} i l:=⟨h.drop,h.ne,h.last,h.num,h.small⟩
theorem Par.number_lt {p:RP} {i:Nat} {l l':List Tok} {n:Nat} (h:Left p i l) (hn:Par.number l= .ok (n,l')):n<1000000000:=by
 unfold Par.number at hn
 cases ho:Par.of 2 l with
 |error e=>rw [ho] at hn;cases hn
 |ok x=>
  obtain ⟨t,l1⟩:=x
  rw [ho] at hn;cases hn
  have hd:=Par.of_num h ho
  have:=hd.bound t.text.length
  rwa [List.take_length] at this
end
end Go.Eng
namespace Go.Eng
noncomputable section
namespace Lex
def small (c:UInt8):Bool:=decide (97≤c.toNat)&&decide (c.toNat≤122)
def digit (c:UInt8):Bool:=decide (48≤c.toNat)&&decide (c.toNat≤57)
def within (c:UInt8):Bool:=small c||(digit c||decide (c.toNat=95))
def fA (c:UInt8):Bool:=decide (c.toNat≠10)
def blank (c:UInt8):Bool:=decide (c.toNat=32)||(decide (c.toNat=9)||(decide (c.toNat=10)||decide (c.toNat=13)))
def keys:List (List UInt8):=[[109,111,100,117,108,101],[105,109,112,111,114,116],[118,97,114],[112,114,111,99],[112,99],[117,115,101,115],[108,101,116],[99,97,108,108],[105,102],[101,108,115,101],[119,104,105,108,101],[101,109,105,116],[114,101,115,117,108,116],[115,107,105,112],[108,97,98,101,108,115]]
def jP:List (List UInt8):=[[61,61],[60,61],[45,62]]
def ones:List UInt8:=[40,41,123,125,44,59,58,46,61,60,43,45,42,47,37,33]
def iO (p l:List UInt8):Bool:=decide (p.length≤l.length)&&decide (l.take p.length=p)
def sign (l:List UInt8):List UInt8:=match jP.find? (iO · l) with
 |some t=>t
 |none=>match l with
  |[]=>[]
  |c::_=>if 0≤Lib.indexByte ones c then [c] else []
def word (w:List UInt8):Nat×Nat:=if w∈keys then (3,0) else if w.length>20 then (0,9) else (1,0)
def number (w f:List UInt8):Nat×Nat:=if w.length>9 then (0,9) else
 if w.head? =some 48∧w.length>1 then (0,10) else
 match f with
 |[]=>(2,0)
 |c::_=>if within c then (0,10) else (2,0)
def put (t:Nat×Nat) (w:List UInt8) (pos:Nat) (out:List Tok) (k:List Tok→Except (Nat×Nat) (List Tok)):Except (Nat×Nat) (List Tok):=if t.2≠0 then .error (t.2,pos) else k (out++[⟨t.1,w,pos⟩])
def all:Nat→Nat→List UInt8→List Tok→Except (Nat×Nat) (List Tok)
 |0,_,_,_=> .error (0,0)
 |_+1,pos,[],out=> .ok (out++[⟨0,[],pos⟩])
 |f+1,pos,c::r,out=>
  if blank c then all f (pos+1) r out else
  if c.toNat=35 then all f (pos+((c::r).takeWhile fA).length) ((c::r).drop ((c::r).takeWhile fA).length) out else
  if small c then put (word ((c::r).takeWhile within)) ((c::r).takeWhile within) pos out (all f (pos+((c::r).takeWhile within).length) ((c::r).drop ((c::r).takeWhile within).length)) else
  if digit c then put (number ((c::r).takeWhile digit) ((c::r).drop ((c::r).takeWhile digit).length)) ((c::r).takeWhile digit) pos out (all f (pos+((c::r).takeWhile digit).length) ((c::r).drop ((c::r).takeWhile digit).length)) else
  put (if sign (c::r)=[] then (4,10) else (4,0)) (sign (c::r)) pos out (all f (pos+(sign (c::r)).length) ((c::r).drop (sign (c::r)).length))
def lex (s:List UInt8):Except (Nat×Nat) (List Tok):=if 8192<s.length then .error (9,8192) else all (s.length+1) 0 s []
end Lex
theorem eF {f:UInt8→Bool} {l:List UInt8} {k:Nat} {c:UInt8} (hk:l[k]? =some c) (hf:f c=true):(l.drop k).takeWhile f=c::(l.drop (k+1)).takeWhile f:=by
 obtain ⟨hlt,rfl⟩:=List.getElem?_eq_some_iff.1 hk
 rw [List.drop_eq_getElem_cons hlt,List.takeWhile_cons,if_pos hf]
theorem jc {f:UInt8→Bool} {l:List UInt8} {k:Nat} {c:UInt8} (hk:l[k]? =some c) (hf:f c=false):(l.drop k).takeWhile f=[]:=by
 obtain ⟨hlt,rfl⟩:=List.getElem?_eq_some_iff.1 hk
 rw [List.drop_eq_getElem_cons hlt,List.takeWhile_cons,if_neg (by simp [hf])]
theorem xZ {α:Type} {p:α→Bool}:∀{l:List α} {k:Nat} {x:α},l[k]? =some x→(∀j y,l[j]? =some y→j<k→p y=false)→p x=true→l.find? p=some x
 |[],k,x,h,_,_=>by simp at h
 |a::l,0,x,h,_,hp=>by simp at h;subst h;simp [hp]
 |a::l,k+1,x,h,hno,hp=>by
  have h0:=hno 0 a rfl (by omega)
  rw [List.find?_cons,h0]
  exact xZ (by simpa using h) (fun j y hj hlt=>hno (j+1) y (by simpa using hj) (by omega)) hp
theorem qW {α:Type} {p:α→Bool} {l:List α} (hno:∀j y,l[j]? =some y→j<l.length→p y=false):l.find? p=none:=by
 rw [List.find?_eq_none]
 intro x hx
 obtain ⟨j,hj⟩:=List.mem_iff_getElem?.1 hx
 simp [hno j x hj (List.getElem?_eq_some_iff.1 hj).1]
def zo (ts:List Tok):Prop:=∀t∈ts,t.kind=2→qM t.text
theorem zo.snoc {ts:List Tok} {t:Tok} (h:zo ts) (ht:t.kind=2→qM t.text):zo (ts++[t]):=by
 intro u hu
 rcases List.mem_append.1 hu with hu|hu
 · exact h u hu
 · simp at hu;subst hu;exact ht
theorem Lex.tT {t:Nat×Nat} {w:List UInt8} {pos:Nat} {out ts:List Tok} {k:List Tok→Except (Nat×Nat) (List Tok)} (h:Lex.put t w pos out k= .ok ts):t.2=0∧k (out++[⟨t.1,w,pos⟩])= .ok ts:=by
 unfold Lex.put at h
 by_cases he:t.2≠0
 · rw [if_pos he] at h;cases h
 · rw [if_neg he] at h;exact ⟨by omega,h⟩
theorem Lex.IK (w:List UInt8):(Lex.word w).1≠2:=by
 unfold Lex.word;split
 · decide
 · split<;>decide
theorem Lex.yE {w f:List UInt8} (hw:∀b∈w,Lex.digit b=true) (hne:w≠[]) (h:(Lex.number w f).2=0):qM w:=by
 refine ⟨hne, ?_,fun b hb=> ?_⟩
 · unfold Lex.number at h
   by_cases hl:w.length>9
   · rw [if_pos hl] at h;cases h
   · omega
 · have:=hw b hb
   simp [Lex.digit] at this;exact this
theorem qo {α:Type} {p:α→Bool}:∀{l:List α} {x:α},x∈l.takeWhile p→p x=true
 |[],x,h=>by simp at h
 |a::l,x,h=>by
  rw [List.takeWhile_cons] at h
  by_cases hp:p a=true
  · rw [if_pos hp] at h
    rcases List.mem_cons.1 h with rfl|h
    · exact hp
    · exact qo h
  · rw [if_neg hp] at h;simp at h
theorem Lex.tV:∀{f pos:Nat} {r:List UInt8} {out ts:List Tok},Lex.all f pos r out= .ok ts→zo out→∃us a,ts=us++[⟨0,[],a⟩]∧zo us
 |0,_,_,_,_,h,_=>by cases h
 |f+1,pos,[],out,ts,h,ho=>by
  simp only [Lex.all] at h;cases h;exact ⟨out,pos,rfl,ho⟩
 |f+1,pos,c::r,out,ts,h,ho=>by
  simp only [Lex.all] at h
  by_cases h1:Lex.blank c=true
  · rw [if_pos h1] at h;exact Lex.tV h ho
  rw [if_neg h1] at h
  by_cases h2:c.toNat=35
  · rw [if_pos h2] at h;exact Lex.tV h ho
  rw [if_neg h2] at h
  by_cases h3:Lex.small c=true
  · rw [if_pos h3] at h
    obtain ⟨e0,h⟩:=Lex.tT h
    exact Lex.tV h (ho.snoc fun hk=>absurd hk (Lex.IK _))
  rw [if_neg h3] at h
  by_cases h4:Lex.digit c=true
  · rw [if_pos h4] at h
    obtain ⟨e0,h⟩:=Lex.tT h
    refine Lex.tV h (ho.snoc fun _=>Lex.yE (fun b hb=>qo hb) ?_ e0)
    rw [List.takeWhile_cons,if_pos h4];simp
  rw [if_neg h4] at h
  obtain ⟨e0,h⟩:=Lex.tT h
  refine Lex.tV h (ho.snoc fun hk=> ?_)
  by_cases hs:Lex.sign (c::r)=[]
  · simp [hs] at e0
  · simp [hs] at hk
theorem Left.start {p:RP} {us:List Tok} {a:Nat} (h:p.ts=us++[⟨0,[],a⟩]) (hn:zo us) (hs:p.ts.length<4294967296):Left p 0 p.ts:=by
 refine ⟨rfl,by rw [h];simp,fun t ht=> ?_,fun t ht hk=> ?_,hs⟩
 · rw [h] at ht;simp at ht;rw [←ht]
 · rw [h] at ht
   rcases List.mem_append.1 ht with ht|ht
   · exact hn t ht hk
   · simp at ht;subst ht;cases hk
theorem Lex.nM:∀{f pos:Nat} {r:List UInt8} {out ts:List Tok},Lex.all f pos r out= .ok ts→ts.length≤out.length+f
 |0,_,_,_,_,h=>by cases h
 |f+1,pos,[],out,ts,h=>by
  simp only [Lex.all] at h;cases h;simp
 |f+1,pos,c::r,out,ts,h=>by
  simp only [Lex.all] at h
  by_cases h1:Lex.blank c=true
  · rw [if_pos h1] at h;have:=Lex.nM h;omega
  rw [if_neg h1] at h
  by_cases h2:c.toNat=35
  · rw [if_pos h2] at h;have:=Lex.nM h;omega
  rw [if_neg h2] at h
  by_cases h3:Lex.small c=true
  · rw [if_pos h3] at h
    have:=Lex.nM (Lex.tT h).2;simp at this;omega
  rw [if_neg h3] at h
  by_cases h4:Lex.digit c=true
  · rw [if_pos h4] at h
    have:=Lex.nM (Lex.tT h).2;simp at this;omega
  rw [if_neg h4] at h
  have:=Lex.nM (Lex.tT h).2;simp at this;omega
end
end Go.Eng
namespace Go.Eng
noncomputable section
theorem C8 (c:UInt8):∀l:List UInt8,0≤Lib.indexByte l c↔c∈l
 |[]=>by simp [Lib.indexByte]
 |b::l=>by
  have ih:=C8 c l
  have hge:=Lib.indexByte_ge l c
  unfold Lib.indexByte
  by_cases h:b=c
  · subst h;simp
  · have h2:(b==c)=false:=by simpa using h
    rw [h2]
    have h3:¬c=b:=fun e=>h e.symm
    simp only [List.mem_cons,h3,false_or]
    rw [←ih]
    by_cases h4:Lib.indexByte l c= -1
    · simp [h4]
    · have:(Lib.indexByte l c== -1)=false:=by simpa using h4
      rw [this];simp only [Bool.false_eq_true,if_false];omega
theorem yc {l t:List UInt8} (ht:t∈Lex.jP) (hl:l.take 2=t):Lex.sign l=t:=by
 have hlen:t.length=2:=by simp [Lex.jP] at ht;rcases ht with rfl|rfl|rfl<;>rfl
 have h2:2≤l.length:=by have:=congrArg List.length hl;rw [List.length_take,hlen] at this;omega
 unfold Lex.sign
 have hp:∀u,u∈Lex.jP→Lex.iO u l=decide (u=t):=by
  intro u hu
  have:u.length=2:=by simp [Lex.jP] at hu;rcases hu with rfl|rfl|rfl<;>rfl
  unfold Lex.iO;rw [this,hl]
  have e:decide (2≤l.length)=true:=decide_eq_true h2
  rw [e,Bool.true_and]
  by_cases h:t=u
  · subst h;simp
  · have:¬u=t:=fun e=>h e.symm
    simp [h,this]
 have:Lex.jP.find? (Lex.iO · l)=some t:=by
  simp only [Lex.jP,List.find?] at ht ⊢
  have h1:=hp [61,61] (by simp [Lex.jP]);have h2:=hp [60,61] (by simp [Lex.jP]);have h3:=hp [45,62] (by simp [Lex.jP])
  simp at ht
  rcases ht with rfl|rfl|rfl
  · rw [h1];rfl
  · rw [h1,h2];rfl
  · rw [h1,h2,h3];rfl
 rw [this]
theorem sign_one {c:UInt8} {r:List UInt8} (hn:(c::r).take 2∉Lex.jP):Lex.sign (c::r)=if c∈Lex.ones then [c] else []:=by
 unfold Lex.sign
 have:Lex.jP.find? (Lex.iO · (c::r))=none:=by
  rw [List.find?_eq_none]
  intro u hu hp
  have hlen:u.length=2:=by simp [Lex.jP] at hu;rcases hu with rfl|rfl|rfl<;>rfl
  unfold Lex.iO at hp;rw [hlen] at hp;simp at hp
  exact hn (by rw [show (c::r).take 2=c::r.take 1 from rfl,of_decide_eq_true hp.2];exact hu)
 rw [this]
 simp only [C8]
theorem KQ {w:List UInt8} (h:w∈Lex.keys):w.length≤20:=by
 have:∀w∈Lex.keys,w.length≤20:=by decide
 exact this w h
theorem IL {f:UInt8→Bool} (l:List UInt8):(l.takeWhile f).length≤l.length:=by
 induction l with
 |nil=>simp
 |cons a l ih=>rw [List.takeWhile_cons];split<;>simp<;>omega
theorem bH {g k:Nat} {s:List UInt8} {ts:List Tok} {b:UInt8} (hb:s[k]? =some b):
  Lex.all (g+1) k (s.drop k) ts=
  if Lex.blank b then Lex.all g (k+1) (s.drop (k+1)) ts else
  if b.toNat=35 then Lex.all g (k+((s.drop k).takeWhile Lex.fA).length) (s.drop (k+((s.drop k).takeWhile Lex.fA).length)) ts else
  if Lex.small b then Lex.put (Lex.word ((s.drop k).takeWhile Lex.within)) ((s.drop k).takeWhile Lex.within) k ts (Lex.all g (k+((s.drop k).takeWhile Lex.within).length) (s.drop (k+((s.drop k).takeWhile Lex.within).length))) else
  if Lex.digit b then Lex.put (Lex.number ((s.drop k).takeWhile Lex.digit) (s.drop (k+((s.drop k).takeWhile Lex.digit).length))) ((s.drop k).takeWhile Lex.digit) k ts (Lex.all g (k+((s.drop k).takeWhile Lex.digit).length) (s.drop (k+((s.drop k).takeWhile Lex.digit).length))) else
  Lex.put (if Lex.sign (s.drop k)=[] then (4,10) else (4,0)) (Lex.sign (s.drop k)) k ts (Lex.all g (k+(Lex.sign (s.drop k)).length) (s.drop (k+(Lex.sign (s.drop k)).length))):=by
 obtain ⟨hlt,rfl⟩:=List.getElem?_eq_some_iff.1 hb
 have hd:=List.drop_eq_getElem_cons hlt
 rw [hd];simp only [Lex.all];rw [←hd];simp only [List.drop_drop]
theorem lW {f:UInt8→Bool} {s:List UInt8} {k:Nat} {b:UInt8} (hb:s[k]? =some b) (hf:f b=true):0<((s.drop k).takeWhile f).length∧k+((s.drop k).takeWhile f).length≤s.length∧((s.drop k).takeWhile f).head? =some b:=by
 have h1:=IL (f:=f) (s.drop k)
 have h2:=(List.getElem?_eq_some_iff.1 hb).1
 rw [List.length_drop] at h1
 refine ⟨?_,by omega, ?_⟩<;>rw [eF hb hf]<;>simp
theorem sj (l:List UInt8):(Lex.sign l).length≤l.length:=by
 unfold Lex.sign
 cases e:Lex.jP.find? (Lex.iO · l) with
 |some t=>
  have:=List.find?_some e
  simp [Lex.iO] at this;exact this.1
 |none=>
  cases l with
  |nil=>simp
  |cons c r=>simp only;split<;>simp
theorem lK {f:UInt8→Bool}:∀l:List UInt8,l.take (l.takeWhile f).length=l.takeWhile f
 |[]=>rfl
 |a::l=>by
  rw [List.takeWhile_cons]
  split
  · rw [List.length_cons,List.take_succ_cons,lK l]
  · rfl
theorem drop_at {l:List UInt8} {i:Nat} {b:UInt8} (h:l[i]? =some b):l.drop i=b::l.drop (i+1):=by
 obtain ⟨hlt,rfl⟩:=List.getElem?_eq_some_iff.1 h
 exact List.drop_eq_getElem_cons hlt
theorem Gh {f:UInt8→Bool}:∀{l:List UInt8} {b:UInt8},l[(l.takeWhile f).length]? =some b→f b=false
 |[],b,h=>by simp at h
 |a::l,b,h=>by
  rw [List.takeWhile_cons] at h
  by_cases hf:f a=true
  · rw [if_pos hf] at h;exact Gh (l:=l) (by simpa using h)
  · rw [if_neg hf] at h;simp at h;subst h;simpa using hf
theorem Gi {f:UInt8→Bool} {s:List UInt8} {k:Nat} {b:UInt8} (h:s[k+((s.drop k).takeWhile f).length]? =some b):f b=false:=Gh (l:=s.drop k) (by rw [List.getElem?_drop];exact h)
theorem L.nU {ev:Ev} {h:Heap} {x:A} {l m:List UInt8} {lo hi:Option A} {i j:Nat} (hx:ev x=L.str l) (hj:bg hi ev l.length=some j) (hi':bg lo ev 0=some i) (hij:i≤j) (hjl:j≤l.length) (hm:(l.drop i).take (j - i)=m):light (.sstr x lo hi) ev h= .val (L.str m):=by subst hm;exact L.Ef hx hj hi' hij hjl
theorem IQ {l:List UInt8} (h:l.take 2∈Lex.jP):2≤l.length:=by
 have:∀t∈Lex.jP,t.length=2:=by decide
 have:=this _ h
 rw [List.length_take] at this;omega
def Par.text (s:List UInt8):Except (Nat×Nat) Md:=match Lex.lex s with
 | .error x=> .error x
 | .ok ts=>match Par.modul 0 ts with
   | .error x=> .error x
   | .ok (m,_)=> .ok m
def Par.rows (s:List UInt8):Except (Nat×Nat) (List Pm):=match Lex.lex s with
 | .error x=> .error x
 | .ok ts=>match Par.labels ts with
   | .error x=> .error x
   | .ok (m,_)=> .ok m
theorem Gj {fs:List Fact} {h:Heap} {x:V} {ts:List Tok} (st:St (.stb (fun h=>Rows 3 h x (ts.map Tok.row))::fs) h) (hne:ts≠[]):∃p:RP,p.ts=ts∧x= .sl p.tb p.to p.ts.length p.cap:=by
 have hr:=st.aB 0 rfl
 cases ts with
 |nil=>exact absurd rfl hne
 |cons t ts=>
  generalize hl:(t::ts).map Tok.row=rows at hr
  cases hr with
  |nil=>cases hl
  |row _ _ _ _ _ _=>exact ⟨⟨0,_,_,_,t::ts⟩,rfl,by rw [show (t::ts).length=_ from (List.length_map (as:=t::ts) Tok.row).symm,hl]⟩
theorem Ay {s:List UInt8} {ts:List Tok} (h:Lex.lex s= .ok ts) (p:RP) (hp:p.ts=ts):Left p 0 p.ts∧ts≠[]:=by
 unfold Lex.lex at h
 by_cases hs:8192<s.length
 · rw [if_pos hs] at h;cases h
 · rw [if_neg hs] at h
   obtain ⟨us,a,e,hn⟩:=Lex.tV h (fun t ht=>by simp at ht)
   have hlen:=Lex.nM h
   subst hp
   exact ⟨Left.start e hn (by simp at hlen;omega),by rw [e];simp⟩
theorem qX {t:Nat×Nat} {w:List UInt8} {pos:Nat} {out:List Tok} {k:List Tok→Except (Nat×Nat) (List Tok)} {e a:Nat} (h:Lex.put t w pos out k= .error (e,a)):(e≠0)∨k (out++[⟨t.1,w,pos⟩])= .error (e,a):=by
 unfold Lex.put at h
 by_cases he:t.2≠0
 · rw [if_pos he] at h;cases h;exact Or.inl he
 · rw [if_neg he] at h;exact Or.inr h
theorem jD:∀{f pos:Nat} {r:List UInt8} {out:List Tok} {e a:Nat},r.length<f→Lex.all f pos r out= .error (e,a)→e≠0
 |0,_,_,_,_,_,hf,_=>by omega
 |f+1,pos,[],out,e,a,hf,h=>by simp only [Lex.all] at h;cases h
 |f+1,pos,c::r,out,e,a,hf,h=>by
  simp only [Lex.all] at h
  have hl:r.length<f:=by simp at hf;omega
  have hd:∀n,0<n→((c::r).drop n).length<f:=fun n hn=>by rw [List.length_drop,List.length_cons];omega
  by_cases h1:Lex.blank c=true
  · rw [if_pos h1] at h;exact jD hl h
  rw [if_neg h1] at h
  by_cases h2:c.toNat=35
  · rw [if_pos h2] at h;exact jD (hd _ (lW (s:=c::r) (k:=0) rfl (by simp [Lex.fA,h2])).1) h
  rw [if_neg h2] at h
  by_cases h3:Lex.small c=true
  · rw [if_pos h3] at h
    exact (qX h).elim id fun h=>jD (hd _ (lW (s:=c::r) (k:=0) rfl (by simp [Lex.within,h3])).1) h
  rw [if_neg h3] at h
  by_cases h4:Lex.digit c=true
  · rw [if_pos h4] at h
    exact (qX h).elim id fun h=>jD (hd _ (lW (s:=c::r) (k:=0) rfl h4).1) h
  rw [if_neg h4] at h
  by_cases hs:Lex.sign (c::r)=[]
  · rw [if_pos hs] at h;unfold Lex.put at h;rw [if_pos (by decide)] at h;cases h;decide
  · exact (qX h).elim id fun h=>jD (hd _ (List.length_pos_iff.2 hs)) h
theorem Gl {s:List UInt8} {e a:Nat} (h:Lex.lex s= .error (e,a)):e≠0:=by
 unfold Lex.lex at h
 by_cases hs:8192<s.length
 · rw [if_pos hs] at h;cases h;decide
 · rw [if_neg hs] at h;exact jD (by omega) h
namespace Par
variable {α β:Type}
abbrev SX:=Except (Nat×Nat) (List Tok)
def bn (r:R α) (f:α→List Tok→R β):R β:=match r with
 | .error e=> .error e
 | .ok (x,l)=>f x l
def Res (S:SX) (f:List Tok→R α) (x:α) (S':SX):Prop:=match S with
 | .error z=>S'= .error z
 | .ok l=>match f l with
   | .error z=>S'= .error z
   | .ok (y,l')=>x=y∧S'= .ok l'
def isS (s:List UInt8):SX→Bool
 | .ok l=>is s l
 | .error _=>false
variable {S S1 S2:SX} {f g:List Tok→R α} {x:α} {y:β}
theorem Res.bn {g:α→List Tok→R β} (h1:Res S f x S1) (h2:Res S1 (g x) y S2):Res S (fun l=>Par.bn (f l) g) y S2:=by
 cases S with
 |error z=>obtain rfl:S1= .error z:=h1;exact h2
 |ok l=>
  unfold Res at h1 ⊢
  simp only at h1 ⊢
  cases hf:f l with
  |error z=>rw [hf] at h1;obtain rfl:S1= .error z:=h1;exact h2
  |ok q=>obtain ⟨q,l'⟩:=q;rw [hf] at h1;obtain ⟨rfl,rfl⟩:=h1;exact h2
theorem Res.no {s:List UInt8} {A B:List Tok→R α} (hi:isS s S=false) (h:Res S B x S1):Res S (fun l=>if is s l=true then A l else B l) x S1:=by
 cases S with
 |error z=>exact h
 |ok l=>
  have hi:is s l=false:=hi
  unfold Res at h ⊢;simp only [hi] at h ⊢;exact h
theorem Res.yes {s:List UInt8} {l:List Tok} {A B:List Tok→R α} (hi:is s l=true) (h:Res (.ok l) A x S1):Res (.ok l) (fun l=>if is s l=true then A l else B l) x S1:=by
 unfold Res at h ⊢;simp only [hi] at h ⊢;exact h
theorem Res.pure (S:SX) (x:α):Res S (fun l=> .ok (x,l)) x S:=by cases S with
 |error z=>rfl
 |ok l=>exact ⟨rfl,rfl⟩
theorem Res.cast (h:∀l,S= .ok l→f l=g l) (r:Res S f x S1):Res S g x S1:=by cases S with
 |error z=>exact r
 |ok l=>unfold Res at r ⊢;simp only [h l rfl] at r;exact r
def SX.len:SX→Nat
 | .ok l=>l.length
 | .error _=>0
theorem Res.len {F:Nat→List Tok→R α} (r:Res S (F S.len) x S1):Res S (fun l=>F l.length l) x S1:=by cases S with
 |error z=>exact r
 |ok l=>exact r
theorem Res.err {z:Nat×Nat}:Res (.error z) f x (.error z):=rfl
theorem Res.Gm {l l':List Tok} {y:α} (hf:f l= .ok (y,l')):Res (.ok l) f y (.ok l'):=by unfold Res;simp [hf]
theorem Res.KR {l:List Tok} {z:Nat×Nat} (hf:f l= .error z):Res (.ok l) f x (.error z):=by unfold Res;simp only [hf]
end Par
def RP.kX (p:RP) (i d e a:Nat):Fact:= .box p.rb [.sl p.tb p.to p.ts.length p.cap, .int .i64 (i:Int), .int .i64 (d:Int), .int .i64 (e:Int), .int .i64 (a:Int)]
inductive XAt (p:RP):Nat→Nat→Nat→Par.SX→Prop
 |ok {i:Nat} {l:List Tok} (h:Left p i l):XAt p i 0 0 (.ok l)
 |err {i e a:Nat} (he:e≠0) (hi:i<p.ts.length) (hs:p.ts.length<4294967296):XAt p i e a (.error (e,a))
namespace XAt
variable {p:RP} {i e a:Nat} {S:Par.SX}
theorem lt (h:XAt p i e a S):i<p.ts.length:=by cases h with
 |ok h=>exact h.lt
 |err _ hi _=>exact hi
theorem small (h:XAt p i e a S):p.ts.length<4294967296:=by cases h with
 |ok h=>exact h.small
 |err _ _ hs=>exact hs
theorem good (h:XAt p i e a S) (he:e=0):∃l,S= .ok l∧a=0∧Left p i l:=by cases h with
 |ok h=>exact ⟨_,rfl,rfl,h⟩
 |err hn _ _=>exact absurd he hn
theorem bad (h:XAt p i e a S) (he:e≠0):S= .error (e,a):=by cases h with
 |ok h=>exact absurd rfl he
 |err hn _ _=>rfl
theorem row (h:XAt p i e a S):∃t,p.ts[i]? =some t∧(p.ts.map Tok.row)[i]? =some t.row:=by
 refine ⟨p.ts[i]'h.lt,List.getElem?_eq_getElem h.lt, ?_⟩
 rw [List.getElem?_map,List.getElem?_eq_getElem h.lt];rfl
theorem ok0 {l:List Tok} (h:XAt p i e a (.ok l)):e=0∧a=0∧Left p i l:=by cases h with
 |ok h=>exact ⟨rfl,rfl,h⟩
theorem isS (h:XAt p i e a S) {s:List UInt8} (hi:Par.isS s S=true):∃l,S= .ok l∧e=0∧a=0∧Par.is s l=true∧Left p i l:=by cases h with
 |ok h=>exact ⟨_,rfl,rfl,rfl,hi,h⟩
 |err _ _ _=>cases hi
end XAt
theorem XAt.fuel {p:RP} {i e a:Nat} {S:Par.SX} (h:XAt p i e a S) (he:e=0):p.ts.length≤i+Par.SX.len S:=by
 obtain ⟨l,rfl,_,hl⟩:=h.good he
 have:=hl.len
 show _≤i+l.length
 have:=hl.lt
 omega
def fV (p:RP) (i:Nat):Nat:=match p.ts[i]? with
 |some t=>t.at_
 |none=>0
theorem qY {p:RP} {i:Nat} {t:Tok} (h:p.ts[i]? =some t):fV p i=t.at_:=by unfold fV;rw [h]
theorem Left.here {p:RP} {i:Nat} {l:List Tok} (h:Left p i l):fV p i=Par.here l:=by
 obtain ⟨t,l,rfl⟩:=h.cons
 rw [qY h.get.1];rfl
theorem XAt.here {p:RP} {i e a:Nat} {S:Par.SX} (h:XAt p i e a S) {l:List Tok} (hS:S= .ok l):fV p i=Par.here l:=by subst hS;exact h.ok0.2.2.here
theorem XAt.hd {p:RP} {i e a:Nat} {l:List Tok} (h:XAt p i e a (.ok l)) {t:Tok} (ht:p.ts[i]? =some t):Par.hd l=t:=by
 obtain ⟨u,l,rfl⟩:=h.ok0.2.2.cons
 have:=h.ok0.2.2.get.1
 rw [ht] at this;cases this;rfl
theorem XAt.isS_eq {p:RP} {i e a:Nat} {S:Par.SX} (h:XAt p i e a S) {t:Tok} (ht:p.ts[i]? =some t) (s:List UInt8):Par.isS s S=(decide (e=0)&&(decide (t.text=s)&&(decide (t.kind=4)||decide (t.kind=3)))):=by
 cases S with
 |error z=>
  cases h with
  |err he _ _=>simp [Par.isS,he]
 |ok l=>
  have hd:=h.hd ht
  obtain ⟨rfl,_,_⟩:=h.ok0
  show Par.is s l=_
  unfold Par.is;rw [hd];simp
def Par.KS (k:Nat):Par.SX→Par.SX
 | .ok l=> .error (k,Par.here l)
 | .error z=> .error z
namespace Par
variable {α:Type} {S S1 S2 S3 S4:SX}
theorem Res.must_no {s:List UInt8} {x:Nat} (hi:isS s S=false):Res S (must s) x (KS 11 S):=by cases S with
 |error z=>rfl
 |ok l=>
  have hi:is s l=false:=hi
  exact Res.KR (by unfold must;rw [hi];rfl)
theorem Res.Gn {x:List UInt8} (hi:∀l,S= .ok l→(hd l).kind≠1):Res S name x (KS 11 S):=by cases S with
 |error z=>rfl
 |ok l=>exact Res.KR (by unfold name of;rw [if_neg (hi l rfl)];rfl)
theorem Res.name_ok {l:List Tok} (hi:(hd l).kind=1):Res (.ok l) name (hd l).text (.ok l.tail):=Res.Gm (by unfold name of;rw [if_pos hi])
theorem Res.out {f:List Tok→R α} {l:List Tok} {x:α} (r:Res (.ok l) f x S):match S with
  | .ok l'=>f l= .ok (x,l')
  | .error z=>f l= .error z:=by
 unfold Res at r
 cases hf:f l with
 |error z=>simp only [hf] at r;subst r;rfl
 |ok q=>obtain ⟨q,l'⟩:=q;simp only [hf] at r;obtain ⟨rfl,rfl⟩:=r;rfl
theorem Res.step {β:Type} {f:List Tok→R α} {g:α→List Tok→R β} {F:List Tok→R β} {l l1:List Tok} {x:α} {y:β} (e:F l=Par.bn (f l1) g) (q:Res (.ok l1) f x S1) (r:Res S1 (g x) y S2):Res (.ok l) F y S2:=by
 have:=Res.bn q r
 unfold Res at this ⊢;simp only [e];exact this
theorem IU {k at_:Nat} {l:List Tok} {last n:List UInt8} {x:List Pm} {al:Bool} {y:(List UInt8×Bool)×List Pm} (hi:is [60] l=true) (hh:at_=here l.tail) (q:Res (.ok l.tail) name n S1) (r:Res S1 (fun l=>jC k l n (x++[⟨last,n,at_⟩]) false) y S2):Res (.ok l) (fun l=>jC (k+1) l last x al) y S2:=by
 subst hh
 exact Res.step (g:=fun n l1=>jC k l1 n (x++[⟨last,n,here l.tail⟩]) false) (by show jC (k+1) l last x al=_;rw [jC,if_pos hi];kernel_rfl) q r
theorem zq {k:Nat} {last:List UInt8} {x:List Pm} {al:Bool} (hi:isS [60] S=false) (hk:∀l,S= .ok l→1≤k):Res S (fun l=>jC k l last x al) ((last,al),x) S:=by cases S with
 |error z=>rfl
 |ok l=>
  have hi:is [60] l=false:=hi
  obtain ⟨k,rfl⟩:∃m,k=m+1:=⟨k - 1,by have:=hk l rfl;omega⟩
  exact Res.Gm (by rw [jC,if_neg (by rw [hi];decide)])
theorem su {k at_ z:Nat} {l:List Tok} {last n:List UInt8} {x y out:List Pm} {al:Bool} (hk:(hd l).kind≠0) (hh:at_=here l) (q:Res (.ok l) name n S1) (r:Res S1 (fun l=>jC l.length l n x true) ((last,al),y) S2) (w:Res S2 (must [59]) z S3)
  (v:Res S3 (fun l=>dA k l (if al then y++[⟨last,[],at_⟩] else y)) out S4):Res (.ok l) (fun l=>dA (k+1) l x) out S4:=by
 subst hh
 exact Res.step (f:=name) (g:=fun n l1=>bn (jC l1.length l1 n x true) fun r l2=>bn (must [59] l2) fun _ l3=>dA k l3 (if r.1.2 then r.2++[⟨r.1.1,[],here l⟩] else r.2)) (by show dA (k+1) l x=_;rw [dA,if_neg hk];kernel_rfl) q (r.bn (w.bn v))
theorem C9 {k:Nat} {l:List Tok} {x:List Pm} (hk:(hd l).kind=0):Res (.ok l) (fun l=>dA (k+1) l x) x (.ok l):=Res.Gm (by rw [dA,if_pos hk])
theorem zu (l:List Tok):bn (must [108,97,98,101,108,115] l) (fun _ l1=>dA l1.length l1 [])=labels l:=by kernel_rfl
end Par
structure Stp (p:RP) (S:Par.SX) (i:Nat) {α:Type} (f:List Tok→Par.R α) (x:α) (S':Par.SX) (i' e' a':Nat):Prop where
 at_:XAt p i' e' a' S'
 res:Par.Res S f x S'
 adv:i+1≤i'+min e' 1
theorem Stp.good {p:RP} {S S':Par.SX} {i e a i' e' a':Nat} {α:Type} {f:List Tok→Par.R α} {x:α} (q:Stp p S i f x S' i' e' a') (h:XAt p i e a S) (h0:e'=0):e=0:=by
 apply Classical.byContradiction
 intro he
 have hb:=h.bad he
 subst hb
 have h1:S'= .error (e,a):=q.res
 obtain ⟨l,h2,_⟩:=q.at_.good h0
 rw [h1] at h2;cases h2
end
end Go.Eng
