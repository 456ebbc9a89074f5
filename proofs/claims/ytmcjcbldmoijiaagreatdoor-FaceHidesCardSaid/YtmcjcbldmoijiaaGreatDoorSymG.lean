/- Part of a proof of a law: rules of an evaluator, contracts, plain laws. No condition of its own. -/
import Derived.Test.YtmcjcbldmoijiaaGreatDoorSymF
import Derived.Test.YtmcjcbldmoijiaaGreatDoorEngG
set_option linter.unusedVariables false
set_option linter.unusedSimpArgs false
namespace Go.Eng
noncomputable section
inductive ta (P:List Lab.aL→Lab.aL→Bool):List Lab.aL→List Lab.aL→List Lab.aL→Prop
 |nil {D R:List Lab.aL}:(∀x∈R,P D x=false)→ta P D R []
 |cons {D R O:List Lab.aL} {k:Nat} {x:Lab.aL}:R[k]? =some x→P D x=true→(∀y∈R.take k,P D y=false)→ta P (D++[x]) (R.eraseIdx k) O→ta P D R (x::O)
theorem ta.same {P:List Lab.aL→Lab.aL→Bool} {D R O:List Lab.aL} (a:ta P D R O):∀{Gk:List Lab.aL},ta P D R Gk→O=Gk:=by
 induction a with
 |nil h=>
  intro Gk b
  cases b with
  |nil _=>rfl
  |cons h1 h2 _ _=>rw [h _ (List.mem_of_getElem? h1)] at h2;cases h2
 | @cons D R O k x h1 h2 a6 _ bm=>
   intro Gk b
   cases b with
   |nil h=>rw [h _ (List.mem_of_getElem? h1)] at h2;cases h2
   | @cons _ _ K0 cB bR g1 g2 g3 g4=>
     have e:k=cB:=by
      apply Nat.le_antisymm
      · refine Nat.le_of_not_lt fun hlt=> ?_
        have:=a6 bR (List.mem_of_getElem? (i:=cB) (by rw [List.getElem?_take_of_lt hlt];exact g1))
        rw [this] at g2;cases g2
      · refine Nat.le_of_not_lt fun hlt=> ?_
        have:=g3 x (List.mem_of_getElem? (i:=k) (by rw [List.getElem?_take_of_lt hlt];exact h1))
        rw [this] at h2;cases h2
     subst e
     rw [h1] at g1;cases g1
     rw [bm g4]
end
end Go.Eng
namespace Go.Eng
noncomputable section
def QQ (W:jM) (x:Lab.aL):Bool:= @decide (Reach W x x) (Classical.propDecidable _)
def CZ (W:jM) (D:List Lab.aL) (x:Lab.aL):Bool:= @decide (∀y,Reach W x y→y∈D) (Classical.propDecidable _)
def abe (W G:jM) (i:Nat):List Lab.aL:=(vQ (G.take i)).filter (QQ W)
def K1 (W G:jM) (i:Nat):List Lab.aL:=(vQ (G.take i)).filter fun x=> !QQ W x
abbrev QR:=List (Lab.aL×Nat×List Lab.aL)
structure QS (W G:jM) (i:Nat) (K:QR):Prop where
 keys:K.map (fun q=>q.1)=K1 W G i
 ahb:∀q∈K,∀y,y∈q.2.2↔Reach W q.1 y
section
variable {W G:jM} {i m:Nat} {p:Lab.aL×List Lab.aL} {K:QR} {S:List Lab.aL} (g:ZH G) (o:QS W G i K)
include g o
omit g in
theorem QS.find {qJ:List Lab.aL} (cz:qJ=iz (K1 W G i)) {x:Lab.aL} (hx:x∈qJ):∃q,q∈K∧q.1=x:=by
 rw [cz] at hx
 have hx:=(uv _).mem_iff.1 hx
 rw [←o.keys] at hx
 obtain ⟨q,h1,h2⟩:=List.mem_map.1 hx
 exact ⟨q,h1,h2⟩
end
structure QT (W:jM) (tR qJ D R O:List Lab.aL):Prop where
 ord:∀K0,ta (CZ W) D R K0→ta (CZ W) tR qJ (O++K0)
 sub:∀x∈R,x∈qJ
 len:O.length+R.length=qJ.length
 dd:R.Nodup
 ahc:∀x∈R,x∉D
section
variable {W G:jM} {tR qJ D R O:List Lab.aL}
theorem QT.none (l:QT W tR qJ D R O) (h:∀x∈R,CZ W D x=false):ta (CZ W) tR qJ O:=by
 have:=l.ord [] (.nil h);rw [List.append_nil] at this;exact this
end
end
end Go.Eng
namespace Go.Eng
noncomputable section
structure ahd (G:jM) (tR qJ O:List Lab.aL):Prop where
 c:tR=iz (abe (Kz G) G G.length)
 r:qJ=iz (K1 (Kz G) G G.length)
 o:ta (CZ (Kz G)) tR qJ O
end
end Go.Eng
namespace Go.Eng
noncomputable section
theorem Reach.congr {W M:jM} (h:∀x y,y∈xR W x↔y∈xR M x) {x y:Lab.aL} (r:Reach W x y):Reach M x y:=by
 induction r with
 |one hm=>exact .one ((h _ _).1 hm)
 |step _ hm bm=>exact .step bm ((h _ _).1 hm)
end
end Go.Eng
namespace Go.Eng
noncomputable section
theorem QU (c:UInt8):∀l:List UInt8,0≤Lib.indexByte l c↔c∈l
 |[]=>by simp [Lib.indexByte]
 |b::l=>by
  have bm:=QU c l
  have sH:=Lib.indexByte_ge l c
  unfold Lib.indexByte
  by_cases h:b=c
  · subst h;simp
  · have h2:(b==c)=false:=by simpa using h
    rw [h2]
    have a6:¬c=b:=fun e=>h e.symm
    simp only [List.mem_cons,a6,false_or]
    rw [←bm]
    by_cases cc:Lib.indexByte l c= -1
    · simp [cc]
    · have:(Lib.indexByte l c== -1)=false:=by simpa using cc
      rw [this];simp only [Bool.false_eq_true,if_false];omega
theorem K2 {l t:List UInt8} (ht:t∈Lex.lM) (ar:l.take 2=t):Lex.sign l=t:=by
 have hlen:t.length=2:=by simp [Lex.lM] at ht;rcases ht with rfl|rfl|rfl<;>rfl
 have h2:2≤l.length:=by have:=congrArg List.length ar;rw [List.length_take,hlen] at this;omega
 unfold Lex.sign
 have hp:∀u,u∈Lex.lM→Lex.vY u l=decide (u=t):=by
  intro u hu
  have:u.length=2:=by simp [Lex.lM] at hu;rcases hu with rfl|rfl|rfl<;>rfl
  unfold Lex.vY;rw [this,ar]
  have e:decide (2≤l.length)=true:=decide_eq_true h2
  rw [e,Bool.true_and]
  by_cases h:t=u
  · subst h;simp
  · have:¬u=t:=fun e=>h e.symm
    simp [h,this]
 have:Lex.lM.find? (Lex.vY · l)=some t:=by
  simp only [Lex.lM,List.find?] at ht ⊢
  have h1:=hp [61,61] (by simp [Lex.lM]);have h2:=hp [60,61] (by simp [Lex.lM]);have a6:=hp [45,62] (by simp [Lex.lM])
  simp at ht
  rcases ht with rfl|rfl|rfl
  · rw [h1];rfl
  · rw [h1,h2];rfl
  · rw [h1,h2,a6];rfl
 rw [this]
theorem sign_one {c:UInt8} {r:List UInt8} (hn:(c::r).take 2∉Lex.lM):Lex.sign (c::r)=if c∈Lex.fW then [c] else []:=by
 unfold Lex.sign
 have:Lex.lM.find? (Lex.vY · (c::r))=none:=by
  rw [List.find?_eq_none]
  intro u hu hp
  have hlen:u.length=2:=by simp [Lex.lM] at hu;rcases hu with rfl|rfl|rfl<;>rfl
  unfold Lex.vY at hp;rw [hlen] at hp;simp at hp
  exact hn (by rw [show (c::r).take 2=c::r.take 1 from rfl,of_decide_eq_true hp.2];exact hu)
 rw [this]
 simp only [QU]
theorem abf {w:List UInt8} (h:w∈Lex.keys):w.length≤20:=by
 have:∀w∈Lex.keys,w.length≤20:=by decide
 exact this w h
theorem abg {f:UInt8→Bool} (l:List UInt8):(l.takeWhile f).length≤l.length:=by
 induction l with
 |nil=>simp
 |cons a l bm=>rw [List.takeWhile_cons];split<;>simp<;>omega
theorem kg {g k:Nat} {s:List UInt8} {aP:List Tok} {b:UInt8} (hb:s[k]? =some b):
  Lex.all (g+1) k (s.drop k) aP=
  if Lex.blank b then Lex.all g (k+1) (s.drop (k+1)) aP else
  if b.toNat=35 then Lex.all g (k+((s.drop k).takeWhile Lex.jt).length) (s.drop (k+((s.drop k).takeWhile Lex.jt).length)) aP else
  if Lex.small b then Lex.put (Lex.word ((s.drop k).takeWhile Lex.within)) ((s.drop k).takeWhile Lex.within) k aP (Lex.all g (k+((s.drop k).takeWhile Lex.within).length) (s.drop (k+((s.drop k).takeWhile Lex.within).length))) else
  if Lex.digit b then Lex.put (Lex.number ((s.drop k).takeWhile Lex.digit) (s.drop (k+((s.drop k).takeWhile Lex.digit).length))) ((s.drop k).takeWhile Lex.digit) k aP (Lex.all g (k+((s.drop k).takeWhile Lex.digit).length) (s.drop (k+((s.drop k).takeWhile Lex.digit).length))) else
  Lex.put (if Lex.sign (s.drop k)=[] then (4,10) else (4,0)) (Lex.sign (s.drop k)) k aP (Lex.all g (k+(Lex.sign (s.drop k)).length) (s.drop (k+(Lex.sign (s.drop k)).length))):=by
 obtain ⟨hlt,rfl⟩:=List.getElem?_eq_some_iff.1 hb
 have aQ:=List.drop_eq_getElem_cons hlt
 rw [aQ];simp only [Lex.all];rw [←aQ];simp only [List.drop_drop]
theorem x4 {f:UInt8→Bool} {s:List UInt8} {k:Nat} {b:UInt8} (hb:s[k]? =some b) (hf:f b=true):0<((s.drop k).takeWhile f).length∧k+((s.drop k).takeWhile f).length≤s.length∧((s.drop k).takeWhile f).head? =some b:=by
 have h1:=abg (f:=f) (s.drop k)
 have h2:=(List.getElem?_eq_some_iff.1 hb).1
 rw [List.length_drop] at h1
 refine ⟨?_,by omega, ?_⟩<;>rw [Ad hb hf]<;>simp
theorem abh (l:List UInt8):(Lex.sign l).length≤l.length:=by
 unfold Lex.sign
 cases e:Lex.lM.find? (Lex.vY · l) with
 |some t=>
  have:=List.find?_some e
  simp [Lex.vY] at this;exact this.1
 |none=>
  cases l with
  |nil=>simp
  |cons c r=>simp only;split<;>simp
theorem wg {f:UInt8→Bool}:∀l:List UInt8,l.take (l.takeWhile f).length=l.takeWhile f
 |[]=>rfl
 |a::l=>by
  rw [List.takeWhile_cons]
  split
  · rw [List.length_cons,List.take_succ_cons,wg l]
  · rfl
theorem QV {l:List UInt8} {i:Nat} {b:UInt8} (h:l[i]? =some b):l.drop i=b::l.drop (i+1):=by
 obtain ⟨hlt,rfl⟩:=List.getElem?_eq_some_iff.1 h
 exact List.drop_eq_getElem_cons hlt
theorem QW {f:UInt8→Bool}:∀{l:List UInt8} {b:UInt8},l[(l.takeWhile f).length]? =some b→f b=false
 |[],b,h=>by simp at h
 |a::l,b,h=>by
  rw [List.takeWhile_cons] at h
  by_cases hf:f a=true
  · rw [if_pos hf] at h;exact QW (l:=l) (by simpa using h)
  · rw [if_neg hf] at h;simp at h;subst h;simpa using hf
theorem QX {f:UInt8→Bool} {s:List UInt8} {k:Nat} {b:UInt8} (h:s[k+((s.drop k).takeWhile f).length]? =some b):f b=false:=QW (l:=s.drop k) (by rw [List.getElem?_drop];exact h)
theorem L.qK {ev:dr} {h:ae} {x:A} {l m:List UInt8} {br ag:Option A} {i j:Nat} (hx:ev x=L.str l) (aR:dM ag ev l.length=some j) (mJ:dM br ev 0=some i) (uj:i≤j) (mH:j≤l.length) (hm:(l.drop i).take (j - i)=m):light (.n3 x br ag) ev h= .val (L.str m):=by subst hm;exact L.Yg hx aR mJ uj mH
theorem abi {l:List UInt8} (h:l.take 2∈Lex.lM):2≤l.length:=by
 have:∀t∈Lex.lM,t.length=2:=by decide
 have:=this _ h
 rw [List.length_take] at this;omega
def Par.text (s:List UInt8):Except (Nat×Nat) e0:=match Lex.lex s with
 | .error x=> .error x
 | .ok aP=>match Par.xY 0 aP with
   | .error x=> .error x
   | .ok (m,_)=> .ok m
def Par.rows (s:List UInt8):Except (Nat×Nat) (List ck):=match Lex.lex s with
 | .error x=> .error x
 | .ok aP=>match Par.labels aP with
   | .error x=> .error x
   | .ok (m,_)=> .ok m
theorem QY {fs:List Fact} {h:ae} {x:V} {aP:List Tok} (st:aq (.aE (fun h=>Rows 3 h x (aP.map Tok.row))::fs) h) (bG:aP≠[]):∃p:dV,p.aP=aP∧x= .au p.cr p.to p.aP.length p.cap:=by
 have hr:=st.bt 0 rfl
 cases aP with
 |nil=>exact absurd rfl bG
 |cons t aP=>
  generalize ar:(t::aP).map Tok.row=rows at hr
  cases hr with
  |nil=>cases ar
  |row _ _ _ _ _ _=>exact ⟨⟨0,_,_,_,t::aP⟩,rfl,by rw [show (t::aP).length=_ from (@List.length_map _ _ (t::aP) Tok.row).symm,ar]⟩
theorem Gl {s:List UInt8} {aP:List Tok} (h:Lex.lex s= .ok aP) (p:dV) (hp:p.aP=aP):Left p 0 p.aP∧aP≠[]:=by
 unfold Lex.lex at h
 by_cases ay:8192<s.length
 · rw [if_pos ay] at h;cases h
 · rw [if_neg ay] at h
   obtain ⟨us,a,e,hn⟩:=Lex.Ag h (fun t ht=>by simp at ht)
   have hlen:=Lex.vZ h
   subst hp
   exact ⟨Left.start e hn (by simp at hlen;omega),by rw [e];simp⟩
theorem K3 {t:Nat×Nat} {w:List UInt8} {pos:Nat} {out:List Tok} {k:List Tok→Except (Nat×Nat) (List Tok)} {e a:Nat} (h:Lex.put t w pos out k= .error (e,a)):(e≠0)∨k (out++[⟨t.1,w,pos⟩])= .error (e,a):=by
 unfold Lex.put at h
 by_cases he:t.2≠0
 · rw [if_pos he] at h;cases h;exact Or.inl he
 · rw [if_neg he] at h;exact Or.inr h
theorem Ak:∀{f pos:Nat} {r:List UInt8} {out:List Tok} {e a:Nat},r.length<f→Lex.all f pos r out= .error (e,a)→e≠0
 |0,_,_,_,_,_,hf,_=>by omega
 |f+1,pos,[],out,e,a,hf,h=>by simp only [Lex.all] at h;cases h
 |f+1,pos,c::r,out,e,a,hf,h=>by
  simp only [Lex.all] at h
  have ar:r.length<f:=by simp at hf;omega
  have aQ:∀n,0<n→((c::r).drop n).length<f:=fun n hn=>by rw [List.length_drop,List.length_cons];omega
  by_cases h1:Lex.blank c=true
  · rw [if_pos h1] at h;exact Ak ar h
  rw [if_neg h1] at h
  by_cases h2:c.toNat=35
  · rw [if_pos h2] at h;exact Ak (aQ _ (x4 (s:=c::r) (k:=0) rfl (by simp [Lex.jt,h2])).1) h
  rw [if_neg h2] at h
  by_cases a6:Lex.small c=true
  · rw [if_pos a6] at h
    exact (K3 h).elim id fun h=>Ak (aQ _ (x4 (s:=c::r) (k:=0) rfl (by simp [Lex.within,a6])).1) h
  rw [if_neg a6] at h
  by_cases cc:Lex.digit c=true
  · rw [if_pos cc] at h
    exact (K3 h).elim id fun h=>Ak (aQ _ (x4 (s:=c::r) (k:=0) rfl cc).1) h
  rw [if_neg cc] at h
  by_cases ay:Lex.sign (c::r)=[]
  · rw [if_pos ay] at h;unfold Lex.put at h;rw [if_pos (by decide)] at h;cases h;decide
  · exact (K3 h).elim id fun h=>Ak (aQ _ (List.length_pos_iff.2 ay)) h
theorem QZ {s:List UInt8} {e a:Nat} (h:Lex.lex s= .error (e,a)):e≠0:=by
 unfold Lex.lex at h
 by_cases ay:8192<s.length
 · rw [if_pos ay] at h;cases h;decide
 · rw [if_neg ay] at h;exact Ak (by omega) h
namespace Par
variable {α β:Type}
abbrev dc:=Except (Nat×Nat) (List Tok)
def a8 (r:R α) (f:α→List Tok→R β):R β:=match r with
 | .error e=> .error e
 | .ok (x,l)=>f x l
def aB (S:dc) (f:List Tok→R α) (x:α) (bU:dc):Prop:=match S with
 | .error z=>bU= .error z
 | .ok l=>match f l with
   | .error z=>bU= .error z
   | .ok (y,aI)=>x=y∧bU= .ok aI
def gf (s:List UInt8):dc→Bool
 | .ok l=>is s l
 | .error _=>false
variable {S S1 b9:dc} {f g:List Tok→R α} {x:α} {y:β}
theorem aB.a8 {g:α→List Tok→R β} (h1:aB S f x S1) (h2:aB S1 (g x) y b9):aB S (fun l=>Par.a8 (f l) g) y b9:=by
 cases S with
 |error z=>obtain rfl:S1= .error z:=h1;exact h2
 |ok l=>
  unfold aB at h1 ⊢
  simp only at h1 ⊢
  cases hf:f l with
  |error z=>rw [hf] at h1;obtain rfl:S1= .error z:=h1;exact h2
  |ok q=>obtain ⟨q,aI⟩:=q;rw [hf] at h1;obtain ⟨rfl,rfl⟩:=h1;exact h2
theorem aB.no {s:List UInt8} {A B:List Tok→R α} (ag:gf s S=false) (h:aB S B x S1):aB S (fun l=>if is s l=true then A l else B l) x S1:=by
 cases S with
 |error z=>exact h
 |ok l=>
  have ag:is s l=false:=ag
  unfold aB at h ⊢;simp only [ag] at h ⊢;exact h
theorem aB.yes {s:List UInt8} {l:List Tok} {A B:List Tok→R α} (ag:is s l=true) (h:aB (.ok l) A x S1):aB (.ok l) (fun l=>if is s l=true then A l else B l) x S1:=by
 unfold aB at h ⊢;simp only [ag] at h ⊢;exact h
theorem aB.pure (S:dc) (x:α):aB S (fun l=> .ok (x,l)) x S:=by cases S with
 |error z=>rfl
 |ok l=>exact ⟨rfl,rfl⟩
theorem aB.cast (h:∀l,S= .ok l→f l=g l) (r:aB S f x S1):aB S g x S1:=by cases S with
 |error z=>exact r
 |ok l=>unfold aB at r ⊢;simp only [h l rfl] at r;exact r
def dc.len:dc→Nat
 | .ok l=>l.length
 | .error _=>0
theorem aB.len {F:Nat→List Tok→R α} (r:aB S (F S.len) x S1):aB S (fun l=>F l.length l) x S1:=by cases S with
 |error z=>exact r
 |ok l=>exact r
theorem aB.pI {l aI:List Tok} {y:α} (hf:f l= .ok (y,aI)):aB (.ok l) f y (.ok aI):=by unfold aB;simp [hf]
theorem aB.uJ {l:List Tok} {z:Nat×Nat} (hf:f l= .error z):aB (.ok l) f x (.error z):=by unfold aB;simp only [hf]
end Par
def dV.bX (p:dV) (i d e a:Nat):Fact:= .box p.aT [.au p.cr p.to p.aP.length p.cap, .int .i64 (i:Int), .int .i64 (d:Int), .int .i64 (e:Int), .int .i64 (a:Int)]
inductive XAt (p:dV):Nat→Nat→Nat→Par.dc→Prop
 |ok {i:Nat} {l:List Tok} (h:Left p i l):XAt p i 0 0 (.ok l)
 |err {i e a:Nat} (he:e≠0) (ag:i<p.aP.length) (ay:p.aP.length<4294967296):XAt p i e a (.error (e,a))
namespace XAt
variable {p:dV} {i e a:Nat} {S:Par.dc}
theorem lt (h:XAt p i e a S):i<p.aP.length:=by cases h with
 |ok h=>exact h.lt
 |err _ ag _=>exact ag
theorem small (h:XAt p i e a S):p.aP.length<4294967296:=by cases h with
 |ok h=>exact h.small
 |err _ _ ay=>exact ay
theorem fJ (h:XAt p i e a S) (he:e=0):∃l,S= .ok l∧a=0∧Left p i l:=by cases h with
 |ok h=>exact ⟨_,rfl,rfl,h⟩
 |err hn _ _=>exact absurd he hn
theorem bad (h:XAt p i e a S) (he:e≠0):S= .error (e,a):=by cases h with
 |ok h=>exact absurd rfl he
 |err hn _ _=>rfl
theorem row (h:XAt p i e a S):∃t,p.aP[i]? =some t∧(p.aP.map Tok.row)[i]? =some t.row:=by
 refine ⟨p.aP[i]'h.lt,List.getElem?_eq_getElem h.lt, ?_⟩
 rw [List.getElem?_map,List.getElem?_eq_getElem h.lt];rfl
theorem hC {l:List Tok} (h:XAt p i e a (.ok l)):e=0∧a=0∧Left p i l:=by cases h with
 |ok h=>exact ⟨rfl,rfl,h⟩
theorem gf (h:XAt p i e a S) {s:List UInt8} (ag:Par.gf s S=true):∃l,S= .ok l∧e=0∧a=0∧Par.is s l=true∧Left p i l:=by cases h with
 |ok h=>exact ⟨_,rfl,rfl,rfl,ag,h⟩
 |err _ _ _=>cases ag
end XAt
theorem XAt.fuel {p:dV} {i e a:Nat} {S:Par.dc} (h:XAt p i e a S) (he:e=0):p.aP.length≤i+Par.dc.len S:=by
 obtain ⟨l,rfl,_,ar⟩:=h.fJ he
 have:=ar.len
 show _≤i+l.length
 have:=ar.lt
 omega
def aX (p:dV) (i:Nat):Nat:=match p.aP[i]? with
 |some t=>t.at_
 |none=>0
theorem K4 {p:dV} {i:Nat} {t:Tok} (h:p.aP[i]? =some t):aX p i=t.at_:=by unfold aX;rw [h]
theorem Left.here {p:dV} {i:Nat} {l:List Tok} (h:Left p i l):aX p i=Par.here l:=by
 obtain ⟨t,l,rfl⟩:=h.cons
 rw [K4 h.get.1];rfl
theorem XAt.here {p:dV} {i e a:Nat} {S:Par.dc} (h:XAt p i e a S) {l:List Tok} (lQ:S= .ok l):aX p i=Par.here l:=by subst lQ;exact h.hC.2.2.here
theorem XAt.aQ {p:dV} {i e a:Nat} {l:List Tok} (h:XAt p i e a (.ok l)) {t:Tok} (ht:p.aP[i]? =some t):Par.aQ l=t:=by
 obtain ⟨u,l,rfl⟩:=h.hC.2.2.cons
 have:=h.hC.2.2.get.1
 rw [ht] at this;cases this;rfl
theorem XAt.abj {p:dV} {i e a:Nat} {S:Par.dc} (h:XAt p i e a S) {t:Tok} (ht:p.aP[i]? =some t) (s:List UInt8):Par.gf s S=(decide (e=0)&&(decide (t.text=s)&&(decide (t.kind=4)||decide (t.kind=3)))):=by
 cases S with
 |error z=>
  cases h with
  |err he _ _=>simp [Par.gf,he]
 |ok l=>
  have aQ:=h.aQ ht
  obtain ⟨rfl,_,_⟩:=h.hC
  show Par.is s l=_
  unfold Par.is;rw [aQ];simp
def Par.uK (k:Nat):Par.dc→Par.dc
 | .ok l=> .error (k,Par.here l)
 | .error z=> .error z
namespace Par
variable {α:Type} {S S1 b9 dW gv:dc}
theorem aB.abk {s:List UInt8} {x:Nat} (ag:gf s S=false):aB S (must s) x (uK 11 S):=by cases S with
 |error z=>rfl
 |ok l=>
  have ag:is s l=false:=ag
  exact aB.uJ (by unfold must;rw [ag];rfl)
theorem aB.Q0 {x:List UInt8} (ag:∀l,S= .ok l→(aQ l).kind≠1):aB S name x (uK 11 S):=by cases S with
 |error z=>rfl
 |ok l=>exact aB.uJ (by unfold name of;rw [if_neg (ag l rfl)];rfl)
theorem aB.abl {l:List Tok} (ag:(aQ l).kind=1):aB (.ok l) name (aQ l).text (.ok l.tail):=aB.pI (by unfold name of;rw [if_pos ag])
theorem aB.out {f:List Tok→R α} {l:List Tok} {x:α} (r:aB (.ok l) f x S):match S with
  | .ok aI=>f l= .ok (x,aI)
  | .error z=>f l= .error z:=by
 unfold aB at r
 cases hf:f l with
 |error z=>simp only [hf] at r;subst r;rfl
 |ok q=>obtain ⟨q,aI⟩:=q;simp only [hf] at r;obtain ⟨rfl,rfl⟩:=r;rfl
theorem aB.step {β:Type} {f:List Tok→R α} {g:α→List Tok→R β} {F:List Tok→R β} {l aW:List Tok} {x:α} {y:β} (e:F l=Par.a8 (f aW) g) (q:aB (.ok aW) f x S1) (r:aB S1 (g x) y b9):aB (.ok l) F y b9:=by
 have:=aB.a8 q r
 unfold aB at this ⊢;simp only [e];exact this
theorem abm {k at_:Nat} {l:List Tok} {last n:List UInt8} {x:List ck} {al:Bool} {y:(List UInt8×Bool)×List ck} (ag:is [60] l=true) (bQ:at_=here l.tail) (q:aB (.ok l.tail) name n S1) (r:aB S1 (fun l=>lL k l n (x++[⟨last,n,at_⟩]) false) y b9):aB (.ok l) (fun l=>lL (k+1) l last x al) y b9:=by
 subst bQ
 exact aB.step (g:=fun n aW=>lL k aW n (x++[⟨last,n,here l.tail⟩]) false) (by show lL (k+1) l last x al=_;rw [lL,if_pos ag];kernel_rfl) q r
theorem Q1 {k:Nat} {last:List UInt8} {x:List ck} {al:Bool} (ag:gf [60] S=false) (hk:∀l,S= .ok l→1≤k):aB S (fun l=>lL k l last x al) ((last,al),x) S:=by cases S with
 |error z=>rfl
 |ok l=>
  have ag:is [60] l=false:=ag
  obtain ⟨k,rfl⟩:∃m,k=m+1:=⟨k - 1,by have:=hk l rfl;omega⟩
  exact aB.pI (by rw [lL,if_neg (by rw [ag];decide)])
theorem Q2 {k at_ z:Nat} {l:List Tok} {last n:List UInt8} {x y out:List ck} {al:Bool} (hk:(aQ l).kind≠0) (bQ:at_=here l) (q:aB (.ok l) name n S1) (r:aB S1 (fun l=>lL l.length l n x true) ((last,al),y) b9) (w:aB b9 (must [59]) z dW)
  (v:aB dW (fun l=>nd k l (if al then y++[⟨last,[],at_⟩] else y)) out gv):aB (.ok l) (fun l=>nd (k+1) l x) out gv:=by
 subst bQ
 exact aB.step (f:=name) (g:=fun n aW=>a8 (lL aW.length aW n x true) fun r bu=>a8 (must [59] bu) fun _ cC=>nd k cC (if r.1.2 then r.2++[⟨r.1.1,[],here l⟩] else r.2)) (by show nd (k+1) l x=_;rw [nd,if_neg hk];kernel_rfl) q (r.a8 (w.a8 v))
theorem abn {k:Nat} {l:List Tok} {x:List ck} (hk:(aQ l).kind=0):aB (.ok l) (fun l=>nd (k+1) l x) x (.ok l):=aB.pI (by rw [nd,if_pos hk])
theorem Q3 (l:List Tok):a8 (must [108,97,98,101,108,115] l) (fun _ aW=>nd aW.length aW [])=labels l:=by kernel_rfl
end Par
structure my (p:dV) (S:Par.dc) (i:Nat) {α:Type} (f:List Tok→Par.R α) (x:α) (bU:Par.dc) (cy bF bf:Nat):Prop where
 at_:XAt p cy bF bf bU
 res:Par.aB S f x bU
 ct:i+1≤cy+min bF 1
theorem my.fJ {p:dV} {S bU:Par.dc} {i e a cy bF bf:Nat} {α:Type} {f:List Tok→Par.R α} {x:α} (q:my p S i f x bU cy bF bf) (h:XAt p i e a S) (h0:bF=0):e=0:=by
 apply Classical.byContradiction
 intro he
 have hb:=h.bad he
 subst hb
 have h1:bU= .error (e,a):=q.res
 obtain ⟨l,h2,_⟩:=q.at_.fJ h0
 rw [h1] at h2;cases h2
theorem Q4:∀{k:Nat} {l aI:List Tok} {last:List UInt8} {x y:List ck} {al:Bool} {r:List UInt8×Bool},Par.lL k l last x al= .ok ((r,y),aI)→y.length+aI.length≤x.length+l.length
 |0,_,_,_,_,_,_,_,h=>by cases h
 |k+1,l,aI,last,x,y,al,r,h=>by
  rw [Par.lL] at h
  by_cases ag:Par.is [60] l=true
  · rw [if_pos ag] at h
    cases hn:Par.name l.tail with
    |error z=>simp only [hn] at h;cases h
    |ok q=>
     obtain ⟨n,aW⟩:=q
     simp only [hn] at h
     have h1:=Par.QF hn
     have h2:=Q4 h
     have a6:l.tail.length=l.length - 1:=List.length_tail
     simp at h2;omega
  · rw [if_neg ag] at h;cases h;exact Nat.le_refl _
theorem Q5:∀{k:Nat} {l aI:List Tok} {x y:List ck},Par.nd k l x= .ok (y,aI)→y.length+aI.length≤x.length+l.length
 |0,_,_,_,_,h=>by cases h
 |k+1,l,aI,x,y,h=>by
  rw [Par.nd] at h
  by_cases ag:(Par.aQ l).kind=0
  · rw [if_pos ag] at h;cases h;exact Nat.le_refl _
  · rw [if_neg ag] at h
    cases hn:Par.name l with
    |error z=>simp only [hn] at h;cases h
    |ok q=>
     obtain ⟨n,aW⟩:=q
     simp only [hn] at h
     have h1:=Par.QF hn
     cases hr:Par.lL aW.length aW n x true with
     |error z=>simp only [hr] at h;cases h
     |ok q=>
      obtain ⟨⟨⟨last,al⟩,z⟩,bu⟩:=q
      simp only [hr] at h
      have h2:=Q4 hr
      cases hm:Par.must [59] bu with
      |error z=>simp only [hm] at h;cases h
      |ok q=>
       obtain ⟨_,cC⟩:=q
       simp only [hm] at h
       have a6:=Par.QE hm
       have cc:=Q5 h
       cases al<;>simp at cc<;>omega
theorem abo {s:List UInt8} {m:List ck} (h:Par.rows s= .ok m):m.length<2147483648:=by
 unfold Par.rows at h
 cases ar:Lex.lex s with
 |error z=>simp only [ar] at h;cases h
 |ok aP=>
  simp only [ar] at h
  cases hp:Par.labels aP with
  |error z=>simp only [hp] at h;cases h
  |ok q=>
   obtain ⟨jH,aI⟩:=q
   simp only [hp] at h;cases h
   have h1:aP.length≤8193:=by
    unfold Lex.lex at ar
    by_cases ay:8192<s.length
    · rw [if_pos ay] at ar;cases ar
    · rw [if_neg ay] at ar;have:=Lex.vZ ar;simp at this;omega
   unfold Par.labels at hp
   cases hm:Par.must [108,97,98,101,108,115] aP with
   |error z=>simp only [hm] at hp;cases hp
   |ok q=>
    obtain ⟨_,aW⟩:=q
    simp only [hm] at hp
    have h2:=Par.QE hm
    have a6:=Q5 hp
    simp at a6;omega
end
end Go.Eng
namespace Go.Eng
noncomputable section
namespace Par
variable {α:Type} {S S1 b9 dW:dc}
def fn (o:Option gZ) (a:R α) (g:gZ→R α):R α:=match o with
 |none=>a
 |some o=>g o
theorem abp (un:E) (ops:List gZ) (d:Nat) (l:List Tok) (ns:List bJ):a8 (un d l ns) (fun x aI=>kJ un ops aI.length d aI x.1 x.2)=chain un ops d l ns:=by kernel_rfl
theorem Q6 (un:E) (ops:List gZ) (f d a:Nat) (l:List Tok) (ns:List bJ):kJ un ops (f+1) d l a ns=fn (find ops l) (.ok ((a,ns),l)) fun o=>a8 (un d l.tail ns) fun x aI=>kJ un ops f d aI x.2.length (x.2++[⟨o.2,0,[],[],(a:Int),(x.1:Int),here l⟩]):=by kernel_rfl
theorem Q7 (un:E) (d:Nat) (l:List Tok) (ns:List bJ):a8 (sum un d l ns) (fun x aW=>fn (find qF aW) (.ok (x,aW)) fun o=>a8 (sum un d aW.tail x.2) fun y aI=> .ok ((y.2.length,y.2++[⟨o.2,0,[],[],(x.1:Int),(y.1:Int),here aW⟩]),aI))=whole un d l ns:=by kernel_rfl
theorem C0 (un:E) (d:Nat) (l:List Tok) (ns:List bJ):pE un d l ns=fn (find oE l)
  (if is [40] l=true then (if 40≤d then fail 12 l else a8 (whole un (d+1) l.tail ns) fun x aI=>a8 (must [41] aI) fun _ aI=> .ok (x,aI))
   else if (aQ l).kind=2 then a8 (number l) fun n aI=> .ok ((ns.length,ns++[⟨1,(n:Int),[],[], -1, -1,here l⟩]),aI)
   else a8 (ij l) fun q aI=> .ok ((ns.length,ns++[⟨2,0,q.1,q.2, -1, -1,here l⟩]),aI))
  fun o=>if 40≤d then fail 12 l else a8 (un (d+1) l.tail ns) fun x aI=> .ok ((x.2.length,x.2++[⟨o.2,0,[],[],(x.1:Int), -1,here l⟩]),aI):=by kernel_rfl
theorem K5 (l:List Tok):number l=a8 (of 2 l) fun t l=> .ok (Go.Eng.num t.text,l):=by kernel_rfl
theorem Q8 (l:List Tok):a8 (name l) (fun a l=>if is [46] l=true then a8 (name l.tail) (fun b l=> .ok ((a,b),l)) else .ok (([],a),l))=ij l:=by kernel_rfl
def nh (d:Nat) (s:List UInt8) (l:List Tok):R Unit:=if is s l=true then (if 40≤d then fail 12 l else .ok ((),l.tail)) else fail 11 l
theorem aB.eqv {f g:List Tok→R α} {x:α} (h:∀l,f l=g l) (r:aB S f x S1):aB S g x S1:=aB.cast (fun l _=>h l) r
theorem aB.one {F G:List Tok→R α} {l:List Tok} {x:α} (e:F l=G l) (r:aB (.ok l) G x S1):aB (.ok l) F x S1:=by
 unfold aB at r ⊢;simp only [e];exact r
theorem Q9 {un:E} {ops:List gZ} {d:Nat} {ns eK:List bJ} {y:Nat×List bJ} (q:aB S (fun l=>un d l ns) (eK.length - 1,eK) S1) (r:aB S1 (fun l=>kJ un ops l.length d l (eK.length - 1) eK) y b9):aB S (fun l=>chain un ops d l ns) y b9:=
 aB.eqv (fun l=>abp un ops d l ns) (q.a8 r)
theorem C1 {un:E} {ops:List gZ} {o:gZ} {k d a b at_:Nat} {rR bi:Int} {l:List Tok} {ns eK:List bJ} {y:Nat×List bJ} (hf:find ops l=some o) (bQ:at_=here l) (ha:rR=(a:Int)) (q:aB (.ok l.tail) (fun l=>un d l ns) (b,eK) S1) (hb:∀l,S1= .ok l→bi=(b:Int))
  (r:aB S1 (fun l=>kJ un ops k d l ((eK++[(⟨o.2,0,[],[],rR,bi,at_⟩:bJ)]).length - 1) (eK++[⟨o.2,0,[],[],rR,bi,at_⟩])) y b9):aB (.ok l) (fun l=>kJ un ops (k+1) d l a ns) y b9:=by
 subst bQ;subst ha
 refine aB.one (G:=fun _=>a8 (un d l.tail ns) fun x aI=>kJ un ops k d aI x.2.length (x.2++[⟨o.2,0,[],[],(a:Int),(x.1:Int),here l⟩])) (by show kJ un ops (k+1) d l a ns=_;rw [Q6,hf];rfl) ?_
 exact (q.a8 (g:=fun x aI=>kJ un ops k d aI x.2.length (x.2++[⟨o.2,0,[],[],(a:Int),(x.1:Int),here l⟩])) (r.cast fun aI e=>by rw [hb aI e];simp))
theorem Ra {un:E} {ops:List gZ} {k d a:Nat} {l:List Tok} {ns:List bJ} (hf:find ops l=none):aB (.ok l) (fun l=>kJ un ops (k+1) d l a ns) (a,ns) (.ok l):=aB.pI (by rw [Q6,hf];rfl)
theorem abq {un:E} {d:Nat} {ns eK:List bJ} (q:aB S (fun l=>sum un d l ns) (eK.length - 1,eK) S1) (hf:∀l,S1= .ok l→find qF l=none):aB S (fun l=>whole un d l ns) (eK.length - 1,eK) S1:=
 aB.eqv (fun l=>Q7 un d l ns) (q.a8 (aB.cast (fun l e=>by rw [hf l e];rfl) (aB.pure S1 (eK.length - 1,eK))))
theorem abr {un:E} {o:gZ} {d b at_:Nat} {rR bi:Int} {l:List Tok} {ns eK K6:List bJ} (q:aB S (fun l=>sum un d l ns) (eK.length - 1,eK) (.ok l)) (hf:find qF l=some o) (bQ:at_=here l) (ha:rR=((eK.length - 1:Nat):Int)) (r:aB (.ok l.tail) (fun l=>sum un d l eK) (b,K6) b9) (hb:∀l,b9= .ok l→bi=(b:Int)):
  aB S (fun l=>whole un d l ns) ((K6++[(⟨o.2,0,[],[],rR,bi,at_⟩:bJ)]).length - 1,K6++[⟨o.2,0,[],[],rR,bi,at_⟩]) b9:=by
 subst bQ;subst ha
 refine aB.eqv (fun l=>Q7 un d l ns) (q.a8 ?_)
 refine aB.one (G:=fun _=>a8 (sum un d l.tail eK) fun y aI=> .ok ((y.2.length,y.2++[⟨o.2,0,[],[],((eK.length - 1:Nat):Int),(y.1:Int),here l⟩]),aI)) (by show fn (find qF l) _ _=_;rw [hf];rfl) ?_
 refine r.a8 (g:=fun y aI=> .ok ((y.2.length,y.2++[⟨o.2,0,[],[],((eK.length - 1:Nat):Int),(y.1:Int),here l⟩]),aI)) ?_
 exact aB.cast (fun aI e=>by rw [hb aI e];simp) (aB.pure b9 _)
theorem unary_neg {un:E} {o:gZ} {d b at_:Nat} {rR:Int} {l:List Tok} {ns eK:List bJ} (hf:find oE l=some o) (ag:is o.1 l=true) (bQ:at_=here l) (q:aB (.ok l) (nh d o.1) () S1) (r:aB S1 (fun l=>un (d+1) l ns) (b,eK) b9) (hb:∀l,b9= .ok l→rR=(b:Int)):
  aB (.ok l) (fun l=>pE un d l ns) ((eK++[(⟨o.2,0,[],[],rR, -1,at_⟩:bJ)]).length - 1,eK++[⟨o.2,0,[],[],rR, -1,at_⟩]) b9:=by
 subst bQ
 refine aB.one (G:=fun kh=>a8 (nh d o.1 kh) fun _ aI=>a8 (un (d+1) aI ns) fun x aI=> .ok ((x.2.length,x.2++[⟨o.2,0,[],[],(x.1:Int), -1,here l⟩]),aI)) (by
  show pE un d l ns=_;rw [C0,hf];unfold nh fn;simp only [ag,if_true]
  by_cases h:40≤d
  · simp [h,fail,a8]
  · simp [h,a8]) ?_
 refine q.a8 (r.a8 (g:=fun x aI=> .ok ((x.2.length,x.2++[⟨o.2,0,[],[],(x.1:Int), -1,here l⟩]),aI)) ?_)
 exact aB.cast (fun aI e=>by rw [hb aI e];simp) (aB.pure b9 _)
theorem abt {un:E} {d z:Nat} {l:List Tok} {ns eK:List bJ} (hf:find oE l=none) (ag:is [40] l=true) (q:aB (.ok l) (nh d [40]) () S1) (r:aB S1 (fun l=>whole un (d+1) l ns) (eK.length - 1,eK) b9) (w:aB b9 (must [41]) z dW):
  aB (.ok l) (fun l=>pE un d l ns) (eK.length - 1,eK) dW:=by
 refine aB.one (G:=fun kh=>a8 (nh d [40] kh) fun _ aI=>a8 (whole un (d+1) aI ns) fun x aI=>a8 (must [41] aI) fun _ aI=> .ok (x,aI)) (by
  show pE un d l ns=_;rw [C0,hf];unfold nh fn;simp only [ag,if_true]
  by_cases h:40≤d
  · simp [h,fail,a8]
  · simp [h,a8]) ?_
 exact q.a8 (r.a8 (w.a8 (aB.pure dW _)))
theorem abu {un:E} {d at_:Nat} {l:List Tok} {ns:List bJ} (hf:find oE l=none) (ag:is [40] l=false) (hk:(aQ l).kind=2) (bQ:at_=here l):
  aB (.ok l) (fun l=>pE un d l ns) ((ns++[(⟨1,(num (aQ l).text:Int),[],[], -1, -1,at_⟩:bJ)]).length - 1,ns++[⟨1,(num (aQ l).text:Int),[],[], -1, -1,at_⟩]) (.ok l.tail):=by
 subst bQ
 refine aB.pI (by
  rw [C0,hf]
  show (if is [40] l=true then _ else if (aQ l).kind=2 then _ else _)=_
  rw [if_neg (by rw [ag];decide),if_pos hk,K5]
  unfold of;rw [if_pos hk]
  simp [a8])
theorem abv {un:E} {d at_:Nat} {x:List UInt8×List UInt8} {l:List Tok} {ns:List bJ} (hf:find oE l=none) (ag:is [40] l=false) (hk:(aQ l).kind≠2) (bQ:at_=here l) (q:aB (.ok l) ij x S1):
  aB (.ok l) (fun l=>pE un d l ns) ((ns++[(⟨2,0,x.1,x.2, -1, -1,at_⟩:bJ)]).length - 1,ns++[⟨2,0,x.1,x.2, -1, -1,at_⟩]) S1:=by
 subst bQ
 refine aB.one (G:=fun kh=>a8 (ij kh) fun q aI=> .ok ((ns.length,ns++[⟨2,0,q.1,q.2, -1, -1,here l⟩]),aI)) (by
  show pE un d l ns=_
  rw [C0,hf]
  show (if is [40] l=true then _ else if (aQ l).kind=2 then _ else _)=_
  rw [if_neg (by rw [ag];decide),if_neg hk]) ?_
 exact q.a8 (aB.cast (fun aI _=>by simp) (aB.pure S1 _))
theorem abw {un:E} {d:Nat} {x:Nat×List bJ} {l:List Tok} {ns:List bJ} (hf:find oE l=none) (ag:is [40] l=false) (hk:(aQ l).kind≠2) (hn:(aQ l).kind≠1):aB (.ok l) (fun l=>pE un d l ns) x (.error (11,here l)):=by
 refine aB.uJ (by
  rw [C0,hf]
  show (if is [40] l=true then _ else if (aQ l).kind=2 then _ else _)=_
  rw [if_neg (by rw [ag];decide),if_neg hk]
  unfold ij name of;rw [if_neg hn];rfl)
theorem abx {a b:List UInt8} {l:List Tok} (q:aB S name a (.ok l)) (ag:is [46] l=true) (r:aB (.ok l.tail) name b b9):aB S ij (a,b) b9:=
 aB.eqv Q8 (q.a8 (aB.yes (S1:=b9) (l:=l) (A:=fun l=>a8 (name l.tail) fun b l=> .ok ((a,b),l)) ag (aB.a8 (S:= .ok l) (f:=fun l=>name l.tail) (g:=fun b l=> .ok ((a,b),l)) r (aB.pure b9 (a,b)))))
theorem aby {a:List UInt8} (q:aB S name a S1) (ag:gf [46] S1=false):aB S ij ([],a) S1:=aB.eqv Q8 (q.a8 (aB.no ag (aB.pure S1 ([],a))))
theorem abz {d:Nat} {s:List UInt8} {l:List Tok} (ag:is s l=true) (aQ:¬40≤d):aB (.ok l) (nh d s) () (.ok l.tail):=aB.pI (by unfold nh;rw [if_pos ag,if_neg aQ])
theorem abA {d:Nat} {s:List UInt8} {l:List Tok} (ag:is s l=true) (aQ:40≤d):aB (.ok l) (nh d s) () (uK 12 (.ok l)):=aB.uJ (by unfold nh;rw [if_pos ag,if_pos aQ];rfl)
theorem abB {d:Nat} {s:List UInt8} (ag:gf s S=false):aB S (nh d s) () (uK 11 S):=by cases S with
 |error z=>rfl
 |ok l=>
  have ag:is s l=false:=ag
  exact aB.uJ (by unfold nh;rw [ag];rfl)
theorem Gm {s:List UInt8} {l:List Tok} (h:is s l=true):(aQ l).text=s:=by simp [is] at h;exact h.1
theorem Gn {s t:List UInt8} {l:List Tok} (h:is s l=true) (hn:s≠t):is t l=false:=by
 have:=Gm h
 unfold is;rw [this];simp [hn]
def qL:List (List UInt8):=[[61,61],[60],[60,61]]
theorem abC {j:Nat} {y:List UInt8} (hy:qL[j]? =some y):(j=0∧y=[61,61])∨(j=1∧y=[60])∨(j=2∧y=[60,61]):=by
 unfold qL at hy
 match j,hy with
 |0,hy=>simp at hy;exact .inl ⟨rfl,hy.symm⟩
 |1,hy=>simp at hy;exact .inr (.inl ⟨rfl,hy.symm⟩)
 |2,hy=>simp at hy;exact .inr (.inr ⟨rfl,hy.symm⟩)
 |n+3,hy=>simp at hy
theorem abD {j:Nat} {y:List UInt8} {l:List Tok} (hy:qL[j]? =some y) (ag:is y l=true):find qF l=some (y,10+j):=by
 rcases abC hy with ⟨rfl,rfl⟩|⟨rfl,rfl⟩|⟨rfl,rfl⟩
 · simp [find,qF,ag]
 · simp [find,qF,ag,Gn ag (t:=[61,61]) (by decide),Gn ag (t:=[60,61]) (by decide)]
 · simp [find,qF,ag,Gn ag (t:=[61,61]) (by decide)]
theorem abE {S:dc} {l:List Tok} (lQ:S= .ok l) (hn:∀q y,qL[q]? =some y→q<3→gf y S=false):find qF l=none:=by
 subst lQ
 have h0:is [61,61] l=false:=hn 0 _ rfl (by omega)
 have h1:is [60] l=false:=hn 1 _ rfl (by omega)
 have h2:is [60,61] l=false:=hn 2 _ rfl (by omega)
 simp [find,qF,h0,h1,h2]
end Par
def Al (p:dV) (d:Nat) (S:Par.dc) (i e:Nat) (g:Par.E) (ns:List bJ) (fs:List Fact) (v:V) (h1:ae):Prop:=∃(vW:List bJ) (bU:Par.dc) (cy bF bf y6:Nat),my p S i (fun l=>g d l ns) (vW.length - 1,vW) bU cy bF bf∧vW.length+(i+min e 1)≤ns.length+(cy+min bF 1)∧(bF=0→1≤vW.length)∧aq (p.bX cy d bF bf::p.toks:: .acc y6 7 v (vW.map bJ.row)::fs) h1
def tb (c:Ctx) (f N:Nat) (g:Par.E):Prop:=∀{fs:List Fact} {h:ae} {p:dV} {i d e a:Nat} {S:Par.dc} {ns:List bJ} {k:Nat} {v:V},aq (p.bX i d e a::p.toks:: .acc k 7 v (ns.map bJ.row)::fs) h→XAt p i e a S→(e=0→p.aP.length≤i+N∧d≤40)→d≤41→ns.length≤i+min e 1→
 bT c f [.ptr p.aT 0,v] h (Al p d S i e g ns fs)
end
end Go.Eng
namespace Go.Eng
noncomputable section
theorem aq.wh {fs:List Fact} {h:ae} {P:ae→Prop} (s:aq fs h) (hp:∀h,P h):aq (.aE P::fs) h:=(aq.pure s (Q:=True) trivial).e4 fun h _=>hp h
namespace Par
variable {α:Type} {S S1 b9 dW gv gI ki:dc}
theorem aB.any {β:Type} {f:List Tok→R α} {g:List Tok→R β} {x:α} {y:β} {z:Nat×Nat} (lQ:S= .error z) (w:aB S f x S1):aB S g y S1:=by subst lQ;exact w
def rS (one:α→List Tok→R α) (e:List UInt8) (k n:Nat) (x:α):List Tok→R α:=fun l=>a8 (one x l) fun y aI=>js one e k (n+1) aI y
theorem Am (one:α→List Tok→R α) (e:List UInt8) (f n:Nat) (l:List Tok) (x:α):js one e (f+1) n l x=if is e l=true then .ok (x,l.tail) else if n=0 then a8 (one x l) (fun y aI=>js one e f 1 aI y) else a8 (must [44] l) fun _ aW=>a8 (one x aW) fun y aI=>js one e f (n+1) aI y:=by kernel_rfl
theorem C2 {s:List UInt8} {l:List Tok} (ag:is s l=true):must s l= .ok (here l,l.tail):=by unfold must;rw [if_pos ag]
theorem K7 {s:List UInt8} {l:List Tok} (ag:is s l=false):must s l= .error (11,here l):=by unfold must;rw [if_neg (by rw [ag];decide)];rfl
theorem jO {s t:List UInt8} {l:List Tok} (h:is s l=true) (hn:s≠t):¬is t l=true:=by rw [Gn h hn];decide
section
variable {one:α→List Tok→R α} {e:List UInt8} {k n z:Nat} {x y w:α} {l:List Tok}
theorem Gp (ag:gf e S=true) (w:aB S (must e) z S1):aB S (fun l=>ja one e l x) x S1:=by cases S with
 |error z=>cases ag
 |ok l=>
  have ag:is e l=true:=ag
  have hw:S1= .ok l.tail:=by unfold aB at w;simp only [C2 ag] at w;exact w.2
  subst hw
  refine aB.pI ?_
  show js one e l.length 0 l x=_
  obtain ⟨m,hm⟩:∃m,l.length=m+1:=⟨l.length - 1,by have:=QD ag;omega⟩
  rw [hm,Am,if_pos ag]
theorem Gq (ag:gf e S=false) (ar:∀l,S= .ok l→0<l.length) (r:aB S (rS one e (S.len - 1) 0 x) y S1):aB S (fun l=>ja one e l x) y S1:=by cases S with
 |error z=>exact r
 |ok l=>
  have ag:is e l=false:=ag
  refine aB.one (G:=rS one e (dc.len (.ok l) - 1) 0 x) ?_ r
  show js one e l.length 0 l x=_
  obtain ⟨m,hm⟩:∃m,l.length=m+1:=⟨l.length - 1,by have:=ar l rfl;omega⟩
  show js one e l.length 0 l x=rS one e (l.length - 1) 0 x l
  rw [hm,Am,if_neg (by rw [ag];decide),if_pos rfl];rfl
theorem Gr {bu:List Tok} (he:[44]≠e) (q:aB S (one x) y (.ok bu)) (ag:is [44] bu=true) (r:aB (.ok bu.tail) (rS one e k (n+1) y) w S1):aB S (rS one e (k+1) n x) w S1:=by
 refine q.a8 (g:=fun y aI=>js one e (k+1) (n+1) aI y) (aB.one (G:=fun _=>rS one e k (n+1) y bu.tail) ?_ ?_)
 · show js one e (k+1) (n+1) bu y=_
   rw [Am,if_neg (jO ag he),if_neg (by omega),C2 ag];rfl
 · exact r
theorem Gs (q:aB S (one x) y S1) (ag:gf [44] S1=false) (w:aB S1 (must e) z b9) (hk:∀l,S1= .ok l→1≤k):aB S (rS one e k n x) y b9:=by
 refine q.a8 (g:=fun y aI=>js one e k (n+1) aI y) ?_
 cases S1 with
 |error z=>exact w
 |ok l=>
  have ag:is [44] l=false:=ag
  obtain ⟨k,rfl⟩:∃m,k=m+1:=⟨k - 1,by have:=hk l rfl;omega⟩
  cases he:is e l with
  |true=>
   have hw:b9= .ok l.tail:=by unfold aB at w;simp only [C2 he] at w;exact w.2
   subst hw
   exact aB.pI (by rw [Am,if_pos he])
  |false=>
   have hw:b9= .error (11,here l):=by unfold aB at w;simp only [K7 he] at w;exact w
   subst hw
   exact aB.uJ (by rw [Am,if_neg (by rw [he];decide),if_neg (by omega),K7 ag];rfl)
end
def mz (d:Nat) (as_:List (List bJ)) (l:List Tok):R (List (List bJ)):=a8 (expr d l) fun e aI=> .ok (as_++[e],aI)
theorem K8 (d:Nat):∀(f:Nat) (as_:List (List bJ)) (l:List Tok),nb d f l as_=js (mz d) [41] f as_.length l as_
 |0,_,_=>rfl
 |f+1,as_,l=>by
  rw [Am]
  by_cases ag:is [41] l=true
  · rw [if_pos ag];unfold nb;rw [if_pos ag]
  · rw [if_neg ag];unfold nb;rw [if_neg ag]
    cases as_ with
    |nil=>
     rw [if_pos (show ([]:List (List bJ)).length=0 from rfl)]
     show (match expr d l with| .error e=> .error e| .ok (e,aI)=>nb d f aI [e])=a8 (a8 (expr d l) fun e aI=> .ok ([]++[e],aI)) fun y aI=>js (mz d) [41] f 1 aI y
     cases expr d l with
     |error e=>rfl
     |ok q=>exact K8 d f [q.1] q.2
    |cons a as_=>
     rw [if_neg (by simp)]
     show (match must [44] l with| .error e=> .error e| .ok (_,aW)=>match expr d aW with| .error e=> .error e| .ok (e,aI)=>nb d f aI ((a::as_)++[e]))=a8 (must [44] l) fun _ aW=>a8 (a8 (expr d aW) fun e aI=> .ok ((a::as_)++[e],aI)) fun y aI=>js (mz d) [41] f ((a::as_).length+1) aI y
     cases must [44] l with
     |error e=>rfl
     |ok q=>
      show (match expr d q.2 with| .error e=> .error e| .ok (e,aI)=>nb d f aI ((a::as_)++[e]))=a8 (a8 (expr d q.2) fun e aI=> .ok ((a::as_)++[e],aI)) fun y aI=>js (mz d) [41] f ((a::as_).length+1) aI y
      cases expr d q.2 with
      |error e=>rfl
      |ok w=>
       have:=K8 d f ((a::as_)++[w.1]) w.2
       rw [show ((a::as_)++[w.1]).length=(a::as_).length+1 by simp] at this
       exact this
theorem abF (d:Nat) (c:rN) (l:List Tok):pF d c l=a8 (must [40] l) fun _ aW=>a8 (ja (mz d) [41] aW []) fun as_ bu=> .ok ({c with args:=as_},bu):=by
 unfold pF ja
 cases must [40] l with
 |error e=>rfl
 |ok q=>
  obtain ⟨a,aW⟩:=q
  show (match nb d aW.length aW [] with| .error e=> .error e| .ok (as_,bu)=> .ok ({c with args:=as_},bu))=a8 (js (mz d) [41] aW.length 0 aW []) _
  rw [K8]
  show _=a8 (js (mz d) [41] aW.length ([]:List (List bJ)).length aW []) _
  cases js (mz d) [41] aW.length ([]:List (List bJ)).length aW [] with
  |error e=>rfl
  |ok q=>rfl
theorem Rb (d:Nat) (l:List Tok):a8 (ij l) (fun q aW=>if is [61] aW=true then a8 (ij aW.tail) (fun r bu=>pF d ⟨true,q.1,q.2,r.1,r.2,[]⟩ bu) else pF d ⟨false,[],[],q.1,q.2,[]⟩ aW)=call d l:=by kernel_rfl
section
variable {d z:Nat} {l:List Tok} {as_:List (List bJ)} {q r:List UInt8×List UInt8}
theorem Rc {c:rN} (w:aB S (must [40]) z S1) (a:aB S1 (fun l=>ja (mz d) [41] l []) as_ b9):aB S (pF d c) {c with args:=as_} b9:=
 aB.eqv (fun l=>(abF d c l).symm) (w.a8 (a.a8 (aB.pure b9 _)))
theorem K9 (bB:aB S ij q (.ok l)) (ag:is [61] l=true) (hr:aB (.ok l.tail) ij r b9) (w:aB b9 (must [40]) z dW) (a:aB dW (fun l=>ja (mz d) [41] l []) as_ gv):aB S (call d) ⟨true,q.1,q.2,r.1,r.2,as_⟩ gv:=
 aB.eqv (Rb d) (bB.a8 (aB.yes (A:=fun aW=>a8 (ij aW.tail) (fun r bu=>pF d ⟨true,q.1,q.2,r.1,r.2,[]⟩ bu)) ag (aB.a8 (S:= .ok l) (f:=fun aW=>ij aW.tail) (g:=fun r bu=>pF d ⟨true,q.1,q.2,r.1,r.2,[]⟩ bu) hr (Rc w a))))
theorem La (bB:aB S ij q S1) (ag:gf [61] S1=false) (w:aB S1 (must [40]) z dW) (a:aB dW (fun l=>ja (mz d) [41] l []) as_ gv):aB S (call d) ⟨false,[],[],q.1,q.2,as_⟩ gv:=
 aB.eqv (Rb d) (bB.a8 (aB.no ag (Rc w a)))
end
theorem abG (d:Nat) (l:List Tok):a8 (whole (unary l.length) d l []) (fun x aI=> .ok (x.2,aI))=expr d l:=by kernel_rfl
theorem abH (s:cx) (l:List Tok):fin s l=a8 (must [59] l) fun _ aI=> .ok (s,aI):=by kernel_rfl
section
variable {b7:nJ} {d a:Nat} {l:List Tok}
theorem Re:vX b7 d a l=a8 (expr d l) fun e aW=>a8 (b7 d aW) fun b bu=>if is [101,108,115,101] bu=true then a8 (b7 d bu.tail) (fun el cC=> .ok (cx.mk 5 a [] [] [] false [] [] e [] b el,cC)) else .ok (.mk 5 a [] [] [] false [] [] e [] b [],bu):=by kernel_rfl
theorem abI:z6 b7 d a l=a8 (expr d l) fun e aW=>a8 (b7 d aW) fun b bu=> .ok (.mk 6 a [] [] [] false [] [] e [] b [],bu):=by kernel_rfl
theorem abJ:z7 d a l=a8 (name l) fun n aW=>a8 (must [58] aW) fun _ bu=>a8 (name bu) fun cq cC=>a8 (must [61] cC) fun _ dY=>a8 (expr d dY) fun e iA=>fin (.mk 1 a [] n cq false [] [] e [] [] []) iA:=by kernel_rfl
theorem abK:z8 d a l=a8 (must [61] l) fun _ aW=>a8 (expr d aW) fun e bu=>fin (.mk 3 a [] [] [] false [] [] e [] [] []) bu:=by kernel_rfl
theorem abL:Aa d a l=a8 (call d l) fun c aW=>fin (.mk 4 a c.mod c.name [] c.has c.tomod c.to [] c.args [] []) aW:=by kernel_rfl
theorem abM:Ab a l=a8 (name l) fun n aW=>fin (.mk 7 a [] n [] false [] [] [] [] [] []) aW:=by kernel_rfl
theorem Rf:CV d a l=a8 (ij l) fun q aW=>a8 (must [61] aW) fun _ bu=>a8 (expr d bu) fun e cC=>fin (.mk 2 a q.1 q.2 [] false [] [] e [] [] []) cC:=by kernel_rfl
theorem x5 (hk:(aQ l).kind=1) (s:List UInt8):¬is s l=true:=by unfold is;rw [hk];simp
end
section
variable {b7:nJ} {d at_ y z:Nat} {l:List Tok} {e:List bJ} {n cq:List UInt8} {b el:List cx}
theorem An {s:cx} (w:aB S (must [59]) z S1):aB S (fin s) s S1:=aB.eqv (fun l=>(abH s l).symm) (w.a8 (aB.pure S1 s))
theorem abN {q:List UInt8×List UInt8} {z:Nat} (hk:(aQ l).kind=1) (bQ:at_=here l) (bB:aB (.ok l) ij q S1) (w:aB S1 (must [61]) y b9) (r:aB b9 (expr d) e dW) (f:aB dW (must [59]) z gv):aB (.ok l) (jr b7 d) (.mk 2 at_ q.1 q.2 [] false [] [] e [] [] []) gv:=by
 subst bQ
 refine aB.one (G:=CV d (here l)) (by unfold jr;rw [if_neg (x5 hk _),if_neg (x5 hk _),if_neg (x5 hk _),if_neg (x5 hk _),if_neg (x5 hk _),if_neg (x5 hk _),if_neg (x5 hk _)]) ?_
 exact aB.eqv (fun l=>Rf.symm) (bB.a8 (w.a8 (r.a8 (An f))))
theorem abO (ag:is [108,101,116] l=true) (bQ:at_=here l) (h1:aB (.ok l.tail) name n S1) (w1:aB S1 (must [58]) y b9) (h2:aB b9 name cq dW) {pb:Nat} (iw:aB dW (must [61]) pb gv) (r:aB gv (expr d) e gI) (f:aB gI (must [59]) z ki):aB (.ok l) (jr b7 d) (.mk 1 at_ [] n cq false [] [] e [] [] []) ki:=by
 subst bQ
 refine aB.one (G:=fun kh=>z7 d (here l) kh.tail) (by unfold jr;rw [if_neg (jO ag (by decide)),if_neg (jO ag (by decide)),if_pos ag]) ?_
 show aB (.ok l.tail) (z7 d (here l)) _ _
 exact aB.eqv (fun l=>abJ.symm) (h1.a8 (w1.a8 (h2.a8 (iw.a8 (r.a8 (An f))))))
theorem abP (ag:is [114,101,115,117,108,116] l=true) (bQ:at_=here l) (iw:aB (.ok l.tail) (must [61]) y gv) (r:aB gv (expr d) e gI) (f:aB gI (must [59]) z ki):aB (.ok l) (jr b7 d) (.mk 3 at_ [] [] [] false [] [] e [] [] []) ki:=by
 subst bQ
 refine aB.one (G:=fun kh=>z8 d (here l) kh.tail) (by unfold jr;rw [if_neg (jO ag (by decide)),if_neg (jO ag (by decide)),if_neg (jO ag (by decide)),if_pos ag]) ?_
 show aB (.ok l.tail) (z8 d (here l)) _ _
 exact aB.eqv (fun l=>abK.symm) (iw.a8 (r.a8 (An f)))
theorem abQ {c:rN} (ag:is [99,97,108,108] l=true) (bQ:at_=here l) (r:aB (.ok l.tail) (call d) c gI) (f:aB gI (must [59]) z ki):aB (.ok l) (jr b7 d) (.mk 4 at_ c.mod c.name [] c.has c.tomod c.to [] c.args [] []) ki:=by
 subst bQ
 refine aB.one (G:=fun kh=>Aa d (here l) kh.tail) (by unfold jr;rw [if_neg (jO ag (by decide)),if_neg (jO ag (by decide)),if_neg (jO ag (by decide)),if_neg (jO ag (by decide)),if_pos ag]) ?_
 show aB (.ok l.tail) (Aa d (here l)) _ _
 exact aB.eqv (fun l=>abL.symm) (r.a8 (An f))
theorem abR (ag:is [101,109,105,116] l=true) (bQ:at_=here l) (r:aB (.ok l.tail) name n gI) (f:aB gI (must [59]) z ki):aB (.ok l) (jr b7 d) (.mk 7 at_ [] n [] false [] [] [] [] [] []) ki:=by
 subst bQ
 refine aB.one (G:=fun kh=>Ab (here l) kh.tail) (by unfold jr;rw [if_neg (jO ag (by decide)),if_neg (jO ag (by decide)),if_neg (jO ag (by decide)),if_neg (jO ag (by decide)),if_neg (jO ag (by decide)),if_pos ag]) ?_
 show aB (.ok l.tail) (Ab (here l)) _ _
 exact aB.eqv (fun l=>abM.symm) (r.a8 (An f))
theorem abS (ag:is [115,107,105,112] l=true) (bQ:at_=here l) (f:aB (.ok l.tail) (must [59]) z ki):aB (.ok l) (jr b7 d) (.mk 8 at_ [] [] [] false [] [] [] [] [] []) ki:=by
 subst bQ
 refine aB.one (G:=fun kh=>Gf (here l) kh.tail) (by unfold jr;rw [if_neg (jO ag (by decide)),if_neg (jO ag (by decide)),if_neg (jO ag (by decide)),if_neg (jO ag (by decide)),if_neg (jO ag (by decide)),if_neg (jO ag (by decide)),if_pos ag]) ?_
 show aB (.ok l.tail) (Gf (here l)) _ _
 exact An f
theorem abT (ag:is [119,104,105,108,101] l=true) (bQ:at_=here l) (r:aB (.ok l.tail) (expr d) e S1) (q:aB S1 (b7 d) b b9):aB (.ok l) (jr b7 d) (.mk 6 at_ [] [] [] false [] [] e [] b []) b9:=by
 subst bQ
 refine aB.one (G:=fun kh=>z6 b7 d (here l) kh.tail) (by unfold jr;rw [if_neg (jO ag (by decide)),if_pos ag]) ?_
 show aB (.ok l.tail) (z6 b7 d (here l)) _ _
 exact aB.eqv (fun l=>abI.symm) (r.a8 (q.a8 (aB.pure b9 _)))
theorem abU (ag:is [105,102] l=true) (bQ:at_=here l) (r:aB (.ok l.tail) (expr d) e S1) (q:aB S1 (b7 d) b b9) (hn:gf [101,108,115,101] b9=false):aB (.ok l) (jr b7 d) (.mk 5 at_ [] [] [] false [] [] e [] b []) b9:=by
 subst bQ
 refine aB.one (G:=fun kh=>vX b7 d (here l) kh.tail) (by unfold jr;rw [if_pos ag]) ?_
 show aB (.ok l.tail) (vX b7 d (here l)) _ _
 exact aB.eqv (fun l=>Re.symm) (r.a8 (q.a8 (aB.no hn (aB.pure b9 _))))
theorem abV {bu:List Tok} (ag:is [105,102] l=true) (bQ:at_=here l) (r:aB (.ok l.tail) (expr d) e S1) (q:aB S1 (b7 d) b (.ok bu)) (hy:is [101,108,115,101] bu=true) (c0:aB (.ok bu.tail) (b7 d) el dW):aB (.ok l) (jr b7 d) (.mk 5 at_ [] [] [] false [] [] e [] b el) dW:=by
 subst bQ
 refine aB.one (G:=fun kh=>vX b7 d (here l) kh.tail) (by unfold jr;rw [if_pos ag]) ?_
 show aB (.ok l.tail) (vX b7 d (here l)) _ _
 refine aB.eqv (fun l=>Re.symm) (r.a8 (q.a8 (aB.yes (A:=fun bu=>a8 (b7 d bu.tail) (fun el cC=> .ok (cx.mk 5 (here l) [] [] [] false [] [] e [] b el,cC))) hy ?_)))
 exact aB.a8 (S:= .ok bu) (f:=fun bu=>b7 d bu.tail) (g:=fun el cC=> .ok (cx.mk 5 (here l) [] [] [] false [] [] e [] b el,cC)) c0 (aB.pure dW _)
theorem abW {x:cx} (h1:(aQ l).kind≠1) (hn:∀s∈[[105,102],[119,104,105,108,101],[108,101,116],[114,101,115,117,108,116],[99,97,108,108],[101,109,105,116],[115,107,105,112]],is s l=false):aB (.ok l) (jr b7 d) x (.error (11,here l)):=by
 refine aB.uJ ?_
 have f:=fun s ay=>(show ¬is s l=true by rw [hn s ay];decide)
 unfold jr
 rw [if_neg (f _ (by decide)),if_neg (f _ (by decide)),if_neg (f _ (by decide)),if_neg (f _ (by decide)),if_neg (f _ (by decide)),if_neg (f _ (by decide)),if_neg (f _ (by decide)),Rf]
 unfold ij name of;rw [if_neg h1];rfl
end
section
variable {fP:Nat→List Tok→R cx} {d k y:Nat} {l:List Tok} {ss:List cx}
theorem abX:a8 (nh d [123] l) (fun _ aI=>nc fP (d+1) aI.length aI [])=rO fP d l:=by
 unfold nh rO
 by_cases ag:is [123] l=true
 · rw [if_pos ag,if_pos ag]
   by_cases h:40≤d
   · rw [if_pos h,if_pos h];rfl
   · rw [if_neg h,if_neg h];rfl
 · rw [if_neg ag,if_neg ag];rfl
theorem Rg:nc fP d (k+1) l ss=if is [125] l=true then .ok (ss,l.tail) else a8 (fP d l) fun s aI=>nc fP d k aI (ss++[s]):=by kernel_rfl
theorem abY {u:List cx} (o:aB S (nh d [123]) () S1) (r:aB S1 (fun l=>nc fP (d+1) l.length l []) u b9):aB S (rO fP d) u b9:=aB.eqv (fun l=>abX) (o.a8 r)
theorem abZ {s:cx} {u:List cx} (hn:is [125] l=false) (q:aB (.ok l) (fP d) s S1) (r:aB S1 (fun l=>nc fP d k l (ss++[s])) u b9):aB (.ok l) (fun l=>nc fP d (k+1) l ss) u b9:=by
 refine aB.one (G:=fun l=>a8 (fP d l) fun s aI=>nc fP d k aI (ss++[s])) (by show nc fP d (k+1) l ss=_;rw [Rg,if_neg (by rw [hn];decide)]) (q.a8 r)
theorem ab0 (hy:is [125] l=true) (w:aB (.ok l) (must [125]) y S1):aB (.ok l) (fun l=>nc fP d (k+1) l ss) ss S1:=by
 have hw:S1= .ok l.tail:=by unfold aB at w;simp only [C2 hy] at w;exact w.2
 subst hw
 exact aB.pI (by rw [Rg,if_pos hy])
end
end Par
end
end Go.Eng
namespace Go.Eng
noncomputable section
namespace Par
variable {α:Type} {S S1 b9 dW gv gI ki rT Rh:dc}
theorem aB.C3 {at_:Nat} {F:Nat→List Tok→R α} {g:List Tok→R α} {x:α} (bQ:∀l,S= .ok l→at_=here l) (e:∀l,F (here l) l=g l) (r:aB S (F at_) x S1):aB S g x S1:=aB.cast (fun l h=>by rw [bQ l h];exact e l) r
theorem ab1 (l:List Tok):a8 (name l) (fun n aW=>a8 (must [58] aW) fun _ bu=>a8 (name bu) fun b cC=>a8 (must [61] cC) fun _ dY=>if is [45] dY=true then jN n b (here l) true dY.tail else jN n b (here l) false dY)=rQ l:=by kernel_rfl
theorem Ri (n cq:List UInt8) (at_:Nat) (neg:Bool) (l:List Tok):a8 (number l) (fun k aW=>a8 (must [59] aW) fun _ bu=> .ok (⟨n,cq,if neg then -(k:Int) else (k:Int),at_⟩,bu))=jN n cq at_ neg l:=by kernel_rfl
theorem Rj {l:List Tok} (hk:(aQ l).kind=2):aB (.ok l) number (num (aQ l).text) (.ok l.tail):=aB.pI (by rw [K5];unfold of;rw [if_pos hk];rfl)
section
variable {n cq:List UInt8} {at_ y nL z k:Nat} {neg:Bool} {x:gd}
theorem Rk (q:aB S number k S1) (w:aB S1 (must [59]) z b9):aB S (jN n cq at_ neg) ⟨n,cq,if neg then -(k:Int) else (k:Int),at_⟩ b9:=aB.eqv (Ri n cq at_ neg) (q.a8 (w.a8 (aB.pure b9 _)))
theorem Lb (hk:∀l,S= .ok l→(aQ l).kind≠2):aB S (jN n cq at_ neg) x (uK 11 S):=by cases S with
 |error z=>rfl
 |ok l=>exact aB.uJ (by rw [←Ri,K5];unfold of;rw [if_neg (hk l rfl)];rfl)
theorem C4 (bQ:∀l,S= .ok l→at_=here l) (h1:aB S name n S1) (w1:aB S1 (must [58]) y b9) (h2:aB b9 name cq dW) (iw:aB dW (must [61]) nL gv) (v:aB gv (fun l=>if is [45] l=true then jN n cq at_ true l.tail else jN n cq at_ false l) x gI):aB S rQ x gI:=
 aB.C3 (F:=fun a l=>a8 (name l) fun n aW=>a8 (must [58] aW) fun _ bu=>a8 (name bu) fun cq cC=>a8 (must [61] cC) fun _ dY=>if is [45] dY=true then jN n cq a true dY.tail else jN n cq a false dY) bQ ab1 (h1.a8 (w1.a8 (h2.a8 (iw.a8 v))))
theorem Rl {l:List Tok} (ag:is [45] l=true) (v:aB (.ok l.tail) (jN n cq at_ true) x gI):aB (.ok l) (fun l=>if is [45] l=true then jN n cq at_ true l.tail else jN n cq at_ false l) x gI:=aB.yes (A:=fun l=>jN n cq at_ true l.tail) ag v
theorem Lc (ag:gf [45] S=false) (v:aB S (jN n cq at_ false) x gI):aB S (fun l=>if is [45] l=true then jN n cq at_ true l.tail else jN n cq at_ false l) x gI:=aB.no ag v
end
theorem ab2 (x:List ck) (l:List Tok):a8 (name l) (fun n aW=>a8 (must [58] aW) fun _ bu=>a8 (name bu) fun b cC=> .ok (x++[⟨n,b,here l⟩],cC))=oF x l:=by kernel_rfl
theorem ab3 (x:List (List UInt8)) (l:List Tok):a8 (name l) (fun n aW=> .ok (x++[n],aW))=use x l:=by kernel_rfl
theorem Rm {at_ y:Nat} {n b:List UInt8} {x:List ck} (bQ:∀l,S= .ok l→at_=here l) (h1:aB S name n S1) (w:aB S1 (must [58]) y b9) (h2:aB b9 name b dW):aB S (oF x) (x++[⟨n,b,at_⟩]) dW:=
 aB.C3 (F:=fun a l=>a8 (name l) fun n aW=>a8 (must [58] aW) fun _ bu=>a8 (name bu) fun b cC=> .ok (x++[⟨n,b,a⟩],cC)) bQ (ab2 x) (h1.a8 (w.a8 (h2.a8 (aB.pure dW _))))
theorem Rn {n:List UInt8} {x:List (List UInt8)} (h1:aB S name n S1):aB S (use x) (x++[n]) S1:=aB.eqv (ab3 x) (h1.a8 (aB.pure S1 _))
theorem ab4 (d:Nat) (q:dO) (l:List Tok):a8 (must [112,99] l) (fun _ aW=>a8 (name aW) fun bO bu=>a8 (must [117,115,101,115] bu) fun _ cC=>a8 (must [123] cC) fun _ dY=>a8 (ja use [125] dY []) fun us iA=>a8 (block d iA) fun b Ac=> .ok ({q with bO:=bO,gp:=us,body:=b},Ac))=k7 d q l:=by kernel_rfl
theorem Ro (d:Nat) (l:List Tok):a8 (name l) (fun n aW=>a8 (must [40] aW) fun _ bu=>a8 (ja oF [41] bu []) fun aO cC=>if is [45,62] cC=true then a8 (name cC.tail) (fun r dY=>k7 d ⟨n,aO,true,r,[],[],[],here l⟩ dY) else k7 d ⟨n,aO,false,[],[],[],[],here l⟩ cC)=proc d l:=by kernel_rfl
section
variable {d at_ y nL KH:Nat} {n r bO:List UInt8} {aO:List ck} {us:List (List UInt8)} {b:List cx} {q:dO}
theorem ab5 (w1:aB S (must [112,99]) y S1) (h:aB S1 name bO b9) (iw:aB b9 (must [117,115,101,115]) nL dW) (Gt:aB dW (must [123]) KH gv) (u:aB gv (fun l=>ja use [125] l []) us gI) (dX:aB gI (block d) b ki):aB S (k7 d q) {q with bO:=bO,gp:=us,body:=b} ki:=
 aB.eqv (ab4 d q) (w1.a8 (h.a8 (iw.a8 (Gt.a8 (u.a8 (dX.a8 (aB.pure ki _)))))))
theorem ab6 {x:dO} {l:List Tok} (bQ:∀l,S= .ok l→at_=here l) (h1:aB S name n S1) (w:aB S1 (must [40]) y b9) (p:aB b9 (fun l=>ja oF [41] l []) aO (.ok l)) (ag:is [45,62] l=true) (h2:aB (.ok l.tail) name r gv) (v:aB gv (k7 d ⟨n,aO,true,r,[],[],[],at_⟩) x gI):aB S (proc d) x gI:=
 aB.C3 (F:=fun a l=>a8 (name l) fun n aW=>a8 (must [40] aW) fun _ bu=>a8 (ja oF [41] bu []) fun aO cC=>if is [45,62] cC=true then a8 (name cC.tail) (fun r dY=>k7 d ⟨n,aO,true,r,[],[],[],a⟩ dY) else k7 d ⟨n,aO,false,[],[],[],[],a⟩ cC) bQ (Ro d) (h1.a8 (w.a8 (p.a8 (aB.yes (A:=fun cC=>a8 (name cC.tail) (fun r dY=>k7 d ⟨n,aO,true,r,[],[],[],at_⟩ dY)) ag (aB.a8 (S:= .ok l) (f:=fun cC=>name cC.tail) (g:=fun r dY=>k7 d ⟨n,aO,true,r,[],[],[],at_⟩ dY) h2 v)))))
theorem ab7 {x:dO} (bQ:∀l,S= .ok l→at_=here l) (h1:aB S name n S1) (w:aB S1 (must [40]) y b9) (p:aB b9 (fun l=>ja oF [41] l []) aO dW) (ag:gf [45,62] dW=false) (v:aB dW (k7 d ⟨n,aO,false,[],[],[],[],at_⟩) x gI):aB S (proc d) x gI:=
 aB.C3 (F:=fun a l=>a8 (name l) fun n aW=>a8 (must [40] aW) fun _ bu=>a8 (ja oF [41] bu []) fun aO cC=>if is [45,62] cC=true then a8 (name cC.tail) (fun r dY=>k7 d ⟨n,aO,true,r,[],[],[],a⟩ dY) else k7 d ⟨n,aO,false,[],[],[],[],a⟩ cC) bQ (Ro d) (h1.a8 (w.a8 (p.a8 (aB.no ag v))))
end
theorem Rp (k:Nat) (l:List Tok) (x:List fV):ke (k+1) l x=if is [105,109,112,111,114,116] l=true then a8 (name l.tail) (fun n aW=>a8 (must [59] aW) fun _ bu=>ke k bu (x++[⟨n,here l.tail⟩])) else .ok (x,l):=by kernel_rfl
theorem ab8 {k y at_:Nat} {l:List Tok} {n:List UInt8} {x u:List fV} (ag:is [105,109,112,111,114,116] l=true) (bQ:at_=here l.tail) (h1:aB (.ok l.tail) name n S1) (w:aB S1 (must [59]) y b9) (r:aB b9 (fun l=>ke k l (x++[⟨n,at_⟩])) u dW):aB (.ok l) (fun l=>ke (k+1) l x) u dW:=by
 subst bQ
 exact aB.one (G:=fun _=>a8 (name l.tail) (fun n aW=>a8 (must [59] aW) fun _ bu=>ke k bu (x++[⟨n,here l.tail⟩]))) (by show ke (k+1) l x=_;rw [Rp,if_pos ag]) (aB.a8 (S:= .ok l) (f:=fun _=>name l.tail) (g:=fun n aW=>a8 (must [59] aW) fun _ bu=>ke k bu (x++[⟨n,here l.tail⟩])) h1 (w.a8 r))
theorem ab9 {k:Nat} {x:List fV} (hn:gf [105,109,112,111,114,116] S=false) (hk:∀l,S= .ok l→1≤k):aB S (fun l=>ke k l x) x S:=by cases S with
 |error z=>rfl
 |ok l=>
  have hn:is [105,109,112,111,114,116] l=false:=hn
  obtain ⟨k,rfl⟩:∃m,k=m+1:=⟨k - 1,by have:=hk l rfl;omega⟩
  exact aB.pI (by rw [Rp,if_neg (by rw [hn];decide)])
theorem Gu (d k:Nat) (l:List Tok) (vs:List gd) (aO:List dO):hQ d (k+1) l vs aO=if (aQ l).kind=0 then .ok ((vs,aO),l) else if is [118,97,114] l=true then a8 (rQ l.tail) (fun v aW=>hQ d k aW (vs++[v]) aO) else a8 (must [112,114,111,99] l) fun _ aW=>a8 (proc d aW) fun p bu=>hQ d k bu vs (aO++[p]):=by kernel_rfl
section
variable {d k:Nat} {l:List Tok} {vs:List gd} {aO:List dO} {u:List gd×List dO}
theorem aca {v:gd} (h0:(aQ l).kind≠0) (ag:is [118,97,114] l=true) (q:aB (.ok l.tail) rQ v S1) (r:aB S1 (fun l=>hQ d k l (vs++[v]) aO) u b9):aB (.ok l) (fun l=>hQ d (k+1) l vs aO) u b9:=
 aB.one (G:=fun _=>a8 (rQ l.tail) (fun v aW=>hQ d k aW (vs++[v]) aO)) (by show hQ d (k+1) l vs aO=_;rw [Gu,if_neg h0,if_pos ag]) (aB.a8 (S:= .ok l) (f:=fun _=>rQ l.tail) (g:=fun v aW=>hQ d k aW (vs++[v]) aO) q r)
theorem acb {p:dO} (h0:(aQ l).kind≠0) (aD:is [118,97,114] l=false) (ag:is [112,114,111,99] l=true) (q:aB (.ok l.tail) (proc d) p S1) (r:aB S1 (fun l=>hQ d k l vs (aO++[p])) u b9):aB (.ok l) (fun l=>hQ d (k+1) l vs aO) u b9:=
 aB.one (G:=fun _=>a8 (proc d l.tail) (fun p aW=>hQ d k aW vs (aO++[p]))) (by show hQ d (k+1) l vs aO=_;rw [Gu,if_neg h0,if_neg (by rw [aD];decide),C2 ag];rfl) (aB.a8 (S:= .ok l) (f:=fun _=>proc d l.tail) (g:=fun p aW=>hQ d k aW vs (aO++[p])) q r)
theorem acd {F:List Tok→R (List gd×List dO)} (h0:(aQ l).kind≠0) (aD:is [118,97,114] l=false) (ag:is [112,114,111,99] l=false) (r:aB (uK 11 (.ok l)) F u b9):aB (.ok l) (fun l=>hQ d (k+1) l vs aO) u b9:=by
 have r:b9= .error (11,here l):=r
 subst r
 exact aB.uJ (by rw [Gu,if_neg h0,if_neg (by rw [aD];decide),K7 ag];rfl)
theorem ace (h0:(aQ l).kind=0):aB (.ok l) (fun l=>hQ d (k+1) l vs aO) (vs,aO) (.ok l):=aB.pI (by rw [Gu,if_pos h0])
end
theorem acf (d:Nat) (l:List Tok):a8 (must [109,111,100,117,108,101] l) (fun _ aW=>a8 (name aW) fun n bu=>a8 (must [59] bu) fun _ cC=>a8 (ke cC.length cC []) fun is dY=>a8 (hQ d dY.length dY [] []) fun x iA=> .ok (⟨n,here aW,is,x.1,x.2⟩,iA))=xY d l:=by kernel_rfl
theorem Rq {d y nL at_:Nat} {n:List UInt8} {is:List fV} {x:List gd×List dO} (w1:aB S (must [109,111,100,117,108,101]) y S1) (bQ:∀l,S1= .ok l→at_=here l) (h1:aB S1 name n b9) (iw:aB b9 (must [59]) nL dW) (i:aB dW (fun l=>ke l.length l []) is gv) (q:aB gv (fun l=>hQ d l.length l [] []) x gI):aB S (xY d) ⟨n,at_,is,x.1,x.2⟩ gI:=
 aB.eqv (acf d) (w1.a8 (aB.C3 (F:=fun a aW=>a8 (name aW) fun n bu=>a8 (must [59] bu) fun _ cC=>a8 (ke cC.length cC []) fun is dY=>a8 (hQ d dY.length dY [] []) fun x iA=> .ok ((⟨n,a,is,x.1,x.2⟩:e0),iA)) (g:=fun aW=>a8 (name aW) fun n bu=>a8 (must [59] bu) fun _ cC=>a8 (ke cC.length cC []) fun is dY=>a8 (hQ d dY.length dY [] []) fun x iA=> .ok ((⟨n,here aW,is,x.1,x.2⟩:e0),iA)) bQ (fun _=>rfl) (h1.a8 (iw.a8 (i.a8 (q.a8 (aB.pure gI _)))))))
end Par
theorem XAt.Rr {p:dV} {i:Nat} {l:List Tok} {t:Tok} (h:XAt p i 0 0 (.ok l)) (ht:p.aP[i]? =some t) (hk:t.kind=2):vU t.text:=by
 have aQ:=h.aQ ht
 obtain ⟨u,aI,rfl⟩:=h.hC.2.2.cons
 have e:u=t:=aQ
 subst e
 exact h.hC.2.2.num u (by simp) hk
theorem qM {a b c k6:Nat} (h1:a≤b+min k6 1) (h2:b+1≤c):a≤c:=by omega
theorem xX.of {h:ae} {p:dO} {dv iB lK:V} (h1:Rows 3 h dv (p.params.map ck.row)) (h2:Rows 1 h iB (p.gp.map ik)) (a6:gR h lK p.body) (cc:p.gp=[]→iB= .U):xX h p [L.str p.name,dv, .bool p.has,L.str p.result,L.str p.bO,iB,lK, .int .i64 (p.at_:Int)]:=⟨dv,iB,lK,rfl,h1,h2,a6,cc⟩
theorem mQ.acg {f r:Nat} {h:ae} {v:V} {rows:List (List V)} (a:mQ f r h v rows) (e:rows=[]):v= .U:=by
 cases a with
 |nil=>rfl
 |row a=>have:=a.pos;rw [e] at this;exact absurd this (by decide)
end
end Go.Eng
namespace Go.Eng
noncomputable section
namespace Par
def Tok.s9 (t:Tok):Nat×List UInt8:=(t.kind,t.text)
def Alike (l aI:List Tok):Prop:=l.map Tok.s9=aI.map Tok.s9
theorem Alike.aQ {l aI:List Tok} (h:Alike l aI):(Par.aQ l).kind=(Par.aQ aI).kind∧(Par.aQ l).text=(Par.aQ aI).text:=by
 cases l with
 |nil=>cases aI with
  |nil=>exact ⟨rfl,rfl⟩
  |cons a aI=>cases h
 |cons b l=>cases aI with
  |nil=>cases h
  |cons a aI=>
   have:=(List.cons.inj h).1
   exact ⟨congrArg Prod.fst this,congrArg Prod.snd this⟩
theorem Alike.tail {l aI:List Tok} (h:Alike l aI):Alike l.tail aI.tail:=by
 cases l with
 |nil=>cases aI with
  |nil=>exact rfl
  |cons a aI=>cases h
 |cons b l=>cases aI with
  |nil=>cases h
  |cons a aI=>exact (List.cons.inj h).2
theorem Alike.is {l aI:List Tok} (h:Alike l aI) (s:List UInt8):Par.is s l=Par.is s aI:=by
 unfold Par.is;rw [h.aQ.1,h.aQ.2]
theorem Alike.find {l aI:List Tok} (h:Alike l aI) (ops:List gZ):Par.find ops l=Par.find ops aI:=by
 unfold Par.find;congr 1;funext o;rw [h.is]
section
variable {α β:Type}
def Gv (X:α→α→Prop) (r dt:R α):Prop:=(∃x fe l aI,r= .ok (x,l)∧dt= .ok (fe,aI)∧X x fe∧Alike l aI)∨∃e a bf,r= .error (e,a)∧dt= .error (e,bf)
theorem Gv.bH {X:α→α→Prop} {Y:β→β→Prop} {r dt:R α} {f c5:α→List Tok→R β} (h:Gv X r dt) (K:∀x fe l aI,X x fe→Alike l aI→Gv Y (f x l) (c5 fe aI)):Gv Y (Par.bH r f) (Par.bH dt c5):=by
 rcases h with ⟨x,fe,l,aI,rfl,rfl,hx,ar⟩|⟨e,a,bf,rfl,rfl⟩
 · exact K x fe l aI hx ar
 · exact Or.inr ⟨e,a,bf,rfl,rfl⟩
def Ld (as_ mR:List (List bJ)):Prop:=QI false as_ mR
theorem Ld.nil:Ld [] []:=⟨rfl,fun i e bF h=>by simp at h⟩
structure ahe (c dw:rN):Prop where
 has:c.has=dw.has
 mod:c.mod=dw.mod
 name:c.name=dw.name
 tomod:c.tomod=dw.tomod
 to:c.to=dw.to
 args:Ld c.args dw.args
theorem Ai.nil {ach:α→α→Prop}:Ai ach [] []:=⟨rfl,fun i x y h=>by simp at h⟩
end
end Par
end
end Go.Eng
namespace Go.Eng
noncomputable section
namespace Lex
end Lex
end
end Go.Eng
namespace Go.Eng
noncomputable section
namespace Par
section
variable {α β:Type}
def bh (z:α→Nat) (n:Nat) (r:R α):Prop:=∀x aI,r= .ok (x,aI)→z x+aI.length≤n
theorem bh.bH {z:α→Nat} {z2:β→Nat} {n kc:Nat} {r:R α} {f:α→List Tok→R β} (h:bh z n r) (K:∀x aI,z x+aI.length≤n→bh z2 kc (f x aI)):bh z2 kc (Par.bH r f):=by
 intro y aI e
 cases r with
 |error x=>cases e
 |ok x=>
  obtain ⟨x,aW⟩:=x
  exact K x aW (h x aW rfl) y aI e
theorem bh.ret {z:α→Nat} {n:Nat} {x:α} {l:List Tok} (h:z x+l.length≤n):bh z n (.ok (x,l)):=by
 intro y aI e;cases e;exact h
theorem bh.err {z:α→Nat} {n:Nat} {e:Nat×Nat}:bh z n (.error e:R α):=by intro y aI h;cases h
theorem bh.fail {z:α→Nat} {n e:Nat} {l:List Tok}:bh z n (fail e l:R α):=by intro y aI h;cases h
theorem bh.ite {z:α→Nat} {n:Nat} {c:Prop} [Decidable c] {a b:R α} (h1:c→bh z n a) (h2:¬c→bh z n b):bh z n (if c then a else b):=by
 by_cases h:c
 · rw [if_pos h];exact h1 h
 · rw [if_neg h];exact h2 h
theorem bh.le {z:α→Nat} {n m:Nat} {r:R α} (h:bh z n r) (hm:n≤m):bh z m r:=fun x l e=>Nat.le_trans (h x l e) hm
theorem nR {s:List UInt8} {l:List Tok} (h:is s l=true):l.tail.length+1=l.length:=by
 cases l with
 |nil=>simp [is,aQ] at h
 |cons a l=>rfl
theorem kj (s:List UInt8) (l:List Tok):bh (fun _=>1) l.length (must s l):=by
 unfold must
 exact bh.ite (fun h=>bh.ret (by have:=nR h;omega)) fun _=>bh.fail
theorem Rs {k:Nat} (hk:k≠0) (l:List Tok):bh (fun _=>1) l.length (of k l):=by
 unfold of
 refine bh.ite (fun h=>bh.ret ?_) fun _=>bh.fail
 cases l with
 |nil=>exact absurd h.symm hk
 |cons a l=>simp;omega
theorem nS (l:List Tok):bh (fun _=>1) l.length (name l):=by
 rw [aaB];exact bh.bH (Rs (by decide) l) fun _ _ h=>bh.ret h
theorem Rt (l:List Tok):bh (fun _=>1) l.length (number l):=by
 rw [aaC];exact bh.bH (Rs (by decide) l) fun _ _ h=>bh.ret h
theorem Gw (l:List Tok):bh (fun _=>1) l.length (ij l):=by
 rw [aaD]
 refine bh.bH (nS l) fun a m h=>bh.ite (fun ag=> ?_) fun _=>bh.ret h
 exact bh.bH (nS m.tail) fun b k h2=>bh.ret (by simp at h2 ⊢;omega)
def uL (x:Nat×List bJ):Nat:=x.2.length
def tc (un:E):Prop:=∀d l ns,bh uL (ns.length+l.length) (un d l ns)
theorem Le {z:α→Nat} {n:Nat} {ops:List gZ} {l:List Tok} {a:R α} {g:gZ→R α} (h0:bh z n a) (h1:∀o,l.tail.length+1=l.length→bh z n (g o)):bh z n (uG (find ops l) a g):=by
 cases hf:find ops l with
 |none=>exact h0
 |some o=>
  have bd:is o.1 l=true:=List.find?_some (p:=fun o:gZ=>is o.1 l) hf
  exact h1 o (nR bd)
theorem Ru {un:E} (hI:tc un) {ops:List gZ} {d:Nat}:∀(f a:Nat) (l:List Tok) (ns:List bJ),bh uL (ns.length+l.length) (kJ un ops f d l a ns)
 |0,a,l,ns=>bh.ret (Nat.le_refl _)
 |f+1,a,l,ns=>by
  rw [aaE]
  refine Le (bh.ret (Nat.le_refl _)) fun o ht=> ?_
  refine bh.bH (hI d l.tail ns) fun x m h=>(Ru hI f _ _ _).le ?_
  simp [uL] at h ⊢;omega
theorem Rv {un:E} (hI:tc un) (ops:List gZ):tc (chain un ops):=by
 intro d l ns
 rw [aaF]
 exact bh.bH (hI d l ns) fun x m h=>(Ru hI _ _ _ _).le h
theorem Rw {un:E} (hI:tc un):tc (sum un):=Rv (Rv hI _) _
theorem Rx {un:E} (hI:tc un):tc (whole un):=by
 intro d l ns
 rw [aaG]
 refine bh.bH (Rw hI d l ns) fun x m h=>Le (bh.ret h) fun o ht=> ?_
 refine bh.bH (Rw hI d m.tail x.2) fun y k h2=>bh.ret ?_
 simp [uL] at h h2 ⊢;omega
theorem aci {un:E} (hI:tc un):tc (pE un):=by
 intro d l ns
 rw [aaH]
 refine Le (bh.ite (fun ag=>bh.ite (fun _=>bh.fail) fun _=> ?_) fun _=>bh.ite (fun _=> ?_) fun _=> ?_) fun o ht=>bh.ite (fun _=>bh.fail) fun _=> ?_
 · have:=nR ag
   refine bh.bH (Rx hI (d+1) l.tail ns) fun x m h=> ?_
   exact bh.bH (kj _ m) fun _ k h2=>bh.ret (by simp [uL] at h h2 ⊢;omega)
 · exact bh.bH (Rt l) fun k m h=>bh.ret (by simp [uL] at h ⊢;omega)
 · exact bh.bH (Gw l) fun k m h=>bh.ret (by simp [uL] at h ⊢;omega)
 · exact bh.bH (hI (d+1) l.tail ns) fun x m h=>bh.ret (by simp [uL] at h ⊢;omega)
theorem Ry:∀f,tc (unary f)
 |0=>fun _ _ _=>bh.err
 |f+1=>aci (Ry f)
theorem x6 (d:Nat) (l:List Tok):bh List.length l.length (expr d l):=by
 rw [aaI]
 exact bh.bH (Rx (Ry _) d l []) fun x m h=>bh.ret (by simpa [uL] using h)
theorem Ao (s:cx) (l:List Tok):bh cx.bk (cx.bk s+l.length) (fin s l):=by
 rw [aaJ]
 exact bh.bH (kj _ l) fun _ m h=>bh.ret (by omega)
theorem acj (as_:List (List bJ)) (e:List bJ):lN (as_++[e])=lN as_+1+e.length:=by
 induction as_ with
 |nil=>simp [lN]
 |cons a as_ bm=>simp [lN] at bm ⊢;omega
theorem Lf {d:Nat}:∀(f:Nat) (l:List Tok) (as_:List (List bJ)),bh (fun x=>lN x+1) (lN as_+l.length+(if as_=[] then 1 else 0)) (nb d f l as_)
 |0,_,_=>bh.err
 |f+1,l,[]=>by
  rw [aaK]
  refine bh.ite (fun ag=>bh.ret (by have:=nR ag;simp;omega)) fun _=> ?_
  refine bh.bH (x6 d l) fun e m h=>(Lf f m [e]).le ?_
  simp [lN];omega
 |f+1,l,a::as_=>by
  rw [aaL]
  refine bh.ite (fun ag=>bh.ret (by have:=nR ag;simp;omega)) fun _=> ?_
  refine bh.bH (kj _ l) fun _ m h=> ?_
  refine bh.bH (x6 d m) fun e k h2=>(Lf f k _).le ?_
  rw [acj];simp;omega
def Gx (c:rN):Nat:=lN c.args
theorem Rz {d:Nat} (c:rN) (l:List Tok):bh Gx l.length (pF d c l):=by
 rw [aaM]
 refine bh.bH (kj _ l) fun _ m h=> ?_
 refine bh.bH (Lf _ m []) fun as_ k h2=>bh.ret ?_
 simp [lN,Gx] at h2 ⊢;omega
theorem ack {d:Nat} (l:List Tok):bh Gx l.length (call d l):=by
 rw [aaN]
 refine bh.bH (Gw l) fun q m h=>bh.ite (fun ag=> ?_) fun _=>(Rz _ m).le (by omega)
 have:=nR ag
 exact bh.bH (Gw m.tail) fun r k h2=>(Rz _ k).le (by omega)
def Gy (b7:nJ):Prop:=∀d l,bh ju.bk l.length (b7 d l)
def Gz (fP:Nat→List Tok→R cx):Prop:=∀d l,bh cx.bk l.length (fP d l)
theorem acm {b7:nJ} (K:Gy b7) {d a:Nat} (l:List Tok):bh cx.bk (l.length+1) (vX b7 d a l):=by
 rw [aaO]
 refine bh.bH (x6 d l) fun e m h=>bh.bH (K d m) fun b k h2=>bh.ite (fun ag=> ?_) fun _=>bh.ret (by simp [cx.bk,ju.bk,lN];omega)
 have:=nR ag
 exact bh.bH (K d k.tail) fun el n a6=>bh.ret (by simp [cx.bk,lN] at a6 ⊢;omega)
theorem acn {b7:nJ} (K:Gy b7) {d a:Nat} (l:List Tok):bh cx.bk (l.length+1) (z6 b7 d a l):=by
 rw [aaP]
 exact bh.bH (x6 d l) fun e m h=>bh.bH (K d m) fun b k h2=>bh.ret (by simp [cx.bk,ju.bk,lN];omega)
theorem aco {d a:Nat} (l:List Tok):bh cx.bk (l.length+1) (z7 d a l):=by
 rw [aaQ]
 refine bh.bH (nS l) fun n m h=>bh.bH (kj _ m) fun _ m2 h2=>bh.bH (nS m2) fun cq m3 a6=>bh.bH (kj _ m3) fun _ m4 cc=>bh.bH (x6 d m4) fun e m5 fA=>(Ao _ m5).le ?_
 simp [cx.bk,ju.bk,lN];omega
theorem acp {d a:Nat} (l:List Tok):bh cx.bk (l.length+1) (z8 d a l):=by
 rw [aaR]
 refine bh.bH (kj _ l) fun _ m h=>bh.bH (x6 d m) fun e m5 fA=>(Ao _ m5).le ?_
 simp [cx.bk,ju.bk,lN];omega
theorem acq {d a:Nat} (l:List Tok):bh cx.bk (l.length+1) (Aa d a l):=by
 rw [aaS]
 refine bh.bH (ack l) fun c m h=>(Ao _ m).le ?_
 simp [cx.bk,ju.bk,Gx] at h ⊢;omega
theorem acr {a:Nat} (l:List Tok):bh cx.bk (l.length+1) (Ab a l):=by
 rw [aaT]
 refine bh.bH (nS l) fun c m h=>(Ao _ m).le ?_
 simp [cx.bk,ju.bk,lN] at h ⊢;omega
theorem acs {a:Nat} (l:List Tok):bh cx.bk (l.length+1) (Gf a l):=by
 refine (Ao _ l).le ?_
 simp [cx.bk,ju.bk,lN];omega
theorem acu {d a:Nat} (l:List Tok):bh cx.bk l.length (CV d a l):=by
 rw [aaU]
 refine bh.bH (Gw l) fun n m h=>bh.bH (kj _ m) fun _ m4 cc=>bh.bH (x6 d m4) fun e m5 fA=>(Ao _ m5).le ?_
 simp [cx.bk,ju.bk,lN];omega
theorem acv {b7:nJ} (K:Gy b7):Gz (jr b7):=by
 intro d l
 unfold jr
 have up:∀{s:List UInt8} {r:R cx},bh cx.bk (l.tail.length+1) r→is s l=true→bh cx.bk l.length r:=fun h ag=>h.le (by have:=nR ag;omega)
 exact bh.ite (up (acm K _)) fun _=>bh.ite (up (acn K _)) fun _=>bh.ite (up (aco _)) fun _=>bh.ite (up (acp _)) fun _=>bh.ite (up (acq _)) fun _=>bh.ite (up (acr _)) fun _=>bh.ite (up (acs _)) fun _=>acu l
theorem ju.acw (l:List cx) (s:cx):ju.bk (l++[s])=ju.bk l+cx.bk s:=by
 induction l with
 |nil=>simp [ju.bk]
 |cons a l bm=>simp [ju.bk,bm];omega
theorem RA {fP:Nat→List Tok→R cx} (K:Gz fP) {d:Nat}:∀(f:Nat) (l:List Tok) (ss:List cx),bh ju.bk (ju.bk ss+l.length) (nc fP d f l ss)
 |0,_,_=>bh.err
 |f+1,l,ss=>by
  rw [aaV]
  refine bh.ite (fun ag=>bh.ret (by have:=nR ag;omega)) fun _=>bh.bH (K d l) fun s m h=>(RA K f m _).le ?_
  rw [ju.acw];omega
theorem RB {fP:Nat→List Tok→R cx} (K:Gz fP):Gy (rO fP):=by
 intro d l
 unfold rO
 refine bh.ite (fun ag=>bh.ite (fun _=>bh.fail) fun _=>(RA K _ _ _).le ?_) fun _=>bh.fail
 have:=nR ag
 simp [ju.bk] at this ⊢
theorem RC:∀f,Gz (stmt f)
 |0=>fun _ _=>bh.err
 |f+1=>acv (RB (RC f))
theorem acx (d:Nat) (l:List Tok):bh ju.bk l.length (block d l):=RB (RC _) d l
theorem Lg {z:α→Nat} {one:α→List Tok→R α} {e:List UInt8} (K:∀x l,bh z (z x+l.length) (one x l)):∀(f n:Nat) (l:List Tok) (x:α),bh z (z x+l.length) (js one e f n l x)
 |0,_,_,_=>bh.err
 |f+1,n,l,x=>by
  rw [aaW]
  refine bh.ite (fun ag=>bh.ret (by have:=nR ag;omega)) fun _=>bh.ite (fun _=> ?_) fun _=> ?_
  · exact bh.bH (K x l) fun y m h=>(Lg K f 1 m y).le h
  · exact bh.bH (kj _ l) fun _ m h=>bh.bH (K x m) fun y k h2=>(Lg K f (n+1) k y).le (by omega)
theorem RD {z:α→Nat} {one:α→List Tok→R α} {e:List UInt8} (K:∀x l,bh z (z x+l.length) (one x l)) (l:List Tok) (x:α):bh z (z x+l.length) (ja one e l x):=Lg K _ _ _ _
theorem acy (x:List ck) (l:List Tok):bh List.length (x.length+l.length) (oF x l):=by
 rw [aaX]
 exact bh.bH (nS l) fun n m h=>bh.bH (kj _ m) fun _ m2 h2=>bh.bH (nS m2) fun b m3 a6=>bh.ret (by simp;omega)
theorem acz (x:List (List UInt8)) (l:List Tok):bh List.length (x.length+l.length) (use x l):=by
 rw [aaY]
 exact bh.bH (nS l) fun n m h=>bh.ret (by simp;omega)
def wi (p:dO):Nat:=1+p.params.length+p.gp.length+ju.bk p.body
theorem RE {d:Nat} (q:dO) (l:List Tok):bh wi (1+q.params.length+l.length) (k7 d q l):=by
 rw [aaZ]
 refine bh.bH (kj _ l) fun _ m h=>bh.bH (nS m) fun bO m2 h2=>bh.bH (kj _ m2) fun _ m3 a6=>bh.bH (kj _ m3) fun _ m4 cc=>bh.bH (RD acz m4 []) fun us m5 fA=>bh.bH (acx d m5) fun b m6 kt=>bh.ret ?_
 simp [wi] at fA ⊢;omega
theorem acA {d:Nat} (l:List Tok):bh wi l.length (proc d l):=by
 rw [aa0]
 refine bh.bH (nS l) fun n m h=>bh.bH (kj _ m) fun _ m2 h2=>bh.bH (RD acy m2 []) fun aO m3 a6=>bh.ite (fun ag=> ?_) fun _=>(RE _ m3).le (by simp at a6 ⊢;omega)
 have:=nR ag
 exact bh.bH (nS m3.tail) fun r m4 cc=>(RE _ m4).le (by simp at a6 cc ⊢;omega)
theorem RF {n cq:List UInt8} {a:Nat} {neg:Bool} (l:List Tok):bh (fun _=>1) l.length (jN n cq a neg l):=by
 rw [aa1]
 exact bh.bH (Rt l) fun k m h=>bh.bH (kj _ m) fun _ m2 h2=>bh.ret (by omega)
theorem acB (l:List Tok):bh (fun _=>1) l.length (rQ l):=by
 rw [aa2]
 refine bh.bH (nS l) fun n m h=>bh.bH (kj _ m) fun _ m2 h2=>bh.bH (nS m2) fun b m3 a6=>bh.bH (kj _ m3) fun _ m4 cc=>bh.ite (fun ag=>(RF _).le ?_) fun _=>(RF _).le (by omega)
 have:=nR ag;omega
theorem RG:∀(f:Nat) (l:List Tok) (x:List fV),bh List.length (x.length+l.length) (ke f l x)
 |0,_,_=>bh.err
 |f+1,l,x=>by
  rw [aa3]
  refine bh.ite (fun ag=> ?_) fun _=>bh.ret (Nat.le_refl _)
  have:=nR ag
  exact bh.bH (nS l.tail) fun n m h=>bh.bH (kj _ m) fun _ m2 h2=>(RG f m2 _).le (by simp at h ⊢;omega)
def kM (aO:List dO):Nat:=aO.foldr (fun p n=>wi p+n) 0
theorem kM.snoc (aO:List dO) (p:dO):kM (aO++[p])=kM aO+wi p:=by
 induction aO with
 |nil=>simp [kM]
 |cons a aO bm=>simp [kM] at bm ⊢;omega
theorem kM.len (aO:List dO):aO.length≤kM aO:=by
 induction aO with
 |nil=>simp
 |cons a aO bm=>simp [kM,wi] at bm ⊢;omega
theorem kM.mem {p:dO}:∀{aO:List dO},p∈aO→wi p≤kM aO
 |[],h=>by simp at h
 |a::aO,h=>by
  rcases List.mem_cons.1 h with rfl|h
  · simp [kM]
  · have:=kM.mem h;simp [kM] at this ⊢;omega
theorem Lh {d:Nat}:∀(f:Nat) (l:List Tok) (vs:List gd) (aO:List dO),bh (fun x=>x.1.length+kM x.2) (vs.length+kM aO+l.length) (hQ d f l vs aO)
 |0,_,_,_=>bh.err
 |f+1,l,vs,aO=>by
  rw [aa4]
  refine bh.ite (fun _=>bh.ret (Nat.le_refl _)) fun _=>bh.ite (fun ag=> ?_) fun _=> ?_
  · have:=nR ag
    exact bh.bH (acB l.tail) fun v m h=>(Lh f m _ _).le (by simp at h ⊢;omega)
  · exact bh.bH (kj _ l) fun _ m h=>bh.bH (acA m) fun p k h2=>(Lh f k _ _).le (by rw [kM.snoc];omega)
theorem acC {d:Nat} (l:List Tok):bh (fun m=>m.imports.length+m.vars.length+kM m.procs) l.length (xY d l):=by
 rw [aa5]
 refine bh.bH (kj _ l) fun _ m h=>bh.bH (nS m) fun n m2 h2=>bh.bH (kj _ m2) fun _ m3 a6=>bh.bH (RG _ m3 []) fun is m4 cc=>bh.bH (Lh _ m4 [] []) fun x m5 fA=>bh.ret ?_
 simp [kM] at cc fA ⊢;omega
end
end Par
end
end Go.Eng
namespace Go.Eng
noncomputable section
def x7:e0:=⟨[],0,[],[],[]⟩
def oH (s:List UInt8):e0:=match Par.text s with
 | .ok m=>m
 | .error _=>x7
def uM (s:List UInt8):Nat:=match Par.text s with
 | .ok _=>0
 | .error z=>z.1
def GA (s:List UInt8):Nat:=match Par.text s with
 | .ok _=>0
 | .error z=>z.2
def jP (s:List UInt8):List ck:=match Par.rows s with
 | .ok m=>m
 | .error _=>[]
def qN (s:List UInt8):Nat:=match Par.rows s with
 | .ok _=>0
 | .error z=>z.1
def Aq (s:List UInt8):Nat:=match Par.rows s with
 | .ok _=>0
 | .error z=>z.2
theorem acD {s:List UInt8} {aP:List Tok} (h:Lex.lex s= .ok aP):aP.length≤8193:=by
 unfold Lex.lex at h
 by_cases ay:8192<s.length
 · rw [if_pos ay] at h;cases h
 · rw [if_neg ay] at h;have:=Lex.vZ h;simp at this;omega
theorem uF.zero (h:ae):uF h x7 [.str 0 0, .int .i64 0, .U, .U, .U]:=⟨.U, .U, .U,rfl, .nil, .nil,[], .nil,rfl⟩
end
end Go.Eng
