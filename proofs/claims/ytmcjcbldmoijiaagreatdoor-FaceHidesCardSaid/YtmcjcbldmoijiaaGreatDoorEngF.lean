/- Part of a proof of a law: rules of an evaluator, contracts, plain laws. No condition of its own. -/
import Derived.Test.YtmcjcbldmoijiaaGreatDoorEngD
set_option linter.unusedVariables false
set_option linter.unusedSimpArgs false
namespace Go.Eng
noncomputable section
open Go.Sort Go.Proofs
section
variable {β Qg:Type}
def mv (v:List UInt8×β):List (List UInt8×β)→List (List UInt8×β)
 |[]=>[v]
 |u::l=>if u.1<v.1 then u::mv v l else v::u::l
def fo:List (List UInt8×β)→List (List UInt8×β)
 |[]=>[]
 |v::l=>mv v (fo l)
theorem Qh (f:β→Qg) (v:List UInt8×β):∀l:List (List UInt8×β),mv (v.1,f v.2) (l.map fun r=>(r.1,f r.2))=(mv v l).map fun r=>(r.1,f r.2)
 |[]=>rfl
 |u::l=>by
  by_cases h:u.1<v.1
  · show (if u.1<v.1 then _ else _)=_
    rw [if_pos h,show mv v (u::l)=u::mv v l from if_pos h,Qh f v l];rfl
  · show (if u.1<v.1 then _ else _)=_
    rw [if_neg h,show mv v (u::l)=v::u::l from if_neg h];rfl
theorem zZ (f:β→Qg):∀l:List (List UInt8×β),fo (l.map fun r=>(r.1,f r.2))=(fo l).map fun r=>(r.1,f r.2)
 |[]=>rfl
 |v::l=>by
  show mv (v.1,f v.2) (fo (l.map fun r=>(r.1,f r.2)))=_
  rw [zZ f l,Qh];rfl
theorem KQ (v:List UInt8×β):∀l,(mv v l).Perm (v::l)
 |[]=>List.Perm.refl _
 |u::l=>by
  unfold mv
  by_cases h:u.1<v.1
  · rw [if_pos h];exact (List.Perm.cons u (KQ v l)).trans (List.Perm.swap ..)
  · rw [if_neg h]
theorem qE:∀l:List (List UInt8×β),(fo l).Perm l
 |[]=>List.Perm.refl _
 |v::l=>(KQ v _).trans (List.Perm.cons v (qE l))
theorem Qi (v:List UInt8×β):∀l:List (List UInt8×β),l.Pairwise (fun a b=>a.1≤b.1)→(mv v l).Pairwise (fun a b=>a.1≤b.1)
 |[],_=>by simp [mv]
 |u::l,h=>by
  unfold mv
  by_cases hu:u.1<v.1
  · rw [if_pos hu]
    refine List.pairwise_cons.2 ⟨fun x hx=> ?_,Qi v l (List.pairwise_cons.1 h).2⟩
    rcases List.mem_cons.1 ((KQ v l).mem_iff.1 hx) with rfl|hx
    · exact List.le_of_lt hu
    · exact (List.pairwise_cons.1 h).1 x hx
  · rw [if_neg hu]
    have CA:v.1≤u.1:=hu
    refine List.pairwise_cons.2 ⟨fun x hx=> ?_,h⟩
    rcases List.mem_cons.1 hx with rfl|hx
    · exact CA
    · exact List.le_trans CA ((List.pairwise_cons.1 h).1 x hx)
theorem KR:∀l:List (List UInt8×β),(fo l).Pairwise (fun a b=>a.1≤b.1)
 |[]=>List.Pairwise.nil
 |v::l=>Qi v _ (KR l)
theorem aap {a b:List (List UInt8×β)} (p:a.Perm b) (ha:a.Pairwise (fun x y=>x.1≤y.1)) (hn:(b.map (·.1)).Nodup):a=fo b:=by
 refine (p.trans (qE b).symm).eq_of_pairwise (fun x y hx hy h1 h2=> ?_) ha (KR b)
 have hx:x∈b:=p.mem_iff.1 hx
 have hy:y∈b:=(qE b).mem_iff.1 hy
 have e:x.1=y.1:=List.le_antisymm h1 h2
 obtain ⟨i,ag,rfl⟩:=List.mem_iff_getElem.1 hx
 obtain ⟨j,aR,rfl⟩:=List.mem_iff_getElem.1 hy
 rw [List.Nodup,List.pairwise_map,List.pairwise_iff_getElem] at hn
 rcases Nat.lt_trichotomy i j with h|h|h
 · exact absurd e (hn i j ag aR h)
 · subst h;rfl
 · exact absurd e.symm (hn j i aR ag h)
end
def mZ (k:Nat):Nat→List V→List (List V)
 |0,_=>[]
 |n+1,l=>l.take k::mZ k n (l.drop k)
def xW (a b:List V):Bool:=xK (a.headD .bot) (b.headD .bot)
def Gc (v:List V):List (List V)→List (List V)
 |[]=>[v]
 |u::l=>if xW u v then u::Gc v l else v::u::l
def oC:List (List V)→List (List V)
 |[]=>[]
 |v::l=>Gc v (oC l)
def s7 (r:List V):Bool:=(r.headD .bot).q4.isSome
def s8:List (List V)→Bool
 |a::b::l=>xW a b&&s8 (b::l)
 |_=>true
def Gd (k:Nat) (h:ae) (b o n:Nat):a7:=match h.load b o (n * k) with
 |none=> .bad
 |some l=>if (mZ k n l).all s7=true∧s8 (oC (mZ k n l))=true∧n<4294967296∧0<k then h.dB b o (n * k) (oC (mZ k n l)).flatten .bad (fun h=> .ok (.dh []) h) else .bad
def oD (f0 eZ k:Nat):Nat→List V→ae→a7:=fun f args h=>match f.beq f0,args with
 |true,[.U, .fn g [] []]=>if g=eZ then .ok (.dh []) h else .bad
 |true,[.au b o n _, .fn g [] []]=>if g=eZ then Gd k h b o n else .bad
 |_,_=> .bad
abbrev eF:=List UInt8×(List V×List Value)
def eF.v (t:eF):List V:=gF t.1::t.2.1
def eF.x (t:eF):List Value:=encStr t.1::t.2.2
theorem Qj (v:eF):∀l:List eF,Gc v.v (l.map eF.v)=(mv v l).map eF.v
 |[]=>rfl
 |u::l=>by
  have e:xW u.v v.v=decide (u.1<v.1):=by
   show xK (gF u.1) (gF v.1)=_
   rw [FU,xL]
  show (if xW u.v v.v=true then _ else _)=_
  rw [e]
  by_cases h:u.1<v.1
  · rw [if_pos (by simpa using h),show mv v (u::l)=u::mv v l from if_pos h,Qj v l];rfl
  · rw [if_neg (by simpa using h),show mv v (u::l)=v::u::l from if_neg h];rfl
theorem Ge:∀l:List eF,oC (l.map eF.v)=(fo l).map eF.v
 |[]=>rfl
 |v::l=>by
  show Gc v.v (oC (l.map eF.v))=_
  rw [Ge l,Qj];rfl
theorem Qk:∀{l:List eF},s8 (l.map eF.v)=true→l.Pairwise (fun a b=>a.1<b.1)
 |[],_=>List.Pairwise.nil
 |[a],_=>by simp
 |a::b::l,h=>by
  have h:(xW a.v b.v&&s8 ((b::l).map eF.v))=true:=h
  rw [Bool.and_eq_true] at h
  have e:xW a.v b.v=decide (a.1<b.1):=by
   show xK (gF a.1) (gF b.1)=_
   rw [FU,xL]
  rw [e] at h
  have uD:a.1<b.1:=by simpa using h.1
  have bm:=Qk h.2
  refine List.pairwise_cons.2 ⟨fun x hx=> ?_,bm⟩
  rcases List.mem_cons.1 hx with rfl|hx
  · exact uD
  · exact List.lt_trans uD ((List.pairwise_cons.1 bm).1 x hx)
theorem aaq {l:List eF} (h:s8 (oC (l.map eF.v))=true):(l.map (·.1)).Nodup:=by
 rw [Ge] at h
 have h1:=Qk h
 have h2:((fo l).map (·.1)).Nodup:=by
  rw [List.Nodup,List.pairwise_map]
  exact h1.imp fun {a b} hlt (e:a.1=b.1)=>List.lt_irrefl b.1 (by rw [e] at hlt;exact hlt)
 exact ((qE l).map _).nodup_iff.1 h2
theorem ch.split {ι:aY}:∀{l:List V} {m:List Value} (k:Nat),ch ι l m→ch ι (l.take k) (m.take k)∧ch ι (l.drop k) (m.drop k)
 |[],m,k,h=>by
  have h:m=[]:=h
  subst h;simp only [List.take_nil,List.drop_nil];exact ⟨rfl,rfl⟩
 |a::l,m,0,h=>by
  simp only [List.take_zero,List.drop_zero];exact ⟨rfl,h⟩
 |a::l,m,k+1,h=>by
  obtain ⟨x,xs,rfl,h1,h2⟩:=h
  obtain ⟨g1,g2⟩:=ch.split k h2
  exact ⟨⟨x,xs.take k,rfl,h1,g1⟩,g2⟩
theorem aar {ι:aY} {v:V} {x:Value} (h:v.q4.isSome=true) (r:bD ι v x):∃s:List UInt8,v=gF s∧x=encStr s:=by
 cases v<;>first|(cases h;done)|skip
 obtain ⟨s,rfl,rfl,rfl⟩:=r
 exact ⟨s.data.toList,rfl,by simp [encStr]⟩
theorem Ql {ι:aY} {k:Nat} (hk:0<k):∀{n:Nat} {l:List V} {xs:List Value},l.length=n * k→(mZ k n l).all s7=true→ch ι l xs→(∀x∈xs,x.oneCell'=true)→
  ∃T:List eF,T.length=n∧mZ k n l=T.map eF.v∧l=(T.map eF.v).flatten∧xs=(T.map eF.x).flatten∧∀t∈T,ch ι t.v t.x∧t.x.length=k∧∀x∈t.x,x.oneCell'=true
 |0,l,xs,ar,_,hr,_=>by
  have:l=[]:=List.eq_nil_of_length_eq_zero (by rw [ar,Nat.zero_mul])
  subst this
  have hr:xs=[]:=hr
  subst hr
  exact ⟨[],rfl,rfl,rfl,rfl,by simp⟩
 |n+1,l,xs,ar,ay,hr,h1=>by
  rw [Nat.succ_mul] at ar
  obtain ⟨r1,fI⟩:=ch.split k hr
  have ay:(s7 (l.take k)&&(mZ k n (l.drop k)).all s7)=true:=ay
  rw [Bool.and_eq_true] at ay
  obtain ⟨T,aS,bl,df,fZ,gx⟩:=Ql hk (n:=n) (l:=l.drop k) (xs:=xs.drop k) (by rw [List.length_drop];omega) ay.2 fI (fun x hx=>h1 x (List.mem_of_mem_drop hx))
  cases ht:l.take k with
  |nil=>
   have:=congrArg List.length ht
   have vd:k≤l.length:=by rw [ar];exact Nat.le_add_left ..
   rw [List.length_take,Nat.min_eq_left vd,List.length_nil] at this;omega
  |cons v vs=>
   rw [ht] at ay r1
   obtain ⟨x,ys,hx,g1,g2⟩:=r1
   obtain ⟨s,rfl,rfl⟩:=aar ay.1 g1
   refine ⟨(s,vs,ys)::T,by rw [List.length_cons,aS], ?_, ?_, ?_, ?_⟩
   · show l.take k::mZ k n (l.drop k)=_
     rw [ht,bl];rfl
   · show l=eF.v (s,vs,ys)++(T.map eF.v).flatten
     rw [←df]
     show l=(gF s::vs)++l.drop k
     rw [←ht,List.take_append_drop]
   · show xs=eF.x (s,vs,ys)++(T.map eF.x).flatten
     rw [←fZ]
     show xs=(encStr s::ys)++xs.drop k
     rw [←hx,List.take_append_drop]
   · intro t KS
     rcases List.mem_cons.1 KS with rfl|KS
     · refine ⟨⟨_,_,rfl,g1,g2⟩, ?_,fun x h7=>h1 x ?_⟩
       · show (encStr s::ys).length=k
         rw [←hx,List.length_take,hr.length,ar];exact Nat.min_eq_left (Nat.le_add_left ..)
       · have:x∈xs.take k:=by rw [hx];exact h7
         exact List.mem_of_mem_take this
     · exact gx t KS
theorem Qm {ι:aY}:∀{T:List eF},(∀t∈T,ch ι t.v t.x)→ch ι (T.map eF.v).flatten (T.map eF.x).flatten
 |[],_=>rfl
 |t::T,h=>(h t (by simp)).append (Qm fun u hu=>h u (by simp [hu]))
theorem Qn {k:Nat}:∀{T:List eF},(∀t∈T,t.x.length=k)→(T.map eF.x).flatten.length=T.length * k
 |[],_=>by simp
 |t::T,h=>by
  show (t.x++(T.map eF.x).flatten).length=_
  rw [List.length_append,h t (by simp),Qn fun u hu=>h u (by simp [hu]),List.length_cons,Nat.succ_mul];omega
theorem Qo {P:Program} {f0 eZ k:Nat} (hb:om P f0)
  (av:∀(b7 off cap:Nat) (X:List (List UInt8×List Value)) (w:World),(∀r∈X,r.2.length+1=k∧∀v∈r.2,v.oneCell'=true)→(X.map (·.1)).Nodup→
    Sort.Holds id w b7 off ((X.map fun r=>encStr r.1::r.2).flatten).toArray→b7<w.heap.size→X.length<4611686018427387904→
    Calls P f0 #[.slice (some ⟨b7,off,none⟩) X.length cap, .func (.func eZ) #[] #[]] w fun e w'=>e= .returned (.tuple #[])∧∃n os,w'=grow (putRow id (Sort.ahead w n) b7 off ((fo X).map fun r=>encStr r.1::r.2).flatten.toArray) os)
  (h0:∀(p:Option Addr) (cap:Nat) (w:World),Calls P f0 #[.slice p 0 cap, .func (.func eZ) #[] #[]] w fun e w'=>e= .returned (.tuple #[])∧w'=w):lC P (oD f0 eZ k):=by
 have Qp:∀{ι:aY} {v:V} {g:Nat} {args:Array Value},ch ι [v, .fn g [] []] args.toList→∃y,bD ι v y∧args= #[y, .func (.func g) #[] #[]]:=by
  intro ι v g args hr
  obtain ⟨pA,aW,aS,r1,nL,bu,rfl,fI,kz⟩:=hr
  have kz:bu=[]:=kz
  subst kz
  obtain ⟨xs,ys,rfl,q1,c0⟩:=fI
  have q1:xs.toList=[]:=q1
  have c0:ys.toList=[]:=c0
  have q1:xs= #[]:=by rw [←Array.toArray_toList (xs:=xs),q1]
  have c0:ys= #[]:=by rw [←Array.toArray_toList (xs:=ys),c0]
  subst q1;subst c0
  exact ⟨pA,r1,by rw [←Array.toArray_toList (xs:=args),aS]⟩
 intro f vs h
 unfold oD
 split
 · rename_i g hf
   have hf:f=f0:=Nat.eq_of_beq_eq_true hf
   subst hf
   by_cases hg:g=eZ
   · subst hg
     rw [if_pos rfl]
     refine ⟨Nat.le_refl _,fun _=>⟨hb,fun ι w args dq _ hr=> ?_⟩⟩
     obtain ⟨pA,r1,rfl⟩:=Qp hr
     have r1:pA= .slice none 0 0:=r1
     subst r1
     refine (h0 none 0 w).mono fun e w' he=> ?_
     obtain ⟨rfl,rfl⟩:=he
     exact ⟨ι,dp.refl dq,⟨#[],rfl,rfl⟩⟩
   · rw [if_neg hg];exact ⟨trivial,fun h=>absurd rfl h⟩
 · rename_i b o n cap g hf
   have hf:f=f0:=Nat.eq_of_beq_eq_true hf
   subst hf
   by_cases hg:g=eZ
   rotate_left
   · rw [if_neg hg];exact ⟨trivial,fun h=>absurd rfl h⟩
   subst hg
   rw [if_pos rfl]
   unfold Gd
   cases ar:h.load b o (n * k) with
   |none=>exact ⟨trivial,fun h=>absurd rfl h⟩
   |some l=>
    simp only
    by_cases ay:(mZ k n l).all s7=true∧s8 (oC (mZ k n l))=true∧n<4294967296∧0<k
    rotate_left
    · rw [if_neg ay];exact ⟨trivial,fun h=>absurd rfl h⟩
    rw [if_pos ay]
    obtain ⟨zL,s6,agZ,hk⟩:=ay
    refine ⟨w9 (Nat.le_refl _),fun bG=>⟨hb,fun ι w args dq _ hr=> ?_⟩⟩
    obtain ⟨pA,r1,rfl⟩:=Qp hr
    obtain ⟨B,a,c,bN,rfl,gD⟩:=r1
    rw [y2 _ _ _ _ _ _ _ dq.rk (dq.nG bN)] at bG ⊢
    cases eD:nC h b o (n * k) (oC (mZ k n l)).flatten with
    |none=>rw [eD] at bG;exact absurd rfl bG
    |some h1=>
     show Calls P f _ w (rp ι h w (.ok (.dh []) h1))
     obtain ⟨xs,wR,iU,mK,hcell⟩:=yZ dq bN ar
     obtain ⟨T,sI,bl,df,fZ,gx⟩:=Ql hk (by rw [←iU.length,wR]) zL iU mK
     rw [bl] at eD s6
     have hnd:=aaq s6
     rw [Ge] at eD
     by_cases vb:n=0
     · subst vb
       rw [Nat.zero_mul] at eD
       cases Ef eD
       refine (h0 (some a) c w).mono fun e w' he=> ?_
       obtain ⟨rfl,rfl⟩:=he
       exact ⟨ι,dp.refl dq,⟨#[],rfl,rfl⟩⟩
     · have CB:=vl gD (by omega)
       subst CB
       have Eu:n * k≠0:=Nat.mul_ne_zero vb (by omega)
       have KT:∀t:eF,t∈fo T→ch ι (eF.v t) (eF.x t)∧(eF.x t).length=k∧∀x∈eF.x t,x.oneCell'=true:=fun t ht=>gx t ((qE T).mem_iff.1 ht)
       have aas:(fo T).length=n:=by rw [(qE T).length_eq,sI]
       have CT:((fo T).map eF.x).flatten.length=n * k:=by rw [Qn fun t ht=>(KT t ht).2.1,aas]
       have o4:=Qm (ι:=ι) (T:=fo T) fun t ht=>(KT t ht).1
       have Qq:((fo T).map eF.v).flatten.length=n * k:=by rw [←o4.length,CT]
       have Qr:∀x∈((fo T).map eF.x).flatten,x.oneCell'=true:=by
        intro x hx
        obtain ⟨r,hr,iU⟩:=List.mem_flatten.1 hx
        obtain ⟨t,ht,rfl⟩:=List.mem_map.1 hr
        exact (KT t ht).2.2 x iU
       obtain ⟨aG,kx,ji,dj,jj,Eg,Eh,y3,YQ,hle,dC,H8,YR,wQ⟩:=H7 Eu eD Qq (dq.nG bN) dq.rk
       have de:=dq.kY b (dq.nG bN) (by simp [dj])
       have zN:=(dq.obj b B aG bN dj de).cells jj
       obtain ⟨cs,el,fr,q1,c0,dG,ek,hY,gG⟩:=zN
       have hH:Sort.Holds id w B.c (B.off+o) xs.toArray:=by
        intro j aR
        have aR:j<xs.length:=by simpa using aR
        refine ⟨?_, ?_⟩
        · have:=hcell j xs[j] (List.getElem?_eq_getElem aR)
          rw [this];simp [aR]
        · have e2:=c0.at_ (k:=B.off+o+j) (by omega) (by omega) (by omega)
          simp only [World.frozen?,q1]
          simp;omega
       obtain ⟨w1,cu,cB,gg,mf,_⟩:=Bi (P:=P) dq bN eD Qq o4 Qr
       have iI:=run_storeCells_cells (P:=P) B.c (B.off+o) ((fo T).map eF.x).flatten 0 w (fun j aR=>by
         have aR:j<xs.length:=by rw [CT] at aR;omega
         have:=(hH j (by simpa using aR)).1
         simp only [Nat.add_zero]
         rw [this];rfl) (fun j aR=>by
         have aR:j<xs.length:=by rw [CT] at aR;omega
         exact (hH j (by simpa using aR)).2) Qr
       have mg:w1=w.setCells B.c (B.off+o) ((fo T).map eF.x).flatten:=by
        have:=cu.symm.trans iI
        simpa using this
       have ex:(T.map fun t:eF=>(t.1,t.2.2)).map (fun r=>encStr r.1::r.2)=T.map eF.x:=by rw [List.map_map];rfl
       have es:((fo (T.map fun t:eF=>(t.1,t.2.2))).map fun r=>encStr r.1::r.2)=(fo T).map eF.x:=by
        rw [zZ (fun p:List V×List Value=>p.2),List.map_map];rfl
       have:=av B.c (B.off+o) c (T.map fun t:eF=>(t.1,t.2.2)) w (fun r hr=>by
        obtain ⟨t,ht,rfl⟩:=List.mem_map.1 hr
        obtain ⟨_,g2,g3⟩:=gx t ht
        exact ⟨g2,fun v aD=>g3 v (List.mem_cons_of_mem _ aD)⟩) (by rw [List.map_map];exact hnd) (by rw [ex,←fZ];exact hH) (dq.kr b B bN) (by rw [List.length_map,sI];omega)
       rw [List.length_map,sI,es] at this
       refine this.mono fun e w' he=> ?_
       obtain ⟨rfl,m,os,rfl⟩:=he
       have kZ:=Bg B.c ((fo T).map eF.x).flatten (B.off+o) w
       generalize ag0:((fo T).map eF.x).flatten=CU at *
       have heap:∀k,k<w.heap.size→(grow (putRow id (Sort.ahead w m) B.c (B.off+o) CU.toArray) os).heap[k]? =w1.heap[k]? :=by
        intro k hk
        show ((putRow id (Sort.ahead w m) B.c (B.off+o) CU.toArray).heap++os)[k]? =_
        rw [Array.getElem?_append_left (by simpa using hk)]
        show (w.heap.modify B.c (onCells (putCells id (B.off+o) CU.toArray)))[k]? =_
        rw [Array.getElem?_modify,mg]
        by_cases s3:B.c=k
        · subst s3
          obtain ⟨l7,c1,c2,cG⟩:=Bh CU (B.off+o) w cs q1 (by rw [CT];omega)
          rw [if_pos rfl,q1,c1]
          simp only [Option.map_some,onCells]
          congr 2
          apply Array.ext_getElem?
          intro j
          rw [cG]
          unfold putCells
          rw [Array.getElem?_mapIdx]
          simp only [CT,List.size_toArray]
          by_cases aR:B.off+o≤j∧j<B.off+o+n * k
          · rw [if_pos aR]
            have Bu:j<cs.size:=by omega
            rw [Array.getElem?_eq_getElem Bu]
            have mH:j - (B.off+o)<CU.length:=by omega
            simp [aR,mH]
          · rw [if_neg aR]
            cases YS:cs[j]? with
            |none=>rfl
            |some y=>simp [if_neg aR]
        · rw [if_neg s3,Bf _ _ _ _ (Ne.symm s3)]
       have YT:w1.heap.size=w.heap.size:=by rw [mg];exact kZ.2.2.2
       refine ⟨ι,dp.same (cB.world (fun k hk=>heap k (by omega)) (by simp;omega)) ⟨fun k hk hf=>(heap k hk).trans (gg.va k hk hf),by simp,rfl,rfl,rfl⟩ mf,⟨#[],rfl,rfl⟩⟩
 · exact ⟨trivial,fun h=>absurd rfl h⟩
end
end Go.Eng
