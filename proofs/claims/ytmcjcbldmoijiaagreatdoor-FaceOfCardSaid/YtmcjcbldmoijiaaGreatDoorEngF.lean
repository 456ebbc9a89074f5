/- Part of a proof of a law: rules of an evaluator, contracts, plain laws. No condition of its own. -/
import Derived.Test.YtmcjcbldmoijiaaGreatDoorEngD
set_option linter.unusedVariables false
set_option linter.unusedSimpArgs false
namespace Go.Eng
noncomputable section
open Go.Sort Go.Proofs
section
variable {β R7:Type}
def nu (v:List UInt8×β):List (List UInt8×β)→List (List UInt8×β)
 |[]=>[v]
 |u::l=>if u.1<v.1 then u::nu v l else v::u::l
def fT:List (List UInt8×β)→List (List UInt8×β)
 |[]=>[]
 |v::l=>nu v (fT l)
theorem R8 (f:β→R7) (v:List UInt8×β):∀l:List (List UInt8×β),nu (v.1,f v.2) (l.map fun r=>(r.1,f r.2))=(nu v l).map fun r=>(r.1,f r.2)
 |[]=>rfl
 |u::l=>by
  by_cases h:u.1<v.1
  · show (if u.1<v.1 then _ else _)=_
    rw [if_pos h,show nu v (u::l)=u::nu v l from if_pos h,R8 f v l];rfl
  · show (if u.1<v.1 then _ else _)=_
    rw [if_neg h,show nu v (u::l)=v::u::l from if_neg h];rfl
theorem xj (f:β→R7):∀l:List (List UInt8×β),fT (l.map fun r=>(r.1,f r.2))=(fT l).map fun r=>(r.1,f r.2)
 |[]=>rfl
 |v::l=>by
  show nu (v.1,f v.2) (fT (l.map fun r=>(r.1,f r.2)))=_
  rw [xj f l,R8];rfl
theorem MK (v:List UInt8×β):∀l,(nu v l).Perm (v::l)
 |[]=>List.Perm.refl _
 |u::l=>by
  unfold nu
  by_cases h:u.1<v.1
  · rw [if_pos h];exact (List.Perm.cons u (MK v l)).trans (List.Perm.swap ..)
  · rw [if_neg h]
theorem rJ:∀l:List (List UInt8×β),(fT l).Perm l
 |[]=>List.Perm.refl _
 |v::l=>(MK v _).trans (List.Perm.cons v (rJ l))
theorem R9 (v:List UInt8×β):∀l:List (List UInt8×β),l.Pairwise (fun a b=>a.1≤b.1)→(nu v l).Pairwise (fun a b=>a.1≤b.1)
 |[],_=>by simp [nu]
 |u::l,h=>by
  unfold nu
  by_cases hu:u.1<v.1
  · rw [if_pos hu]
    refine List.pairwise_cons.2 ⟨fun x hx=> ?_,R9 v l (List.pairwise_cons.1 h).2⟩
    rcases List.mem_cons.1 ((MK v l).mem_iff.1 hx) with rfl|hx
    · exact List.le_of_lt hu
    · exact (List.pairwise_cons.1 h).1 x hx
  · rw [if_neg hu]
    have Ed:v.1≤u.1:=hu
    refine List.pairwise_cons.2 ⟨fun x hx=> ?_,h⟩
    rcases List.mem_cons.1 hx with rfl|hx
    · exact Ed
    · exact List.le_trans Ed ((List.pairwise_cons.1 h).1 x hx)
theorem ML:∀l:List (List UInt8×β),(fT l).Pairwise (fun a b=>a.1≤b.1)
 |[]=>List.Pairwise.nil
 |v::l=>R9 v _ (ML l)
theorem Sb {a b:List (List UInt8×β)} (p:a.Perm b) (ha:a.Pairwise (fun x y=>x.1≤y.1)) (hn:(b.map (·.1)).Nodup):a=fT b:=by
 refine (p.trans (rJ b).symm).eq_of_pairwise (fun x y hx hy h1 h2=> ?_) ha (ML b)
 have hx:x∈b:=p.mem_iff.1 hx
 have hy:y∈b:=(rJ b).mem_iff.1 hy
 have e:x.1=y.1:=List.le_antisymm h1 h2
 obtain ⟨i,aq,rfl⟩:=List.mem_iff_getElem.1 hx
 obtain ⟨j,aV,rfl⟩:=List.mem_iff_getElem.1 hy
 rw [List.Nodup,List.pairwise_map,List.pairwise_iff_getElem] at hn
 rcases Nat.lt_trichotomy i j with h|h|h
 · exact absurd e (hn i j aq aV h)
 · subst h;rfl
 · exact absurd e.symm (hn j i aV aq h)
end
def nY (k:Nat):Nat→List V→List (List V)
 |0,_=>[]
 |n+1,l=>l.take k::nY k n (l.drop k)
def y7 (a b:List V):Bool:=yU (a.headD .bot) (b.headD .bot)
def H2 (v:List V):List (List V)→List (List V)
 |[]=>[v]
 |u::l=>if y7 u v then u::H2 v l else v::u::l
def pC:List (List V)→List (List V)
 |[]=>[]
 |v::l=>H2 v (pC l)
def uh (r:List V):Bool:=(r.headD .bot).r9.isSome
def ui:List (List V)→Bool
 |a::b::l=>y7 a b&&ui (b::l)
 |_=>true
def H3 (k:Nat) (h:ag) (b o n:Nat):bg:=match h.load b o (n * k) with
 |none=> .bad
 |some l=>if (nY k n l).all uh=true∧ui (pC (nY k n l))=true∧n<4294967296∧0<k then h.ef b o (n * k) (pC (nY k n l)).flatten .bad (fun h=> .ok (.dD []) h) else .bad
def pD (f0 fz k:Nat):Nat→List V→ag→bg:=fun f args h=>match f.beq f0,args with
 |true,[.U, .fn g [] []]=>if g=fz then .ok (.dD []) h else .bad
 |true,[.av b o n _, .fn g [] []]=>if g=fz then H3 k h b o n else .bad
 |_,_=> .bad
abbrev e7:=List UInt8×(List V×List Value)
def e7.v (t:e7):List V:=hB t.1::t.2.1
def e7.x (t:e7):List Value:=encStr t.1::t.2.2
theorem Sc (v:e7):∀l:List e7,H2 v.v (l.map e7.v)=(nu v l).map e7.v
 |[]=>rfl
 |u::l=>by
  have e:y7 u.v v.v=decide (u.1<v.1):=by
   show yU (hB u.1) (hB v.1)=_
   rw [HF,yV]
  show (if y7 u.v v.v=true then _ else _)=_
  rw [e]
  by_cases h:u.1<v.1
  · rw [if_pos (by simpa using h),show nu v (u::l)=u::nu v l from if_pos h,Sc v l];rfl
  · rw [if_neg (by simpa using h),show nu v (u::l)=v::u::l from if_neg h];rfl
theorem H4:∀l:List e7,pC (l.map e7.v)=(fT l).map e7.v
 |[]=>rfl
 |v::l=>by
  show H2 v.v (pC (l.map e7.v))=_
  rw [H4 l,Sc];rfl
theorem Sd:∀{l:List e7},ui (l.map e7.v)=true→l.Pairwise (fun a b=>a.1<b.1)
 |[],_=>List.Pairwise.nil
 |[a],_=>by simp
 |a::b::l,h=>by
  have h:(y7 a.v b.v&&ui ((b::l).map e7.v))=true:=h
  rw [Bool.and_eq_true] at h
  have e:y7 a.v b.v=decide (a.1<b.1):=by
   show yU (hB a.1) (hB b.1)=_
   rw [HF,yV]
  rw [e] at h
  have vF:a.1<b.1:=by simpa using h.1
  have bt:=Sd h.2
  refine List.pairwise_cons.2 ⟨fun x hx=> ?_,bt⟩
  rcases List.mem_cons.1 hx with rfl|hx
  · exact vF
  · exact List.lt_trans vF ((List.pairwise_cons.1 bt).1 x hx)
theorem ab3 {l:List e7} (h:ui (pC (l.map e7.v))=true):(l.map (·.1)).Nodup:=by
 rw [H4] at h
 have h1:=Sd h
 have h2:((fT l).map (·.1)).Nodup:=by
  rw [List.Nodup,List.pairwise_map]
  exact h1.imp fun {a b} hlt (e:a.1=b.1)=>List.lt_irrefl b.1 (by rw [e] at hlt;exact hlt)
 exact ((rJ l).map _).nodup_iff.1 h2
theorem cE.split {ι:bb}:∀{l:List V} {m:List Value} (k:Nat),cE ι l m→cE ι (l.take k) (m.take k)∧cE ι (l.drop k) (m.drop k)
 |[],m,k,h=>by
  have h:m=[]:=h
  subst h;simp only [List.take_nil,List.drop_nil];exact ⟨rfl,rfl⟩
 |a::l,m,0,h=>by
  simp only [List.take_zero,List.drop_zero];exact ⟨rfl,h⟩
 |a::l,m,k+1,h=>by
  obtain ⟨x,xs,rfl,h1,h2⟩:=h
  obtain ⟨g1,g2⟩:=cE.split k h2
  exact ⟨⟨x,xs.take k,rfl,h1,g1⟩,g2⟩
theorem ab4 {ι:bb} {v:V} {x:Value} (h:v.r9.isSome=true) (r:bL ι v x):∃s:List UInt8,v=hB s∧x=encStr s:=by
 cases v<;>first|(cases h;done)|skip
 obtain ⟨s,rfl,rfl,rfl⟩:=r
 exact ⟨s.data.toList,rfl,by simp [encStr]⟩
theorem Se {ι:bb} {k:Nat} (hk:0<k):∀{n:Nat} {l:List V} {xs:List Value},l.length=n * k→(nY k n l).all uh=true→cE ι l xs→(∀x∈xs,x.oneCell'=true)→
  ∃T:List e7,T.length=n∧nY k n l=T.map e7.v∧l=(T.map e7.v).flatten∧xs=(T.map e7.x).flatten∧∀t∈T,cE ι t.v t.x∧t.x.length=k∧∀x∈t.x,x.oneCell'=true
 |0,l,xs,au,_,hr,_=>by
  have:l=[]:=List.eq_nil_of_length_eq_zero (by rw [au,Nat.zero_mul])
  subst this
  have hr:xs=[]:=hr
  subst hr
  exact ⟨[],rfl,rfl,rfl,rfl,by simp⟩
 |n+1,l,xs,au,aC,hr,h1=>by
  rw [Nat.succ_mul] at au
  obtain ⟨r1,gl⟩:=cE.split k hr
  have aC:(uh (l.take k)&&(nY k n (l.drop k)).all uh)=true:=aC
  rw [Bool.and_eq_true] at aC
  obtain ⟨T,aT,bu,dH,gC,gY⟩:=Se hk (n:=n) (l:=l.drop k) (xs:=xs.drop k) (by rw [List.length_drop];omega) aC.2 gl (fun x hx=>h1 x (List.mem_of_mem_drop hx))
  cases ht:l.take k with
  |nil=>
   have:=congrArg List.length ht
   have wv:k≤l.length:=by rw [au];exact Nat.le_add_left ..
   rw [List.length_take,Nat.min_eq_left wv,List.length_nil] at this;omega
  |cons v vs=>
   rw [ht] at aC r1
   obtain ⟨x,ys,hx,g1,g2⟩:=r1
   obtain ⟨s,rfl,rfl⟩:=ab4 aC.1 g1
   refine ⟨(s,vs,ys)::T,by rw [List.length_cons,aT], ?_, ?_, ?_, ?_⟩
   · show l.take k::nY k n (l.drop k)=_
     rw [ht,bu];rfl
   · show l=e7.v (s,vs,ys)++(T.map e7.v).flatten
     rw [←dH]
     show l=(hB s::vs)++l.drop k
     rw [←ht,List.take_append_drop]
   · show xs=e7.x (s,vs,ys)++(T.map e7.x).flatten
     rw [←gC]
     show xs=(encStr s::ys)++xs.drop k
     rw [←hx,List.take_append_drop]
   · intro t MM
     rcases List.mem_cons.1 MM with rfl|MM
     · refine ⟨⟨_,_,rfl,g1,g2⟩, ?_,fun x iJ=>h1 x ?_⟩
       · show (encStr s::ys).length=k
         rw [←hx,List.length_take,hr.length,au];exact Nat.min_eq_left (Nat.le_add_left ..)
       · have:x∈xs.take k:=by rw [hx];exact iJ
         exact List.mem_of_mem_take this
     · exact gY t MM
theorem Sf {ι:bb}:∀{T:List e7},(∀t∈T,cE ι t.v t.x)→cE ι (T.map e7.v).flatten (T.map e7.x).flatten
 |[],_=>rfl
 |t::T,h=>(h t (by simp)).append (Sf fun u hu=>h u (by simp [hu]))
theorem Sg {k:Nat}:∀{T:List e7},(∀t∈T,t.x.length=k)→(T.map e7.x).flatten.length=T.length * k
 |[],_=>by simp
 |t::T,h=>by
  show (t.x++(T.map e7.x).flatten).length=_
  rw [List.length_append,h t (by simp),Sg fun u hu=>h u (by simp [hu]),List.length_cons,Nat.succ_mul];omega
theorem Sh {P:Program} {f0 fz k:Nat} (hb:ph P f0)
  (ax:∀(cr off cap:Nat) (X:List (List UInt8×List Value)) (w:World),(∀r∈X,r.2.length+1=k∧∀v∈r.2,v.oneCell'=true)→(X.map (·.1)).Nodup→
    Sort.Holds id w cr off ((X.map fun r=>encStr r.1::r.2).flatten).toArray→cr<w.heap.size→X.length<4611686018427387904→
    Calls P f0 #[.slice (some ⟨cr,off,none⟩) X.length cap, .func (.func fz) #[] #[]] w fun e w'=>e= .returned (.tuple #[])∧∃n os,w'=grow (putRow id (Sort.ahead w n) cr off ((fT X).map fun r=>encStr r.1::r.2).flatten.toArray) os)
  (h0:∀(p:Option Addr) (cap:Nat) (w:World),Calls P f0 #[.slice p 0 cap, .func (.func fz) #[] #[]] w fun e w'=>e= .returned (.tuple #[])∧w'=w):mq P (pD f0 fz k):=by
 have Si:∀{ι:bb} {v:V} {g:Nat} {args:Array Value},cE ι [v, .fn g [] []] args.toList→∃y,bL ι v y∧args= #[y, .func (.func g) #[] #[]]:=by
  intro ι v g args hr
  obtain ⟨qw,aZ,aT,r1,oL,bF,rfl,gl,lk⟩:=hr
  have lk:bF=[]:=lk
  subst lk
  obtain ⟨xs,ys,rfl,q1,dn⟩:=gl
  have q1:xs.toList=[]:=q1
  have dn:ys.toList=[]:=dn
  have q1:xs= #[]:=by rw [←Array.toArray_toList (xs:=xs),q1]
  have dn:ys= #[]:=by rw [←Array.toArray_toList (xs:=ys),dn]
  subst q1;subst dn
  exact ⟨qw,r1,by rw [←Array.toArray_toList (xs:=args),aT]⟩
 intro f vs h
 unfold pD
 split
 · rename_i g hf
   have hf:f=f0:=Nat.eq_of_beq_eq_true hf
   subst hf
   by_cases hg:g=fz
   · subst hg
     rw [if_pos rfl]
     refine ⟨Nat.le_refl _,fun _=>⟨hb,fun ι w args dy _ hr=> ?_⟩⟩
     obtain ⟨qw,r1,rfl⟩:=Si hr
     have r1:qw= .slice none 0 0:=r1
     subst r1
     refine (h0 none 0 w).mono fun e w' he=> ?_
     obtain ⟨rfl,rfl⟩:=he
     exact ⟨ι,dL.refl dy,⟨#[],rfl,rfl⟩⟩
   · rw [if_neg hg];exact ⟨trivial,fun h=>absurd rfl h⟩
 · rename_i b o n cap g hf
   have hf:f=f0:=Nat.eq_of_beq_eq_true hf
   subst hf
   by_cases hg:g=fz
   rotate_left
   · rw [if_neg hg];exact ⟨trivial,fun h=>absurd rfl h⟩
   subst hg
   rw [if_pos rfl]
   unfold H3
   cases au:h.load b o (n * k) with
   |none=>exact ⟨trivial,fun h=>absurd rfl h⟩
   |some l=>
    simp only
    by_cases aC:(nY k n l).all uh=true∧ui (pC (nY k n l))=true∧n<4294967296∧0<k
    rotate_left
    · rw [if_neg aC];exact ⟨trivial,fun h=>absurd rfl h⟩
    rw [if_pos aC]
    obtain ⟨Bf,uf,aiX,hk⟩:=aC
    refine ⟨yi (Nat.le_refl _),fun bO=>⟨hb,fun ι w args dy _ hr=> ?_⟩⟩
    obtain ⟨qw,r1,rfl⟩:=Si hr
    obtain ⟨B,a,c,bW,rfl,hj⟩:=r1
    rw [Aj _ _ _ _ _ _ _ dy.sm (dy.oD bW)] at bO ⊢
    cases e5:oz h b o (n * k) (pC (nY k n l)).flatten with
    |none=>rw [e5] at bO;exact absurd rfl bO
    |some h1=>
     show Calls P f _ w (sv ι h w (.ok (.dD []) h1))
     obtain ⟨xs,xZ,jG,nK,hcell⟩:=Ag dy bW au
     obtain ⟨T,tI,bu,dH,gC,gY⟩:=Se hk (by rw [←jG.length,xZ]) Bf jG nK
     rw [bu] at e5 uf
     have hnd:=ab3 uf
     rw [H4] at e5
     by_cases wu:n=0
     · subst wu
       rw [Nat.zero_mul] at e5
       cases F6 e5
       refine (h0 (some a) c w).mono fun e w' he=> ?_
       obtain ⟨rfl,rfl⟩:=he
       exact ⟨ι,dL.refl dy,⟨#[],rfl,rfl⟩⟩
     · have Ee:=wE hj (by omega)
       subst Ee
       have Gk:n * k≠0:=Nat.mul_ne_zero wu (by omega)
       have MN:∀t:e7,t∈fT T→cE ι (e7.v t) (e7.x t)∧(e7.x t).length=k∧∀x∈e7.x t,x.oneCell'=true:=fun t ht=>gY t ((rJ T).mem_iff.1 ht)
       have ab5:(fT T).length=n:=by rw [(rJ T).length_eq,tI]
       have Ev:((fT T).map e7.x).flatten.length=n * k:=by rw [Sg fun t ht=>(MN t ht).2.1,ab5]
       have p4:=Sf (ι:=ι) (T:=fT T) fun t ht=>(MN t ht).1
       have Sj:((fT T).map e7.v).flatten.length=n * k:=by rw [←p4.length,Ev]
       have Sk:∀x∈((fT T).map e7.x).flatten,x.oneCell'=true:=by
        intro x hx
        obtain ⟨r,hr,jG⟩:=List.mem_flatten.1 hx
        obtain ⟨t,ht,rfl⟩:=List.mem_map.1 hr
        exact (MN t ht).2.2 x jG
       obtain ⟨aO,lh,jR,dP,jS,F7,F8,Ak,aat,hle,ec,J7,aau,u1⟩:=J6 Gk e5 Sj (dy.oD bW) dy.sm
       have dA:=dy.lQ b (dy.oD bW) (by simp [dP])
       have Bh:=(dy.obj b B aO bW dP dA).cells jS
       obtain ⟨cs,el,fr,q1,dn,ea,eL,iE,hC⟩:=Bh
       have hH:Sort.Holds id w B.c (B.off+o) xs.toArray:=by
        intro j aV
        have aV:j<xs.length:=by simpa using aV
        refine ⟨?_, ?_⟩
        · have:=hcell j xs[j] (List.getElem?_eq_getElem aV)
          rw [this];simp [aV]
        · have fB:=dn.at_ (k:=B.off+o+j) (by omega) (by omega) (by omega)
          simp only [World.frozen?,q1]
          simp;omega
       obtain ⟨w1,cH,c6,gI,nc,_⟩:=CI (P:=P) dy bW e5 Sj p4 Sk
       have jt:=run_storeCells_cells (P:=P) B.c (B.off+o) ((fT T).map e7.x).flatten 0 w (fun j aV=>by
         have aV:j<xs.length:=by rw [Ev] at aV;omega
         have:=(hH j (by simpa using aV)).1
         simp only [Nat.add_zero]
         rw [this];rfl) (fun j aV=>by
         have aV:j<xs.length:=by rw [Ev] at aV;omega
         exact (hH j (by simpa using aV)).2) Sk
       have nd:w1=w.setCells B.c (B.off+o) ((fT T).map e7.x).flatten:=by
        have:=cH.symm.trans jt
        simpa using this
       have ex:(T.map fun t:e7=>(t.1,t.2.2)).map (fun r=>encStr r.1::r.2)=T.map e7.x:=by rw [List.map_map];rfl
       have es:((fT (T.map fun t:e7=>(t.1,t.2.2))).map fun r=>encStr r.1::r.2)=(fT T).map e7.x:=by
        rw [xj (fun p:List V×List Value=>p.2),List.map_map];rfl
       have:=ax B.c (B.off+o) c (T.map fun t:e7=>(t.1,t.2.2)) w (fun r hr=>by
        obtain ⟨t,ht,rfl⟩:=List.mem_map.1 hr
        obtain ⟨_,g2,g3⟩:=gY t ht
        exact ⟨g2,fun v aE=>g3 v (List.mem_cons_of_mem _ aE)⟩) (by rw [List.map_map];exact hnd) (by rw [ex,←gC];exact hH) (dy.lb b B bW) (by rw [List.length_map,tI];omega)
       rw [List.length_map,tI,es] at this
       refine this.mono fun e w' he=> ?_
       obtain ⟨rfl,m,os,rfl⟩:=he
       have lS:=CG B.c ((fT T).map e7.x).flatten (B.off+o) w
       generalize aiY:((fT T).map e7.x).flatten=Ew at *
       have heap:∀k,k<w.heap.size→(grow (putRow id (Sort.ahead w m) B.c (B.off+o) Ew.toArray) os).heap[k]? =w1.heap[k]? :=by
        intro k hk
        show ((putRow id (Sort.ahead w m) B.c (B.off+o) Ew.toArray).heap++os)[k]? =_
        rw [Array.getElem?_append_left (by simpa using hk)]
        show (w.heap.modify B.c (onCells (putCells id (B.off+o) Ew.toArray)))[k]? =_
        rw [Array.getElem?_modify,nd]
        by_cases ub:B.c=k
        · subst ub
          obtain ⟨mU,c1,c2,cI⟩:=CH Ew (B.off+o) w cs q1 (by rw [Ev];omega)
          rw [if_pos rfl,q1,c1]
          simp only [Option.map_some,onCells]
          congr 2
          apply Array.ext_getElem?
          intro j
          rw [cI]
          unfold putCells
          rw [Array.getElem?_mapIdx]
          simp only [Ev,List.size_toArray]
          by_cases aV:B.off+o≤j∧j<B.off+o+n * k
          · rw [if_pos aV]
            have CV:j<cs.size:=by omega
            rw [Array.getElem?_eq_getElem CV]
            have nH:j - (B.off+o)<Ew.length:=by omega
            simp [aV,nH]
          · rw [if_neg aV]
            cases aav:cs[j]? with
            |none=>rfl
            |some y=>simp [if_neg aV]
        · rw [if_neg ub,CF _ _ _ _ (Ne.symm ub)]
       have aaw:w1.heap.size=w.heap.size:=by rw [nd];exact lS.2.2.2
       refine ⟨ι,dL.same (c6.world (fun k hk=>heap k (by omega)) (by simp;omega)) ⟨fun k hk hf=>(heap k hk).trans (gI.wq k hk hf),by simp,rfl,rfl,rfl⟩ nc,⟨#[],rfl,rfl⟩⟩
 · exact ⟨trivial,fun h=>absurd rfl h⟩
end
end Go.Eng
