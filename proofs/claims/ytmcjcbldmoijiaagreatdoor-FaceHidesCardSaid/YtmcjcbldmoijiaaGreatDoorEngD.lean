/- Part of a proof of a law: rules of an evaluator, contracts, plain laws. No condition of its own. -/
import Derived.Test.YtmcjcbldmoijiaaGreatDoorEngC
import Derived.Shelf.Sort.Plain
import Derived.Shelf.Slices.In.SortNone
set_option linter.unusedVariables false
set_option linter.unusedSimpArgs false
namespace Go.Eng
noncomputable section
open Go.Sort Go.Proofs
def xK (a b:V):Bool:= @V.rec (fun _=>V→Bool) (fun _=>Unit)
 (fun _=>false) (fun _ _=>false) (fun _ _ _=>false) (fun n x b=> @V.rec (fun _=>Bool) (fun _=>Unit)
   false (fun _=>false) (fun _ _=>false) (fun m y=>pZ (gy n x) (gy m y)) false (fun _ _=>false) false (fun _ _ _ _=>false) false (fun _=>false) (fun _ _ _ _ _=>false) false (fun _ _ _=>false) false (fun _ _=>false) (fun _ _=>false) () (fun _ _ _ _=>()) b)
 (fun _=>false) (fun _ _ _=>false) (fun _=>false) (fun _ _ _ _ _=>false) (fun _=>false) (fun _ _=>false) (fun _ _ _ _ _ _=>false) (fun _=>false) (fun _ _ _ _=>false) (fun _=>false) (fun _ _ _=>false) (fun _ _ _=>false)
 () (fun _ _ _ _=>()) a b
def FT (v:V) (l:List V):List V:= @List.rec V (fun _=>List V) [v] (fun u l bm=>Bool.rec (v::u::l) (u::bm) (xK u v)) l
def mW (l:List V):List V:= @List.rec V (fun _=>List V) [] (fun v _ bm=>FT v bm) l
def ox (l:List V):Bool:= @List.rec V (fun _=>Bool) true (fun v _ bm=>Option.rec false (fun _=>bm) v.q4) l
def s0 (f0:Nat):Nat→List V→ae→a7:=fun f args h=>match f.beq f0,args with
 |true,[.U]=> .ok (.dh []) h
 |true,[.au b o n _]=>Option.rec .bad (fun l=>Bool.rec .bad (h.dB b o n (mW l) .bad fun h=> .ok (.dh []) h) ((ox l).and (n.blt 4294967296))) (h.load b o n)
 |_,_=> .bad
def gF (l:List UInt8):V:= .str l.length (enc l)
def rH (v:List UInt8):List (List UInt8)→List (List UInt8)
 |[]=>[v]
 |u::l=>if u<v then u::rH v l else v::u::l
def iz:List (List UInt8)→List (List UInt8)
 |[]=>[]
 |v::l=>rH v (iz l)
theorem FU (a b:List UInt8):xK (gF a) (gF b)=Op.bytesLess a b:=by
 show pZ (gy _ _) (gy _ _)=_
 rw [qg,qg,y9]
theorem xL:∀(a b:List UInt8),Op.bytesLess a b=decide (a<b)
 |[],[]=>by simp [Op.bytesLess]
 |[],_::_=>by simp [Op.bytesLess]
 |_::_,[]=>by simp [Op.bytesLess]
 |x::a,y::b=>by
  unfold Op.bytesLess
  rw [xL a b,Bool.eq_iff_iff]
  simp [List.cons_lt_cons_iff]
theorem Pj (v:List UInt8):∀l:List (List UInt8),FT (gF v) (l.map gF)=(rH v l).map gF
 |[]=>rfl
 |u::l=>by
  show (Bool.rec (gF v::gF u::l.map gF) (gF u::FT (gF v) (l.map gF)) (xK (gF u) (gF v)):List V)=_
  rw [FU,xL,Pj v l]
  by_cases h:u<v
  · rw [show rH v (u::l)=u::rH v l from if_pos h];simp [h]
  · rw [show rH v (u::l)=v::u::l from if_neg h];simp [h]
theorem Kf:∀l:List (List UInt8),mW (l.map gF)=(iz l).map gF
 |[]=>rfl
 |v::l=>by
  show FT (gF v) (mW (l.map gF))=_
  rw [Kf l,Pj];rfl
theorem Kg (v:List UInt8):∀l,(rH v l).Perm (v::l)
 |[]=>List.Perm.refl _
 |u::l=>by
  unfold rH
  by_cases h:u<v
  · rw [if_pos h];exact (List.Perm.cons u (Kg v l)).trans (List.Perm.swap ..)
  · rw [if_neg h]
theorem uv:∀l,(iz l).Perm l
 |[]=>List.Perm.refl _
 |v::l=>(Kg v _).trans (List.Perm.cons v (uv l))
theorem Pk (v:List UInt8):∀l:List (List UInt8),l.Pairwise (·≤·)→(rH v l).Pairwise (·≤·)
 |[],_=>by simp [rH]
 |u::l,h=>by
  unfold rH
  by_cases hu:u<v
  · rw [if_pos hu]
    refine List.pairwise_cons.2 ⟨fun x hx=> ?_,Pk v l (List.pairwise_cons.1 h).2⟩
    rcases List.mem_cons.1 ((Kg v l).mem_iff.1 hx) with rfl|hx
    · exact List.le_of_lt hu
    · exact (List.pairwise_cons.1 h).1 x hx
  · rw [if_neg hu]
    have CA:v≤u:=hu
    refine List.pairwise_cons.2 ⟨fun x hx=> ?_,h⟩
    rcases List.mem_cons.1 hx with rfl|hx
    · exact CA
    · exact List.le_trans CA ((List.pairwise_cons.1 h).1 x hx)
theorem Kh:∀l:List (List UInt8),(iz l).Pairwise (·≤·)
 |[]=>List.Pairwise.nil
 |v::l=>Pk v _ (Kh l)
theorem YN:∀{a b:List (List UInt8)},a.Perm b→a.Pairwise (·≤·)→b.Pairwise (·≤·)→a=b:=by
 intro a b p ha hb
 exact p.eq_of_pairwise (fun x y _ _ h1 h2=>List.le_antisymm h1 h2) ha hb
theorem YO (l:List (List UInt8)):l.mergeSort (fun x y=>decide (x≤y))=iz l:=by
 refine YN ((List.mergeSort_perm l _).trans (uv l).symm) ?_ (Kh l)
 have:=List.pairwise_mergeSort (le:=fun x y:List UInt8=>decide (x≤y)) (fun a b c h1 h2=>by simp at h1 h2 ⊢;exact List.le_trans h1 h2) (fun a b=>by simp;exact List.le_total a b) l
 exact this.imp fun h=>by simpa using h
theorem Pl {ι:aY}:∀{l:List V} {xs:List Value},ox l=true→ch ι l xs→∃ss:List (List UInt8),l=ss.map gF∧xs=ss.map encStr
 |[],xs,_,hr=>⟨[],rfl,by simpa [ch] using hr⟩
 |v::l,xs,h,hr=>by
  obtain ⟨x,xs,rfl,hx,hr⟩:=hr
  have h:(Option.rec false (fun _=>ox l) v.q4:Bool)=true:=h
  cases v<;>first|(cases h;done)|skip
  rename_i n cZ
  obtain ⟨ss,aS,bl⟩:=Pl (l:=l) (xs:=xs) h hr
  obtain ⟨s,rfl,rfl,rfl⟩:=hx
  refine ⟨s.data.toList::ss,by rw [aS];rfl,by rw [bl];simp [encStr]⟩
theorem Pm {ι:aY}:∀ss:List (List UInt8),ch ι (ss.map gF) (ss.map encStr)
 |[]=>rfl
 |s::ss=>⟨_,_,rfl,⟨_,rfl,by show s.toArray.toList.length=_;simp,by show enc s.toArray.toList=_;simp⟩,Pm ss⟩
theorem YP {P:Program} {f0:Nat} (hb:om P f0)
  (av:∀(b7 off cap:Nat) (ss:List (List UInt8)) (w:World),Sort.Holds encStr w b7 off ss.toArray→b7<w.heap.size→ss.length<4611686018427387904→
    Calls P f0 #[.slice (some ⟨b7,off,none⟩) ss.length cap] w fun e w'=>e= .returned (.tuple #[])∧∃n os,w'=grow (putRow encStr (Sort.ahead w n) b7 off (ss.mergeSort fun x y=>decide (x≤y)).toArray) os)
  (h0:∀(p:Option Addr) (cap:Nat) (w:World),Calls P f0 #[.slice p 0 cap] w fun e w'=>e= .returned (.tuple #[])∧w'=w):lC P (s0 f0):=by
 intro f vs h
 unfold s0
 split
 · rename_i hf
   have hf:f=f0:=Nat.eq_of_beq_eq_true hf
   subst hf
   refine ⟨Nat.le_refl _,fun _=>⟨hb,fun ι w args g _ hr=> ?_⟩⟩
   obtain ⟨pA,aW,aS,r1,fI⟩:=hr
   have fI:aW=[]:=fI
   subst fI
   have r1:pA= .slice none 0 0:=r1
   subst r1
   have ha:args= #[.slice none 0 0]:=by rw [←Array.toArray_toList (xs:=args),aS]
   rw [ha]
   refine (h0 none 0 w).mono fun e w' he=> ?_
   obtain ⟨rfl,rfl⟩:=he
   exact ⟨ι,dp.refl g,⟨#[],rfl,rfl⟩⟩
 · rename_i b o n cap hf
   have hf:f=f0:=Nat.eq_of_beq_eq_true hf
   subst hf
   cases ar:h.load b o n with
   |none=>exact ⟨trivial,fun h=>absurd rfl h⟩
   |some l=>
    show a7.next h (Bool.rec .bad (h.dB b o n (mW l) .bad fun h=> .ok (.dh []) h) ((ox l).and (n.blt 4294967296)):a7)∧((Bool.rec .bad (h.dB b o n (mW l) .bad fun h=> .ok (.dh []) h) ((ox l).and (n.blt 4294967296)):a7)≠.bad→_∧∀ι w (args:Array Value),Good ι h w→a7.free ι h (Bool.rec .bad (h.dB b o n (mW l) .bad fun h=> .ok (.dh []) h) ((ox l).and (n.blt 4294967296)):a7)→ch ι _ args.toList→Calls P f args w (rp ι h w (Bool.rec .bad (h.dB b o n (mW l) .bad fun h=> .ok (.dh []) h) ((ox l).and (n.blt 4294967296)):a7)))
    cases ay:(ox l).and (n.blt 4294967296) with
    |false=>exact ⟨trivial,fun h=>absurd rfl h⟩
    |true=>
     have zL:ox l=true∧n<4294967296:=by
      cases h1:ox l<;>cases h2:n.blt 4294967296<;>rw [h1,h2] at ay<;>first|(cases ay;done)|skip
      exact ⟨rfl,by rw [fY] at h2;simpa using h2⟩
     show a7.next h (h.dB b o n (mW l) .bad fun h=> .ok (.dh []) h)∧((h.dB b o n (mW l) .bad fun h=>a7.ok (.dh []) h)≠.bad→_∧∀ι w (args:Array Value),Good ι h w→a7.free ι h (h.dB b o n (mW l) .bad fun h=> .ok (.dh []) h)→ch ι _ args.toList→Calls P f args w (rp ι h w (h.dB b o n (mW l) .bad fun h=> .ok (.dh []) h)))
     refine ⟨w9 (Nat.le_refl _),fun bG=>⟨hb,fun ι w args g _ hr=> ?_⟩⟩
     obtain ⟨pA,aW,aS,r1,fI⟩:=hr
     have fI:aW=[]:=fI
     subst fI
     obtain ⟨B,a,c,bN,rfl,gD⟩:=r1
     have ha:args= #[.slice (some a) n c]:=by rw [←Array.toArray_toList (xs:=args),aS]
     rw [ha]
     rw [y2 _ _ _ _ _ _ _ g.rk (g.nG bN)] at bG ⊢
     cases eD:nC h b o n (mW l) with
     |none=>rw [eD] at bG;exact absurd rfl bG
     |some h1=>
      show Calls P f _ w (rp ι h w (.ok (.dh []) h1))
      obtain ⟨xs,wR,iU,mK,hcell⟩:=yZ g bN ar
      obtain ⟨ss,rfl,rfl⟩:=Pl zL.1 iU
      rw [Kf] at eD
      have Pn:ss.length=n:=by simpa using wR
      by_cases vb:n=0
      · subst vb
        cases Ef eD
        refine (h0 (some a) c w).mono fun e w' he=> ?_
        obtain ⟨rfl,rfl⟩:=he
        exact ⟨ι,dp.refl g,⟨#[],rfl,rfl⟩⟩
      · have CB:=vl gD (by omega)
        subst CB
        have zM:(iz ss).length=n:=by rw [(uv ss).length_eq,Pn]
        obtain ⟨aG,kx,ji,dj,jj,Eg,Eh,y3,YQ,hle,dC,H8,YR,hk⟩:=H7 vb eD (by simpa using zM) (g.nG bN) g.rk
        have de:=g.kY b (g.nG bN) (by simp [dj])
        have zN:=(g.obj b B aG bN dj de).cells jj
        obtain ⟨cs,el,fr,q1,c0,dG,ek,hY,gG⟩:=zN
        have hH:Sort.Holds encStr w B.c (B.off+o) ss.toArray:=by
         intro j aR
         have aR:j<ss.length:=by simpa using aR
         refine ⟨?_, ?_⟩
         · have:=hcell j (encStr ss[j]) (by simp [aR])
           rw [this];simp [aR]
         · have e2:=c0.at_ (k:=B.off+o+j) (by omega) (by omega) (by omega)
           simp only [World.frozen?,q1]
           simp;omega
        obtain ⟨w1,cu,cB,gg,mf,_⟩:=Bi (P:=P) g bN eD (by simpa using zM) (Pm (iz ss)) (by
         intro x hx
         obtain ⟨s,_,rfl⟩:=List.mem_map.1 hx
         rfl)
        have iI:=run_storeCells_cells (P:=P) B.c (B.off+o) ((iz ss).map encStr) 0 w (fun j aR=>by
          have aR:j<n:=by simpa [zM] using aR
          have:=(hH j (by simp;omega)).1
          simp only [Nat.add_zero]
          rw [this];rfl) (fun j aR=>by
          have aR:j<n:=by simpa [zM] using aR
          exact (hH j (by simp;omega)).2) (by
          intro x hx
          obtain ⟨s,_,rfl⟩:=List.mem_map.1 hx
          rfl)
        have mg:w1=w.setCells B.c (B.off+o) ((iz ss).map encStr):=by
         have:=cu.symm.trans iI
         simpa using this
        have:=av B.c (B.off+o) c ss w hH (g.kr b B bN) (by omega)
        rw [Pn] at this
        refine this.mono fun e w' he=> ?_
        obtain ⟨rfl,m,os,rfl⟩:=he
        rw [YO]
        have kZ:=Bg B.c ((iz ss).map encStr) (B.off+o) w
        have heap:∀k,k<w.heap.size→(grow (putRow encStr (Sort.ahead w m) B.c (B.off+o) (iz ss).toArray) os).heap[k]? =w1.heap[k]? :=by
         intro k hk
         show ((putRow encStr (Sort.ahead w m) B.c (B.off+o) (iz ss).toArray).heap++os)[k]? =_
         rw [Array.getElem?_append_left (by simpa using hk)]
         show (w.heap.modify B.c (onCells (putCells encStr (B.off+o) (iz ss).toArray)))[k]? =_
         rw [Array.getElem?_modify,mg]
         by_cases s3:B.c=k
         · subst s3
           obtain ⟨l7,c1,c2,cG⟩:=Bh ((iz ss).map encStr) (B.off+o) w cs q1 (by simp [zM];omega)
           rw [if_pos rfl,q1,c1]
           simp only [Option.map_some,onCells]
           congr 2
           apply Array.ext_getElem?
           intro j
           rw [cG]
           unfold putCells
           rw [Array.getElem?_mapIdx]
           simp only [List.length_map,zM,List.size_toArray]
           by_cases aR:B.off+o≤j∧j<B.off+o+n
           · rw [if_pos aR]
             have Bu:j<cs.size:=by omega
             rw [Array.getElem?_eq_getElem Bu]
             have mH:j - (B.off+o)<(iz ss).length:=by omega
             simp [aR,mH]
           · rw [if_neg aR]
             cases YS:cs[j]? with
             |none=>rfl
             |some y=>simp [if_neg aR]
         · rw [if_neg s3,Bf _ _ _ _ (Ne.symm s3)]
        have YT:w1.heap.size=w.heap.size:=by rw [mg];exact kZ.2.2.2
        refine ⟨ι,dp.same (cB.world (fun k hk=>heap k (by omega)) (by simp;omega)) ⟨fun k hk hf=>(heap k hk).trans (gg.va k hk hf),by simp,rfl,rfl,rfl⟩ mf,⟨#[],rfl,rfl⟩⟩
 · exact ⟨trivial,fun h=>absurd rfl h⟩
end
end Go.Eng
