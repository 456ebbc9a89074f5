/- Part of a proof of a law: rules of an evaluator, contracts, plain laws. No condition of its own. -/
import Derived.Test.YtmcjcbldmoijiaaGreatDoorEngC
import Derived.Shelf.Sort.Plain
import Derived.Shelf.Slices.In.SortNone
set_option linter.unusedVariables false
set_option linter.unusedSimpArgs false
namespace Go.Eng
noncomputable section
open Go.Sort Go.Proofs
def yU (a b:V):Bool:= @V.rec (fun _=>V→Bool) (fun _=>Unit)
 (fun _=>false) (fun _ _=>false) (fun _ _ _=>false) (fun n x b=> @V.rec (fun _=>Bool) (fun _=>Unit)
   false (fun _=>false) (fun _ _=>false) (fun m y=>qX (gZ n x) (gZ m y)) false (fun _ _=>false) false (fun _ _ _ _=>false) false (fun _=>false) (fun _ _ _ _ _=>false) false (fun _ _ _=>false) false (fun _ _=>false) (fun _ _=>false) () (fun _ _ _ _=>()) b)
 (fun _=>false) (fun _ _ _=>false) (fun _=>false) (fun _ _ _ _ _=>false) (fun _=>false) (fun _ _=>false) (fun _ _ _ _ _ _=>false) (fun _=>false) (fun _ _ _ _=>false) (fun _=>false) (fun _ _ _=>false) (fun _ _ _=>false)
 () (fun _ _ _ _=>()) a b
def HE (v:V) (l:List V):List V:= @List.rec V (fun _=>List V) [v] (fun u l bt=>Bool.rec (v::u::l) (u::bt) (yU u v)) l
def nU (l:List V):List V:= @List.rec V (fun _=>List V) [] (fun v _ bt=>HE v bt) l
def pt (l:List V):Bool:= @List.rec V (fun _=>Bool) true (fun v _ bt=>Option.rec false (fun _=>bt) v.r9) l
def ua (f0:Nat):Nat→List V→ag→bg:=fun f args h=>match f.beq f0,args with
 |true,[.U]=> .ok (.dD []) h
 |true,[.av b o n _]=>Option.rec .bad (fun l=>Bool.rec .bad (h.ef b o n (nU l) .bad fun h=> .ok (.dD []) h) ((pt l).and (n.blt 4294967296))) (h.load b o n)
 |_,_=> .bad
def hB (l:List UInt8):V:= .str l.length (enc l)
def sM (v:List UInt8):List (List UInt8)→List (List UInt8)
 |[]=>[v]
 |u::l=>if u<v then u::sM v l else v::u::l
def jD:List (List UInt8)→List (List UInt8)
 |[]=>[]
 |v::l=>sM v (jD l)
theorem HF (a b:List UInt8):yU (hB a) (hB b)=Op.bytesLess a b:=by
 show qX (gZ _ _) (gZ _ _)=_
 rw [rh,rh,Ar]
theorem yV:∀(a b:List UInt8),Op.bytesLess a b=decide (a<b)
 |[],[]=>by simp [Op.bytesLess]
 |[],_::_=>by simp [Op.bytesLess]
 |_::_,[]=>by simp [Op.bytesLess]
 |x::a,y::b=>by
  unfold Op.bytesLess
  rw [yV a b,Bool.eq_iff_iff]
  simp [List.cons_lt_cons_iff]
theorem Rh (v:List UInt8):∀l:List (List UInt8),HE (hB v) (l.map hB)=(sM v l).map hB
 |[]=>rfl
 |u::l=>by
  show (Bool.rec (hB v::hB u::l.map hB) (hB u::HE (hB v) (l.map hB)) (yU (hB u) (hB v)):List V)=_
  rw [HF,yV,Rh v l]
  by_cases h:u<v
  · rw [show sM v (u::l)=u::sM v l from if_pos h];simp [h]
  · rw [show sM v (u::l)=v::u::l from if_neg h];simp [h]
theorem Md:∀l:List (List UInt8),nU (l.map hB)=(jD l).map hB
 |[]=>rfl
 |v::l=>by
  show HE (hB v) (nU (l.map hB))=_
  rw [Md l,Rh];rfl
theorem Me (v:List UInt8):∀l,(sM v l).Perm (v::l)
 |[]=>List.Perm.refl _
 |u::l=>by
  unfold sM
  by_cases h:u<v
  · rw [if_pos h];exact (List.Perm.cons u (Me v l)).trans (List.Perm.swap ..)
  · rw [if_neg h]
theorem w8:∀l,(jD l).Perm l
 |[]=>List.Perm.refl _
 |v::l=>(Me v _).trans (List.Perm.cons v (w8 l))
theorem Ri (v:List UInt8):∀l:List (List UInt8),l.Pairwise (·≤·)→(sM v l).Pairwise (·≤·)
 |[],_=>by simp [sM]
 |u::l,h=>by
  unfold sM
  by_cases hu:u<v
  · rw [if_pos hu]
    refine List.pairwise_cons.2 ⟨fun x hx=> ?_,Ri v l (List.pairwise_cons.1 h).2⟩
    rcases List.mem_cons.1 ((Me v l).mem_iff.1 hx) with rfl|hx
    · exact List.le_of_lt hu
    · exact (List.pairwise_cons.1 h).1 x hx
  · rw [if_neg hu]
    have Ed:v≤u:=hu
    refine List.pairwise_cons.2 ⟨fun x hx=> ?_,h⟩
    rcases List.mem_cons.1 hx with rfl|hx
    · exact Ed
    · exact List.le_trans Ed ((List.pairwise_cons.1 h).1 x hx)
theorem HG:∀l:List (List UInt8),(jD l).Pairwise (·≤·)
 |[]=>List.Pairwise.nil
 |v::l=>Ri v _ (HG l)
theorem aaq:∀{a b:List (List UInt8)},a.Perm b→a.Pairwise (·≤·)→b.Pairwise (·≤·)→a=b:=by
 intro a b p ha hb
 exact p.eq_of_pairwise (fun x y _ _ h1 h2=>List.le_antisymm h1 h2) ha hb
theorem aar (l:List (List UInt8)):l.mergeSort (fun x y=>decide (x≤y))=jD l:=by
 refine aaq ((List.mergeSort_perm l _).trans (w8 l).symm) ?_ (HG l)
 have:=List.pairwise_mergeSort (le:=fun x y:List UInt8=>decide (x≤y)) (fun a b c h1 h2=>by simp at h1 h2 ⊢;exact List.le_trans h1 h2) (fun a b=>by simp;exact List.le_total a b) l
 exact this.imp fun h=>by simpa using h
theorem Rj {ι:bb}:∀{l:List V} {xs:List Value},pt l=true→cE ι l xs→∃ss:List (List UInt8),l=ss.map hB∧xs=ss.map encStr
 |[],xs,_,hr=>⟨[],rfl,by simpa [cE] using hr⟩
 |v::l,xs,h,hr=>by
  obtain ⟨x,xs,rfl,hx,hr⟩:=hr
  have h:(Option.rec false (fun _=>pt l) v.r9:Bool)=true:=h
  cases v<;>first|(cases h;done)|skip
  rename_i n dk
  obtain ⟨ss,aT,bu⟩:=Rj (l:=l) (xs:=xs) h hr
  obtain ⟨s,rfl,rfl,rfl⟩:=hx
  refine ⟨s.data.toList::ss,by rw [aT];rfl,by rw [bu];simp [encStr]⟩
theorem Rk {ι:bb}:∀ss:List (List UInt8),cE ι (ss.map hB) (ss.map encStr)
 |[]=>rfl
 |s::ss=>⟨_,_,rfl,⟨_,rfl,by show s.toArray.toList.length=_;simp,by show enc s.toArray.toList=_;simp⟩,Rk ss⟩
theorem aas {P:Program} {f0:Nat} (hb:ph P f0)
  (ax:∀(cr off cap:Nat) (ss:List (List UInt8)) (w:World),Sort.Holds encStr w cr off ss.toArray→cr<w.heap.size→ss.length<4611686018427387904→
    Calls P f0 #[.slice (some ⟨cr,off,none⟩) ss.length cap] w fun e w'=>e= .returned (.tuple #[])∧∃n os,w'=grow (putRow encStr (Sort.ahead w n) cr off (ss.mergeSort fun x y=>decide (x≤y)).toArray) os)
  (h0:∀(p:Option Addr) (cap:Nat) (w:World),Calls P f0 #[.slice p 0 cap] w fun e w'=>e= .returned (.tuple #[])∧w'=w):mq P (ua f0):=by
 intro f vs h
 unfold ua
 split
 · rename_i hf
   have hf:f=f0:=Nat.eq_of_beq_eq_true hf
   subst hf
   refine ⟨Nat.le_refl _,fun _=>⟨hb,fun ι w args g _ hr=> ?_⟩⟩
   obtain ⟨qw,aZ,aT,r1,gl⟩:=hr
   have gl:aZ=[]:=gl
   subst gl
   have r1:qw= .slice none 0 0:=r1
   subst r1
   have ha:args= #[.slice none 0 0]:=by rw [←Array.toArray_toList (xs:=args),aT]
   rw [ha]
   refine (h0 none 0 w).mono fun e w' he=> ?_
   obtain ⟨rfl,rfl⟩:=he
   exact ⟨ι,dL.refl g,⟨#[],rfl,rfl⟩⟩
 · rename_i b o n cap hf
   have hf:f=f0:=Nat.eq_of_beq_eq_true hf
   subst hf
   cases au:h.load b o n with
   |none=>exact ⟨trivial,fun h=>absurd rfl h⟩
   |some l=>
    show bg.next h (Bool.rec .bad (h.ef b o n (nU l) .bad fun h=> .ok (.dD []) h) ((pt l).and (n.blt 4294967296)):bg)∧((Bool.rec .bad (h.ef b o n (nU l) .bad fun h=> .ok (.dD []) h) ((pt l).and (n.blt 4294967296)):bg)≠.bad→_∧∀ι w (args:Array Value),Good ι h w→bg.free ι h (Bool.rec .bad (h.ef b o n (nU l) .bad fun h=> .ok (.dD []) h) ((pt l).and (n.blt 4294967296)):bg)→cE ι _ args.toList→Calls P f args w (sv ι h w (Bool.rec .bad (h.ef b o n (nU l) .bad fun h=> .ok (.dD []) h) ((pt l).and (n.blt 4294967296)):bg)))
    cases aC:(pt l).and (n.blt 4294967296) with
    |false=>exact ⟨trivial,fun h=>absurd rfl h⟩
    |true=>
     have Bf:pt l=true∧n<4294967296:=by
      cases h1:pt l<;>cases h2:n.blt 4294967296<;>rw [h1,h2] at aC<;>first|(cases aC;done)|skip
      exact ⟨rfl,by rw [gG] at h2;simpa using h2⟩
     show bg.next h (h.ef b o n (nU l) .bad fun h=> .ok (.dD []) h)∧((h.ef b o n (nU l) .bad fun h=>bg.ok (.dD []) h)≠.bad→_∧∀ι w (args:Array Value),Good ι h w→bg.free ι h (h.ef b o n (nU l) .bad fun h=> .ok (.dD []) h)→cE ι _ args.toList→Calls P f args w (sv ι h w (h.ef b o n (nU l) .bad fun h=> .ok (.dD []) h)))
     refine ⟨yi (Nat.le_refl _),fun bO=>⟨hb,fun ι w args g _ hr=> ?_⟩⟩
     obtain ⟨qw,aZ,aT,r1,gl⟩:=hr
     have gl:aZ=[]:=gl
     subst gl
     obtain ⟨B,a,c,bW,rfl,hj⟩:=r1
     have ha:args= #[.slice (some a) n c]:=by rw [←Array.toArray_toList (xs:=args),aT]
     rw [ha]
     rw [Aj _ _ _ _ _ _ _ g.sm (g.oD bW)] at bO ⊢
     cases e5:oz h b o n (nU l) with
     |none=>rw [e5] at bO;exact absurd rfl bO
     |some h1=>
      show Calls P f _ w (sv ι h w (.ok (.dD []) h1))
      obtain ⟨xs,xZ,jG,nK,hcell⟩:=Ag g bW au
      obtain ⟨ss,rfl,rfl⟩:=Rj Bf.1 jG
      rw [Md] at e5
      have Rl:ss.length=n:=by simpa using xZ
      by_cases wu:n=0
      · subst wu
        cases F6 e5
        refine (h0 (some a) c w).mono fun e w' he=> ?_
        obtain ⟨rfl,rfl⟩:=he
        exact ⟨ι,dL.refl g,⟨#[],rfl,rfl⟩⟩
      · have Ee:=wE hj (by omega)
        subst Ee
        have Bg:(jD ss).length=n:=by rw [(w8 ss).length_eq,Rl]
        obtain ⟨aO,lh,jR,dP,jS,F7,F8,Ak,aat,hle,ec,J7,aau,hk⟩:=J6 wu e5 (by simpa using Bg) (g.oD bW) g.sm
        have dA:=g.lQ b (g.oD bW) (by simp [dP])
        have Bh:=(g.obj b B aO bW dP dA).cells jS
        obtain ⟨cs,el,fr,q1,dn,ea,eL,iE,hC⟩:=Bh
        have hH:Sort.Holds encStr w B.c (B.off+o) ss.toArray:=by
         intro j aV
         have aV:j<ss.length:=by simpa using aV
         refine ⟨?_, ?_⟩
         · have:=hcell j (encStr ss[j]) (by simp [aV])
           rw [this];simp [aV]
         · have fB:=dn.at_ (k:=B.off+o+j) (by omega) (by omega) (by omega)
           simp only [World.frozen?,q1]
           simp;omega
        obtain ⟨w1,cH,c6,gI,nc,_⟩:=CI (P:=P) g bW e5 (by simpa using Bg) (Rk (jD ss)) (by
         intro x hx
         obtain ⟨s,_,rfl⟩:=List.mem_map.1 hx
         rfl)
        have jt:=run_storeCells_cells (P:=P) B.c (B.off+o) ((jD ss).map encStr) 0 w (fun j aV=>by
          have aV:j<n:=by simpa [Bg] using aV
          have:=(hH j (by simp;omega)).1
          simp only [Nat.add_zero]
          rw [this];rfl) (fun j aV=>by
          have aV:j<n:=by simpa [Bg] using aV
          exact (hH j (by simp;omega)).2) (by
          intro x hx
          obtain ⟨s,_,rfl⟩:=List.mem_map.1 hx
          rfl)
        have nd:w1=w.setCells B.c (B.off+o) ((jD ss).map encStr):=by
         have:=cH.symm.trans jt
         simpa using this
        have:=ax B.c (B.off+o) c ss w hH (g.lb b B bW) (by omega)
        rw [Rl] at this
        refine this.mono fun e w' he=> ?_
        obtain ⟨rfl,m,os,rfl⟩:=he
        rw [aar]
        have lS:=CG B.c ((jD ss).map encStr) (B.off+o) w
        have heap:∀k,k<w.heap.size→(grow (putRow encStr (Sort.ahead w m) B.c (B.off+o) (jD ss).toArray) os).heap[k]? =w1.heap[k]? :=by
         intro k hk
         show ((putRow encStr (Sort.ahead w m) B.c (B.off+o) (jD ss).toArray).heap++os)[k]? =_
         rw [Array.getElem?_append_left (by simpa using hk)]
         show (w.heap.modify B.c (onCells (putCells encStr (B.off+o) (jD ss).toArray)))[k]? =_
         rw [Array.getElem?_modify,nd]
         by_cases ub:B.c=k
         · subst ub
           obtain ⟨mU,c1,c2,cI⟩:=CH ((jD ss).map encStr) (B.off+o) w cs q1 (by simp [Bg];omega)
           rw [if_pos rfl,q1,c1]
           simp only [Option.map_some,onCells]
           congr 2
           apply Array.ext_getElem?
           intro j
           rw [cI]
           unfold putCells
           rw [Array.getElem?_mapIdx]
           simp only [List.length_map,Bg,List.size_toArray]
           by_cases aV:B.off+o≤j∧j<B.off+o+n
           · rw [if_pos aV]
             have CV:j<cs.size:=by omega
             rw [Array.getElem?_eq_getElem CV]
             have nH:j - (B.off+o)<(jD ss).length:=by omega
             simp [aV,nH]
           · rw [if_neg aV]
             cases aav:cs[j]? with
             |none=>rfl
             |some y=>simp [if_neg aV]
         · rw [if_neg ub,CF _ _ _ _ (Ne.symm ub)]
        have aaw:w1.heap.size=w.heap.size:=by rw [nd];exact lS.2.2.2
        refine ⟨ι,dL.same (c6.world (fun k hk=>heap k (by omega)) (by simp;omega)) ⟨fun k hk hf=>(heap k hk).trans (gI.wq k hk hf),by simp,rfl,rfl,rfl⟩ nc,⟨#[],rfl,rfl⟩⟩
 · exact ⟨trivial,fun h=>absurd rfl h⟩
end
end Go.Eng
