/- Part of a proof of a law: rules of an evaluator, contracts, plain laws. No condition of its own. -/
import Derived.Test.YtjgmahbgfbkhnaaEngE
import Derived.Shelf.Sort.Plain
import Derived.Shelf.Slices.In.SortNone
set_option linter.unusedVariables false
set_option linter.unusedSimpArgs false
namespace Go.Eng
noncomputable section
open Go.Sort Go.Proofs
def Kn (a b:V):Bool:= @V.rec (fun _=>V→Bool) (fun _=>Unit)
 (fun _=>false) (fun _ _=>false) (fun _ _ _=>false) (fun n x b=> @V.rec (fun _=>Bool) (fun _=>Unit)
   false (fun _=>false) (fun _ _=>false) (fun m y=>nN (bL n x) (bL m y)) false (fun _ _=>false) false (fun _ _ _ _=>false) false (fun _=>false) (fun _ _ _ _ _=>false) false (fun _ _ _=>false) false (fun _ _=>false) (fun _ _=>false) () (fun _ _ _ _=>()) b)
 (fun _=>false) (fun _ _ _=>false) (fun _=>false) (fun _ _ _ _ _=>false) (fun _=>false) (fun _ _=>false) (fun _ _ _ _ _ _=>false) (fun _=>false) (fun _ _ _ _=>false) (fun _=>false) (fun _ _ _=>false) (fun _ _ _=>false)
 () (fun _ _ _ _=>()) a b
def insV (v:V) (l:List V):List V:= @List.rec V (fun _=>List V) [v] (fun u l ih=>Bool.rec (v::u::l) (u::ih) (Kn u v)) l
def sortV (l:List V):List V:= @List.rec V (fun _=>List V) [] (fun v _ ih=>insV v ih) l
def mH (l:List V):Bool:= @List.rec V (fun _=>Bool) true (fun v _ ih=>Option.rec false (fun _=>ih) v.qd) l
def ja (f0:Nat):Nat→List V→Heap→OR:=fun f args h=>match f.beq f0,args with
 |true,[.slN]=> .ok (.tup []) h
 |true,[.sl b o n _]=>Option.rec .bad (fun l=>Bool.rec .bad (h.bA b o n (sortV l) .bad fun h=> .ok (.tup []) h) ((mH l).and (n.blt 4294967296))) (h.load b o n)
 |_,_=> .bad
theorem qN {a b:Nat→List V→Heap→OR} {f:Nat} {l:List V} {h:Heap} {r:OR} (e:a f l h=r) (hr:r≠.bad):xE a b f l h=r:=by
 unfold xE;rw [e];cases r<;>first|rfl|exact absurd rfl hr
theorem pq {a b:Nat→List V→Heap→OR} {f:Nat} {l:List V} {h:Heap} (e:a f l h= .bad):xE a b f l h=b f l h:=by
 unfold xE;rw [e]
def sV (l:List UInt8):V:= .str l.length (enc l)
def xG (v:List UInt8):List (List UInt8)→List (List UInt8)
 |[]=>[v]
 |u::l=>if u<v then u::xG v l else v::u::l
def gI:List (List UInt8)→List (List UInt8)
 |[]=>[]
 |v::l=>xG v (gI l)
theorem Ko (a b:List UInt8):Kn (sV a) (sV b)=Op.bytesLess a b:=by
 show nN (bL _ _) (bL _ _)=_
 rw [dM,dM,mh]
theorem lT:∀(a b:List UInt8),Op.bytesLess a b=decide (a<b)
 |[],[]=>by simp [Op.bytesLess]
 |[],_::_=>by simp [Op.bytesLess]
 |_::_,[]=>by simp [Op.bytesLess]
 |x::a,y::b=>by
  unfold Op.bytesLess
  rw [lT a b,Bool.eq_iff_iff]
  simp [List.cons_lt_cons_iff]
theorem FY (v:List UInt8):∀l:List (List UInt8),insV (sV v) (l.map sV)=(xG v l).map sV
 |[]=>rfl
 |u::l=>by
  show (Bool.rec (sV v::sV u::l.map sV) (sV u::insV (sV v) (l.map sV)) (Kn (sV u) (sV v)):List V)=_
  rw [Ko,lT,FY v l]
  by_cases h:u<v
  · rw [show xG v (u::l)=u::xG v l from if_pos h];simp [h]
  · rw [show xG v (u::l)=v::u::l from if_neg h];simp [h]
theorem xH:∀l:List (List UInt8),sortV (l.map sV)=(gI l).map sV
 |[]=>rfl
 |v::l=>by
  show insV (sV v) (sortV (l.map sV))=_
  rw [xH l,FY];rfl
theorem tJ (v:List UInt8):∀l,(xG v l).Perm (v::l)
 |[]=>List.Perm.refl _
 |u::l=>by
  unfold xG
  by_cases h:u<v
  · rw [if_pos h];exact (List.Perm.cons u (tJ v l)).trans (List.Perm.swap ..)
  · rw [if_neg h]
theorem iH:∀l,(gI l).Perm l
 |[]=>List.Perm.refl _
 |v::l=>(tJ v _).trans (List.Perm.cons v (iH l))
theorem uM (v:List UInt8):∀l:List (List UInt8),l.Pairwise (·≤·)→(xG v l).Pairwise (·≤·)
 |[],_=>by simp [xG]
 |u::l,h=>by
  unfold xG
  by_cases hu:u<v
  · rw [if_pos hu]
    refine List.pairwise_cons.2 ⟨fun x hx=> ?_,uM v l (List.pairwise_cons.1 h).2⟩
    rcases List.mem_cons.1 ((tJ v l).mem_iff.1 hx) with rfl|hx
    · exact List.le_of_lt hu
    · exact (List.pairwise_cons.1 h).1 x hx
  · rw [if_neg hu]
    have hvu:v≤u:=hu
    refine List.pairwise_cons.2 ⟨fun x hx=> ?_,h⟩
    rcases List.mem_cons.1 hx with rfl|hx
    · exact hvu
    · exact List.le_trans hvu ((List.pairwise_cons.1 h).1 x hx)
theorem nG:∀l:List (List UInt8),(gI l).Pairwise (·≤·)
 |[]=>List.Pairwise.nil
 |v::l=>uM v _ (nG l)
theorem xI:∀{a b:List (List UInt8)},a.Perm b→a.Pairwise (·≤·)→b.Pairwise (·≤·)→a=b:=by
 intro a b p ha hb
 exact p.eq_of_pairwise (fun x y _ _ h1 h2=>List.le_antisymm h1 h2) ha hb
theorem Cm (l:List (List UInt8)):l.mergeSort (fun x y=>decide (x≤y))=gI l:=by
 refine xI ((List.mergeSort_perm l _).trans (iH l).symm) ?_ (nG l)
 have:=List.pairwise_mergeSort (le:=fun x y:List UInt8=>decide (x≤y)) (fun a b c h1 h2=>by simp at h1 h2 ⊢;exact List.le_trans h1 h2) (fun a b=>by simp;exact List.le_total a b) l
 exact this.imp fun h=>by simpa using h
theorem ze {ι:Inj}:∀{l:List V} {xs:List Value},mH l=true→aN ι l xs→∃ss:List (List UInt8),l=ss.map sV∧xs=ss.map encStr
 |[],xs,_,hr=>⟨[],rfl,by simpa [aN] using hr⟩
 |v::l,xs,h,hr=>by
  obtain ⟨x,xs,rfl,hx,hr⟩:=hr
  have h:(Option.rec false (fun _=>mH l) v.qd:Bool)=true:=h
  cases v<;>first|(cases h;done)|skip
  rename_i n x0
  obtain ⟨ss,e1,e2⟩:=ze (l:=l) (xs:=xs) h hr
  obtain ⟨s,rfl,rfl,rfl⟩:=hx
  refine ⟨s.data.toList::ss,by rw [e1];rfl,by rw [e2];simp [encStr]⟩
theorem Cn {ι:Inj}:∀ss:List (List UInt8),aN ι (ss.map sV) (ss.map encStr)
 |[]=>rfl
 |s::ss=>⟨_,_,rfl,⟨_,rfl,by show s.toArray.toList.length=_;simp,by show enc s.toArray.toList=_;simp⟩,Cn ss⟩
theorem Co {P:Program} {f0:Nat} (hb:fF P f0)
  (hc:∀(blk off cap:Nat) (ss:List (List UInt8)) (w:World),Sort.Holds encStr w blk off ss.toArray→blk<w.heap.size→ss.length<4611686018427387904→
    Calls P f0 #[.slice (some ⟨blk,off,none⟩) ss.length cap] w fun e w'=>e= .returned (.tuple #[])∧∃n os,w'=grow (putRow encStr (Sort.ahead w n) blk off (ss.mergeSort fun x y=>decide (x≤y)).toArray) os)
  (h0:∀(p:Option Addr) (cap:Nat) (w:World),Calls P f0 #[.slice p 0 cap] w fun e w'=>e= .returned (.tuple #[])∧w'=w):gZ P (ja f0):=by
 intro f vs h
 unfold ja
 split
 · rename_i hf
   have hf:f=f0:=Nat.eq_of_beq_eq_true hf
   subst hf
   refine ⟨Nat.le_refl _,fun _=>⟨hb,fun ι w args g hr=> ?_⟩⟩
   obtain ⟨y1,l1,e1,r1,r2⟩:=hr
   have r2:l1=[]:=r2
   subst r2
   have r1:y1= .slice none 0 0:=r1
   subst r1
   have ha:args= #[.slice none 0 0]:=by rw [←Array.toArray_toList (xs:=args),e1]
   rw [ha]
   refine (h0 none 0 w).mono fun e w' he=> ?_
   obtain ⟨rfl,rfl⟩:=he
   exact ⟨ι,Chg.refl g,⟨#[],rfl,rfl⟩⟩
 · rename_i b o n cap hf
   have hf:f=f0:=Nat.eq_of_beq_eq_true hf
   subst hf
   cases hl:h.load b o n with
   |none=>exact ⟨trivial,fun h=>absurd rfl h⟩
   |some l=>
    show OR.next h (Bool.rec .bad (h.bA b o n (sortV l) .bad fun h=> .ok (.tup []) h) ((mH l).and (n.blt 4294967296)):OR)∧((Bool.rec .bad (h.bA b o n (sortV l) .bad fun h=> .ok (.tup []) h) ((mH l).and (n.blt 4294967296)):OR)≠.bad→_∧∀ι w (args:Array Value),Good ι h w→aN ι _ args.toList→Calls P f args w (lS ι h w (Bool.rec .bad (h.bA b o n (sortV l) .bad fun h=> .ok (.tup []) h) ((mH l).and (n.blt 4294967296)):OR)))
    cases hs:(mH l).and (n.blt 4294967296) with
    |false=>exact ⟨trivial,fun h=>absurd rfl h⟩
    |true=>
     have hs1:mH l=true∧n<4294967296:=by
      cases h1:mH l<;>cases h2:n.blt 4294967296<;>rw [h1,h2] at hs<;>first|(cases hs;done)|skip
      exact ⟨rfl,by rw [eH] at h2;simpa using h2⟩
     show OR.next h (h.bA b o n (sortV l) .bad fun h=> .ok (.tup []) h)∧((h.bA b o n (sortV l) .bad fun h=>OR.ok (.tup []) h)≠.bad→_∧∀ι w (args:Array Value),Good ι h w→aN ι _ args.toList→Calls P f args w (lS ι h w (h.bA b o n (sortV l) .bad fun h=> .ok (.tup []) h)))
     refine ⟨iJ (Nat.le_refl _),fun hne=>⟨hb,fun ι w args g hr=> ?_⟩⟩
     obtain ⟨y1,l1,e1,r1,r2⟩:=hr
     have r2:l1=[]:=r2
     subst r2
     obtain ⟨B,a,c,hB,rfl,hsl⟩:=r1
     have ha:args= #[.slice (some a) n c]:=by rw [←Array.toArray_toList (xs:=args),e1]
     rw [ha]
     rw [kF _ _ _ _ _ _ _ g.qg (g.bLt hB)] at hne ⊢
     cases hst:iD h b o n (sortV l) with
     |none=>rw [hst] at hne;exact absurd rfl hne
     |some h1=>
      show Calls P f _ w (lS ι h w (.ok (.tup []) h1))
      obtain ⟨xs,hxl,hxr,hx1,hcell⟩:=lZ g hB hl
      obtain ⟨ss,rfl,rfl⟩:=ze hs1.1 hxr
      rw [xH] at hst
      have hssl:ss.length=n:=by simpa using hxl
      by_cases hn0:n=0
      · subst hn0
        cases lC hst
        refine (h0 (some a) c w).mono fun e w' he=> ?_
        obtain ⟨rfl,rfl⟩:=he
        exact ⟨ι,Chg.refl g,⟨#[],rfl,rfl⟩⟩
      · have hadr:=gQ hsl (by omega)
        subst hadr
        have hsb:(gI ss).length=n:=by rw [(iH ss).length_eq,hssl]
        obtain ⟨ob,ob',h1',hob,hic,hic',hsolo,hfall,hh1,hle,hsz,hstat,hcellO,hk⟩:=vQ hn0 hst (by simpa using hsb) (g.bLt hB) g.qg
        have hbn:=g.dom b (g.bLt hB) (by simp [hob])
        have hrr:=(g.obj b B ob hB hob hbn).cells hic
        obtain ⟨cs,el,fr,q1,q2,q3,q4,q5,q6⟩:=hrr
        have hH:Sort.Holds encStr w B.c (B.off+o) ss.toArray:=by
         intro j hj
         have hj:j<ss.length:=by simpa using hj
         refine ⟨?_, ?_⟩
         · have:=hcell j (encStr ss[j]) (by simp [hj])
           rw [this];simp [hj]
         · have hno:=q2.at_ (k:=B.off+o+j) (by omega) (by omega) (by omega)
           simp only [World.frozen?,q1]
           simp;omega
        obtain ⟨w1,k1,k2,k3,k4,_⟩:=l7 (P:=P) g hB hst (by simpa using hsb) (Cn (gI ss)) (by
         intro x hx
         obtain ⟨s,_,rfl⟩:=List.mem_map.1 hx
         rfl)
        have hrun:=run_storeCells_cells (P:=P) B.c (B.off+o) ((gI ss).map encStr) 0 w (fun j hj=>by
          have hj:j<n:=by simpa [hsb] using hj
          have:=(hH j (by simp;omega)).1
          simp only [Nat.add_zero]
          rw [this];rfl) (fun j hj=>by
          have hj:j<n:=by simpa [hsb] using hj
          exact (hH j (by simp;omega)).2) (by
          intro x hx
          obtain ⟨s,_,rfl⟩:=List.mem_map.1 hx
          rfl)
        have hw1:w1=w.setCells B.c (B.off+o) ((gI ss).map encStr):=by
         have:=k1.symm.trans hrun
         simpa using this
        have:=hc B.c (B.off+o) c ss w hH (g.inH b B hB) (by omega)
        rw [hssl] at this
        refine this.mono fun e w' he=> ?_
        obtain ⟨rfl,m,os,rfl⟩:=he
        rw [Cm]
        have hsame:=jF B.c ((gI ss).map encStr) (B.off+o) w
        have heap:∀k,k<w.heap.size→(grow (putRow encStr (Sort.ahead w m) B.c (B.off+o) (gI ss).toArray) os).heap[k]? =w1.heap[k]? :=by
         intro k hk
         show ((putRow encStr (Sort.ahead w m) B.c (B.off+o) (gI ss).toArray).heap++os)[k]? =_
         rw [Array.getElem?_append_left (by simpa using hk)]
         show (w.heap.modify B.c (onCells (putCells encStr (B.off+o) (gI ss).toArray)))[k]? =_
         rw [Array.getElem?_modify,hw1]
         by_cases hkb:B.c=k
         · subst hkb
           obtain ⟨cs',c1,c2,c3⟩:=jZ ((gI ss).map encStr) (B.off+o) w cs q1 (by simp [hsb];omega)
           rw [if_pos rfl,q1,c1]
           simp only [Option.map_some,onCells]
           congr 2
           apply Array.ext_getElem?
           intro j
           rw [c3]
           unfold putCells
           rw [Array.getElem?_mapIdx]
           simp only [List.length_map,hsb,List.size_toArray]
           by_cases hj:B.off+o≤j∧j<B.off+o+n
           · rw [if_pos hj]
             have hjc:j<cs.size:=by omega
             rw [Array.getElem?_eq_getElem hjc]
             have hjl:j - (B.off+o)<(gI ss).length:=by omega
             simp [hj,hjl]
           · rw [if_neg hj]
             cases hcj:cs[j]? with
             |none=>rfl
             |some y=>simp [if_neg hj]
         · rw [if_neg hkb,jY _ _ _ _ (Ne.symm hkb)]
        have hsz1:w1.heap.size=w.heap.size:=by rw [hw1];exact hsame.2.2.2
        refine ⟨ι,Chg.same (k2.world (fun k hk=>heap k (by omega)) (by simp;omega)) ⟨fun k hk hf=>(heap k hk).trans (k3.keep k hk hf),by simp,rfl,rfl,rfl⟩ k4,⟨#[],rfl,rfl⟩⟩
 · exact ⟨trivial,fun h=>absurd rfl h⟩
end
end Go.Eng
