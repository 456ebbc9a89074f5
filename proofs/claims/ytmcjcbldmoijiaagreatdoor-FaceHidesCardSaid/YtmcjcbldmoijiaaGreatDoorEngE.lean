/- Part of a proof of a law: rules of an evaluator, contracts, plain laws. No condition of its own. -/
import Derived.Test.YtmcjcbldmoijiaaGreatDoorEngC
set_option linter.unusedVariables false
set_option linter.unusedSimpArgs false
namespace Go.Eng
noncomputable section
def F6 (n:Nat):List V:=List.replicate n (.str 0 0)
def xS (h:ae) (n:Nat):Obj:= .cells 1 h.next 0 (n * 1) (eC 1 n 0 (F6 n) T.e)
def zR (f0:Nat):Nat→List V→ae→a7:=fun f args h=>match f.beq f0,args with
 |true,[.U, .int .i64 (.ofNat 0)]=> .ok .U h
 |true,[.U, .int .i64 (.ofNat (n+1))]=>if n<4294967296 then mk h (xS h (n+1)) (.au h.next 0 0 none) else .bad
 |_,_=> .bad
theorem PT {ι:aY}:∀n,ch ι (F6 n) (List.replicate n (.string ⟨#[]⟩))
 |0=>rfl
 |n+1=>⟨_,_,rfl,⟨_,rfl,rfl,rfl⟩,PT n⟩
theorem ZL {P:Program} {f0:Nat} (hb:om P f0)
  (av:∀(n:Nat) (w:World),0<n→n≤4294967296→Calls P f0 #[.slice none 0 0, .int .i64 n] w fun e w'=>∃cap el,n≤cap∧e= .returned (.slice (some ⟨w.heap.size,0,none⟩) 0 cap)∧w'=w.drew.alloc (.cells (List.replicate cap (Value.string ⟨#[]⟩)).toArray el (0,0)))
  (h0:∀w:World,Calls P f0 #[.slice none 0 0, .int .i64 0] w fun e w'=>e= .returned (.slice none 0 0)∧w'=w):lC P (zR f0):=by
 have PU:∀{ι:aY} {k:Int} {args:Array Value},ch ι [.U, .int .i64 k] args.toList→args= #[.slice none 0 0, .int .i64 k]:=by
  intro ι k args hr
  obtain ⟨pA,aW,aS,r1,nL,bu,rfl,fI,kz⟩:=hr
  have kz:bu=[]:=kz
  subst kz
  have r1:pA= .slice none 0 0:=r1
  have fI:nL= .int .i64 k:=fI
  subst r1;subst fI
  rw [←Array.toArray_toList (xs:=args),aS]
 intro f vs h
 unfold zR
 split
 · rename_i hf
   have hf:f=f0:=Nat.eq_of_beq_eq_true hf
   subst hf
   refine ⟨Nat.le_refl _,fun _=>⟨hb,fun ι w args g _ hr=> ?_⟩⟩
   rw [PU hr]
   refine (h0 w).mono fun e w' he=> ?_
   obtain ⟨rfl,rfl⟩:=he
   exact ⟨ι,dp.refl g,rfl⟩
 · rename_i n hf
   have hf:f=f0:=Nat.eq_of_beq_eq_true hf
   subst hf
   by_cases hn:n<4294967296
   rotate_left
   · rw [if_neg hn];exact ⟨trivial,fun h=>absurd rfl h⟩
   rw [if_pos hn]
   have hok:eT (xS h (n+1))=true:=rfl
   have ZM:mk h (xS h (n+1)) (.au h.next 0 0 none)= .ok (.au h.next 0 0 none) (h.add (xS h (n+1))):=by
    show (Bool.rec .bad (h.kq (xS h (n+1)) fun ax=> .ok (.au h.next 0 0 none) ax) (eT (xS h (n+1))):a7)=_
    rw [hok]
    show h.kq (xS h (n+1)) (fun ax=>a7.ok (.au h.next 0 0 none) ax)=_
    rw [nD]
   rw [ZM]
   refine ⟨Nat.le_succ _,fun _=>⟨hb,fun ι w args g Bz hr=> ?_⟩⟩
   rw [PU hr]
   have hfn:ι h.next=none:=Bz h.next (Nat.le_refl _) (Nat.lt_succ_self _)
   refine (av (n+1) w (Nat.succ_pos _) hn).mono fun e w' he=> ?_
   obtain ⟨cap,el,nF,rfl,rfl⟩:=he
   obtain ⟨bc,EI,aD⟩:=NB (el:=el) (cap:=cap) (vs:=F6 (n+1)) (cs:=List.replicate (n+1) (.string ⟨#[]⟩)) (more:=List.replicate (cap - (n+1)) (.string ⟨#[]⟩)) g hfn (Nat.zero_le _) hok (by simp [F6]) (PT _) (by intro x hx;rw [List.eq_of_mem_replicate hx];rfl) nF (by simp;omega)
   rw [List.replicate_append_replicate,show n+1+(cap - (n+1))=cap by omega] at EI
   refine ⟨bc,EI, ?_⟩
   obtain ⟨B,a,c,bN,aS,bl⟩:=aD
   cases aS
   exact ⟨B,_,_,bN,rfl,bl.1,bl.2.1,bl.2.2.1,Nat.zero_le _,bl.2.2.2.2⟩
 · exact ⟨trivial,fun h=>absurd rfl h⟩
end
end Go.Eng
