/- Part of a proof of a law: rules of an evaluator, contracts, plain laws. No condition of its own. -/
import Derived.Test.YtmcjcbldmoijiaaGreatDoorEngC
set_option linter.unusedVariables false
set_option linter.unusedSimpArgs false
namespace Go.Eng
noncomputable section
def HS (n:Nat):List V:=List.replicate n (.str 0 0)
def yZ (h:ag) (n:Nat):Obj:= .cells 1 h.next 0 (n * 1) (e4 1 n 0 (HS n) T.e)
def Bm (f0:Nat):Nat→List V→ag→bg:=fun f args h=>match f.beq f0,args with
 |true,[.U, .int .i64 (.ofNat 0)]=> .ok .U h
 |true,[.U, .int .i64 (.ofNat (n+1))]=>if n<4294967296 then mk h (yZ h (n+1)) (.av h.next 0 0 none) else .bad
 |_,_=> .bad
theorem RH {ι:bb}:∀n,cE ι (HS n) (List.replicate n (.string ⟨#[]⟩))
 |0=>rfl
 |n+1=>⟨_,_,rfl,⟨_,rfl,rfl,rfl⟩,RH n⟩
theorem abq {P:Program} {f0:Nat} (hb:ph P f0)
  (ax:∀(n:Nat) (w:World),0<n→n≤4294967296→Calls P f0 #[.slice none 0 0, .int .i64 n] w fun e w'=>∃cap el,n≤cap∧e= .returned (.slice (some ⟨w.heap.size,0,none⟩) 0 cap)∧w'=w.drew.alloc (.cells (List.replicate cap (Value.string ⟨#[]⟩)).toArray el (0,0)))
  (h0:∀w:World,Calls P f0 #[.slice none 0 0, .int .i64 0] w fun e w'=>e= .returned (.slice none 0 0)∧w'=w):mq P (Bm f0):=by
 have RI:∀{ι:bb} {k:Int} {args:Array Value},cE ι [.U, .int .i64 k] args.toList→args= #[.slice none 0 0, .int .i64 k]:=by
  intro ι k args hr
  obtain ⟨qw,aZ,aT,r1,oL,bF,rfl,gl,lk⟩:=hr
  have lk:bF=[]:=lk
  subst lk
  have r1:qw= .slice none 0 0:=r1
  have gl:oL= .int .i64 k:=gl
  subst r1;subst gl
  rw [←Array.toArray_toList (xs:=args),aT]
 intro f vs h
 unfold Bm
 split
 · rename_i hf
   have hf:f=f0:=Nat.eq_of_beq_eq_true hf
   subst hf
   refine ⟨Nat.le_refl _,fun _=>⟨hb,fun ι w args g _ hr=> ?_⟩⟩
   rw [RI hr]
   refine (h0 w).mono fun e w' he=> ?_
   obtain ⟨rfl,rfl⟩:=he
   exact ⟨ι,dL.refl g,rfl⟩
 · rename_i n hf
   have hf:f=f0:=Nat.eq_of_beq_eq_true hf
   subst hf
   by_cases hn:n<4294967296
   rotate_left
   · rw [if_neg hn];exact ⟨trivial,fun h=>absurd rfl h⟩
   rw [if_pos hn]
   have hok:fv (yZ h (n+1))=true:=rfl
   have abr:mk h (yZ h (n+1)) (.av h.next 0 0 none)= .ok (.av h.next 0 0 none) (h.add (yZ h (n+1))):=by
    show (Bool.rec .bad (h.la (yZ h (n+1)) fun aB=> .ok (.av h.next 0 0 none) aB) (fv (yZ h (n+1))):bg)=_
    rw [hok]
    show h.la (yZ h (n+1)) (fun aB=>bg.ok (.av h.next 0 0 none) aB)=_
    rw [oA]
   rw [abr]
   refine ⟨Nat.le_succ _,fun _=>⟨hb,fun ι w args g CZ hr=> ?_⟩⟩
   rw [RI hr]
   have hfn:ι h.next=none:=CZ h.next (Nat.le_refl _) (Nat.lt_succ_self _)
   refine (ax (n+1) w (Nat.succ_pos _) hn).mono fun e w' he=> ?_
   obtain ⟨cap,el,oC,rfl,rfl⟩:=he
   obtain ⟨bk,Gy,aE⟩:=PH (el:=el) (cap:=cap) (vs:=HS (n+1)) (cs:=List.replicate (n+1) (.string ⟨#[]⟩)) (more:=List.replicate (cap - (n+1)) (.string ⟨#[]⟩)) g hfn (Nat.zero_le _) hok (by simp [HS]) (RH _) (by intro x hx;rw [List.eq_of_mem_replicate hx];rfl) oC (by simp;omega)
   rw [List.replicate_append_replicate,show n+1+(cap - (n+1))=cap by omega] at Gy
   refine ⟨bk,Gy, ?_⟩
   obtain ⟨B,a,c,bW,aT,bu⟩:=aE
   cases aT
   exact ⟨B,_,_,bW,rfl,bu.1,bu.2.1,bu.2.2.1,Nat.zero_le _,bu.2.2.2.2⟩
 · exact ⟨trivial,fun h=>absurd rfl h⟩
end
end Go.Eng
