/- Part of a proof of a law: rules of an evaluator, contracts, plain laws. No condition of its own. -/
import Derived.Test.YtjobofnpmmjeoaaDoorEngC
set_option linter.unusedVariables false
set_option linter.unusedSimpArgs false
namespace Go.Eng
noncomputable section
def Ed (a b:Nat→List V→Heap→OR):Nat→List V→Heap→OR:=fun f as h=>OR.rec (fun v h=> .ok v h) (fun v h=> .pan v h) (b f as h) (a f as h)
theorem PL {P:Program} {a b:Nat→List V→Heap→OR} (ha:lS P a) (hb:lS P b):lS P (Ed a b):=by
 intro f as h
 show OR.next h (OR.rec (fun v h=> .ok v h) (fun v h=> .pan v h) (b f as h) (a f as h):OR)∧((OR.rec (fun v h=> .ok v h) (fun v h=> .pan v h) (b f as h) (a f as h):OR)≠.bad→j5 P f∧∀ι w (args:Array Value),Good ι h w→aW ι as args.toList→Calls P f args w (rU ι h w (OR.rec (fun v h=> .ok v h) (fun v h=> .pan v h) (b f as h) (a f as h):OR)))
 have h1:=ha f as h
 cases hr:a f as h with
 |ok v h'=>rw [hr] at h1;exact h1
 |pan v h'=>rw [hr] at h1;exact h1
 |bad=>exact hb f as h
def cmpV (n x m y:Nat):V:=Bool.rec (Bool.rec (.int .i64 1) (.int .i64 (-1)) (vD (dU n x) (dU m y))) (.int .i64 0) (sEq n x m y)
def K7 (f0:Nat):Nat→List V→Heap→OR:=fun f as h=>match f.beq f0,as with
 |true,[.str n x, .str m y]=>(cmpV n x m y).force fun v=> .ok v h
 |_,_=> .bad
theorem xU:∀(a b:List UInt8),Lib.compareBytes a b=if a=b then 0 else if Op.bytesLess a b then -1 else 1
 |[],[]=>rfl
 |[],_::_=>by simp [Lib.compareBytes,Op.bytesLess]
 |_::_,[]=>by simp [Lib.compareBytes,Op.bytesLess]
 |x::a,y::b=>by
  unfold Lib.compareBytes
  rw [xU a b]
  by_cases h1:x<y
  · have:x≠y:=fun e=>by subst e;exact UInt8.lt_irrefl x h1
    simp [h1,this,Op.bytesLess]
  · by_cases h2:y<x
    · have:x≠y:=fun e=>by subst e;exact UInt8.lt_irrefl x h2
      simp [h1,h2,this,Op.bytesLess]
    · have h3:x=y:=by
       rw [UInt8.lt_iff_toNat_lt] at h1 h2
       exact UInt8.toNat_inj.1 (by omega)
      subst h3
      simp [Op.bytesLess,UInt8.lt_irrefl]
theorem cmpV_eq (s u:ByteArray):cmpV s.data.toList.length (enc s.data.toList) u.data.toList.length (enc u.data.toList)= .int .i64 (Lib.compareBytes s.data.toList u.data.toList):=by
 unfold cmpV
 rw [sJ ⟨rfl,rfl⟩ ⟨rfl,rfl⟩,iK,iK,wR,xU]
 by_cases h:s=u
 · subst h;simp
 · have:s.data.toList≠u.data.toList:=fun e=>h (by cases s;cases u;congr;exact Array.ext' e)
   simp only [h,decide_false,if_neg this]
   cases Op.bytesLess s.data.toList u.data.toList<;>rfl
theorem moreCmp_ok {P:Program} {f0:Nat} (hb:j5 P f0) (hc:∀(a b:ByteArray) (w:World),Calls P f0 #[.string a, .string b] w fun e w'=>e= .returned (.int .i64 (Lib.compareBytes a.data.toList b.data.toList))∧w'=w):lS P (K7 f0):=by
 intro f as h
 unfold K7
 split
 · rename_i n x m y hf
   have hf:f=f0:=Nat.eq_of_beq_eq_true hf
   subst hf
   rw [V.force_eq]
   refine ⟨Nat.le_refl _,fun _=>⟨hb,fun ι w args g hr=> ?_⟩⟩
   obtain ⟨y1,l1,e1,r1,r2⟩:=hr
   obtain ⟨y2,l2,e2,r3,r4⟩:=r2
   have r4:l2=[]:=r4
   subst r4 e2
   obtain ⟨s,rfl,hs⟩:=r1
   obtain ⟨u,rfl,hu⟩:=r3
   have ha:args= #[.string s, .string u]:=by rw [←Array.toArray_toList (xs:=args),e1]
   rw [ha]
   refine (hc s u w).mono fun e w' he=> ?_
   obtain ⟨rfl,rfl⟩:=he
   refine ⟨ι,Chg.refl g, ?_⟩
   obtain ⟨rfl,rfl⟩:=hs
   obtain ⟨rfl,rfl⟩:=hu
   rw [cmpV_eq];rfl
 · exact ⟨trivial,fun h=>absurd rfl h⟩
end
end Go.Eng
namespace Go.Eng
noncomputable section
section
variable {P:Program}
theorem PN (hmx:P.follows .mixedOrders=true) {c:Ctx} (hf:allT (CG P) c.bJ=true) (hs:yC P c)
  {n f:Nat} {as:List V} (he:isTrue (lev c n f as .none Heap.empty).1=true) {args:Array Value} (hr:aW Inj.none as args.toList) (w:World):
  Calls P f args w fun e w'=>e= .returned (.bool true)∧Kept w w':=by
 obtain ⟨h',e⟩:=Dr he
 exact Bg hmx (c:=c) hf hs e hr w
end
def Am (f0:Nat):Nat→List V→Heap→OR:=fun f as h=>match f.beq f0,as with
 |true,[]=> .ok (.bool true) h
 |_,_=> .bad
theorem JJ {P:Program} {f0:Nat} (hb:j5 P f0) (hc:∀w,Calls P f0 #[] w fun e w'=>e= .returned (.bool true)∧Kept w w'):lS P (Am f0):=by
 intro f as h
 unfold Am
 split
 · rename_i hfe
   have hfe:f=f0:=Nat.eq_of_beq_eq_true hfe
   subst hfe
   refine ⟨Nat.le_refl _,fun _=>⟨hb,fun ι w args g hr=> ?_⟩⟩
   have ha:args= #[]:=Array.toList_eq_nil_iff.1 hr
   subst ha
   refine (hc w).mono fun e w' ⟨he,hk⟩=> ?_
   subst he
   exact ⟨ι,Chg.same (g.world hk.old hk.size) ⟨fun c hc _=>hk.old c hc,hk.size,hk.tape,hk.os,hk.out⟩ rfl,rfl⟩
 · exact ⟨trivial,fun h=>absurd rfl h⟩
end
end Go.Eng
