/- Part of a proof of a law: rules of an evaluator, contracts, plain laws. No condition of its own. -/
import Derived.Test.YtmcjcbldmoijiaaGreatDoorEngB
import Derived.Deep.Slices
set_option linter.unusedVariables false
set_option linter.unusedSimpArgs false
namespace Go.Eng
noncomputable section
def sZ (a b:Nat→List V→ae→a7):Nat→List V→ae→a7:=fun f as_ h=>a7.rec (fun v h=> .ok v h) (fun v h=> .c8 v h) (b f as_ h) (a f as_ h)
theorem Cy {P:Program} {a b:Nat→List V→ae→a7} (ha:lC P a) (hb:lC P b):lC P (sZ a b):=by
 intro f as_ h
 show a7.next h (a7.rec (fun v h=> .ok v h) (fun v h=> .c8 v h) (b f as_ h) (a f as_ h):a7)∧((a7.rec (fun v h=> .ok v h) (fun v h=> .c8 v h) (b f as_ h) (a f as_ h):a7)≠.bad→om P f∧∀ι w (args:Array Value),Good ι h w→a7.free ι h (a7.rec (fun v h=> .ok v h) (fun v h=> .c8 v h) (b f as_ h) (a f as_ h):a7)→ch ι as_ args.toList→Calls P f args w (rp ι h w (a7.rec (fun v h=> .ok v h) (fun v h=> .c8 v h) (b f as_ h) (a f as_ h):a7)))
 have h1:=ha f as_ h
 cases hr:a f as_ h with
 |ok v ax=>rw [hr] at h1;exact h1
 |c8 v ax=>rw [hr] at h1;exact h1
 |bad=>exact hb f as_ h
def Ka (n x m y:Nat):V:=Bool.rec (Bool.rec (.int .i64 1) (.int .i64 (-1)) (pZ (gy n x) (gy m y))) (.int .i64 0) (l2 n x m y)
def FN (f0:Nat):Nat→List V→ae→a7:=fun f as_ h=>match f.beq f0,as_ with
 |true,[.str n x, .str m y]=>(Ka n x m y).force fun v=> .ok v h
 |_,_=> .bad
theorem Kb:∀(a b:List UInt8),Lib.compareBytes a b=if a=b then 0 else if Op.bytesLess a b then -1 else 1
 |[],[]=>rfl
 |[],_::_=>by simp [Lib.compareBytes,Op.bytesLess]
 |_::_,[]=>by simp [Lib.compareBytes,Op.bytesLess]
 |x::a,y::b=>by
  unfold Lib.compareBytes
  rw [Kb a b]
  by_cases h1:x<y
  · have:x≠y:=fun e=>by subst e;exact UInt8.lt_irrefl x h1
    simp [h1,this,Op.bytesLess]
  · by_cases h2:y<x
    · have:x≠y:=fun e=>by subst e;exact UInt8.lt_irrefl x h2
      simp [h1,h2,this,Op.bytesLess]
    · have a6:x=y:=by
       rw [UInt8.lt_iff_toNat_lt] at h1 h2
       exact UInt8.toNat_inj.1 (by omega)
      subst a6
      simp [Op.bytesLess,UInt8.lt_irrefl]
theorem YE (s u:ByteArray):Ka s.data.toList.length (enc s.data.toList) u.data.toList.length (enc u.data.toList)= .int .i64 (Lib.compareBytes s.data.toList u.data.toList):=by
 unfold Ka
 rw [Ep ⟨rfl,rfl⟩ ⟨rfl,rfl⟩,qg,qg,y9,Kb]
 by_cases h:s=u
 · subst h;simp
 · have:s.data.toList≠u.data.toList:=fun e=>h (by cases s;cases u;congr;exact Array.ext' e)
   simp only [h,decide_false,if_neg this]
   cases Op.bytesLess s.data.toList u.data.toList<;>rfl
theorem YF {P:Program} {f0:Nat} (hb:om P f0) (av:∀(a b:ByteArray) (w:World),Calls P f0 #[.string a, .string b] w fun e w'=>e= .returned (.int .i64 (Lib.compareBytes a.data.toList b.data.toList))∧w'=w):lC P (FN f0):=by
 intro f as_ h
 unfold FN
 split
 · rename_i n x m y hf
   have hf:f=f0:=Nat.eq_of_beq_eq_true hf
   subst hf
   rw [V.force_eq]
   refine ⟨Nat.le_refl _,fun _=>⟨hb,fun ι w args g _ hr=> ?_⟩⟩
   obtain ⟨pA,aW,aS,r1,fI⟩:=hr
   obtain ⟨nL,bu,bl,kz,vq⟩:=fI
   have vq:bu=[]:=vq
   subst vq bl
   obtain ⟨s,rfl,ay⟩:=r1
   obtain ⟨u,rfl,hu⟩:=kz
   have ha:args= #[.string s, .string u]:=by rw [←Array.toArray_toList (xs:=args),aS]
   rw [ha]
   refine (av s u w).mono fun e w' he=> ?_
   obtain ⟨rfl,rfl⟩:=he
   refine ⟨ι,dp.refl g, ?_⟩
   obtain ⟨rfl,rfl⟩:=ay
   obtain ⟨rfl,rfl⟩:=hu
   rw [YE];rfl
 · exact ⟨trivial,fun h=>absurd rfl h⟩
end
end Go.Eng
namespace Go.Eng
noncomputable section
section
variable {P:Program}
theorem YG (ga:P.follows .mixedOrders=true) {c:Ctx} (hf:rC (ug P) c.cE=true) (ay:BZ P c)
  {n f:Nat} {as_:List V} (he:isTrue (HT c n f as_ .none ae.empty).1=true) {args:Array Value} (hr:ch aY.none as_ args.toList) (w:World):
  Calls P f args w fun e w'=>e= .returned (.bool true)∧Kept w w':=by
 obtain ⟨ax,e⟩:=X7 he
 exact X4 ga (c:=c) hf ay e hr w
end
def FO (f0:Nat):Nat→List V→ae→a7:=fun f as_ h=>match f.beq f0,as_ with
 |true,[]=> .ok (.bool true) h
 |_,_=> .bad
theorem YH {P:Program} {f0:Nat} (hb:om P f0) (av:∀w,Calls P f0 #[] w fun e w'=>e= .returned (.bool true)∧Kept w w'):lC P (FO f0):=by
 intro f as_ h
 unfold FO
 split
 · rename_i Kc
   have Kc:f=f0:=Nat.eq_of_beq_eq_true Kc
   subst Kc
   refine ⟨Nat.le_refl _,fun _=>⟨hb,fun ι w args g _ hr=> ?_⟩⟩
   have ha:args= #[]:=Array.toList_eq_nil_iff.1 hr
   subst ha
   refine (av w).mono fun e w' ⟨he,hk⟩=> ?_
   subst he
   exact ⟨ι,dp.same (g.world hk.old hk.size) ⟨fun c av _=>hk.old c av,hk.size,hk.tape,hk.os,hk.out⟩ rfl,rfl⟩
 · exact ⟨trivial,fun h=>absurd rfl h⟩
end
end Go.Eng
namespace Go.Eng
noncomputable section
section
variable {P:Program} {w:World}
structure Arg (w:World) (j:Nat) (v:Value) (a:V) (o:Obj) (B:Option fk):Prop where
 rel:∀ι:aY,ι j=B→bD ι a v
 obj:∀(ι:aY) aZ,B=some aZ→mF ι aZ o w
 kr:∀aZ,B=some aZ→aZ.c<w.heap.size
 cO:∀aZ,B=some aZ→aZ.cO=j
inductive FP where
 |nil
 |zero
 |one (a:Bool) (c:Nat)
 |two (a b:Bool) (c:Nat)
 |three (a b d:Bool) (c:Nat)
 |more (a b d e:Bool) (m c:Nat) (l:List V)
def FP.a (j:Nat):FP→V
 | .nil=> .U
 | .zero=> .au j 0 0 none
 | .one _ c=> .au j 0 1 (some c)
 | .two _ _ c=> .au j 0 2 (some c)
 | .three _ _ _ c=> .au j 0 3 (some c)
 | .more _ _ _ _ m c _=> .au j 0 (m+4) (some c)
def FP.o:FP→Obj
 | .nil=> .dead
 | .zero=> .dead
 | .one a _=> .box [.bool a]
 | .two a b _=> .box [.bool a, .bool b]
 | .three a b d _=> .box [.bool a, .bool b, .bool d]
 | .more a b d e _ _ l=> .box (.bool a:: .bool b:: .bool d:: .bool e::l)
end
end
end Go.Eng
