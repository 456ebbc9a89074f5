/- Part of a proof of a law: rules of an evaluator, contracts, plain laws. No condition of its own. -/
import Derived.Test.YtmcjcbldmoijiaaGreatDoorEngB
import Derived.Deep.Slices
set_option linter.unusedVariables false
set_option linter.unusedSimpArgs false
namespace Go.Eng
noncomputable section
def tZ (a b:Nat→List V→ag→bg):Nat→List V→ag→bg:=fun f as_ h=>bg.rec (fun v h=> .ok v h) (fun v h=> .du v h) (b f as_ h) (a f as_ h)
theorem Eb {P:Program} {a b:Nat→List V→ag→bg} (ha:mq P a) (hb:mq P b):mq P (tZ a b):=by
 intro f as_ h
 show bg.next h (bg.rec (fun v h=> .ok v h) (fun v h=> .du v h) (b f as_ h) (a f as_ h):bg)∧((bg.rec (fun v h=> .ok v h) (fun v h=> .du v h) (b f as_ h) (a f as_ h):bg)≠.bad→ph P f∧∀ι w (args:Array Value),Good ι h w→bg.free ι h (bg.rec (fun v h=> .ok v h) (fun v h=> .du v h) (b f as_ h) (a f as_ h):bg)→cE ι as_ args.toList→Calls P f args w (sv ι h w (bg.rec (fun v h=> .ok v h) (fun v h=> .du v h) (b f as_ h) (a f as_ h):bg)))
 have h1:=ha f as_ h
 cases hr:a f as_ h with
 |ok v aB=>rw [hr] at h1;exact h1
 |du v aB=>rw [hr] at h1;exact h1
 |bad=>exact hb f as_ h
def L8 (n x m y:Nat):V:=Bool.rec (Bool.rec (.int .i64 1) (.int .i64 (-1)) (qX (gZ n x) (gZ m y))) (.int .i64 0) (mQ n x m y)
def HC (f0:Nat):Nat→List V→ag→bg:=fun f as_ h=>match f.beq f0,as_ with
 |true,[.str n x, .str m y]=>(L8 n x m y).force fun v=> .ok v h
 |_,_=> .bad
theorem L9:∀(a b:List UInt8),Lib.compareBytes a b=if a=b then 0 else if Op.bytesLess a b then -1 else 1
 |[],[]=>rfl
 |[],_::_=>by simp [Lib.compareBytes,Op.bytesLess]
 |_::_,[]=>by simp [Lib.compareBytes,Op.bytesLess]
 |x::a,y::b=>by
  unfold Lib.compareBytes
  rw [L9 a b]
  by_cases h1:x<y
  · have:x≠y:=fun e=>by subst e;exact UInt8.lt_irrefl x h1
    simp [h1,this,Op.bytesLess]
  · by_cases h2:y<x
    · have:x≠y:=fun e=>by subst e;exact UInt8.lt_irrefl x h2
      simp [h1,h2,this,Op.bytesLess]
    · have bj:x=y:=by
       rw [UInt8.lt_iff_toNat_lt] at h1 h2
       exact UInt8.toNat_inj.1 (by omega)
      subst bj
      simp [Op.bytesLess,UInt8.lt_irrefl]
theorem aah (s u:ByteArray):L8 s.data.toList.length (enc s.data.toList) u.data.toList.length (enc u.data.toList)= .int .i64 (Lib.compareBytes s.data.toList u.data.toList):=by
 unfold L8
 rw [Gg ⟨rfl,rfl⟩ ⟨rfl,rfl⟩,rh,rh,Ar,L9]
 by_cases h:s=u
 · subst h;simp
 · have:s.data.toList≠u.data.toList:=fun e=>h (by cases s;cases u;congr;exact Array.ext' e)
   simp only [h,decide_false,if_neg this]
   cases Op.bytesLess s.data.toList u.data.toList<;>rfl
theorem aai {P:Program} {f0:Nat} (hb:ph P f0) (ax:∀(a b:ByteArray) (w:World),Calls P f0 #[.string a, .string b] w fun e w'=>e= .returned (.int .i64 (Lib.compareBytes a.data.toList b.data.toList))∧w'=w):mq P (HC f0):=by
 intro f as_ h
 unfold HC
 split
 · rename_i n x m y hf
   have hf:f=f0:=Nat.eq_of_beq_eq_true hf
   subst hf
   rw [V.force_eq]
   refine ⟨Nat.le_refl _,fun _=>⟨hb,fun ι w args g _ hr=> ?_⟩⟩
   obtain ⟨qw,aZ,aT,r1,gl⟩:=hr
   obtain ⟨oL,bF,bu,lk,wJ⟩:=gl
   have wJ:bF=[]:=wJ
   subst wJ bu
   obtain ⟨s,rfl,aC⟩:=r1
   obtain ⟨u,rfl,hu⟩:=lk
   have ha:args= #[.string s, .string u]:=by rw [←Array.toArray_toList (xs:=args),aT]
   rw [ha]
   refine (ax s u w).mono fun e w' he=> ?_
   obtain ⟨rfl,rfl⟩:=he
   refine ⟨ι,dL.refl g, ?_⟩
   obtain ⟨rfl,rfl⟩:=aC
   obtain ⟨rfl,rfl⟩:=hu
   rw [aah];rfl
 · exact ⟨trivial,fun h=>absurd rfl h⟩
end
end Go.Eng
namespace Go.Eng
noncomputable section
section
variable {P:Program}
theorem aaj (gD:P.follows .mixedOrders=true) {c:Ctx} (hf:sE (vl P) c.cF=true) (aC:Dm P c)
  {n f:Nat} {as_:List V} (he:isTrue (JR c n f as_ .none ag.empty).1=true) {args:Array Value} (hr:cE bb.none as_ args.toList) (w:World):
  Calls P f args w fun e w'=>e= .returned (.bool true)∧Kept w w':=by
 obtain ⟨aB,e⟩:=ZH he
 exact ZE gD (c:=c) hf aC e hr w
end
def HD (f0:Nat):Nat→List V→ag→bg:=fun f as_ h=>match f.beq f0,as_ with
 |true,[]=> .ok (.bool true) h
 |_,_=> .bad
theorem aak {P:Program} {f0:Nat} (hb:ph P f0) (ax:∀w,Calls P f0 #[] w fun e w'=>e= .returned (.bool true)∧Kept w w'):mq P (HD f0):=by
 intro f as_ h
 unfold HD
 split
 · rename_i Ma
   have Ma:f=f0:=Nat.eq_of_beq_eq_true Ma
   subst Ma
   refine ⟨Nat.le_refl _,fun _=>⟨hb,fun ι w args g _ hr=> ?_⟩⟩
   have ha:args= #[]:=Array.toList_eq_nil_iff.1 hr
   subst ha
   refine (ax w).mono fun e w' ⟨he,hk⟩=> ?_
   subst he
   exact ⟨ι,dL.same (g.world hk.old hk.size) ⟨fun c ax _=>hk.old c ax,hk.size,hk.tape,hk.os,hk.out⟩ rfl,rfl⟩
 · exact ⟨trivial,fun h=>absurd rfl h⟩
end
end Go.Eng
namespace Go.Eng
noncomputable section
section
variable {P:Program} {w:World}
structure Arg (w:World) (j:Nat) (v:Value) (a:V) (o:Obj) (B:Option fR):Prop where
 rel:∀ι:bb,ι j=B→bL ι a v
 obj:∀(ι:bb) bc,B=some bc→nF ι bc o w
 lb:∀bc,B=some bc→bc.c<w.heap.size
 c7:∀bc,B=some bc→bc.c7=j
inductive aiN where
 |nil
 |zero
 |one (a:Bool) (c:Nat)
 |two (a b:Bool) (c:Nat)
 |three (a b d:Bool) (c:Nat)
 |more (a b d e:Bool) (m c:Nat) (l:List V)
end
end
end Go.Eng
