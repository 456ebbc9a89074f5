/- Part of a proof of a law: rules of an evaluator, contracts, plain laws. No condition of its own. -/
import Derived.Test.YtjobofnpmmjeoaaGreatDoorEngC
set_option linter.unusedVariables false
set_option linter.unusedSimpArgs false
namespace Go.Eng
noncomputable section
def EF (a b:Nat→List V→Heap→OR):Nat→List V→Heap→OR:=fun f as h=>OR.rec (fun v h=> .ok v h) (fun v h=> .pan v h) (b f as h) (a f as h)
theorem SS {P:Program} {a b:Nat→List V→Heap→OR} (ha:ql P a) (hb:ql P b):ql P (EF a b):=by
 intro f as h
 show OR.next h (OR.rec (fun v h=> .ok v h) (fun v h=> .pan v h) (b f as h) (a f as h):OR)∧((OR.rec (fun v h=> .ok v h) (fun v h=> .pan v h) (b f as h) (a f as h):OR)≠.bad→kI P f∧∀ι w (args:Array Value),Good ι h w→aZ ι as args.toList→Calls P f args w (sN ι h w (OR.rec (fun v h=> .ok v h) (fun v h=> .pan v h) (b f as h) (a f as h):OR)))
 have h1:=ha f as h
 cases hr:a f as h with
 |ok v h'=>rw [hr] at h1;exact h1
 |pan v h'=>rw [hr] at h1;exact h1
 |bad=>exact hb f as h
end
end Go.Eng
namespace Go.Eng
noncomputable section
section
variable {P:Program}
theorem SV (hmx:P.follows .mixedOrders=true) {c:Ctx} (hf:allT (Fe P) c.bf=true) (hs:BP P c)
  {n f:Nat} {as:List V} (he:isTrue (lev c n f as .none Heap.empty).1=true) {args:Array Value} (hr:aZ Inj.none as args.toList) (w:World):
  Calls P f args w fun e w'=>e= .returned (.bool true)∧Kept w w':=by
 obtain ⟨h',e⟩:=Nl he
 exact JH hmx (c:=c) hf hs e hr w
end
def Aw (f0:Nat):Nat→List V→Heap→OR:=fun f as h=>match f.beq f0,as with
 |true,[]=> .ok (.bool true) h
 |_,_=> .bad
theorem KE {P:Program} {f0:Nat} (hb:kI P f0) (hc:∀w,Calls P f0 #[] w fun e w'=>e= .returned (.bool true)∧Kept w w'):ql P (Aw f0):=by
 intro f as h
 unfold Aw
 split
 · rename_i hfe
   have hfe:f=f0:=Nat.eq_of_beq_eq_true hfe
   subst hfe
   refine ⟨Nat.le_refl _,fun _=>⟨hb,fun ι w args g hr=> ?_⟩⟩
   have ha:args= #[]:=Array.toList_eq_nil_iff.1 hr
   subst ha
   refine (hc w).mono fun e w' ⟨he,hk⟩=> ?_
   subst he
   exact ⟨ι,Chg.same (g.world hk.old hk.size) ⟨fun c hc _=>hk.old c hc,hk.size,hk.tape,hk.os,hk.out⟩ rfl,rfl⟩
 · exact ⟨trivial,fun h=>absurd rfl h⟩
end
end Go.Eng
