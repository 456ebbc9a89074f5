/- Part of a proof of a law: rules of an evaluator, contracts, plain laws. No condition of its own. -/
import Derived.Test.YtmcjcbldmoijiaaGreatDoorSymH
set_option linter.unusedVariables false
set_option linter.unusedSimpArgs false
namespace Go.Eng
noncomputable section
namespace Fc
theorem Ix {α:Type} {l:List α} {i:Nat} {x:α} (p:α→Bool) (h:l[i]? =some x):(l.take (i+1)).filter p=(l.take i).filter p++(if p x=true then [x] else []):=by
 rw [List.take_add_one,h,List.filter_append]
 show _++List.filter p [x]=_
 by_cases hp:p x=true
 · rw [if_pos hp,List.filter_cons_of_pos hp];rfl
 · rw [if_neg hp,List.filter_cons_of_neg hp];rfl
theorem TR {α:Type} {f:aL→List α} {k:aL} {x:α}:∀{R:List aL},R.Pairwise (·<·)→k∈R→(R.flatMap fun n=>if k=n then x::f n else f n).Perm (x::R.flatMap f)
 |[],_,h=>by cases h
 |n::R,cA,h=>by
  obtain ⟨h1,h2⟩:=List.pairwise_cons.1 cA
  rw [List.flatMap_cons,List.flatMap_cons]
  by_cases e:k=n
  · subst e
    rw [if_pos rfl]
    have:(R.flatMap fun n=>if k=n then x::f n else f n)=R.flatMap f:=by
     rw [List.flatMap_def,List.flatMap_def]
     refine congrArg List.flatten (List.map_congr_left fun n hn=>if_neg fun e=> ?_)
     subst e;exact absurd (h1 _ hn) (List.lt_irrefl _)
    rw [this];rfl
  · rw [if_neg e]
    have hk:k∈R:=by
     rcases List.mem_cons.1 h with h|h
     · exact absurd h e
     · exact h
    refine (List.Perm.append_left (f n) (TR h2 hk)).trans ?_
    exact List.perm_middle
theorem TS {α:Type} (key:α→aL) {R:List aL} (cA:R.Pairwise (·<·)):∀{l:List α},(∀x∈l,key x∈R)→(R.flatMap fun n=>l.filter fun x=>decide (key x=n)).Perm l
 |[],_=>by
  have:(R.flatMap fun n=>([]:List α).filter fun x=>decide (key x=n))=[]:=by induction R with
   |nil=>rfl
   |cons n R bt=>rw [List.flatMap_cons,bt (List.pairwise_cons.1 cA).2 (fun x hx=>by cases hx)];rfl
  rw [this]
 |x::l,h=>by
  have e:(fun n=>(x::l).filter fun y=>decide (key y=n))=fun n=>if key x=n then x::(l.filter fun y=>decide (key y=n)) else l.filter fun y=>decide (key y=n):=by
   funext n
   rw [List.filter_cons]
   by_cases e:key x=n<;>simp [e]
  rw [e]
  exact (TR (f:=fun n=>l.filter fun y=>decide (key y=n)) cA (h x (by simp))).trans (List.Perm.cons x (TS key cA fun y hy=>h y (by simp [hy])))
theorem TT {α:Type} (key:α→aL) (l:List α):∀{R:List aL},R.Pairwise (·<·)→(R.flatMap fun n=>l.filter fun x=>decide (key x=n)).Pairwise fun a b=>key a≤key b
 |[],_=>List.Pairwise.nil
 |n::R,cA=>by
  obtain ⟨h1,h2⟩:=List.pairwise_cons.1 cA
  have hk:∀{n:aL} {y:α},y∈(l.filter fun x=>decide (key x=n))→key y=n:=fun hy=>of_decide_eq_true (List.mem_filter.1 hy).2
  rw [List.flatMap_cons,List.pairwise_append]
  refine ⟨?_,TT key l h2,fun a ha b hb=> ?_⟩
  · refine List.pairwise_iff_getElem.2 fun i j aq aV _=> ?_
    rw [hk (List.getElem_mem aq),hk (List.getElem_mem aV)];exact List.le_refl _
  · obtain ⟨eP,qk,hb⟩:=List.mem_flatMap.1 hb
    rw [hk ha,hk hb]
    exact List.not_lt.1 fun hlt=>List.lt_irrefl _ (List.lt_trans hlt (h1 eP qk))
theorem TU {α:Type} (key:α→aL) {R:List aL} (cA:R.Pairwise (·<·)) {l:List α} (ax:∀x∈l,key x∈R) (hn:(l.map key).Nodup):(R.flatMap fun n=>l.filter fun x=>decide (key x=n)).map (fun x=>(key x,x))=fT (l.map fun x=>(key x,x)):=by
 refine Sb ((TS key cA ax).map _) ?_ (by rw [List.map_map];exact hn)
 rw [List.pairwise_map];exact TT key l cA
def kA (m:eK) (n:aL):List eW:=m.vars.filter fun x=>decide (x.name=n)
def zp (m:eK) (n:aL):List eb:=m.procs.filter fun x=>decide (x.name=n)
def BZ (m:eK):List aL:=jZ (m.vars.map (·.name)++m.procs.map (·.name))
theorem aeR {m:eK} {w:kZ} (ok:mD m w) (n:aL):(kA m n).length≤8193:=Nat.le_trans (List.length_filter_le _ _) ok.um
theorem aeS {m:eK} (hn:(m.vars.map (·.name)).Nodup):((BZ m).flatMap (kA m)).map k4=uk m:=by
 have h:=TU (fun x:eW=>x.name) (RY (m.vars.map (·.name)++m.procs.map (·.name))) (l:=m.vars) (fun x hx=>(MH _ _).2 (List.mem_append_left _ (List.mem_map.2 ⟨x,hx,rfl⟩))) hn
 have h2:(m.vars.map fun x=>(x.name,x.label))=(m.vars.map fun x=>(x.name,x)).map fun r=>(r.1,r.2.label):=by rw [List.map_map];rfl
 unfold uk
 rw [h2,xj (fun x:eW=>x.label),←h,List.map_map];rfl
theorem aeT {m:eK} (hn:(m.procs.map (·.name)).Nodup):((BZ m).flatMap (zp m)).map gV=qD m:=by
 have h:=TU (fun x:eb=>x.name) (RY (m.vars.map (·.name)++m.procs.map (·.name))) (l:=m.procs) (fun x hx=>(MH _ _).2 (List.mem_append_right _ (List.mem_map.2 ⟨x,hx,rfl⟩))) hn
 have h2:(m.procs.map fun x=>(x.name,gV x))=(m.procs.map fun x=>(x.name,x)).map fun r=>(r.1,gV r.2):=by rw [List.map_map];rfl
 unfold qD
 rw [h2,xj gV,←h,List.map_map,List.map_map];rfl
theorem aeU {m:eK} {S:List aL} (h:Lab.Seen (lX (m.vars.map (·.name))++lX (m.procs.map (·.name))) S):S=BZ m:=by
 rw [h.is];unfold BZ;rw [←R1];unfold lX;rw [List.map_append]
end Fc
end
end Go.Eng
