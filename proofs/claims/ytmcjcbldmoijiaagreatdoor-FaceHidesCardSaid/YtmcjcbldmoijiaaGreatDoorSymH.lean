/- Part of a proof of a law: rules of an evaluator, contracts, plain laws. No condition of its own. -/
import Derived.Test.YtmcjcbldmoijiaaGreatDoorSymE
import Derived.Test.YtmcjcbldmoijiaaGreatDoorSymF
set_option linter.unusedVariables false
set_option linter.unusedSimpArgs false
namespace Go.Eng
noncomputable section
section
variable {c:Ctx} {Q:hX} {env:Env} {h:ae} {fs:List Fact} {vs:List V} {l:List ea} {b3:List Log} {cn:List Nat} {bs:List Nat} {f r bytes:Nat} {v fN:V} {rows new:List (List V)}
theorem af.Kj {s x:A} (st:aq (.cS bs f r v rows::fs) h) (ay:s.ev vs env=v) (hx:x.ev vs env=fN) (hn:Rows r h fN new) (hr:0<r) (eI:(rows.length+new.length) * bytes≤1099511627776)
  (eD:∀qy c5 v' h1,aq (.cS qy c5 r v' (rows++new)::fs) h1→jW cn h1 b3=true) (K:∀qy c5 v' h1,aq (.cS qy c5 r v' (rows++new)::fs) h1→af c l Q (v'::vs) (.no::b3) env h1):af c (⟨.p (.H (.append r bytes s x)),cn⟩::l) Q vs b3 env h:=by
 have ar:∀row∈new,row.length=r:=by
  cases hn with
  |nil=>intro row hm;simp at hm
  |row _ _ _ _ _ hlen=>exact hlen
 obtain ⟨qy,c5,v',ax,e,dE⟩:=st.CG hr ar eI
 exact af.act (fun _=>L.append (ev:=fun a=>a.ev vs env) ay hx hn e) (eD _ _ _ _ dE) (K _ _ _ _ dE)
end
theorem ia.cells {bs:List Nat} {f r:Nat} {h:ae} {v:V} {rows:List (List V)} (a:ia bs f r h v rows):v.dA=some [v]:=by cases a<;>rfl
end
end Go.Eng
namespace Go.Eng
noncomputable section
namespace Fc
theorem RS (mod:aL):∀(l:List (aL×Nat)) (A:List aL),b4 mod A l=[]→(l.map (·.1)).Nodup∧∀x∈l.map (·.1),x∉A
 |[],_,_=>⟨List.nodup_nil,fun x hx=>by simp at hx⟩
 |x::l,A,h=>by
  have h:((if x.1∈A then [⟨mod,x.2,6,x.1⟩] else [])++b4 mod (A++[x.1]) l:List cM)=[]:=h
  rw [List.append_eq_nil_iff] at h
  obtain ⟨h1,h2⟩:=h
  obtain ⟨a6,cc⟩:=RS mod l _ h2
  have hx:x.1∉A:=fun e=>by rw [if_pos e] at h1;cases h1
  refine ⟨?_,fun y hy=> ?_⟩
  · rw [List.map_cons,List.nodup_cons]
    exact ⟨fun hm=>(cc _ hm) (by simp),a6⟩
  · rw [List.map_cons,List.mem_cons] at hy
    rcases hy with rfl|hy
    · exact hx
    · exact fun e=>cc y hy (by simp [e])
theorem acN {m:e0} {az:List aL} (h:iS m az=[]):(m.vars.map (·.name)).Nodup∧(m.procs.map (·.name)).Nodup∧∀x∈m.vars.map (·.name),x∉m.procs.map (·.name):=by
 unfold iS v8 at h
 rw [List.append_eq_nil_iff,List.append_eq_nil_iff,List.append_eq_nil_iff] at h
 have:=(RS _ _ _ h.1.1.2).1
 rw [List.map_append,List.nodup_append] at this
 obtain ⟨a,b,c⟩:=this
 unfold dy at a c;unfold gS at b c
 rw [List.map_map] at a b
 rw [List.map_map,List.map_map] at c
 exact ⟨a,b,fun x hx hy=>c x hx x hy rfl⟩
def oJ (m:e0):List eR:=m.vars.map fun x=>(x.name,[L.str x.label, .int .i64 0, .int .i64 0])
def Ar (x:gd):aL×aL:=(x.name,x.label)
theorem acO (m:e0):(oJ m).map eR.row=(m.vars.map Ar).map ng:=by
 unfold oJ;rw [List.map_map,List.map_map];rfl
theorem acP (m:e0):(fo (oJ m)).map eR.row=(Aj m).map ng:=by
 have e:oJ m=(m.vars.map fun x=>(x.name,x.label)).map fun r=>(r.1,[L.str r.2, .int .i64 0, .int .i64 0]):=by unfold oJ;rw [List.map_map];rfl
 rw [e,zZ (fun l:aL=>[L.str l, .int .i64 0, .int .i64 0]),List.map_map];rfl
theorem acQ (m:e0):(oJ m).map (·.1)=m.vars.map (·.name):=by unfold oJ;rw [List.map_map];rfl
def GF (x:gi×fp):List V:=[x.2.p, .bool x.1.has,L.str x.1.result,L.str x.1.bO,x.2.u]
def td (gs:List (gi×fp)):List eR:=gs.map fun x=>(x.1.name,GF x)
def As (gs:List (gi×fp)):List (aL×(gi×fp)):=gs.map fun x=>(x.1.name,x)
def yc (gs:List (gi×fp)):List (gi×fp):=(fo (As gs)).map (·.2)
theorem acR (gs:List (gi×fp)):(td gs).map eR.row=gu gs:=by unfold td gu;rw [List.map_map];rfl
theorem RT {gs:List (gi×fp)} {r:aL×(gi×fp)} (h:r∈fo (As gs)):r.1=r.2.1.name∧r.2∈gs:=by
 have h:=(qE _).mem_iff.1 h
 obtain ⟨x,hx,rfl⟩:=List.mem_map.1 h
 exact ⟨rfl,hx⟩
theorem acS (gs:List (gi×fp)):(fo (td gs)).map eR.row=gu (yc gs):=by
 have e:td gs=(As gs).map fun r=>(r.1,GF r.2):=by unfold td As;rw [List.map_map];rfl
 rw [e,zZ GF,List.map_map]
 unfold gu yc
 rw [List.map_map]
 refine List.map_congr_left fun r hr=> ?_
 show L.str r.1::GF r.2=uI r.2.1 r.2.2
 rw [(RT hr).1];rfl
theorem acT {h:ae} {gs:List (gi×fp)} (a:kL h gs):kL h (yc gs):=by
 intro x hx
 unfold yc at hx
 obtain ⟨r,hr,rfl⟩:=List.mem_map.1 hx
 exact a _ (RT hr).2
theorem acU {m:e0} {gs:List (gi×fp)} (h:gs.map (·.1)=m.procs.map k8):(yc gs).map (·.1)=uH m:=by
 unfold yc uH
 rw [List.map_map]
 have e:(m.procs.map fun p=>(p.name,k8 p))=(As gs).map fun r=>(r.1,r.2.1):=by
  have:(m.procs.map fun p=>(p.name,k8 p))=(m.procs.map k8).map fun g=>(g.name,g):=by rw [List.map_map];rfl
  rw [this,←h];unfold As;rw [List.map_map,List.map_map];rfl
 rw [e,zZ (fun x:gi×fp=>x.1),List.map_map];rfl
theorem acV {m:e0} {gs:List (gi×fp)} (h:gs.map (·.1)=m.procs.map k8):(td gs).map (·.1)=m.procs.map (·.name):=by
 have:(td gs).map (·.1)=(gs.map (·.1)).map (·.name):=by unfold td;rw [List.map_map,List.map_map];rfl
 rw [this,h,List.map_map];rfl
def rX (m:e0) (az:List aL):List (aL×aL):=if iS m az=[] then Aj m else []
def qR (m:e0) (az:List aL):List gi:=if iS m az=[] then uH m else []
end Fc
end
end Go.Eng
