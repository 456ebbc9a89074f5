/- Part of a proof of a law: rules of an evaluator, contracts, plain laws. No condition of its own. -/
import Derived.Test.YtmcjcbldmoijiaaGreatDoorSymE
import Derived.Test.YtmcjcbldmoijiaaGreatDoorSymF
set_option linter.unusedVariables false
set_option linter.unusedSimpArgs false
namespace Go.Eng
noncomputable section
section
variable {c:Ctx} {Q:jd} {env:Env} {h:ag} {fs:List Fact} {vs:List V} {l:List eA} {cp:List Log} {cK:List Nat} {bs:List Nat} {f r bytes:Nat} {v hP:V} {rows new:List (List V)}
theorem ae.Mh {s x:A} (st:ak (.cX bs f r v rows::fs) h) (aC:s.ev vs env=v) (hx:x.ev vs env=hP) (hn:Rows r h hP new) (hr:0<r) (fx:(rows.length+new.length) * bytes≤1099511627776)
  (e5:∀rF dG v' h1,ak (.cX rF dG r v' (rows++new)::fs) h1→kJ cK h1 cp=true) (K:∀rF dG v' h1,ak (.cX rF dG r v' (rows++new)::fs) h1→ae c l Q (v'::vs) (.no::cp) env h1):ae c (⟨.p (.H (.append r bytes s x)),cK⟩::l) Q vs cp env h:=by
 have au:∀row∈new,row.length=r:=by
  cases hn with
  |nil=>intro row hm;simp at hm
  |row _ _ _ _ _ hlen=>exact hlen
 obtain ⟨rF,dG,v',aB,e,en⟩:=st.HI hr au fx
 exact ae.act (fun _=>L.append (ev:=fun a=>a.ev vs env) aC hx hn e) (e5 _ _ _ _ en) (K _ _ _ _ en)
end
theorem jv.cells {bs:List Nat} {f r:Nat} {h:ag} {v:V} {rows:List (List V)} (a:jv bs f r h v rows):v.dY=some [v]:=by cases a<;>rfl
end
end Go.Eng
namespace Go.Eng
noncomputable section
namespace Fc
theorem TE (mod:aL):∀(l:List (aL×Nat)) (A:List aL),a7 mod A l=[]→(l.map (·.1)).Nodup∧∀x∈l.map (·.1),x∉A
 |[],_,_=>⟨List.nodup_nil,fun x hx=>by simp at hx⟩
 |x::l,A,h=>by
  have h:((if x.1∈A then [⟨mod,x.2,6,x.1⟩] else [])++a7 mod (A++[x.1]) l:List b6)=[]:=h
  rw [List.append_eq_nil_iff] at h
  obtain ⟨h1,h2⟩:=h
  obtain ⟨bj,cy⟩:=TE mod l _ h2
  have hx:x.1∉A:=fun e=>by rw [if_pos e] at h1;cases h1
  refine ⟨?_,fun y hy=> ?_⟩
  · rw [List.map_cons,List.nodup_cons]
    exact ⟨fun hm=>(cy _ hm) (by simp),bj⟩
  · rw [List.map_cons,List.mem_cons] at hy
    rcases hy with rfl|hy
    · exact hx
    · exact fun e=>cy y hy (by simp [e])
theorem TF {m:eK} {NS:List aL} (h:jj m NS=[]):(m.vars.map (·.name)).Nodup∧(m.procs.map (·.name)).Nodup∧∀x∈m.vars.map (·.name),x∉m.procs.map (·.name):=by
 unfold jj h4 at h
 rw [List.append_eq_nil_iff,List.append_eq_nil_iff,List.append_eq_nil_iff] at h
 have:=(TE _ _ _ h.1.1.2).1
 rw [List.map_append,List.nodup_append] at this
 obtain ⟨a,b,c⟩:=this
 unfold bY at a c;unfold dO at b c
 rw [List.map_map] at a b
 rw [List.map_map,List.map_map] at c
 exact ⟨a,b,fun x hx hy=>c x hx x hy rfl⟩
def pL (m:eK):List ft:=m.vars.map fun x=>(x.name,[L.str x.label, .int .i64 0, .int .i64 0])
def k4 (x:eW):aL×aL:=(x.name,x.label)
theorem ael (m:eK):(pL m).map ft.row=(m.vars.map k4).map iv:=by
 unfold pL;rw [List.map_map,List.map_map];rfl
theorem aem (m:eK):(fT (pL m)).map ft.row=(uk m).map iv:=by
 have e:pL m=(m.vars.map fun x=>(x.name,x.label)).map fun r=>(r.1,[L.str r.2, .int .i64 0, .int .i64 0]):=by unfold pL;rw [List.map_map];rfl
 rw [e,xj (fun l:aL=>[L.str l, .int .i64 0, .int .i64 0]),List.map_map];rfl
theorem aen (m:eK):(pL m).map (·.1)=m.vars.map (·.name):=by unfold pL;rw [List.map_map];rfl
def Is (x:gv×eS):List V:=[x.2.p, .bool x.1.has,L.str x.1.result,L.str x.1.bI,x.2.u]
def uu (gs:List (gv×eS)):List ft:=gs.map fun x=>(x.1.name,Is x)
def BT (gs:List (gv×eS)):List (aL×(gv×eS)):=gs.map fun x=>(x.1.name,x)
def zm (gs:List (gv×eS)):List (gv×eS):=(fT (BT gs)).map (·.2)
theorem aeo (gs:List (gv×eS)):(uu gs).map ft.row=e1 gs:=by unfold uu e1;rw [List.map_map];rfl
theorem TG {gs:List (gv×eS)} {r:aL×(gv×eS)} (h:r∈fT (BT gs)):r.1=r.2.1.name∧r.2∈gs:=by
 have h:=(rJ _).mem_iff.1 h
 obtain ⟨x,hx,rfl⟩:=List.mem_map.1 h
 exact ⟨rfl,hx⟩
theorem aep (gs:List (gv×eS)):(fT (uu gs)).map ft.row=e1 (zm gs):=by
 have e:uu gs=(BT gs).map fun r=>(r.1,Is r.2):=by unfold uu BT;rw [List.map_map];rfl
 rw [e,xj Is,List.map_map]
 unfold e1 zm
 rw [List.map_map]
 refine List.map_congr_left fun r hr=> ?_
 show L.str r.1::Is r.2=pH r.2.1 r.2.2
 rw [(TG hr).1];rfl
theorem aeq {h:ag} {gs:List (gv×eS)} (a:hF h gs):hF h (zm gs):=by
 intro x hx
 unfold zm at hx
 obtain ⟨r,hr,rfl⟩:=List.mem_map.1 hx
 exact a _ (TG hr).2
theorem aer {m:eK} {gs:List (gv×eS)} (h:gs.map (·.1)=m.procs.map gV):(zm gs).map (·.1)=qD m:=by
 unfold zm qD
 rw [List.map_map]
 have e:(m.procs.map fun p=>(p.name,gV p))=(BT gs).map fun r=>(r.1,r.2.1):=by
  have:(m.procs.map fun p=>(p.name,gV p))=(m.procs.map gV).map fun g=>(g.name,g):=by rw [List.map_map];rfl
  rw [this,←h];unfold BT;rw [List.map_map,List.map_map];rfl
 rw [e,xj (fun x:gv×eS=>x.1),List.map_map];rfl
theorem aes {m:eK} {gs:List (gv×eS)} (h:gs.map (·.1)=m.procs.map gV):(uu gs).map (·.1)=m.procs.map (·.name):=by
 have:(uu gs).map (·.1)=(gs.map (·.1)).map (·.name):=by unfold uu;rw [List.map_map,List.map_map];rfl
 rw [this,h,List.map_map];rfl
def vP (m:eK) (NS:List aL):List (aL×aL):=if jj m NS=[] then uk m else []
def uv (m:eK) (NS:List aL):List gv:=if jj m NS=[] then qD m else []
end Fc
end
end Go.Eng
