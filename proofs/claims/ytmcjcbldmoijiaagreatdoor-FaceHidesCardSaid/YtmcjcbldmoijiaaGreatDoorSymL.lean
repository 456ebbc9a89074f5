/- Part of a proof of a law: rules of an evaluator, contracts, plain laws. No condition of its own. -/
import Derived.Test.YtmcjcbldmoijiaaGreatDoorSymG
import Derived.Test.YtmcjcbldmoijiaaGreatDoorSymE
import Derived.Test.YtmcjcbldmoijiaaGreatDoorSymI
set_option linter.unusedVariables false
set_option linter.unusedSimpArgs false
namespace Go.Eng
noncomputable section
def kS (x:ck):lJ:=(x.name,x.label,(x.at_:Int))
theorem fj.pm {h:ae} {v:V} {m:List ck} (a:Rows 3 h v (m.map ck.row)):fj h v (m.map kS):=fj.of (by rw [List.map_map];exact a)
end
end Go.Eng
namespace Go.Eng
noncomputable section
def fv (s:List UInt8):ie:=if qN s=0 then ig (er ((jP s).map kS)) else ie.none
def tC (s:List UInt8):Nat:=if qN s=0 then (Lab.made (er ((jP s).map kS))).1 else qN s
def iF:List UInt8:=[108,97,98,101,108,115,32,108,111,119,32,60,32,104,105,103,104,59]
def wC (s:List UInt8):ie:=if tC s≠0∨500<s.length then fv iF else fv s
theorem afm (s:List UInt8):(fv s).small:=by
 unfold fv
 split
 · exact ZU _
 · exact ie.PY
theorem afn (s:List UInt8):(wC s).small:=by
 unfold wC
 split<;>exact afm _
theorem afo {p:dO} {q q':jc} (h:x2 p q=x2 p q'):q=q':=by
 obtain ⟨a,b,c⟩:=q
 obtain ⟨bf,bL,dw⟩:=q'
 simp only [x2,List.cons.injEq,true_and,and_true] at h
 obtain ⟨rfl,rfl,rfl⟩:=h
 rfl
theorem hB.view {h:ae}:∀{l:List dO} {rows:List (List V)},hB h l rows→∃dP:List jc,rows=oG l dP∧dP.length=l.length∧∀(i:Nat) (p:dO) (q:jc),l[i]? =some p→dP[i]? =some q→p.gp=[]→q.u= .U
 |[],rows,a=>⟨[],by have a:rows=[]:=a;rw [a];rfl,rfl,fun i p q hp=>by simp at hp⟩
 |p::l,rows,a=>by
  obtain ⟨r,rs,rfl,hr,ha⟩:=a
  obtain ⟨dv,iB,lK,rfl,_,_,_,hn⟩:=hr
  obtain ⟨dP,rfl,h2,a6⟩:=hB.view ha
  refine ⟨⟨dv,iB,lK⟩::dP,rfl,by rw [List.length_cons,List.length_cons,h2],fun i afp q hp bB=> ?_⟩
  match i with
  |0=>cases hp;cases bB;exact hn
  |i+1=>exact a6 i afp q (by simpa using hp) (by simpa using bB)
theorem hB.all {h:ae} {l:List dO} {dP:List jc} (ar:dP.length=l.length) (a:hB h l (oG l dP)):QN h l dP:=by
 intro i p q hp bB
 obtain ⟨row,h1,dv,iB,lK,rfl,g1,g2,_⟩:=a.at_ hp
 rw [wc hp bB] at h1
 have h1:=Option.some.inj h1
 have e:q=⟨dv,iB,lK⟩:=afo (p:=p) (q:=q) (q':=⟨dv,iB,lK⟩) h1
 subst e
 exact ⟨g1,g2⟩
theorem aq.afq {fs:List Fact} {h:ae} {m:e0} {row:List V} (st:aq (.aE (fun h=>uF h m row)::fs) h):
  ∃w:lO,row=CY m w∧w.dP.length=m.procs.length∧(∀(i:Nat) (p:dO) (q:jc),m.procs[i]? =some p→w.dP[i]? =some q→p.gp=[]→q.u= .U)∧aq (.aE (fun h=>cA h m w)::fs) h:=by
 obtain ⟨rP,fm,dv,aiC,rfl,s1⟩:=st.abd
 obtain ⟨dP,rfl,h2,a6⟩:=hB.view (s1.bt 3 rfl)
 refine ⟨⟨rP,fm,dv,dP⟩,rfl,h2,a6, ?_⟩
 have s2:=((s1.and).and).and
 exact s2.e4 fun h hx=>⟨hx.1.1.1,hx.1.1.2,hx.1.2,hB.all h2 hx.2⟩
theorem afr (s:List UInt8):(oH s).imports.length≤8193∧(oH s).vars.length≤8193∧(oH s).procs.length≤8193∧∀p∈(oH s).procs,p.params.length≤8193∧p.gp.length≤8193:=by
 have z:x7.imports.length≤8193∧x7.vars.length≤8193∧x7.procs.length≤8193∧∀p∈x7.procs,p.params.length≤8193∧p.gp.length≤8193:=⟨by decide,by decide,by decide,fun p hp=>by simp [x7] at hp⟩
 unfold oH Par.text
 cases ar:Lex.lex s with
 |error e=>exact z
 |ok aP=>
  cases hm:Par.xY 0 aP with
  |error e=>simp only [hm];exact z
  |ok q=>
   obtain ⟨m,l⟩:=q
   simp only [hm]
   have hf:=Par.acC aP m l hm
   have hp:=Par.kM.len m.procs
   have ht:=acD ar
   simp only at hf
   refine ⟨by omega,by omega,by omega,fun p hp=> ?_⟩
   have:=Par.kM.mem hp
   simp only [Par.wi] at this
   exact ⟨by omega,by omega⟩
theorem afs {s:List UInt8} {w:lO} (h1:w.dP.length=(oH s).procs.length) (h2:∀(i:Nat) (p:dO) (q:jc),(oH s).procs[i]? =some p→w.dP[i]? =some q→p.gp=[]→q.u= .U):lP (oH s) w:=by
 obtain ⟨a,b,c,d⟩:=afr s
 exact ⟨h1,h2,a,b,c,d⟩
theorem Fc.aft {m:e0} {w:lO} (ok:lP m w):(Fc.uH m).length≤8193∧∀g∈Fc.uH m,g.params.length<4294967296∧g.gp.length<4294967296:=by
 have hp:=qE (m.procs.map fun p=>(p.name,Fc.k8 p))
 refine ⟨?_,fun g hg=> ?_⟩
 · unfold Fc.uH;rw [List.length_map,hp.length_eq,List.length_map];exact ok.jh
 · unfold Fc.uH at hg
   obtain ⟨r,hr,rfl⟩:=List.mem_map.1 hg
   obtain ⟨p,yd,rfl⟩:=List.mem_map.1 (hp.mem_iff.1 hr)
   have:=ok.pa p yd
   refine ⟨?_, ?_⟩
   · show (p.params.map _).length<_
     rw [List.length_map];omega
   · exact Nat.lt_of_le_of_lt (P8 _) (by omega)
theorem Fc.afu {m:e0} {w:lO} (ok:lP m w):(Fc.Aj m).length≤8193:=by
 unfold Fc.Aj;rw [(qE _).length_eq,List.length_map];exact ok.x3
theorem Fc.S5 {m:e0} {w:lO} (ok:lP m w) (az:List Fc.aL):(Fc.rX m az).length≤8193:=by
 unfold Fc.rX;split
 · exact Fc.afu ok
 · simp
theorem Fc.Hw {m:e0} {w:lO} (ok:lP m w) (az:List Fc.aL):(Fc.qR m az).length≤8193∧∀g∈Fc.qR m az,g.params.length<4294967296∧g.gp.length<4294967296:=by
 unfold Fc.qR;split
 · exact Fc.aft ok
 · exact ⟨by simp,fun g hg=>by cases hg⟩
theorem Fc.S6 {m:e0} {w:lO} (ok:lP m w) (az:List Fc.aL):(Fc.iS m az).length<4294967296:=by
 have h1:=Fc.QO ok
 have h2:=Lab.zW (f:=Fc.unk m.name az) (n:=1) (l:=Fc.gT m) fun x _=>Fc.v7 _ _ x
 have a6:=Lab.zW (f:=Fc.jb m.name az) (n:=8195) (l:=m.procs) fun p hp=>Fc.QM _ _ (ok.pa p hp).1
 have e:(Fc.gT m).length=m.vars.length:=List.length_map _
 have:=ok.x3;have:=ok.jh
 unfold Fc.iS Fc.Gh
 rw [List.length_append,List.length_append]
 omega
end
end Go.Eng
namespace Go.Eng
noncomputable section
theorem S7:∀{gs gt:List (Fc.gi×fp)},gs.map (·.1)=gt.map (·.1)→gu gs=gu gt→gs=gt
 |[],[],_,_=>rfl
 |[],_::_,h,_=>by simp at h
 |_::_,[],h,_=>by simp at h
 |(g,q)::gs,(sU,q')::gt,h,e=>by
  simp only [List.map_cons,List.cons.injEq] at h
  obtain ⟨rfl,h⟩:=h
  simp only [gu,List.map_cons,List.cons.injEq] at e
  obtain ⟨aS,bl⟩:=e
  obtain ⟨a,b⟩:=q
  obtain ⟨bf,bL⟩:=q'
  simp only [uI,List.cons.injEq,true_and,and_true] at aS
  obtain ⟨rfl,rfl⟩:=aS
  rw [S7 h bl]
theorem aq.S8 {fs:List Fact} {h:ae} {a b:V} {vs:List (Fc.aL×Fc.aL)} {aO:List Fc.gi} (st:aq (.aE (fun h=>nQ h a b vs aO)::fs) h):
  ∃gs:List (Fc.gi×fp),gs.map (·.1)=aO∧aq (.aE (fun h=>Rows 4 h a (vs.map Fc.ng)):: .aE (fun h=>Rows 6 h b (gu gs)):: .aE (fun h=>kL h gs)::fs) h:=by
 have s1:=st.imp (Q:=fun h=>∃rows,Rows 6 h b rows∧∃gs:List (Fc.gi×fp),rows=gu gs∧gs.map (·.1)=aO∧kL h gs) fun h hx=>by
  obtain ⟨_,gs,h1,h2,a6⟩:=hx
  exact ⟨_,h2,gs,rfl,h1,a6⟩
 obtain ⟨rows,s2⟩:=s1.O0
 obtain ⟨gs,rfl,h1,_⟩:=s2.bt 1 rfl
 refine ⟨gs,h1, ?_⟩
 have fw:=(s2.pick 1 rfl).e4 (Q:=fun h=>kL h gs) fun h hx=>by
  obtain ⟨gt,aS,bl,df⟩:=hx
  have:=S7 (bl.trans h1.symm) aS.symm
  exact this▸df
 have iG:=(fw.pick 2 rfl).e4 (Q:=fun h=>Rows 4 h a (vs.map Fc.ng)) fun h hx=>hx.1
 exact (iG.pick 2 rfl).pick 1 rfl
end
end Go.Eng
