/- Part of a proof of a law: rules of an evaluator, contracts, plain laws. No condition of its own. -/
import Derived.Test.YtmcjcbldmoijiaaGreatDoorSymG
import Derived.Test.YtmcjcbldmoijiaaGreatDoorSymE
import Derived.Test.YtmcjcbldmoijiaaGreatDoorSymI
set_option linter.unusedVariables false
set_option linter.unusedSimpArgs false
namespace Go.Eng
noncomputable section
def lL (x:cC):nW:=(x.name,x.label,(x.at_:Int))
theorem fW.pm {h:ag} {v:V} {m:List cC} (a:Rows 3 h v (m.map cC.row)):fW h v (m.map lL):=fW.of (by rw [List.map_map];exact a)
end
end Go.Eng
namespace Go.Eng
noncomputable section
def ga (s:List UInt8):iQ:=if rT s=0 then iR (eR ((kx s).map lL)) else iQ.none
def uS (s:List UInt8):Nat:=if rT s=0 then (Lab.made (eR ((kx s).map lL))).1 else rT s
def jn:List UInt8:=[108,97,98,101,108,115,32,108,111,119,32,60,32,104,105,103,104,59]
def xL (s:List UInt8):iQ:=if uS s≠0∨500<s.length then ga jn else ga s
theorem ahf (s:List UInt8):(ga s).small:=by
 unfold ga
 split
 · exact abA _
 · exact iQ.RN
theorem ahg (s:List UInt8):(xL s).small:=by
 unfold xL
 split<;>exact ahf _
theorem ahh {p:eb} {q q':n5} (h:BJ p q=BJ p q'):q=q':=by
 obtain ⟨a,b,c⟩:=q
 obtain ⟨bp,bT,dT⟩:=q'
 simp only [BJ,List.cons.injEq,true_and,and_true] at h
 obtain ⟨rfl,rfl,rfl⟩:=h
 rfl
theorem ie.view {h:ag}:∀{l:List eb} {rows:List (List V)},ie h l rows→∃fm:List n5,rows=zc l fm∧fm.length=l.length∧∀(i:Nat) (p:eb) (q:n5),l[i]? =some p→fm[i]? =some q→p.fU=[]→q.u= .U
 |[],rows,a=>⟨[],by have a:rows=[]:=a;rw [a];rfl,rfl,fun i p q hp=>by simp at hp⟩
 |p::l,rows,a=>by
  obtain ⟨r,rs,rfl,hr,ha⟩:=a
  obtain ⟨dX,hE,mz,rfl,_,_,_,hn⟩:=hr
  obtain ⟨fm,rfl,h2,bj⟩:=ie.view ha
  refine ⟨⟨dX,hE,mz⟩::fm,rfl,by rw [List.length_cons,List.length_cons,h2],fun i ahi q hp bC=> ?_⟩
  match i with
  |0=>cases hp;cases bC;exact hn
  |i+1=>exact bj i ahi q (by simpa using hp) (by simpa using bC)
theorem ie.all {h:ag} {l:List eb} {fm:List n5} (au:fm.length=l.length) (a:ie h l (zc l fm)):SE h l fm:=by
 intro i p q hp bC
 obtain ⟨row,h1,dX,hE,mz,rfl,g1,g2,_⟩:=a.at_ hp
 rw [sW hp bC] at h1
 have h1:=Option.some.inj h1
 have e:q=⟨dX,hE,mz⟩:=ahh (p:=p) (q:=q) (q':=⟨dX,hE,mz⟩) h1
 subst e
 exact ⟨g1,g2⟩
theorem ak.ahj {fs:List Fact} {h:ag} {m:eK} {row:List V} (st:ak (.ay (fun h=>vH h m row)::fs) h):
  ∃w:kZ,row=vI m w∧w.fm.length=m.procs.length∧(∀(i:Nat) (p:eb) (q:n5),m.procs[i]? =some p→w.fm[i]? =some q→p.fU=[]→q.u= .U)∧ak (.ay (fun h=>bG h m w)::fs) h:=by
 obtain ⟨sU,eX,dX,akR,rfl,s1⟩:=st.acN
 obtain ⟨fm,rfl,h2,bj⟩:=ie.view (s1.aS 3 rfl)
 refine ⟨⟨sU,eX,dX,fm⟩,rfl,h2,bj, ?_⟩
 have s2:=((s1.and).and).and
 exact s2.fD fun h hx=>⟨hx.1.1.1,hx.1.1.2,hx.1.2,ie.all h2 hx.2⟩
theorem ahk (s:List UInt8):(pJ s).imports.length≤8193∧(pJ s).vars.length≤8193∧(pJ s).procs.length≤8193∧∀p∈(pJ s).procs,p.params.length≤8193∧p.fU.length≤8193:=by
 have z:zh.imports.length≤8193∧zh.vars.length≤8193∧zh.procs.length≤8193∧∀p∈zh.procs,p.params.length≤8193∧p.fU.length≤8193:=⟨by decide,by decide,by decide,fun p hp=>by simp [zh] at hp⟩
 unfold pJ Par.text
 cases au:Lex.lex s with
 |error e=>exact z
 |ok a8=>
  cases hm:Par.y9 0 a8 with
  |error e=>simp only [hm];exact z
  |ok q=>
   obtain ⟨m,l⟩:=q
   simp only [hm]
   have hf:=Par.aeb a8 m l hm
   have hp:=Par.lC.len m.procs
   have ht:=aec au
   simp only at hf
   refine ⟨by omega,by omega,by omega,fun p hp=> ?_⟩
   have:=Par.lC.mem hp
   simp only [Par.xt] at this
   exact ⟨by omega,by omega⟩
theorem ahl {s:List UInt8} {w:kZ} (h1:w.fm.length=(pJ s).procs.length) (h2:∀(i:Nat) (p:eb) (q:n5),(pJ s).procs[i]? =some p→w.fm[i]? =some q→p.fU=[]→q.u= .U):mD (pJ s) w:=by
 obtain ⟨a,b,c,d⟩:=ahk s
 exact ⟨h1,h2,a,b,c,d⟩
theorem Fc.ahm {m:eK} {w:kZ} (ok:mD m w):(Fc.qD m).length≤8193∧∀g∈Fc.qD m,g.params.length<4294967296∧g.fU.length<4294967296:=by
 have hp:=rJ (m.procs.map fun p=>(p.name,Fc.gV p))
 refine ⟨?_,fun g hg=> ?_⟩
 · unfold Fc.qD;rw [List.length_map,hp.length_eq,List.length_map];exact ok.jq
 · unfold Fc.qD at hg
   obtain ⟨r,hr,rfl⟩:=List.mem_map.1 hg
   obtain ⟨p,vR,rfl⟩:=List.mem_map.1 (hp.mem_iff.1 hr)
   have:=ok.pa p vR
   refine ⟨?_, ?_⟩
   · show (p.params.map _).length<_
     rw [List.length_map];omega
   · exact Nat.lt_of_le_of_lt (RZ _) (by omega)
theorem Fc.ahn {m:eK} {w:kZ} (ok:mD m w):(Fc.uk m).length≤8193:=by
 unfold Fc.uk;rw [(rJ _).length_eq,List.length_map];exact ok.um
theorem Fc.aho {m:eK} {w:kZ} (ok:mD m w) (NS:List Fc.aL):(Fc.vP m NS).length≤8193:=by
 unfold Fc.vP;split
 · exact Fc.ahn ok
 · simp
theorem Fc.UP {m:eK} {w:kZ} (ok:mD m w) (NS:List Fc.aL):(Fc.uv m NS).length≤8193∧∀g∈Fc.uv m NS,g.params.length<4294967296∧g.fU.length<4294967296:=by
 unfold Fc.uv;split
 · exact Fc.ahm ok
 · exact ⟨by simp,fun g hg=>by cases hg⟩
theorem Fc.ahp {m:eK} {w:kZ} (ok:mD m w) (NS:List Fc.aL):(Fc.jj m NS).length<4294967296:=by
 have h1:=Fc.MT ok
 have h2:=Lab.Bq (f:=Fc.unk m.name NS) (n:=1) (l:=Fc.eh m) fun x _=>Fc.nw _ _ x
 have bj:=Lab.Bq (f:=Fc.fE m.name NS) (n:=8195) (l:=m.procs) fun p hp=>Fc.MR _ _ (ok.pa p hp).1
 have e:(Fc.eh m).length=m.vars.length:=List.length_map _
 have:=ok.um;have:=ok.jq
 unfold Fc.jj Fc.Ia
 rw [List.length_append,List.length_append]
 omega
end
end Go.Eng
namespace Go.Eng
noncomputable section
theorem UQ:∀{gs gt:List (Fc.gv×eS)},gs.map (·.1)=gt.map (·.1)→e1 gs=e1 gt→gs=gt
 |[],[],_,_=>rfl
 |[],_::_,h,_=>by simp at h
 |_::_,[],h,_=>by simp at h
 |(g,q)::gs,(AW,q')::gt,h,e=>by
  simp only [List.map_cons,List.cons.injEq] at h
  obtain ⟨rfl,h⟩:=h
  simp only [e1,List.map_cons,List.cons.injEq] at e
  obtain ⟨aT,bu⟩:=e
  obtain ⟨a,b⟩:=q
  obtain ⟨bp,bT⟩:=q'
  simp only [pH,List.cons.injEq,true_and,and_true] at aT
  obtain ⟨rfl,rfl⟩:=aT
  rw [UQ h bu]
theorem ak.UR {fs:List Fact} {h:ag} {a b:V} {vs:List (Fc.aL×Fc.aL)} {aQ:List Fc.gv} (st:ak (.ay (fun h=>pI h a b vs aQ)::fs) h):
  ∃gs:List (Fc.gv×eS),gs.map (·.1)=aQ∧ak (.ay (fun h=>Rows 4 h a (vs.map Fc.iv)):: .ay (fun h=>Rows 6 h b (e1 gs)):: .ay (fun h=>hF h gs)::fs) h:=by
 have s1:=st.imp (Q:=fun h=>∃rows,Rows 6 h b rows∧∃gs:List (Fc.gv×eS),rows=e1 gs∧gs.map (·.1)=aQ∧hF h gs) fun h hx=>by
  obtain ⟨_,gs,h1,h2,bj⟩:=hx
  exact ⟨_,h2,gs,rfl,h1,bj⟩
 obtain ⟨rows,s2⟩:=s1.QZ
 obtain ⟨gs,rfl,h1,_⟩:=s2.aS 1 rfl
 refine ⟨gs,h1, ?_⟩
 have gb:=(s2.pick 1 rfl).fD (Q:=fun h=>hF h gs) fun h hx=>by
  obtain ⟨gt,aT,bu,dH⟩:=hx
  have:=UQ (bu.trans h1.symm) aT.symm
  exact this▸dH
 have jo:=(gb.pick 2 rfl).fD (Q:=fun h=>Rows 4 h a (vs.map Fc.iv)) fun h hx=>hx.1
 exact (jo.pick 2 rfl).pick 1 rfl
end
end Go.Eng
