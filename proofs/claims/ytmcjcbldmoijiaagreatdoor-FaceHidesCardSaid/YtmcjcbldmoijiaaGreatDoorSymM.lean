/- Part of a proof of a law: rules of an evaluator, contracts, plain laws. No condition of its own. -/
import Derived.Test.YtmcjcbldmoijiaaGreatDoorSymD
import Derived.Test.YtmcjcbldmoijiaaGreatDoorSymL
set_option linter.unusedVariables false
set_option linter.unusedSimpArgs false
namespace Go.Eng
noncomputable section
section
variable {c:Ctx} {Q:hX} {env:Env} {h:ae} {fs:List Fact} {vs:List V} {bs:List Nat} {f r:Nat}
theorem I.afy {l:List eA} {b n i j:Nat} {cap:Option Nat} {x y:A} {v:V} {row:List V} {rows:List (List V)} (st:aq (.cS bs f r (.au b 0 n cap) rows::fs) h) (hx:x.ev vs env= .ptr b (0+i * r+j)) (hy:(y.ev vs env).dA=some [v]) (hr:1<r) (aR:j<r) (ag:rows[i]? =some row)
  (K:∀h1,aq (.cS bs f r (.au b 0 n cap) (rows.set i (row.set j v))::fs) h1→I c l Q (un::vs) env h1):I c (.p (.H (.store 1 x y))::l) Q vs env h:=by
 obtain ⟨ax,e,dE⟩:=st.ZD hr aR ag v
 refine I.act (fun call=> ?_) (K ax dE)
 show (Option.rec .bad (fun p=>Option.rec .bad (fun l=>Bool.rec .bad (h.dB p.1 p.2 1 l .bad fun h=> .ok un h) ((cI l).beq 1)) (y.ev vs env).dA) (x.ev vs env).lo:a7)=_
 rw [hx,hy]
 show h.dB b (0+i * r+j) 1 [v] .bad (fun h=>a7.ok un h)=_
 rw [Nat.zero_add,e]
theorem I.afz {l:List eA} {r bytes b:Nat} {s x:A} {fN:V} {new:List (List V)} (st:aq fs h) (ay:s.ev vs env= .au b 0 0 (some 0)) (hb:8≤b) (hx:x.ev vs env=fN) (hn:Rows r h fN new) (hr:0<r) (bG:0<new.length) (eI:new.length * bytes≤1099511627776)
  (K:∀bs f v h1,aq (.cS bs f r v new::fs) h1→I c l Q (v::vs) env h1):I c (.p (.H (.append r bytes s x))::l) Q vs env h:=by
 have ar:∀row∈new,row.length=r:=by
  cases hn with
  |nil=>intro row hm;simp at hm
  |row _ _ _ _ _ hlen=>exact hlen
 have KL:h.load b 0 (Nat.mul 0 r)=some []:=by rw [show Nat.mul 0 r=0 from Nat.zero_mul r];rfl
 have e:=Kd (h:=h) (r:=r) (bytes:=bytes) (b:=b) (n:=0) (m:=new.length) (old:=[]) (new:=new.flatten) hb KL bG (by rw [Nat.zero_add];exact eI)
 rw [Nat.zero_add,List.nil_append] at e
 obtain ⟨bs,f,v,ax,bl,dE⟩:=(st.xN r).CG (bytes:=bytes) hr ar (by simpa using eI)
 exact I.act (fun _=>L.append (ev:=fun a=>a.ev vs env) ay hx hn (e.trans bl)) (K _ _ _ _ dE)
theorem I.afA {l:List eA} {r bytes b:Nat} {s x:A} {fN:V} (ay:s.ev vs env= .au b 0 0 (some 0)) (hx:x.ev vs env=fN) (hn:Rows r h fN []) (w:I c l Q (.au b 0 0 (some 0)::vs) env h):I c (.p (.H (.append r bytes s x))::l) Q vs env h:=
 I.act (fun _=>L.append (ev:=fun a=>a.ev vs env) (out:= .ok (.au b 0 0 (some 0)) h) ay hx hn rfl) w
end
end
end Go.Eng
namespace Go.Eng
noncomputable section
structure pY (a b:List jc):Prop where
 len:b.length=a.length
 at_:∀(k:Nat) (q':jc),b[k]? =some q'→∃q,a[k]? =some q∧q'.p=q.p∧q'.u=q.u
theorem pY.Ta (a:List jc):pY a a:=⟨rfl,fun _ q h=>⟨q,h,rfl,rfl⟩⟩
theorem pY.set {a b:List jc} (l:pY a b) {i:Nat} {q:jc} (bB:b[i]? =some q) (v:V):pY a (b.set i ⟨q.p,q.u,v⟩):=by
 refine ⟨by rw [List.length_set];exact l.len,fun k q' hk=> ?_⟩
 by_cases e:i=k
 · subst e
   rw [List.getElem?_set_self (List.getElem?_eq_some_iff.1 bB).1] at hk
   cases hk
   exact l.at_ i q bB
 · rw [List.getElem?_set_ne e] at hk
   exact l.at_ k q' hk
theorem afB {aO:List dO} {dP:List jc} {i:Nat} {p:dO} {q:jc} (hp:aO[i]? =some p) (bB:dP[i]? =some q) (v:V):(oG aO dP).set i ((x2 p q).set 6 v)=oG aO (dP.set i ⟨q.p,q.u,v⟩):=by
 refine List.ext_getElem? fun k=> ?_
 by_cases e:i=k
 · subst e
   have h1:=(List.getElem?_eq_some_iff.1 (wc hp bB)).1
   rw [List.getElem?_set_self h1,wc hp (by rw [List.getElem?_set_self (List.getElem?_eq_some_iff.1 bB).1])];rfl
 · rw [List.getElem?_set_ne e]
   unfold oG
   rw [List.getElem?_zipWith,List.getElem?_zipWith,List.getElem?_set_ne e]
theorem pY.ok {m:e0} {w:lO} {b:List jc} (l:pY w.dP b) (ok:lP m w) (v:V):lP m ⟨w.i,w.v,v,b⟩:=by
 refine ⟨l.len.trans ok.len,fun i p q hp bB hu=> ?_,ok.KZ,ok.x3,ok.jh,ok.pa⟩
 obtain ⟨q0,h0,_,h2⟩:=l.at_ i q bB
 exact h2.trans (ok.nil i p q0 hp h0 hu)
theorem pY.Tb {m:e0} {w:lO} {b:List jc} (l:pY w.dP b) {h:ae} {v:V} (a:cA h m w) (hr:Rows 8 h v (oG m.procs b)):cA h m ⟨w.i,w.v,v,b⟩:=by
 refine ⟨a.Gi,a.vars,hr,fun i p q hp bB=> ?_⟩
 obtain ⟨q0,h0,h1,h2⟩:=l.at_ i q bB
 have:=a.all i p q0 hp h0
 rw [←h1,←h2] at this
 exact this
end
end Go.Eng
