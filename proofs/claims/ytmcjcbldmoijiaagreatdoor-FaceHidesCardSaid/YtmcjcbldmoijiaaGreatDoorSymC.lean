/- Part of a proof of a law: rules of an evaluator, contracts, plain laws. No condition of its own. -/
import Derived.Test.YtmcjcbldmoijiaaGreatDoorSymB
import Derived.Test.YtmcjcbldmoijiaaGreatDoorEngC
set_option linter.unusedVariables false
set_option linter.unusedSimpArgs false
namespace Go.Eng
noncomputable section
def FQ (b:UInt8):V:= .int .u8 (b.toNat:Int)
inductive FR (j:Nat):List UInt8→V→Obj→Prop where
 |nil:FR j [] .U .dead
 |zero:FR j [] (.au j 0 0 none) .dead
 |some {l:List UInt8} (h:l≠[]) (cap:Nat):FR j l (.au j 0 l.length (some cap)) (.box (l.map FQ))
theorem YI {l:List UInt8} {h:ae} {i:Nat} {b:UInt8} (hb:T.get 0 h.t=some (.box (l.map FQ))) (ag:l[i]? =some b):h.eb 0 i=some (FQ b):=by
 refine L.JH hb ?_
 rw [wO,oZ,List.head?_drop]
 simp [ag]
end
end Go.Eng
namespace Go.Eng
noncomputable section
namespace L
variable {ev:dr} {h:ae} {x y:A}
end L
end
end Go.Eng
namespace Go.Eng
noncomputable section
theorem Kd {h:ae} {r bytes b n m:Nat} {old new:List V} (hb:8≤b) (ar:h.load b 0 (Nat.mul n r)=some old) (hm:0<m) (eI:(n+m) * bytes≤1099511627776):
  fH h r bytes (.au b 0 n (some n)) new m=fH h r bytes .U (old++new) (n+m):=by
 have jy:Nat.beq m 0=false:=by
  cases m with
  |zero=>omega
  |succ m=>rfl
 have gN:Nat.beq (n+m) 0=false:=by
  cases e:Nat.beq (n+m) 0 with
  |false=>rfl
  |true=>have:=Nat.eq_of_beq_eq_true e;omega
 have h1:(Nat.mul (n+m) bytes).ble 1099511627776=true:=by rw [ew];simpa using eI
 have h2:Nat.ble 8 b=true:=by rw [ew];simpa using hb
 have a6:(n+m).ble n=false:=by rw [ew];simp;omega
 show (bif m.beq 0 then a7.ok (.au b 0 n (some n)) h else p5 h r bytes b 0 n (some n) new m)=_
 rw [jy]
 show p5 h r bytes b 0 n (some n) new m=_
 unfold p5
 rw [force_eq,force_eq]
 show (bif (Nat.mul (n+m) bytes).ble 1099511627776&&Nat.ble 8 b then
   (bif (n+m).ble n then h.dB b (Nat.add 0 (Nat.mul n r)) (Nat.mul m r) new .bad fun h=> .ok (.au b 0 (n+m) (some n)) h
     else (Option.rec .bad (fun old=>gl r (n+m) 0 (fx old new) T.e fun t=>mk h (.cells r h.next 0 (Nat.mul (n+m) r) t) (.au h.next 0 (n+m) none)) (h.load b 0 (Nat.mul n r)):a7)) else .bad)=_
 rw [h1,h2,a6,ar]
 show gl r (n+m) 0 (fx old new) T.e (fun t=>mk h (.cells r h.next 0 (Nat.mul (n+m) r) t) (.au h.next 0 (n+m) none))=_
 unfold fH
 simp only [gN,cond_false,h1,cond_true,force_eq,o0]
theorem aq.YJ {fs:List Fact} {h:ae} {r bytes b:Nat} {rows new:List (List V)} (s:aq fs h) (hb:8≤b) (hold:Rows r h (.au b 0 rows.length (some rows.length)) rows) (hr:0<r) (Cz:∀row∈rows,row.length=r) (YK:∀row∈new,row.length=r) (bG:0<new.length) (eI:(rows.length+new.length) * bytes≤1099511627776):
  ∃c5 v' ax,fH h r bytes (.au b 0 rows.length (some rows.length)) new.flatten new.length= .ok v' ax∧aq (.acc c5 r v' (rows++new)::fs) ax:=by
 obtain ⟨c5,v',ax,e,dE⟩:=(s.kE r).OU (bytes:=bytes) (new:=rows++new) hr (fun row hm=>by
  rcases List.mem_append.1 hm with hm|hm
  · exact Cz row hm
  · exact YK row hm) (by simpa using eI)
 refine ⟨c5,v',ax, ?_,by simpa using dE⟩
 rw [Kd hb hold.B4 bG eI,←e,List.flatten_append,List.length_append]
section
variable {c:Ctx} {Q:hX} {env:Env} {h:ae} {fs:List Fact} {l:List eA} {vs:List V} {i j:bp}
theorem I.YL {r n:Nat} {zero:List V} {aO:List (Nat×Nat×A)} {rows:List (List V)} (st:aq fs h) (hf:fill aO (fun a=>a.ev vs env) (rep n zero)=some rows.flatten) (hr:0<r) (hn:rows.length=n) (ar:∀row∈rows,row.length=r)
  (K:∀b h1,8≤b→aq (.aE (fun h=>Rows r h (.au b 0 n (some n)) rows)::fs) h1→I c l Q (.au b 0 n (some n)::vs) (Env.set i j (.au b 0 n (some n)) env) h1):I c (.s i j (.L (.eS r n zero aO))::l) Q vs env h:=
 I.zq (L.eS hf) (zu hr) (K _ _ st.wf.lim (st.frozen _ fun ax hg=>B5 hr hn ar hg))
theorem I.YM {r bytes b n:Nat} {s x:A} {fN:V} {rows new:List (List V)} (st:aq fs h) (ay:s.ev vs env= .au b 0 n (some n)) (hb:8≤b) (Ec:rows.length=n) (hold:Rows r h (.au b 0 n (some n)) rows) (hx:x.ev vs env=fN) (hn:Rows r h fN new) (hr:0<r) (bG:0<new.length) (eI:(rows.length+new.length) * bytes≤1099511627776)
  (K:∀c5 v' h1,aq (.acc c5 r v' (rows++new)::fs) h1→I c l Q (v'::vs) (Env.set i j v' env) h1):I c (.s i j (.H (.append r bytes s x))::l) Q vs env h:=by
 have ar:∀{v:V} {rs:List (List V)},Rows r h v rs→∀row∈rs,row.length=r:=by
  intro v rs hn
  cases hn with
  |nil=>intro row hm;simp at hm
  |row _ _ _ _ _ hlen=>exact hlen
 subst Ec
 obtain ⟨c5,v',ax,e,dE⟩:=st.YJ (bytes:=bytes) hb hold hr (ar hold) (ar hn) bG eI
 exact I.E2 (fun _=>L.append (ev:=fun a=>a.ev vs env) ay hx hn e) (K _ _ _ dE)
end
def pB (F:Fact) (r:Nat) (v:V) (rows:List (List V)):Prop:=(F= .aE (fun h=>Rows r h v rows)∧∃cq,v= .au cq 0 rows.length (some rows.length)∧8≤cq)∨∃f,F= .acc f r v rows
theorem pB.shut {F:Fact} {r:Nat} {v:V} {rows:List (List V)} {fs:List Fact} {h:ae} (b1:pB F r v rows) (st:aq (F::fs) h) (hr:0<r):aq (.aE (fun h=>Rows r h v rows)::fs) h:=by
 rcases b1 with ⟨rfl,_⟩|⟨f,rfl⟩
 · exact st
 · exact st.shut hr
section
variable {c:Ctx} {Q:hX} {env:Env} {h:ae} {fs:List Fact} {l:List eA} {vs:List V} {i j:bp}
theorem I.Ph {F:Fact} {r bytes:Nat} {s x:A} {v fN:V} {rows new:List (List V)} (b1:pB F r v rows) (st:aq (F::fs) h) (ay:s.ev vs env=v) (hx:x.ev vs env=fN) (hn:Rows r h fN new) (hr:0<r) (bG:0<new.length) (eI:(rows.length+new.length) * bytes≤1099511627776)
  (K:∀c5 v' h1,aq (.acc c5 r v' (rows++new)::fs) h1→I c l Q (v'::vs) (Env.set i j v' env) h1):I c (.s i j (.H (.append r bytes s x))::l) Q vs env h:=by
 rcases b1 with ⟨rfl,cq,rfl,Ke⟩|⟨f,rfl⟩
 · exact I.YM st ay Ke rfl (st.bt 0 rfl) hx hn hr bG eI fun c5 v' h1 dE=>K c5 v' h1 (dE.sub (List.Sublist.cons_cons _ (List.sublist_cons_self _ _)))
 · exact I.kF st 0 rfl ay hx hn hr eI fun c5 v' h1 dE=>K c5 v' h1 dE
end
end
end Go.Eng
