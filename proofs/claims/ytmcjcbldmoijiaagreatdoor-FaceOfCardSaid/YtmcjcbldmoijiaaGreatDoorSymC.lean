/- Part of a proof of a law: rules of an evaluator, contracts, plain laws. No condition of its own. -/
import Derived.Test.YtmcjcbldmoijiaaGreatDoorSymB
import Derived.Test.YtmcjcbldmoijiaaGreatDoorEngC
set_option linter.unusedVariables false
set_option linter.unusedSimpArgs false
namespace Go.Eng
noncomputable section
def aal (b:UInt8):V:= .int .u8 (b.toNat:Int)
inductive Mb (j:Nat):List UInt8→V→Obj→Prop where
 |nil:Mb j [] .U .dead
 |zero:Mb j [] (.av j 0 0 none) .dead
 |some {l:List UInt8} (h:l≠[]) (cap:Nat):Mb j l (.av j 0 l.length (some cap)) (.box (l.map aal))
end
end Go.Eng
namespace Go.Eng
noncomputable section
namespace L
variable {ev:dM} {h:ag} {x y:A}
end L
end
end Go.Eng
namespace Go.Eng
noncomputable section
theorem Rf {h:ag} {r bytes b n m:Nat} {old new:List V} (hb:8≤b) (au:h.load b 0 (Nat.mul n r)=some old) (hm:0<m) (fx:(n+m) * bytes≤1099511627776):
  gk h r bytes (.av b 0 n (some n)) new m=gk h r bytes .U (old++new) (n+m):=by
 have j7:Nat.beq m 0=false:=by
  cases m with
  |zero=>omega
  |succ m=>rfl
 have hM:Nat.beq (n+m) 0=false:=by
  cases e:Nat.beq (n+m) 0 with
  |false=>rfl
  |true=>have:=Nat.eq_of_beq_eq_true e;omega
 have h1:(Nat.mul (n+m) bytes).ble 1099511627776=true:=by rw [fa];simpa using fx
 have h2:Nat.ble 8 b=true:=by rw [fa];simpa using hb
 have bj:(n+m).ble n=false:=by rw [fa];simp;omega
 show (bif m.beq 0 then bg.ok (.av b 0 n (some n)) h else q3 h r bytes b 0 n (some n) new m)=_
 rw [j7]
 show q3 h r bytes b 0 n (some n) new m=_
 unfold q3
 rw [force_eq,force_eq]
 show (bif (Nat.mul (n+m) bytes).ble 1099511627776&&Nat.ble 8 b then
   (bif (n+m).ble n then h.ef b (Nat.add 0 (Nat.mul n r)) (Nat.mul m r) new .bad fun h=> .ok (.av b 0 (n+m) (some n)) h
     else (Option.rec .bad (fun old=>gQ r (n+m) 0 (gd old new) T.e fun t=>mk h (.cells r h.next 0 (Nat.mul (n+m) r) t) (.av h.next 0 (n+m) none)) (h.load b 0 (Nat.mul n r)):bg)) else .bad)=_
 rw [h1,h2,bj,au]
 show gQ r (n+m) 0 (gd old new) T.e (fun t=>mk h (.cells r h.next 0 (Nat.mul (n+m) r) t) (.av h.next 0 (n+m) none))=_
 unfold gk
 simp only [hM,cond_false,h1,cond_true,force_eq,pZ]
theorem ak.aam {fs:List Fact} {h:ag} {r bytes b:Nat} {rows new:List (List V)} (s:ak fs h) (hb:8≤b) (hold:Rows r h (.av b 0 rows.length (some rows.length)) rows) (hr:0<r) (Ec:∀row∈rows,row.length=r) (aan:∀row∈new,row.length=r) (bO:0<new.length) (fx:(rows.length+new.length) * bytes≤1099511627776):
  ∃dG v' aB,gk h r bytes (.av b 0 rows.length (some rows.length)) new.flatten new.length= .ok v' aB∧ak (.acc dG r v' (rows++new)::fs) aB:=by
 obtain ⟨dG,v',aB,e,en⟩:=(s.je r).QT (bytes:=bytes) (new:=rows++new) hr (fun row hm=>by
  rcases List.mem_append.1 hm with hm|hm
  · exact Ec row hm
  · exact aan row hm) (by simpa using fx)
 refine ⟨dG,v',aB, ?_,by simpa using en⟩
 rw [Rf hb hold.Dr bO fx,←e,List.flatten_append,List.length_append]
section
variable {c:Ctx} {Q:jd} {env:Env} {h:ag} {fs:List Fact} {l:List dp} {vs:List V} {i j:bx}
theorem I.aao {r n:Nat} {zero:List V} {aQ:List (Nat×Nat×A)} {rows:List (List V)} (st:ak fs h) (hf:fill aQ (fun a=>a.ev vs env) (rep n zero)=some rows.flatten) (hr:0<r) (hn:rows.length=n) (au:∀row∈rows,row.length=r)
  (K:∀b h1,8≤b→ak (.ay (fun h=>Rows r h (.av b 0 n (some n)) rows)::fs) h1→I c l Q (.av b 0 n (some n)::vs) (Env.set i j (.av b 0 n (some n)) env) h1):I c (.s i j (.L (.fA r n zero aQ))::l) Q vs env h:=
 I.AP (L.fA hf) (AV hr) (K _ _ st.wf.lim (st.frozen _ fun aB hg=>Ds hr hn au hg))
theorem I.aap {r bytes b n:Nat} {s x:A} {hP:V} {rows new:List (List V)} (st:ak fs h) (aC:s.ev vs env= .av b 0 n (some n)) (hb:8≤b) (F4:rows.length=n) (hold:Rows r h (.av b 0 n (some n)) rows) (hx:x.ev vs env=hP) (hn:Rows r h hP new) (hr:0<r) (bO:0<new.length) (fx:(rows.length+new.length) * bytes≤1099511627776)
  (K:∀dG v' h1,ak (.acc dG r v' (rows++new)::fs) h1→I c l Q (v'::vs) (Env.set i j v' env) h1):I c (.s i j (.H (.append r bytes s x))::l) Q vs env h:=by
 have au:∀{v:V} {rs:List (List V)},Rows r h v rs→∀row∈rs,row.length=r:=by
  intro v rs hn
  cases hn with
  |nil=>intro row hm;simp at hm
  |row _ _ _ _ _ hlen=>exact hlen
 subst F4
 obtain ⟨dG,v',aB,e,en⟩:=st.aam (bytes:=bytes) hb hold hr (au hold) (au hn) bO fx
 exact I.GY (fun _=>L.append (ev:=fun a=>a.ev vs env) aC hx hn e) (K _ _ _ en)
end
def qx (F:Fact) (r:Nat) (v:V) (rows:List (List V)):Prop:=(F= .ay (fun h=>Rows r h v rows)∧∃cU,v= .av cU 0 rows.length (some rows.length)∧8≤cU)∨∃f,F= .acc f r v rows
theorem qx.shut {F:Fact} {r:Nat} {v:V} {rows:List (List V)} {fs:List Fact} {h:ag} (cj:qx F r v rows) (st:ak (F::fs) h) (hr:0<r):ak (.ay (fun h=>Rows r h v rows)::fs) h:=by
 rcases cj with ⟨rfl,_⟩|⟨f,rfl⟩
 · exact st
 · exact st.shut hr
section
variable {c:Ctx} {Q:jd} {env:Env} {h:ag} {fs:List Fact} {l:List dp} {vs:List V} {i j:bx}
theorem I.Rg {F:Fact} {r bytes:Nat} {s x:A} {v hP:V} {rows new:List (List V)} (cj:qx F r v rows) (st:ak (F::fs) h) (aC:s.ev vs env=v) (hx:x.ev vs env=hP) (hn:Rows r h hP new) (hr:0<r) (bO:0<new.length) (fx:(rows.length+new.length) * bytes≤1099511627776)
  (K:∀dG v' h1,ak (.acc dG r v' (rows++new)::fs) h1→I c l Q (v'::vs) (Env.set i j v' env) h1):I c (.s i j (.H (.append r bytes s x))::l) Q vs env h:=by
 rcases cj with ⟨rfl,cU,rfl,Mc⟩|⟨f,rfl⟩
 · exact I.aap st aC Mc rfl (st.aS 0 rfl) hx hn hr bO fx fun dG v' h1 en=>K dG v' h1 (en.sub (List.Sublist.cons_cons _ (List.sublist_cons_self _ _)))
 · exact I.gJ st 0 rfl aC hx hn hr fx fun dG v' h1 en=>K dG v' h1 en
end
end
end Go.Eng
