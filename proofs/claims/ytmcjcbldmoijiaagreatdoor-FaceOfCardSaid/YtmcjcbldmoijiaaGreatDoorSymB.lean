/- Part of a proof of a law: rules of an evaluator, contracts, plain laws. No condition of its own. -/
import Derived.Test.YtmcjcbldmoijiaaGreatDoorSymA
set_option linter.unusedVariables false
set_option linter.unusedSimpArgs false
namespace Go.Eng
noncomputable section
abbrev Fact.nT (b r:Nat) (rows:List (List V)):Fact:= .obj b fun o=>∃t,o= .cells r b 0 (rows.length * r) t∧0<r∧∀i row,rows[i]? =some row→T.get i t=some row∧row.length=r
theorem ak.aaf {fs:List Fact} {h:ag} (s:ak fs h) (k:Nat) {b:Nat} {P:Obj→Prop} (hk:fs[k]? =some (.obj b P)):∃o,T.get b h.t=some o∧P o:=by
 obtain ⟨Z,s⟩:=s
 exact (s.all (.obj b P) (List.mem_of_getElem? hk)).1
theorem Q8 {h:ag} {b r:Nat} {rows:List (List V)} {o:Obj} {cap:Option Nat} (bq:T.get b h.t=some o) (hp:∃t,o= .cells r b 0 (rows.length * r) t∧0<r∧∀i row,rows[i]? =some row→T.get i t=some row∧row.length=r):Rows r h (.av b 0 rows.length cap) rows:=by
 obtain ⟨t,rfl,hr,dh⟩:=hp
 exact .row hr bq (Nat.zero_mod r) (fun i row aq=>by rw [Nat.zero_div,Nat.zero_add];exact (dh i row aq).1) (by omega) (fun row hm=>by
  obtain ⟨i,aq⟩:=List.mem_iff_getElem?.1 hm
  exact (dh i row aq).2)
theorem ak.Q9 {fs:List Fact} {h:ag} (s:ak fs h) (k:Nat) {b r:Nat} {rows:List (List V)} {cap:Option Nat} (hk:fs[k]? =some (.nT b r rows)):Rows r h (.av b 0 rows.length cap) rows:=by
 obtain ⟨o,bq,hp⟩:=s.aaf k hk
 exact Q8 bq hp
theorem ak.nT {fs:List Fact} {h:ag} (s:ak fs h) {r:Nat} {rows:List (List V)} {t:T (List V)} (hr:0<r) (ht:∀i row,rows[i]? =some row→T.get i t=some row∧row.length=r):ak (.nT h.next r rows::fs) (h.add (.cells r h.next 0 (rows.length * r) t)):=
 s.new _ rfl rfl fun hn _=>⟨⟨_,vn ..,t,rfl,hr,ht⟩,hn⟩
theorem ak.still {fs:List Fact} {h:ag} {b:Nat} {P:Obj→Prop} {Q:ag→Prop} (s:ak (.obj b P::fs) h) (bC:∀aB o,T.get b aB.t=some o→P o→Q aB):ak (.ay Q::fs) h:=by
 obtain ⟨Z,s⟩:=s
 have hx:=s.all (.obj b P) (by simp)
 obtain ⟨⟨o,bq,hp⟩,_⟩:=hx
 have LC:b∉owns fs:=by
  have:=s.hJ;rw [gq] at this
  exact (List.nodup_cons.1 this).1
 refine ⟨fun k=>Z k∨k=b,s.wf,fun k hk=> ?_,fun k hk=>⟨fun hz=> ?_,(s.jw k (by rw [gq];exact List.mem_append_right _ hk)).2⟩, ?_,s.lV,fun k hk hf=>s.dC k (by rw [gq];exact List.mem_append_right _ hk) hf,fun x hx=> ?_⟩
 · rcases hk with hk|rfl
   · exact s.z k hk
   · rw [bq];simp
 · have hk:k∈owns fs:=hk
   rcases hz with hz|rfl
   · exact (s.jw k (by rw [gq];exact List.mem_append_right _ hk)).1 hz
   · exact LC hk
 · have:=s.hJ;rw [gq] at this
   exact (List.nodup_cons.1 this).2
 · rcases List.mem_cons.1 hx with rfl|hx
   · exact fun aB hz=>bC aB o ((hz b (.inr rfl)).trans bq) hp
   · exact Fact.stay (s.all x (by simp [hx])) (fun k hk=>⟨.inl hk,rfl⟩) (fun _ _=>rfl) (fun _ _=>rfl) fun _ _=>rfl
theorem ak.Ra {fs:List Fact} {h:ag} {b r:Nat} {rows:List (List V)} (s:ak (.nT b r rows::fs) h) (cap:Option Nat):ak (.ay (fun h=>Rows r h (.av b 0 rows.length cap) rows)::fs) h:=
 ak.still s fun aB o bq hp=>Q8 bq hp
theorem ak.at_ {l fs:List Fact} {h:ag} (s:ak (l++fs) h) {i:Nat} {x:Fact} (aq:l[i]? =some x):ak (x::(l.eraseIdx i++fs)) h:=
 s.perm (((LA l i x aq).append_right fs))
theorem ak.back {l fs:List Fact} {h:ag} {i:Nat} {x y:Fact} (s:ak (y::(l.eraseIdx i++fs)) h) (aq:l[i]? =some x):ak (l.set i y++fs) h:=
 s.perm ((G2 l i x y aq).append_right fs)
theorem ak.out {x:Fact} {l fs:List Fact} {h:ag} (s:ak (l++x::fs) h):ak (x::(l++fs)) h:=s.perm List.perm_middle
theorem ak.Rb {x:Fact} {l fs:List Fact} {h:ag} (s:ak (x::(l++fs)) h):ak (l++x::fs) h:=s.perm List.perm_middle.symm
theorem aag {R:Type} {h:ag} {b n i:Nat} {t:T (List V)} {v:V} {d:R} {k:ag→R} (gw:8≤b) (hb:T.get b h.t=some (.cells 1 b 0 (n * 1) t)) (hf:T.get b h.bJ=none) (aq:i<n):
  h.ef b (0+i * 1) 1 [v] d k=k (h.put b (.cells 1 b 0 (n * 1) (T.set i [v] t))):=by
 unfold ag.ef
 rw [show b.blt 8=false by rw [gG];simpa using gw,show h.obj b=_ from hb]
 show (bif (Nat.add (0+i * 1) 1).ble (n * 1) then over d 1 (0+i * 1) 1 [v] t (fun rows=>h.uU b _ _ b fun h=>h.kG b (.cells 1 b 0 (n * 1) rows) k) else d)=_
 have aT:(Nat.add (0+i * 1) 1).ble (n * 1)=true:=by rw [fa];simp;omega
 rw [aT,cond_true]
 unfold over
 have bu:((1:Nat).beq 1&&((0+i * 1).mod 1).beq 0)=true:=by
  have:(0+i * 1).mod 1=0:=Nat.mod_one _
  rw [this];rfl
 rw [bu,cond_true,nE]
 have dH:(0+i * 1).div 1=i:=by show (0+i * 1) / 1=i;omega
 rw [dH,T.iY]
 unfold ag.uU
 rw [hf]
 show h.kG b (.cells 1 b 0 (n * 1) (T.set i [v] t)) k=_
 rw [QL]
theorem L.Rc {call:eU} {ev:dM} {h:ag} {x y:A} {b n i:Nat} {t:T (List V)} {v:V} (hx:ev x= .ptr b (0+i * 1)) (hy:(ev y).dY=some [v]) (gw:8≤b) (hb:T.get b h.t=some (.cells 1 b 0 (n * 1) t)) (hf:T.get b h.bJ=none) (aq:i<n):
  hK (.store 1 x y) call ev h= .ok un (h.put b (.cells 1 b 0 (n * 1) (T.set i [v] t))):=by
 show (Option.rec .bad (fun p=>Option.rec .bad (fun l=>Bool.rec .bad (h.ef p.1 p.2 1 l .bad fun h=> .ok un h) ((cZ l).beq 1)) (ev y).dY) (ev x).mM:bg)=_
 rw [hx,hy]
 show h.ef b (0+i * 1) 1 [v] .bad (fun h=>bg.ok un h)=_
 rw [aag gw hb hf aq]
theorem ak.Re {fs:List Fact} {h:ag} {b i:Nat} {rows:List (List V)} {v:V} (s:ak (.nT b 1 rows::fs) h) (aq:i<rows.length):
  ∃t,8≤b∧T.get b h.t=some (.cells 1 b 0 (rows.length * 1) t)∧T.get b h.bJ=none∧ak (.nT b 1 (rows.set i [v])::fs) (h.put b (.cells 1 b 0 (rows.length * 1) (T.set i [v] t))):=by
 have kC:=s
 obtain ⟨Z,s⟩:=s
 obtain ⟨⟨o,bq,t,rfl,hr,ht⟩,hn⟩:=s.all (.nT b 1 rows) (by simp)
 refine ⟨t,kC.ZS 0 rfl,bq,hn,kC.QS rfl rfl rfl rfl fun Z hx=>⟨⟨_,QK ..,T.set i [v] t,by rw [List.length_set],hr,fun j row aV=> ?_⟩,hx.2⟩⟩
 rw [List.getElem?_set] at aV
 rw [T.fJ (Nat.zero_le _) (Nat.zero_le _)]
 by_cases e:i=j
 · subst e
   rw [if_pos rfl,if_pos aq] at aV
   cases aV
   rw [if_pos rfl];exact ⟨rfl,rfl⟩
 · rw [if_neg e] at aV
   rw [if_neg (fun h=>e h.symm)]
   exact ht j row aV
end
end Go.Eng
namespace Go.Eng
noncomputable section
end
end Go.Eng
