/- Part of a proof of a law: rules of an evaluator, contracts, plain laws. No condition of its own. -/
import Derived.Test.YtmcjcbldmoijiaaGreatDoorSymA
set_option linter.unusedVariables false
set_option linter.unusedSimpArgs false
namespace Go.Eng
noncomputable section
abbrev Fact.mV (b r:Nat) (rows:List (List V)):Fact:= .obj b fun o=>∃t,o= .cells r b 0 (rows.length * r) t∧0<r∧∀i row,rows[i]? =some row→T.get i t=some row∧row.length=r
theorem aq.YC {fs:List Fact} {h:ae} (s:aq fs h) (k:Nat) {b:Nat} {P:Obj→Prop} (hk:fs[k]? =some (.obj b P)):∃o,T.get b h.t=some o∧P o:=by
 obtain ⟨Z,s⟩:=s
 exact (s.all (.obj b P) (List.mem_of_getElem? hk)).1
theorem O9 {h:ae} {b r:Nat} {rows:List (List V)} {o:Obj} {cap:Option Nat} (bd:T.get b h.t=some o) (hp:∃t,o= .cells r b 0 (rows.length * r) t∧0<r∧∀i row,rows[i]? =some row→T.get i t=some row∧row.length=r):Rows r h (.au b 0 rows.length cap) rows:=by
 obtain ⟨t,rfl,hr,cF⟩:=hp
 exact .row hr bd (Nat.zero_mod r) (fun i row ag=>by rw [Nat.zero_div,Nat.zero_add];exact (cF i row ag).1) (by omega) (fun row hm=>by
  obtain ⟨i,ag⟩:=List.mem_iff_getElem?.1 hm
  exact (cF i row ag).2)
theorem aq.Pa {fs:List Fact} {h:ae} (s:aq fs h) (k:Nat) {b r:Nat} {rows:List (List V)} {cap:Option Nat} (hk:fs[k]? =some (.mV b r rows)):Rows r h (.au b 0 rows.length cap) rows:=by
 obtain ⟨o,bd,hp⟩:=s.YC k hk
 exact O9 bd hp
theorem aq.mV {fs:List Fact} {h:ae} (s:aq fs h) {r:Nat} {rows:List (List V)} {t:T (List V)} (hr:0<r) (ht:∀i row,rows[i]? =some row→T.get i t=some row∧row.length=r):aq (.mV h.next r rows::fs) (h.add (.cells r h.next 0 (rows.length * r) t)):=
 s.new _ rfl rfl fun hn _=>⟨⟨_,sS ..,t,rfl,hr,ht⟩,hn⟩
theorem aq.still {fs:List Fact} {h:ae} {b:Nat} {P:Obj→Prop} {Q:ae→Prop} (s:aq (.obj b P::fs) h) (bB:∀ax o,T.get b ax.t=some o→P o→Q ax):aq (.aE Q::fs) h:=by
 obtain ⟨Z,s⟩:=s
 have hx:=s.all (.obj b P) (by simp)
 obtain ⟨⟨o,bd,hp⟩,_⟩:=hx
 have JL:b∉owns fs:=by
  have:=s.eG;rw [eW] at this
  exact (List.nodup_cons.1 this).1
 refine ⟨fun k=>Z k∨k=b,s.wf,fun k hk=> ?_,fun k hk=>⟨fun hz=> ?_,(s.iy k (by rw [eW];exact List.mem_append_right _ hk)).2⟩, ?_,s.kD,fun k hk hf=>s.dd k (by rw [eW];exact List.mem_append_right _ hk) hf,fun x hx=> ?_⟩
 · rcases hk with hk|rfl
   · exact s.z k hk
   · rw [bd];simp
 · have hk:k∈owns fs:=hk
   rcases hz with hz|rfl
   · exact (s.iy k (by rw [eW];exact List.mem_append_right _ hk)).1 hz
   · exact JL hk
 · have:=s.eG;rw [eW] at this
   exact (List.nodup_cons.1 this).2
 · rcases List.mem_cons.1 hx with rfl|hx
   · exact fun ax hz=>bB ax o ((hz b (.inr rfl)).trans bd) hp
   · exact Fact.stay (s.all x (by simp [hx])) (fun k hk=>⟨.inl hk,rfl⟩) (fun _ _=>rfl) (fun _ _=>rfl) fun _ _=>rfl
theorem aq.Pb {fs:List Fact} {h:ae} {b r:Nat} {rows:List (List V)} (s:aq (.mV b r rows::fs) h) (cap:Option Nat):aq (.aE (fun h=>Rows r h (.au b 0 rows.length cap) rows)::fs) h:=
 aq.still s fun ax o bd hp=>O9 bd hp
theorem aq.at_ {l fs:List Fact} {h:ae} (s:aq (l++fs) h) {i:Nat} {x:Fact} (ag:l[i]? =some x):aq (x::(l.eraseIdx i++fs)) h:=
 s.perm (((JJ l i x ag).append_right fs))
theorem aq.back {l fs:List Fact} {h:ae} {i:Nat} {x y:Fact} (s:aq (y::(l.eraseIdx i++fs)) h) (ag:l[i]? =some x):aq (l.set i y++fs) h:=
 s.perm ((E7 l i x y ag).append_right fs)
theorem aq.out {x:Fact} {l fs:List Fact} {h:ae} (s:aq (l++x::fs) h):aq (x::(l++fs)) h:=s.perm List.perm_middle
theorem aq.Pc {x:Fact} {l fs:List Fact} {h:ae} (s:aq (x::(l++fs)) h):aq (l++x::fs) h:=s.perm List.perm_middle.symm
theorem YD {R:Type} {h:ae} {b n i:Nat} {t:T (List V)} {v:V} {d:R} {k:ae→R} (fB:8≤b) (hb:T.get b h.t=some (.cells 1 b 0 (n * 1) t)) (hf:T.get b h.bA=none) (ag:i<n):
  h.dB b (0+i * 1) 1 [v] d k=k (h.put b (.cells 1 b 0 (n * 1) (T.set i [v] t))):=by
 unfold ae.dB
 rw [show b.blt 8=false by rw [fY];simpa using fB,show h.obj b=_ from hb]
 show (bif (Nat.add (0+i * 1) 1).ble (n * 1) then over d 1 (0+i * 1) 1 [v] t (fun rows=>h.q7 b _ _ b fun h=>h.jw b (.cells 1 b 0 (n * 1) rows) k) else d)=_
 have aS:(Nat.add (0+i * 1) 1).ble (n * 1)=true:=by rw [ew];simp;omega
 rw [aS,cond_true]
 unfold over
 have bl:((1:Nat).beq 1&&((0+i * 1).mod 1).beq 0)=true:=by
  have:(0+i * 1).mod 1=0:=Nat.mod_one _
  rw [this];rfl
 rw [bl,cond_true,l4]
 have df:(0+i * 1).div 1=i:=by show (0+i * 1) / 1=i;omega
 rw [df,T.h4]
 unfold ae.q7
 rw [hf]
 show h.jw b (.cells 1 b 0 (n * 1) (T.set i [v] t)) k=_
 rw [OM]
theorem L.Pf {call:et} {ev:dr} {h:ae} {x y:A} {b n i:Nat} {t:T (List V)} {v:V} (hx:ev x= .ptr b (0+i * 1)) (hy:(ev y).dA=some [v]) (fB:8≤b) (hb:T.get b h.t=some (.cells 1 b 0 (n * 1) t)) (hf:T.get b h.bA=none) (ag:i<n):
  gM (.store 1 x y) call ev h= .ok un (h.put b (.cells 1 b 0 (n * 1) (T.set i [v] t))):=by
 show (Option.rec .bad (fun p=>Option.rec .bad (fun l=>Bool.rec .bad (h.dB p.1 p.2 1 l .bad fun h=> .ok un h) ((cI l).beq 1)) (ev y).dA) (ev x).lo:a7)=_
 rw [hx,hy]
 show h.dB b (0+i * 1) 1 [v] .bad (fun h=>a7.ok un h)=_
 rw [YD fB hb hf ag]
theorem aq.Pg {fs:List Fact} {h:ae} {b i:Nat} {rows:List (List V)} {v:V} (s:aq (.mV b 1 rows::fs) h) (ag:i<rows.length):
  ∃t,8≤b∧T.get b h.t=some (.cells 1 b 0 (rows.length * 1) t)∧T.get b h.bA=none∧aq (.mV b 1 (rows.set i [v])::fs) (h.put b (.cells 1 b 0 (rows.length * 1) (T.set i [v] t))):=by
 have jR:=s
 obtain ⟨Z,s⟩:=s
 obtain ⟨⟨o,bd,t,rfl,hr,ht⟩,hn⟩:=s.all (.mV b 1 rows) (by simp)
 refine ⟨t,jR.Yi 0 rfl,bd,hn,jR.OS rfl rfl rfl rfl fun Z hx=>⟨⟨_,OL ..,T.set i [v] t,by rw [List.length_set],hr,fun j row aR=> ?_⟩,hx.2⟩⟩
 rw [List.getElem?_set] at aR
 rw [T.eU (Nat.zero_le _) (Nat.zero_le _)]
 by_cases e:i=j
 · subst e
   rw [if_pos rfl,if_pos ag] at aR
   cases aR
   rw [if_pos rfl];exact ⟨rfl,rfl⟩
 · rw [if_neg e] at aR
   rw [if_neg (fun h=>e h.symm)]
   exact ht j row aR
end
end Go.Eng
namespace Go.Eng
noncomputable section
end
end Go.Eng
