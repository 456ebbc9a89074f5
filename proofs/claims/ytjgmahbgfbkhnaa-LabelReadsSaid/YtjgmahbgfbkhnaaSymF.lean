/- Part of a proof of a law: rules of an evaluator, contracts, plain laws. No condition of its own. -/
import Derived.Test.YtjgmahbgfbkhnaaSymE
import Derived.Test.YtjgmahbgfbkhnaaSymC
set_option linter.unusedVariables false
set_option linter.unusedSimpArgs false
namespace Go.Eng
noncomputable section
section
variable {ev:Ev} {h:Heap}
theorem L.nI {r bytes n:Nat} {zero:List V} {x y:A} (hx:ev x= .int .i64 (n:Int)) (hy:ev y= .int .i64 (n:Int)) (hfit:n * bytes≤1099511627776):
  light (.nI r zero bytes x y) ev h= .new (.cells r h.next 0 (n * r) (aH r n 0 (rep n zero) T.e)) (.sl h.next 0 n (some n)):=by
 show (match (ev x).asNat,(ev y).asNat with
  |some n,some m=>force h.next fun b=>bif n.ble m&&(Nat.mul m bytes).ble 1099511627776 then setRows r m 0 (rep m zero) T.e fun t=>LR.new (.cells r b 0 (Nat.mul m r) t) (.sl b 0 n (some m)) else .bad
  |_,_=> .bad)=_
 rw [hx,hy]
 show (force h.next fun b=>bif n.ble n&&(Nat.mul n bytes).ble 1099511627776 then setRows r n 0 (rep n zero) T.e fun t=>LR.new (.cells r b 0 (Nat.mul n r) t) (.sl b 0 n (some n)) else .bad)=_
 have e1:(n.ble n&&(Nat.mul n bytes).ble 1099511627776)=true:=by
  rw [show n.ble n=true from Nat.ble_eq_true_of_le (Nat.le_refl _),show (Nat.mul n bytes).ble 1099511627776=true from Nat.ble_eq_true_of_le hfit];rfl
 rw [force_eq,e1,cond_true,aX];rfl
end
theorem xP {r:Nat} {z:List V} (hr:0<r) (hz:z.length=r) (n:Nat):∀i row,(List.replicate n z)[i]? =some row→T.get i (aH r n 0 (rep n z) (T.e:T (List V)))=some row∧row.length=r:=by
 intro i row hi
 have hlt:=(List.getElem?_eq_some_iff.1 hi).1
 rw [List.length_replicate] at hlt
 rw [List.getElem?_replicate,if_pos hlt] at hi
 cases hi
 rw [bW r _ _ _ _ i (by omega) (by omega),if_pos ⟨by omega,by omega⟩,Je,Nat.sub_zero]
 refine ⟨congrArg some ?_,hz⟩
 exact eZ i (l:=List.replicate n z) (fun row hm=>by rw [(List.mem_replicate.1 hm).2];exact hz) (by rw [List.getElem?_replicate,if_pos hlt])
section
variable {c:Ctx} {Q:QT} {env:Env} {h:Heap} {fs:List Fact} {vs:List V} {i j:D8}
theorem WO.mkslF {l:List Opr} {r bytes n:Nat} {zero:List V} {x y:A} (st:St fs h) (hx:x.ev vs env= .int .i64 (n:Int)) (hy:y.ev vs env= .int .i64 (n:Int)) (hr:0<r) (hz:zero.length=r) (hfit:n * bytes≤1099511627776)
  (K:∀b h1,St (.cel b r (List.replicate n zero)::fs) h1→WO c l Q (.sl b 0 n (some n)::vs) env h1):WO c (.p (.L (.nI r zero bytes x y))::l) Q vs env h:=by
 refine WO.new (L.nI hx hy hfit) (iK hr) (K _ _ ?_)
 have:=st.cel (r:=r) (rows:=List.replicate n zero) hr (xP hr hz n)
 rw [List.length_replicate] at this;exact this
theorem WO.ED {l:List Opr} {r bytes n:Nat} {zero:List V} {x y:A} (st:St fs h) (hx:x.ev vs env= .int .i64 (n:Int)) (hy:y.ev vs env= .int .i64 (n:Int)) (hr:0<r) (hz:zero.length=r) (hfit:n * bytes≤1099511627776)
  (K:∀b h1,St (.cel b r (List.replicate n zero)::fs) h1→WO c l Q (.sl b 0 n (some n)::vs) (Env.set i j (.sl b 0 n (some n)) env) h1):WO c (.s i j (.L (.nI r zero bytes x y))::l) Q vs env h:=by
 refine WO.newS (L.nI hx hy hfit) (iK hr) (K _ _ ?_)
 have:=st.cel (r:=r) (rows:=List.replicate n zero) hr (xP hr hz n)
 rw [List.length_replicate] at this;exact this
theorem WD.mkslF {l:List Opd} {lg:List Log} {uo:List Nat} {r bytes n:Nat} {zero:List V} {x y:A} (st:St fs h) (hx:x.ev vs env= .int .i64 (n:Int)) (hy:y.ev vs env= .int .i64 (n:Int)) (hr:0<r) (hz:zero.length=r) (hfit:n * bytes≤1099511627776)
  (K:∀b h1 lo,St (.cel b r (List.replicate n zero)::fs) h1→WD c l Q (.sl b 0 n (some n)::vs) (lo::lg) env h1):WD c (⟨.p (.L (.nI r zero bytes x y)),uo⟩::l) Q vs lg env h:=by
 refine WD.new (L.nI hx hy hfit) (iK hr) (K _ _ _ ?_)
 have:=st.cel (r:=r) (rows:=List.replicate n zero) hr (xP hr hz n)
 rw [List.length_replicate] at this;exact this
end
section
variable {c:Ctx} {Q:QT} {env:Env} {h:Heap} {fs:List Fact} {vs:List V} {l:List Opr}
theorem WO.mK {b k:Nat} {x y:A} {v:V} {rows:List (List V)} (st:St (.cel b 1 rows::fs) h) (hx:x.ev vs env= .ptr b (0+k * 1)) (hy:(y.ev vs env).aV=some [v]) (hk:k<rows.length)
  (K:∀h1,St (.cel b 1 (rows.set k [v])::fs) h1→WO c l Q (un::vs) env h1):WO c (.p (.H (.store 1 x y))::l) Q vs env h:=by
 obtain ⟨t,h8,h1,h2,s3⟩:=St.J3 (v:=v) (i:=k) st hk
 exact WO.act (fun _=>L.sW (v:=v) hx hy h8 h1 h2 hk) (K _ s3)
end
theorem St.snocG {gs l fs:List Fact} {x:Fact} {h:Heap} (s:St (x::(gs++(l++fs))) h):St (gs++((l++[x])++fs)) h:=by
 refine s.perm ?_
 rw [List.append_assoc]
 exact (List.perm_middle (a:=x) (l₁:=gs) (l₂:=l++fs)).symm.trans (List.Perm.append_left gs (List.perm_middle (a:=x) (l₁:=l) (l₂:=fs)).symm)
theorem St.F9 {gs fs:List Fact} {h:Heap} {P:Heap→Prop} (s:St (gs++fs) h) (k:Nat) (hk:fs[k]? =some (.stb P)):P h:=
 s.aB (gs.length+k) (by rw [List.getElem?_append_right (Nat.le_add_right _ _),Nat.add_sub_cancel_left];exact hk)
theorem Kt {f r n:Nat} {h:Heap} {v:V} {rows:List (List V)} (a:qc f r h v rows) (hl:rows.length=n) (hn:n≠0):∃b,v= .sl b 0 n none:=by
 subst hl
 cases a with
 |nil=>exact absurd rfl hn
 |row a=>exact ⟨_,rfl⟩
theorem EF {bs:List Nat} {f r n:Nat} {h:Heap} {v:V} {rows:List (List V)} (a:kZ bs f r h v rows) (hl:rows.length=n) (hn:n≠0):∃b,v= .sl b 0 n none:=by
 subst hl
 cases a with
 |nil=>exact absurd rfl hn
 |row=>exact ⟨_,rfl⟩
theorem Rows.cap {r b o n:Nat} {h:Heap} {cap cap':Option Nat} {rows:List (List V)} (a:Rows r h (.sl b o n cap) rows):Rows r h (.sl b o n cap') rows:=by
 cases a with
 |row hr hob ho hrow hsz hlen=>exact .row hr hob ho hrow hsz hlen
theorem St.rot {gs l fs:List Fact} {t:Fact} {h:Heap} (s:St (gs++(t::(l++fs))) h):St (t::(l++(fs++gs))) h:=by
 have:=s.perm (List.perm_append_comm (l₁:=gs) (l₂:=t::(l++fs)))
 rw [List.cons_append,List.append_assoc] at this;exact this
theorem St.uP {gs l fs:List Fact} {t:Fact} {h:Heap} (s:St (t::(l++(fs++gs))) h):St (gs++(t::(l++fs))) h:=by
 rw [←List.append_assoc,←List.cons_append] at s
 exact s.perm List.perm_append_comm
theorem zi {bs:List Nat} {M:List (List Bool)} (hl:bs.length=M.length) (b:Nat) (r:List Bool):dN (bs++[b]) (M++[r])=dN bs M++[yA b r]:=by
 unfold dN
 rw [List.zipWith_append hl];rfl
def bv (x:Bool):List V:=[.bool x]
def jh (h:Heap):List (List Bool)→List V→Prop
 |[],[]=>True
 |r::J,v::vs=>Rows 1 h v (r.map bv)∧jh h J vs
 |_,_=>False
theorem jh.at {h:Heap}:∀{J:List (List Bool)} {vs:List V},jh h J vs→∀{i:Nat} {r:List Bool},J[i]? =some r→∃v,vs[i]? =some v∧Rows 1 h v (r.map bv)
 |[],[],_,i,r,hi=>by simp at hi
 |[],_::_,h,_,_,_=>h.elim
 |_::_,[],h,_,_,_=>h.elim
 |a::J,v::vs,h,0,r,hi=>by simp at hi;subst hi;exact ⟨v,rfl,h.1⟩
 |a::J,v::vs,h,i+1,r,hi=>by
  obtain ⟨w,h1,h2⟩:=h.2.at (i:=i) (r:=r) (by simpa using hi)
  exact ⟨w,by simpa using h1,h2⟩
theorem jh.len {h:Heap}:∀{J:List (List Bool)} {vs:List V},jh h J vs→vs.length=J.length
 |[],[],_=>rfl
 |[],_::_,h=>h.elim
 |_::_,[],h=>h.elim
 |_::_,_::_,h=>by simp [h.2.len]
def fU (h:Heap) (v:V) (J:List (List Bool)):Prop:=∃vs:List V,Rows 1 h v (vs.map fun x=>[x])∧jh h J vs
theorem qP {n:Nat}:∀{bs:List Nat} {M:List (List Bool)} {fs:List Fact} {h:Heap},bs.length=M.length→(∀r∈M,r.length=n)→St (dN bs M++fs) h→St (.stb (fun h=>jh h M (bs.map fun b=> .sl b 0 n (some n)))::fs) h
 |[],[],fs,h,_,_,s=>s.triv fun h=>trivial
 |[],_::_,_,_,hl,_,_=>by simp at hl
 |_::_,[],_,_,hl,_,_=>by simp at hl
 |b::bs,r::M,fs,h,hl,hr,s=>by
  have s1:St (.cel b 1 (r.map bv)::(dN bs M++fs)) h:=s
  have s2:=s1.BZ (some n)
  rw [List.length_map,hr r (by simp)] at s2
  have s3:St (dN bs M++ .stb (fun h=>Rows 1 h (.sl b 0 n (some n)) (r.map bv))::fs) h:=s2.in_
  have s4:=qP (n:=n) (by simpa using hl) (fun r hm=>hr r (by simp [hm])) s3
  have s5:=(s4.pick 1 rfl).and
  exact s5
theorem yB.of {h:Heap} {lb lo n:Nat} {cap:Option Nat} {M:List (List Bool)} (sq:Sq n M) (t:fU h (.sl lb lo n cap) M):yB lb lo n M h:=by
 obtain ⟨vs,hv,hb⟩:=t
 intro a ha
 obtain ⟨r,hr,hl⟩:=sq.at ha
 obtain ⟨v,h1,h2⟩:=hb.at hr
 have h3:=hv.bE (i:=a) (x:=v) (by rw [List.getElem?_map,h1];rfl)
 have hv2:=h2
 have hlen:=h2.len
 rw [List.length_map,hl] at hlen
 rcases hlen with ⟨rfl,e⟩|⟨rb,ro,rcap,rfl⟩
 · have:r=[]:=by simpa using e
   subst this;simp at hl;omega
 · refine ⟨rb,ro,rcap,h3,fun b hb'=> ?_⟩
   obtain ⟨x,hx⟩:∃x,r[b]? =some x:=⟨r[b]'(by omega),List.getElem?_eq_getElem (by omega)⟩
   have:=h2.bE (i:=b) (x:= .bool x) (by rw [List.getElem?_map,hx];rfl)
   rw [this,Lab.fT hr,hx];rfl
abbrev Prm:=Lab.Txt×Lab.Txt×Int
def Ao (p:Prm):List V:=[L.str p.1,L.str p.2.1, .int .i64 p.2.2]
def pr (l:List Prm):List (Lab.Txt×Lab.Txt):=l.map fun p=>(p.1,p.2.1)
def bD (h:Heap) (v:V) (ps:List Prm):Prop:=(v= .slN∧ps=[])∨∃b o cap,v= .sl b o ps.length cap∧∀i p,ps[i]? =some p→h.load b (o+i * 3) 3=some (Ao p)∧∀j x,(Ao p)[j]? =some x→h.bE b (o+i * 3+j)=some x
theorem bD.sl {h:Heap} {v:V} {ps:List Prm} (a:bD h v ps) {i:Nat} (hi:i<ps.length):v= .sl (slB v) (slO v) ps.length (slC v):=by
 rcases a with ⟨_,rfl⟩|⟨b,o,cap,rfl,_⟩
 · simp at hi
 · rfl
theorem L.xQ {h:Heap} {v:V} {ps:List Prm} {ev:Ev} {x:A} (hx:ev x=v) (a:bD h v ps):light (.len false x) ev h= .val (.int .i64 (ps.length:Int)):=by
 rcases a with ⟨rfl,rfl⟩|⟨b,o,cap,rfl,_⟩
 · exact L.BN hx
 · exact L.llen hx
theorem L.lU {h:Heap} {v:V} {ps:List Prm} (a:bD h v ps) {i:Nat} (hi:i<ps.length) {ev:Ev} {x y:A} (hx:ev x=v) (hy:ev y= .int .i64 (i:Int)):light (.aC 3 x y) ev h= .val (.ptr (slB v) (slO v+i * 3)):=
 L.aC (hx.trans (a.sl hi)) hy hi
theorem bD.at {h:Heap} {v:V} {ps:List Prm} (a:bD h v ps) {i:Nat} {p:Prm} (hp:ps[i]? =some p):h.load (slB v) (slO v+i * 3) 3=some (Ao p):=by
 rcases a with ⟨_,rfl⟩|⟨b,o,cap,rfl,ha⟩
 · simp at hp
 · exact (ha i p hp).1
theorem bD.at1 {h:Heap} {v x:V} {ps:List Prm} (a:bD h v ps) {i j:Nat} {p:Prm} (hp:ps[i]? =some p) (hj:(Ao p)[j]? =some x):h.bE (slB v) (slO v+i * 3+j)=some x:=by
 rcases a with ⟨_,rfl⟩|⟨b,o,cap,rfl,ha⟩
 · simp at hp
 · exact (ha i p hp).2 j x hj
theorem bD.of {h:Heap} {v:V} {ps:List Prm} (a:Rows 3 h v (ps.map Ao)):bD h v ps:=by
 have hl:=a.len
 rw [List.length_map] at hl
 rcases hl with ⟨rfl,e⟩|⟨b,o,cap,rfl⟩
 · exact .inl ⟨rfl,by simpa using e⟩
 · exact .inr ⟨b,o,cap,rfl,fun i p hp=>⟨a.cO (by rw [List.getElem?_map,hp];rfl),fun j x hj=>a.wV (row:=Ao p) (by rw [List.getElem?_map,hp];rfl) hj⟩⟩
namespace Lab
theorem CG {ps:List Prm} {i:Nat} {p:Prm} (h:ps[i]? =some p):raw (pr (ps.take (i+1)))=raw (pr (ps.take i))++(if p.2.1=[] then [p.1] else [p.1,p.2.1]):=by
 unfold raw pr
 rw [List.take_add_one,h,List.map_append,List.flatMap_append]
 simp
theorem Ap (l:List (Txt×Txt)):(raw l).length≤2 * l.length:=by
 unfold raw
 induction l with
 |nil=>exact Nat.le_refl _
 |cons p l ih=>
  rw [List.flatMap_cons,List.length_append,List.length_cons]
  split
  · rw [List.length_singleton];omega
  · rw [show [p.1,p.2].length=2 from rfl];omega
def tableK (ns:List Txt) (l:List (Txt×Txt)):List (List Bool):=table ns l
theorem nJ {ns:List Txt} {ps:List Prm} {i:Nat} {p:Prm} (h:ps[i]? =some p):table ns (pr (ps.take (i+1)))=xM ns (table ns (pr (ps.take i))) (p.1,p.2.1):=by
 unfold table pr
 rw [List.take_add_one,h,List.map_append,List.foldl_append]
 rfl
def mM (n k:Nat):List (List Bool):=(List.range k).map fun a=>(List.replicate n false).set a true
theorem xR (n k:Nat):mM n (k+1)=mM n k++[(List.replicate n false).set k true]:=by unfold mM;rw [List.range_succ,List.map_append];rfl
theorem zk (n k:Nat):(mM n k).length=k:=by simp [mM]
theorem Iw (l:List (Txt×Txt)):(names l).length≤(raw l).length:=by
 have:=Cw (gI (raw l))
 rw [(iH (raw l)).length_eq] at this;exact this
end Lab
end
end Go.Eng
