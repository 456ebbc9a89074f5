/- Part of a proof of a law: rules of an evaluator, contracts, plain laws. No condition of its own. -/
import Derived.Test.YtmcjcbldmoijiaaGreatDoorSymD
import Derived.Test.YtmcjcbldmoijiaaGreatDoorEngE
import Derived.Test.YtmcjcbldmoijiaaGreatDoorSymB
import Derived.Test.YtmcjcbldmoijiaaGreatDoorSymC
set_option linter.unusedVariables false
set_option linter.unusedSimpArgs false
namespace Go.Eng
noncomputable section
end
end Go.Eng
namespace Go.Eng
noncomputable section
section
variable {ev:dM} {h:ag}
theorem L.o1 {r bytes n:Nat} {zero:List V} {x y:A} (hx:ev x= .int .i64 (n:Int)) (hy:ev y= .int .i64 (n:Int)) (fx:n * bytes≤1099511627776):
  light (.o1 r zero bytes x y) ev h= .new (.cells r h.next 0 (n * r) (e4 r n 0 (rep n zero) T.e)) (.av h.next 0 n (some n)):=by
 show (match (ev x).asNat,(ev y).asNat with
  |some n,some m=>force h.next fun b=>bif n.ble m&&(Nat.mul m bytes).ble 1099511627776 then gQ r m 0 (rep m zero) T.e fun t=>bM.new (.cells r b 0 (Nat.mul m r) t) (.av b 0 n (some m)) else .bad
  |_,_=> .bad)=_
 rw [hx,hy]
 show (force h.next fun b=>bif n.ble n&&(Nat.mul n bytes).ble 1099511627776 then gQ r n 0 (rep n zero) T.e fun t=>bM.new (.cells r b 0 (Nat.mul n r) t) (.av b 0 n (some n)) else .bad)=_
 have aT:(n.ble n&&(Nat.mul n bytes).ble 1099511627776)=true:=by
  rw [show n.ble n=true from Nat.ble_eq_true_of_le (Nat.le_refl _),show (Nat.mul n bytes).ble 1099511627776=true from Nat.ble_eq_true_of_le fx];rfl
 rw [force_eq,aT,cond_true,iI];rfl
end
theorem abt {r:Nat} {z:List V} (hr:0<r) (hz:z.length=r) (n:Nat):∀i row,(List.replicate n z)[i]? =some row→T.get i (e4 r n 0 (rep n z) (T.e:T (List V)))=some row∧row.length=r:=by
 intro i row aq
 have hlt:=(List.getElem?_eq_some_iff.1 aq).1
 rw [List.length_replicate] at hlt
 rw [List.getElem?_replicate,if_pos hlt] at aq
 cases aq
 rw [q9 r _ _ _ _ i (by omega) (by omega),if_pos ⟨by omega,by omega⟩,OC,Nat.sub_zero]
 refine ⟨congrArg some ?_,hz⟩
 exact wU i (l:=List.replicate n z) (fun row hm=>by rw [(List.mem_replicate.1 hm).2];exact hz) (by rw [List.getElem?_replicate,if_pos hlt])
section
variable {c:Ctx} {Q:jd} {env:Env} {h:ag} {fs:List Fact} {vs:List V} {i j:bx}
theorem I.Mx {l:List dp} {r bytes n:Nat} {zero:List V} {x y:A} (st:ak fs h) (hx:x.ev vs env= .int .i64 (n:Int)) (hy:y.ev vs env= .int .i64 (n:Int)) (hr:0<r) (hz:zero.length=r) (fx:n * bytes≤1099511627776)
  (K:∀b h1,ak (.nT b r (List.replicate n zero)::fs) h1→I c l Q (.av b 0 n (some n)::vs) (Env.set i j (.av b 0 n (some n)) env) h1):I c (.s i j (.L (.o1 r zero bytes x y))::l) Q vs env h:=by
 refine I.AP (L.o1 hx hy fx) (AV hr) (K _ _ ?_)
 have:=st.nT (r:=r) (rows:=List.replicate n zero) hr (abt hr hz n)
 rw [List.length_replicate] at this;exact this
end
section
variable {c:Ctx} {Q:jd} {env:Env} {h:ag} {fs:List Fact} {vs:List V} {l:List dp}
theorem I.HT {b k:Nat} {x y:A} {v:V} {rows:List (List V)} (st:ak (.nT b 1 rows::fs) h) (hx:x.ev vs env= .ptr b (0+k * 1)) (hy:(y.ev vs env).dY=some [v]) (hk:k<rows.length)
  (K:∀h1,ak (.nT b 1 (rows.set k [v])::fs) h1→I c l Q (un::vs) env h1):I c (.p (.H (.store 1 x y))::l) Q vs env h:=by
 obtain ⟨t,gw,h1,h2,gb⟩:=ak.Re (v:=v) (i:=k) st hk
 exact I.act (fun _=>L.Rc (v:=v) hx hy gw h1 h2 hk) (K _ gb)
end
theorem ak.abu {gs l fs:List Fact} {x:Fact} {h:ag} (s:ak (x::(gs++(l++fs))) h):ak (gs++((l++[x])++fs)) h:=by
 refine s.perm ?_
 rw [List.append_assoc]
 exact (List.perm_middle (a:=x) (l₁:=gs) (l₂:=l++fs)).symm.trans (List.Perm.append_left gs (List.perm_middle (a:=x) (l₁:=l) (l₂:=fs)).symm)
theorem abv {f r n:Nat} {h:ag} {v:V} {rows:List (List V)} (a:nO f r h v rows) (au:rows.length=n) (hn:n≠0):∃b,v= .av b 0 n none:=by
 subst au
 cases a with
 |nil=>exact absurd rfl hn
 |row a=>exact ⟨_,rfl⟩
theorem Em {bs:List Nat} {f r n:Nat} {h:ag} {v:V} {rows:List (List V)} (a:jv bs f r h v rows) (au:rows.length=n) (hn:n≠0):∃b,v= .av b 0 n none:=by
 subst au
 cases a with
 |nil=>exact absurd rfl hn
 |row=>exact ⟨_,rfl⟩
theorem Rows.cap {r b o n:Nat} {h:ag} {cap Dt:Option Nat} {rows:List (List V)} (a:Rows r h (.av b o n cap) rows):Rows r h (.av b o n Dt) rows:=by
 cases a with
 |row hr dP bq dh ec hlen=>exact .row hr dP bq dh ec hlen
theorem ak.xe {gs l fs:List Fact} {t:Fact} {h:ag} (s:ak (gs++(t::(l++fs))) h):ak (t::(l++(fs++gs))) h:=by
 have:=s.perm (List.perm_append_comm (l₁:=gs) (l₂:=t::(l++fs)))
 rw [List.cons_append,List.append_assoc] at this;exact this
theorem ak.Bn {gs l fs:List Fact} {t:Fact} {h:ag} (s:ak (t::(l++(fs++gs))) h):ak (gs++(t::(l++fs))) h:=by
 rw [←List.append_assoc,←List.cons_append] at s
 exact s.perm List.perm_append_comm
theorem abw {bs:List Nat} {M:List (List Bool)} (au:bs.length=M.length) (b:Nat) (r:List Bool):hD (bs++[b]) (M++[r])=hD bs M++[vB b r]:=by
 unfold hD
 rw [List.zipWith_append au];rfl
def bv (x:Bool):List V:=[.bool x]
def nq (h:ag):List (List Bool)→List V→Prop
 |[],[]=>True
 |r::J,v::vs=>Rows 1 h v (r.map bv)∧nq h J vs
 |_,_=>False
theorem nq.at {h:ag}:∀{J:List (List Bool)} {vs:List V},nq h J vs→∀{i:Nat} {r:List Bool},J[i]? =some r→∃v,vs[i]? =some v∧Rows 1 h v (r.map bv)
 |[],[],_,i,r,aq=>by simp at aq
 |[],_::_,h,_,_,_=>h.elim
 |_::_,[],h,_,_,_=>h.elim
 |a::J,v::vs,h,0,r,aq=>by simp at aq;subst aq;exact ⟨v,rfl,h.1⟩
 |a::J,v::vs,h,i+1,r,aq=>by
  obtain ⟨w,h1,h2⟩:=h.2.at (i:=i) (r:=r) (by simpa using aq)
  exact ⟨w,by simpa using h1,h2⟩
theorem nq.len {h:ag}:∀{J:List (List Bool)} {vs:List V},nq h J vs→vs.length=J.length
 |[],[],_=>rfl
 |[],_::_,h=>h.elim
 |_::_,[],h=>h.elim
 |_::_,_::_,h=>by simp [h.2.len]
def gL (h:ag) (v:V) (J:List (List Bool)):Prop:=∃vs:List V,Rows 1 h v (vs.map fun x=>[x])∧nq h J vs
theorem RJ {n:Nat}:∀{bs:List Nat} {M:List (List Bool)} {fs:List Fact} {h:ag},bs.length=M.length→(∀r∈M,r.length=n)→ak (hD bs M++fs) h→ak (.ay (fun h=>nq h M (bs.map fun b=> .av b 0 n (some n)))::fs) h
 |[],[],fs,h,_,_,s=>s.nn fun h=>trivial
 |[],_::_,_,_,au,_,_=>by simp at au
 |_::_,[],_,_,au,_,_=>by simp at au
 |b::bs,r::M,fs,h,au,hr,s=>by
  have s1:ak (.nT b 1 (r.map bv)::(hD bs M++fs)) h:=s
  have s2:=s1.Ra (some n)
  rw [List.length_map,hr r (by simp)] at s2
  have gb:ak (hD bs M++ .ay (fun h=>Rows 1 h (.av b 0 n (some n)) (r.map bv))::fs) h:=s2.Rb
  have jo:=RJ (n:=n) (by simpa using au) (fun r hm=>hr r (by simp [hm])) gb
  have kD:=(jo.pick 1 rfl).and
  exact kD
abbrev nW:=Lab.aL×Lab.aL×Int
def En (p:nW):List V:=[L.str p.1,L.str p.2.1, .int .i64 p.2.2]
def eR (l:List nW):List (Lab.aL×Lab.aL):=l.map fun p=>(p.1,p.2.1)
def fW (h:ag) (v:V) (aQ:List nW):Prop:=(v= .U∧aQ=[])∨∃b o cap,v= .av b o aQ.length cap∧∀i p,aQ[i]? =some p→h.load b (o+i * 3) 3=some (En p)∧∀j x,(En p)[j]? =some x→h.eZ b (o+i * 3+j)=some x
theorem fW.av {h:ag} {v:V} {aQ:List nW} (a:fW h v aQ) {i:Nat} (aq:i<aQ.length):v= .av (ck v) (cu v) aQ.length (LF v):=by
 rcases a with ⟨_,rfl⟩|⟨b,o,cap,rfl,_⟩
 · simp at aq
 · rfl
theorem L.RL {h:ag} {v:V} {aQ:List nW} {ev:dM} {x:A} (hx:ev x=v) (a:fW h v aQ):light (.len false x) ev h= .val (.int .i64 (aQ.length:Int)):=by
 rcases a with ⟨rfl,rfl⟩|⟨b,o,cap,rfl,_⟩
 · exact L.AU hx
 · exact L.qp hx
theorem L.Bo {h:ag} {v:V} {aQ:List nW} (a:fW h v aQ) {i:Nat} (aq:i<aQ.length) {ev:dM} {x y:A} (hx:ev x=v) (hy:ev y= .int .i64 (i:Int)):light (.bQ 3 x y) ev h= .val (.ptr (ck v) (cu v+i * 3)):=
 L.bQ (hx.trans (a.av aq)) hy aq
theorem fW.y0 {h:ag} {v x:V} {aQ:List nW} (a:fW h v aQ) {i j:Nat} {p:nW} (hp:aQ[i]? =some p) (aV:(En p)[j]? =some x):h.eZ (ck v) (cu v+i * 3+j)=some x:=by
 rcases a with ⟨_,rfl⟩|⟨b,o,cap,rfl,ha⟩
 · simp at hp
 · exact (ha i p hp).2 j x aV
theorem fW.of {h:ag} {v:V} {aQ:List nW} (a:Rows 3 h v (aQ.map En)):fW h v aQ:=by
 have au:=a.len
 rw [List.length_map] at au
 rcases au with ⟨rfl,e⟩|⟨b,o,cap,rfl⟩
 · exact .inl ⟨rfl,by simpa using e⟩
 · exact .inr ⟨b,o,cap,rfl,fun i p hp=>⟨a.dd (by rw [List.getElem?_map,hp];rfl),fun j x aV=>a.yy (row:=En p) (by rw [List.getElem?_map,hp];rfl) aV⟩⟩
namespace Lab
theorem RM {ns:List aL} {aQ:List nW} {i:Nat} {p:nW} (h:aQ[i]? =some p):table ns (eR (aQ.take (i+1)))=yY ns (table ns (eR (aQ.take i))) (p.1,p.2.1):=by
 unfold table eR
 rw [List.take_add_one,h,List.map_append,List.foldl_append]
 rfl
def vD (n k:Nat):List (List Bool):=(List.range k).map fun a=>(List.replicate n false).set a true
theorem abx (n k:Nat):vD n (k+1)=vD n k++[(List.replicate n false).set k true]:=by unfold vD;rw [List.range_succ,List.map_append];rfl
theorem aby (n k:Nat):(vD n k).length=k:=by simp [vD]
end Lab
end
end Go.Eng
namespace Go.Eng
noncomputable section
structure iQ where
 ns:List Lab.aL
 M:List (List Bool)
 J:List (List Nat)
 K:List (List Nat)
 bH:Nat
 aq:Nat
def iQ.none:iQ:=⟨[],[],[],[],0,0⟩
def iQ.num (t:iQ) (b0 j9 ey eJ:V):List V:=[b0,j9,ey,eJ, .int .i64 (t.bH:Int), .int .i64 (t.aq:Int)]
structure nX (h:ag) (b0 j9 ey eJ:V) (t:iQ):Prop where
 N:Rows 1 h b0 (SR t.ns)
 L:gL h j9 t.M
 J:px h ey t.J
 K:px h eJ t.K
def My {α:Type} (l:List (List α)):Prop:=l.length<4294967296∧∀r∈l,r.length<4294967296
structure iQ.small (t:iQ):Prop where
 N:t.ns.length<4294967296
 L:My t.M
 J:My t.J
 K:My t.K
theorem nX.none (h:ag):nX h .U .U .U .U iQ.none:=⟨.nil,⟨[], .nil,trivial⟩,⟨[], .nil,trivial⟩,⟨[], .nil,trivial⟩⟩
theorem iQ.RN:iQ.none.small:=⟨by decide,⟨by decide,fun r hr=>by cases hr⟩,⟨by decide,fun r hr=>by cases hr⟩,⟨by decide,fun r hr=>by cases hr⟩⟩
section
variable {h:ag} {v:V}
theorem gL.at {M:List (List Bool)} (t:gL h v M) {i:Nat} {r:List Bool} (hr:M[i]? =some r):∃u,h.eZ (ck v) (cu v+i * 1)=some u∧Rows 1 h u (r.map bv):=by
 obtain ⟨vs,aE,hb⟩:=t
 obtain ⟨u,h1,h2⟩:=hb.at hr
 exact ⟨u,aE.tS (by rw [List.getElem?_map,h1];rfl),h2⟩
theorem px.at {M:List (List Nat)} (t:px h v M) {i:Nat} {r:List Nat} (hr:M[i]? =some r):∃u,h.eZ (ck v) (cu v+i * 1)=some u∧Rows 1 h u (r.map sO):=by
 obtain ⟨vs,aE,hb⟩:=t
 obtain ⟨u,h1,h2⟩:=hb.at hr
 exact ⟨u,aE.tS (by rw [List.getElem?_map,h1];rfl),h2⟩
variable {ev:dM} {x y:A}
theorem L.nr {rows:List (List V)} (R:Rows 1 h v rows) {k:Nat} (hk:k<rows.length) (hx:ev x=v) (hy:ev y= .int .i64 (k:Int)):light (.bQ 1 x y) ev h= .val (.ptr (ck v) (cu v+k * 1)):=L.bQ (hx.trans (R.av hk)) hy hk
theorem L.abz {M:List (List Bool)} (hx:ev x=v) (t:gL h v M):light (.len false x) ev h= .val (.int .i64 (M.length:Int)):=by
 obtain ⟨vs,aE,hb⟩:=t
 exact L.eB hx aE (by rw [List.length_map,hb.len])
theorem L.Bp {M:List (List Bool)} (t:gL h v M) {k:Nat} (hk:k<M.length) (hx:ev x=v) (hy:ev y= .int .i64 (k:Int)):light (.bQ 1 x y) ev h= .val (.ptr (ck v) (cu v+k * 1)):=by
 obtain ⟨vs,aE,hb⟩:=t
 exact L.nr aE (by rw [List.length_map,hb.len];exact hk) hx hy
theorem L.RO {M:List (List Nat)} (t:px h v M) {k:Nat} (hk:k<M.length) (hx:ev x=v) (hy:ev y= .int .i64 (k:Int)):light (.bQ 1 x y) ev h= .val (.ptr (ck v) (cu v+k * 1)):=by
 obtain ⟨vs,aE,hb⟩:=t
 exact L.nr aE (by rw [List.length_map,hb.len];exact hk) hx hy
namespace Lab
theorem Bq {α β:Type} {f:α→List β} {n:Nat}:∀{l:List α},(∀x∈l,(f x).length≤n)→(l.flatMap f).length≤l.length * n
 |[],_=>Nat.zero_le _
 |a::l,h=>by
  have h1:=h a (by simp)
  have h2:=Bq (l:=l) (fun x hx=>h x (by simp [hx]))
  rw [List.flatMap_cons,List.length_append,List.length_cons,Nat.add_mul];omega
end Lab
def iR (l:List (Lab.aL×Lab.aL)):iQ:=match (Lab.made l).2 with
 |some x=>⟨Lab.names l,Lab.order l,Lab.kr (Lab.names l).length (Lab.order l) (Lab.names l).length,Lab.rI (Lab.names l).length (Lab.order l) (Lab.names l).length,x.1,x.2⟩
 |none=>iQ.none
theorem abA (l:List (Lab.aL×Lab.aL)):(iR l).small:=by
 unfold iR
 cases h:(Lab.made l).2 with
 |none=>exact iQ.RN
 |some x=>
  have hn:(Lab.names l).length≤12:=by
   unfold Lab.made at h
   split at h
   · cases h
   · split at h
     · cases h
     · omega
  have fQ:=Lab.Bk (Lab.Mr (Lab.names l) l) _ (Nat.le_refl _)
  have aT:∀r∈Lab.order l,r.length=(Lab.names l).length:=fQ.row
  have bu:(Lab.order l).length=(Lab.names l).length:=fQ.len
  refine ⟨by show (Lab.names l).length<_;omega,⟨by show (Lab.order l).length<_;omega,fun r hr=>by rw [aT r hr];omega⟩,⟨?_,fun r hr=> ?_⟩,⟨?_,fun r hr=> ?_⟩⟩
  · show (Lab.kr _ _ _).length<_
    unfold Lab.kr;rw [List.length_map,List.length_range];omega
  · obtain ⟨a,_,rfl⟩:=List.mem_map.1 hr
    unfold Lab.my;rw [List.length_map,List.length_range];omega
  · show (Lab.rI _ _ _).length<_
    unfold Lab.rI;rw [List.length_map,List.length_range];omega
  · obtain ⟨a,_,rfl⟩:=List.mem_map.1 hr
    unfold Lab.xc;rw [List.length_map,List.length_range];omega
end
end
end Go.Eng
namespace Go.Eng
noncomputable section
inductive Mz (j:Nat):List (List V)→V→Obj→Prop where
 |nil:Mz j [] .U .dead
 |zero:Mz j [] (.av j 0 0 none) .dead
 |some {l:List (List V)} (h:l≠[]) (cap:Nat):Mz j l (.av j 0 l.length (some cap)) (.box l.flatten)
structure aiV {α:Type} (r:Nat) (RP:α→List V) (val:α→List Value):Prop where
 pos:0<r
 len:∀x,(RP x).length=r
 rel:∀(x:α) (k:Nat) (u:V) (y:Value),(RP x)[k]? =some u→(val x)[k]? =some y→(∀ι,bL ι u y)∧y.oneCell'=true
end
end Go.Eng
namespace Go.Eng
noncomputable section
namespace Lab
theorem Eo {n:Nat} {le:Nat→Nat→Bool} {is:Nat→Bool} {x:Nat} (h:least n le is=some x):x<n∧is x=true∧∀d,d<n→is d=true→le x d=true:=by
 unfold least at h
 have h1:=List.find?_some h
 have h2:=List.mem_of_find?_eq_some h
 rw [Bool.and_eq_true] at h1
 refine ⟨List.mem_range.1 h2,h1.1,fun d aX aq=> ?_⟩
 have:=h1.2
 unfold lower at this
 rw [List.all_eq_true] at this
 have:=this d (List.mem_range.2 aX)
 rw [aq] at this;simpa using this
theorem abB {n:Nat} {le:Nat→Nat→Bool} {is:Nat→Bool} (h:least n le is=none) {x:Nat} (hx:x<n) (aq:is x=true):lower n le is x=false:=by
 unfold least at h
 rw [List.find?_eq_none] at h
 have:=h x (List.mem_range.2 hx)
 rw [aq] at this;simpa using this
def ly (n:Nat) (M:List (List Bool)):List (List Bool):=(List.range n).map fun i=>(List.range n).map fun k=>cD M k i
theorem MA (n:Nat) (M:List (List Bool)):fg n (ly n M):=⟨by simp [ly],fun r hr=>by
 obtain ⟨i,_,rfl⟩:=List.mem_map.1 hr
 simp⟩
theorem MB {n:Nat} {M:List (List Bool)} (s:fg n M) (a b:Nat):cD (ly n M) a b=cD M b a:=by
 by_cases h:a<n∧b<n
 · have h1:(ly n M)[a]? =some ((List.range n).map fun k=>cD M k a):=by unfold ly;rw [List.getElem?_map,List.getElem?_range h.1];rfl
   rw [yX h1,List.getElem?_map,List.getElem?_range h.2];rfl
 · cases h1:cD (ly n M) a b with
   |true=>exact absurd (Mn (MA n M) h1) h
   |false=>
    cases h2:cD M b a with
    |true=>exact absurd ((Mn s h2).symm) h
    |false=>rfl
theorem RQ {n:Nat} {M:List (List Bool)} (s:fg n M) (a b:Nat):join n (ly n M) a b=meet n M a b:=by
 unfold join meet
 congr 1
 · funext x y;exact MB s x y
 · funext x;rw [MB s,MB s]
theorem RR {n:Nat} {M:List (List Bool)} (s:fg n M) (k:Nat):kr n (ly n M) k=rI n M k:=by
 unfold kr rI my xc
 simp only [RQ s]
def xf (n:Nat) (M:List (List Bool)) (a k:Nat):Bool:=(List.range k).all fun b=>(join n M a b).isSome
def oO (n:Nat) (M:List (List Bool)) (k:Nat):Bool:=(List.range k).all fun a=>xf n M a n
theorem abC (n:Nat) (M:List (List Bool)) (a k:Nat):xf n M a (k+1)=(xf n M a k&&(join n M a k).isSome):=by unfold xf;rw [List.range_succ,List.all_append];simp
theorem abD (n:Nat) (M:List (List Bool)) (k:Nat):oO n M (k+1)=(oO n M k&&xf n M k n):=by unfold oO;rw [List.range_succ,List.all_append];simp
theorem abE {n:Nat} {M:List (List Bool)} {a b k:Nat} (ha:a<k) (hb:b<n) (h:join n M a b=none):oO n M k=false:=by
 rw [Bool.eq_false_iff];intro ht
 unfold oO xf at ht
 rw [List.all_eq_true] at ht
 have:=ht a (List.mem_range.2 ha)
 rw [List.all_eq_true] at this
 have:=this b (List.mem_range.2 hb)
 rw [h] at this;cases this
def MC (n:Nat) (M:List (List Bool)):Prop:=∀a b,a<n→b<n→a≠b→¬(cD M a b=true∧cD M b a=true)
theorem Ep {n:Nat} {M:List (List Bool)} (s:fg n M):py n M n=true↔(MC n M∧oO n M n=true∧oO n (ly n M) n=true):=by
 unfold py Mm oO xf MC
 simp only [List.all_eq_true,List.mem_range,RQ s]
 unfold Ei
 simp only [Bool.and_eq_true,Bool.not_eq_true',Bool.and_eq_false_iff,decide_eq_false_iff_not]
 constructor
 · intro h
   refine ⟨fun a b ha hb bO ⟨h1,h2⟩=> ?_,fun a ha b hb=>(h a ha b hb).2.1,fun a ha b hb=>(h a ha b hb).2.2⟩
   rcases (h a ha b hb).1 with h|h|h
   · exact h bO
   · rw [h1] at h;cases h
   · rw [h2] at h;cases h
 · rintro ⟨h1,h2,bj⟩ a ha b hb
   refine ⟨?_,h2 a ha b hb,bj a ha b hb⟩
   by_cases bO:a=b
   · exact .inl (fun h=>h bO)
   · by_cases cy:cD M a b=true
     · by_cases gh:cD M b a=true
       · exact absurd ⟨cy,gh⟩ (h1 a b ha hb bO)
       · exact .inr (.inr (by simpa using gh))
     · exact .inr (.inl (by simpa using cy))
def jJ (n:Nat) (M:List (List Bool)) (k:Nat):Nat:=(List.range k).foldl (fun h a=>(join n M h a).getD 0) 0
def jK (n:Nat) (M:List (List Bool)) (k:Nat):Nat:=(List.range k).foldl (fun h a=>(meet n M h a).getD 0) 0
theorem MD (n:Nat) (M:List (List Bool)) (k:Nat):jJ n M (k+1)=(join n M (jJ n M k) k).getD 0:=by unfold jJ;rw [List.range_succ,List.foldl_append];rfl
theorem ME (n:Nat) (M:List (List Bool)) (k:Nat):jK n M (k+1)=(meet n M (jK n M k) k).getD 0:=by unfold jK;rw [List.range_succ,List.foldl_append];rfl
theorem RS {n:Nat} {M:List (List Bool)} (h:py n M n=true) {a b:Nat} (ha:a<n) (hb:b<n):Ei n M a b=true:=by
 unfold py Mm at h
 simp only [List.all_eq_true,List.mem_range] at h
 exact h a ha b hb
theorem RT {n:Nat} {M:List (List Bool)} (h0:0<n) (ud:∀a b c,cD M a b=true→cD M b c=true→cD M a c=true) (h:py n M n=true):∀k,k≤n→jJ n M k<n∧∀a,a<k→cD M a (jJ n M k)=true
 |0,_=>⟨h0,fun a ha=>absurd ha (by omega)⟩
 |k+1,hk=>by
  obtain ⟨i1,i2⟩:=RT h0 ud h k (by omega)
  have ax:=RS h i1 (show k<n by omega)
  unfold Ei at ax
  rw [Bool.and_eq_true,Bool.and_eq_true] at ax
  obtain ⟨x,hx⟩:=Option.isSome_iff_exists.1 ax.2.1
  obtain ⟨p1,u5,_⟩:=Eo hx
  rw [Bool.and_eq_true] at u5
  rw [MD,hx]
  refine ⟨p1,fun a ha=> ?_⟩
  by_cases e:a=k
  · subst e;exact u5.2
  · exact ud _ _ _ (i2 a (by omega)) u5.1
theorem RU {n:Nat} {M:List (List Bool)} (h0:0<n) (ud:∀a b c,cD M a b=true→cD M b c=true→cD M a c=true) (h:py n M n=true):∀k,k≤n→jK n M k<n∧∀a,a<k→cD M (jK n M k) a=true
 |0,_=>⟨h0,fun a ha=>absurd ha (by omega)⟩
 |k+1,hk=>by
  obtain ⟨i1,i2⟩:=RU h0 ud h k (by omega)
  have ax:=RS h i1 (show k<n by omega)
  unfold Ei at ax
  rw [Bool.and_eq_true,Bool.and_eq_true] at ax
  obtain ⟨x,hx⟩:=Option.isSome_iff_exists.1 ax.2.2
  obtain ⟨p1,u5,_⟩:=Eo hx
  rw [Bool.and_eq_true] at u5
  rw [ME,hx]
  refine ⟨p1,fun a ha=> ?_⟩
  by_cases e:a=k
  · subst e;exact u5.2
  · exact ud _ _ _ u5.1 (i2 a (by omega))
theorem RV {n:Nat} {le:Nat→Nat→Bool} {is:Nat→Bool} {x:Nat} (hx:x<n) (aq:is x=true) (au:∀d,d<n→is d=true→le x d=true) (hu:∀y,y<n→is y=true→le y x=true→le x y=true→y=x):least n le is=some x:=by
 cases h:least n le is with
 |none=>
  have:=abB h hx aq
  rw [Bool.eq_false_iff] at this
  exact absurd (by unfold lower;rw [List.all_eq_true];intro d aX;cases p2:is d with|false=>rfl|true=>simp [au d (List.mem_range.1 aX) p2]) this
 |some y=>
  obtain ⟨qw,oL,MF⟩:=Eo h
  rw [hu y qw oL (MF x hx aq) (au y qw oL)]
theorem abF {n:Nat} {M:List (List Bool)} (s:fg n M) (h0:0<n) (ud:∀a b c,cD M a b=true→cD M b c=true→cD M a c=true):complete n M=if py n M n=true then some (jK n M n,jJ n M n) else none:=by
 by_cases h:py n M n=true
 · rw [if_pos h]
   obtain ⟨an,_,_⟩:=(Ep s).1 h
   obtain ⟨h1,h2⟩:=RT h0 ud h n (Nat.le_refl _)
   obtain ⟨aZ,bF⟩:=RU h0 ud h n (Nat.le_refl _)
   have eq:∀x y,x<n→y<n→cD M x y=true→cD M y x=true→y=x:=fun x y hx hy aT bu=>by
    by_cases e:y=x
    · exact e
    · exact absurd ⟨bu,aT⟩ (an y x hy hx e)
   have abG:high n M=some (jJ n M n):=RV (le:=fun x y=>cD M y x) h1 rfl (fun d aX _=>h2 d aX) (fun y hy _ aT bu=>eq _ _ h1 hy aT bu)
   have el:low n M=some (jK n M n):=RV (le:=cD M) aZ rfl (fun d aX _=>bF d aX) (fun y hy _ aT bu=>eq _ _ aZ hy bu aT)
   unfold complete;rw [h,abG,el];rfl
 · rw [if_neg h]
   unfold complete
   rw [Bool.not_eq_true] at h;rw [h];rfl
def Ins (S:List aL) (s:aL) (b7:List aL):Prop:=∃i,i≤S.length∧(∀x∈S.take i,x<s)∧(∀x,S[i]? =some x→¬x<s)∧b7=if S[i]? =some s then S else S.take i++s::S.drop i
theorem Ins.mem {S b7:List aL} {s:aL} (h:Ins S s b7) (z:aL):z∈b7↔(z∈S∨z=s):=by
 obtain ⟨i,aq,_,_,rfl⟩:=h
 by_cases e:S[i]? =some s
 · rw [if_pos e]
   have:=List.mem_of_getElem? e
   constructor
   · exact .inl
   · rintro (h|rfl)
     · exact h
     · exact this
 · rw [if_neg e,List.mem_append,List.mem_cons]
   have:z∈S↔(z∈S.take i∨z∈S.drop i):=by rw [←List.mem_append,List.take_append_drop]
   rw [this]
   constructor
   · rintro (h|h|h)
     · exact .inl (.inl h)
     · exact .inr h
     · exact .inl (.inr h)
   · rintro ((h|h)|h)
     · exact .inl h
     · exact .inr (.inr h)
     · exact .inr (.inl h)
theorem Ins.len {S b7:List aL} {s:aL} (h:Ins S s b7):b7.length≤S.length+1∧S.length≤b7.length:=by
 obtain ⟨i,aq,_,_,rfl⟩:=h
 split
 · omega
 · simp;omega
theorem Ins.xg {S b7:List aL} {s:aL} (h:Ins S s b7) (aC:S.Pairwise (·<·)):b7.Pairwise (·<·):=by
 obtain ⟨i,aq,h1,h2,rfl⟩:=h
 by_cases e:S[i]? =some s
 · rw [if_pos e];exact aC
 · rw [if_neg e]
   have uf:(S.take i++S.drop i).Pairwise (·<·):=by rw [List.take_append_drop];exact aC
   rw [List.pairwise_append] at uf
   obtain ⟨a1,a2,a3⟩:=uf
   have Er:∀y∈S.drop i,s<y:=by
    intro y hy
    have bO:S.drop i≠[]:=fun hn=>by rw [hn] at hy;cases hy
    have AF:i<S.length:=by
     rcases Nat.lt_or_ge i S.length with h|h
     · exact h
     · exact absurd (List.drop_of_length_le h) bO
    have hx:=h2 _ (List.getElem?_eq_getElem AF)
    have rm:s≤S[i]:=hx
    have hlt:s<S[i]:=lt_of_le_ne rm fun bu=>e (by rw [List.getElem?_eq_getElem AF,←bu])
    rw [List.drop_eq_getElem_cons AF] at hy a2
    rcases List.mem_cons.1 hy with rfl|hy
    · exact hlt
    · exact List.lt_trans hlt ((List.pairwise_cons.1 a2).1 y hy)
   rw [List.pairwise_append]
   refine ⟨a1,List.pairwise_cons.2 ⟨Er,a2⟩,fun x hx y hy=> ?_⟩
   rcases List.mem_cons.1 hy with rfl|hy
   · exact h1 x hx
   · exact List.lt_trans (h1 x hx) (Er y hy)
structure Seen (aQ:List (aL×aL)) (S:List aL):Prop where
 xg:S.Pairwise (·<·)
 mem:∀z,z∈S↔z∈raw aQ
theorem Seen.nil:Seen [] []:=⟨List.Pairwise.nil,fun z=>Iff.rfl⟩
theorem Seen.is {aQ:List (aL×aL)} {S:List aL} (h:Seen aQ S):S=names aQ:=Rx h.xg (aa6 aQ) fun z=>(h.mem z).trans (HP aQ z).symm
theorem RW (aQ:List (aL×aL)) (p:aL×aL):raw (aQ++[p])=raw aQ++(if p.2=[] then [p.1] else [p.1,p.2]):=by
 unfold raw;rw [List.flatMap_append];simp
theorem Seen.one {aQ:List (aL×aL)} {S b7:List aL} {p:aL×aL} (h:Seen aQ S) (aq:Ins S p.1 b7) (he:p.2=[]):Seen (aQ++[p]) b7:=by
 refine ⟨aq.xg h.xg,fun z=> ?_⟩
 rw [aq.mem,h.mem,RW,if_pos he,List.mem_append,List.mem_singleton]
theorem Seen.two {aQ:List (aL×aL)} {S b7 cv:List aL} {p:aL×aL} (h:Seen aQ S) (aq:Ins S p.1 b7) (aV:Ins b7 p.2 cv) (he:p.2≠[]):Seen (aQ++[p]) cv:=by
 refine ⟨aV.xg (aq.xg h.xg),fun z=> ?_⟩
 rw [aV.mem,aq.mem,h.mem,RW,if_neg he,List.mem_append,List.mem_cons,List.mem_singleton,or_assoc]
theorem abH:∀{a b:List aL},a.Pairwise (·<·)→(∀z,z∈a→z∈b)→a.length≤b.length:=by
 intro a
 induction a with
 |nil=>intro b _ _;exact Nat.zero_le _
 |cons x a bt=>
  intro b ha h
  obtain ⟨h1,h2⟩:=List.pairwise_cons.1 ha
  have hx:x∈b:=h x (by simp)
  have:=bt (b:=b.erase x) h2 fun z hz=>by
   have bO:z≠x:=fun e=>by subst e;exact absurd (h1 z hz) (List.lt_irrefl _)
   exact (List.mem_erase_of_ne bO).2 (h z (by simp [hz]))
  rw [List.length_erase_of_mem hx] at this
  have hb:0<b.length:=List.length_pos_of_mem hx
  rw [List.length_cons];omega
theorem Seen.many {aQ rest:List (aL×aL)} {S:List aL} (h:Seen aQ S):S.length≤(names (aQ++rest)).length:=by
 refine abH h.xg fun z hz=>(HP _ z).2 ?_
 unfold raw;rw [List.flatMap_append,List.mem_append]
 exact .inl ((h.mem z).1 hz)
end Lab
theorem Br {h:ag} {v:V} {n:Nat} {M:List (List Bool)} (fQ:fg n M) (t:gL h v M) {a:Nat} (ha:a<n):∃(u:V) (r:List Bool),h.eZ (ck v) (cu v+a * 1)=some u∧Rows 1 h u (r.map bv)∧r.length=n∧∀b,b<n→r[b]? =some (Lab.cD M a b):=by
 obtain ⟨r,hr,au⟩:=fQ.at ha
 obtain ⟨u,h1,h2⟩:=t.at hr
 refine ⟨u,r,h1,h2,au,fun b hb=> ?_⟩
 obtain ⟨x,hx⟩:∃x,r[b]? =some x:=⟨r[b]'(by omega),List.getElem?_eq_getElem (by omega)⟩
 rw [hx,Lab.yX hr,hx];rfl
theorem qz {h:ag} {u:V} {r:List Bool} {b:Nat} {x:Bool} (R:Rows 1 h u (r.map bv)) (hx:r[b]? =some x):h.eZ (ck u) (cu u+b * 1)=some (.bool x):=R.tS (by rw [List.getElem?_map,hx];rfl)
def MG (o:Option Nat):Int:=match o with
 |none=> -1
 |some x=>(x:Int)
namespace Lab
def nt (n:Nat) (M:List (List Bool)) (is:Nat→Bool) (i k:Nat):Bool:=is i&&(List.range k).all fun d=> !is d||cD M i d
theorem abI (n:Nat) (M:List (List Bool)) (is:Nat→Bool) (i k:Nat):nt n M is i (k+1)=(nt n M is i k&&(!is k||cD M i k)):=by
 unfold nt;rw [List.range_succ,List.all_append,←Bool.and_assoc];simp
theorem find_range {p:Nat→Bool} {n i:Nat} (aq:i<n) (hp:p i=true) (fB:∀j,j<i→p j=false):(List.range n).find? p=some i:=by
 rw [show n=i+(n - i) by omega,List.range_add,List.find?_append]
 have aT:(List.range i).find? p=none:=by
  rw [List.find?_eq_none];intro x hx
  rw [fB x (List.mem_range.1 hx)];simp
 rw [aT]
 obtain ⟨m,hm⟩:∃m,n - i=m+1:=⟨n - i - 1,by omega⟩
 rw [hm,List.range_succ_eq_map]
 simp [hp]
theorem abJ {n:Nat} {M:List (List Bool)} {is:Nat→Bool} {i:Nat} (aq:i<n) (h:nt n M is i n=true) (fB:∀j,j<i→nt n M is j n=false):least n (cD M) is=some i:=find_range aq h fB
theorem abK {n:Nat} {M:List (List Bool)} {is:Nat→Bool} (fB:∀j,j<n→nt n M is j n=false):least n (cD M) is=none:=by
 unfold least;rw [List.find?_eq_none];intro x hx
 have:=fB x (List.mem_range.1 hx)
 unfold nt at this
 unfold lower
 rw [this];simp
end Lab
theorem ug (b:Bool):b=false∨b=true:=by cases b<;>simp
theorem abL {p:Nat→Bool} {i:Nat} (fB:∀j,j<i→p j=false) (h:p i=false):∀j,j<i+1→p j=false:=fun j aV=>by
 by_cases e:j=i
 · subst e;exact h
 · exact fB j (by omega)
section
variable {ev:dM} {h:ag} {x y:A}
theorem L.RX {l m:List UInt8} (hx:ev x=L.str l) (hy:ev y=L.str m):light (.fu .lss x y) ev h= .val (.bool (decide (l<m))):=by
 show (ev x).mR (fun n a=>(ev y).mR fun m b=>_)=_
 rw [hx,hy]
 rw [←yV,←Ar,←rh,←rh];rfl
theorem L.y1 {v:V} {n:Nat} {M:List (List Bool)} (hx:ev x=v) (t:gL h v M) (hn:M.length=n):light (.len false x) ev h= .val (.int .i64 (n:Int)):=hn▸L.abz hx t
end
end
end Go.Eng
namespace Go.Eng
noncomputable section
def cz (h:ag) (v:V) (l:List Lab.aL):Prop:=(v= .U∧l=[])∨∃b o cap,v= .av b o l.length cap∧h.load b o (Nat.mul l.length 1)=some (SR l).flatten∧∀i x,l[i]? =some x→h.eZ b (o+i * 1)=some (L.str x)
section
variable {h:ag} {v:V} {l:List Lab.aL} {ev:dM} {x y:A}
theorem Rows.af (a:Rows 1 h v (SR l)):cz h v l:=by
 generalize cA:SR l=R at a
 have a0:=a
 cases a with
 |nil=>exact .inl ⟨rfl,by simpa [SR] using cA⟩
 | @row b o f ap bo cap t rows hr dP bq dh ec hlen=>
   have au:R.length=l.length:=by rw [←cA,eM]
   refine .inr ⟨b,o,cap,by rw [au],by rw [←au,cA];exact a0.Dr,fun i x hx=> ?_⟩
   have:=a0.tS (i:=i) (x:=L.str x) (by rw [←cA];exact oM hx)
   exact this
theorem cz.av (a:cz h v l) {i:Nat} (aq:i<l.length):v= .av (ck v) (cu v) l.length (LF v):=by
 rcases a with ⟨_,rfl⟩|⟨b,o,cap,rfl,_⟩
 · simp at aq
 · rfl
theorem L.xh (hx:ev x=v) (a:cz h v l):light (.len false x) ev h= .val (.int .i64 (l.length:Int)):=by
 rcases a with ⟨rfl,rfl⟩|⟨b,o,cap,rfl,_⟩
 · exact L.AU hx
 · exact L.qp hx
theorem L.vE (a:cz h v l) {i:Nat} (aq:i<l.length) (hx:ev x=v) (hy:ev y= .int .i64 (i:Int)):light (.bQ 1 x y) ev h= .val (.ptr (ck v) (cu v+i * 1)):=L.bQ (hx.trans (a.av aq)) hy aq
theorem cz.at (a:cz h v l) {i:Nat} {s:Lab.aL} (hp:l[i]? =some s):h.eZ (ck v) (cu v+i * 1)=some (L.str s):=by
 rcases a with ⟨_,rfl⟩|⟨b,o,cap,rfl,_,ha⟩
 · simp at hp
 · exact ha i _ hp
theorem L.abM {call:eU} {s:A} {bytes:Nat} {w hP:V} {new:List Lab.aL} {out:bg} (aC:ev s=w) (hx:ev x=hP) (hn:cz h hP new) (bq:gk h 1 bytes w (SR new).flatten new.length=out):hK (.append 1 bytes s x) call ev h=out:=by
 subst bq aC hx
 show (match ev x with
  | .U=>gk h 1 bytes (ev s) [] 0
  | .av b o m _=>(Option.rec .bad (fun new=>gk h 1 bytes (ev s) new m) (h.load b o (Nat.mul m 1)):bg)
  | .str m a=>bif Nat.beq 1 1 then gk h 1 bytes (ev s) (nD (gZ m a)) m else .bad
  |_=> .bad)=_
 rcases hn with ⟨e,rfl⟩|⟨b,o,cap,e,au,_⟩
 · rw [e];rfl
 · rw [e]
   simp only [au]
theorem abN (l:List Lab.aL):∀row∈SR l,row.length=1:=fun row hm=>by obtain ⟨x,_,rfl⟩:=List.mem_map.1 hm;rfl
end
section
variable {c:Ctx} {Q:jd} {env:Env} {h:ag} {fs:List Fact} {vs:List V} {l:List dp} {i j:bx} {bs:List Nat} {f bytes:Nat} {v hP:V} {old new:List Lab.aL}
theorem I.abO {b:Nat} {s x:A} (st:ak fs h) (aC:s.ev vs env= .av b 0 0 (some 0)) (hb:8≤b) (hx:x.ev vs env=hP) (hn:cz h hP new) (bO:0<new.length) (fx:new.length * bytes≤1099511627776)
  (K:∀bs f v h1,ak (.cX bs f 1 v (SR new)::fs) h1→I c l Q (v::vs) (Env.set i j v env) h1):I c (.s i j (.H (.append 1 bytes s x))::l) Q vs env h:=by
 have abP:h.load b 0 (Nat.mul 0 1)=some []:=rfl
 have e:=Rf (h:=h) (r:=1) (bytes:=bytes) (b:=b) (n:=0) (m:=new.length) (old:=[]) (new:=(SR new).flatten) hb abP bO (by rw [Nat.zero_add];exact fx)
 rw [Nat.zero_add,List.nil_append] at e
 obtain ⟨bs,f,v,aB,bu,en⟩:=(st.xa 1).HI (bytes:=bytes) (by decide) (abN new) (by rw [eM];simpa using fx)
 rw [eM] at bu
 rw [List.nil_append] at en
 exact I.GY (fun _=>L.abM (ev:=fun a=>a.ev vs env) aC hx hn (e.trans bu)) (K _ _ _ _ en)
end
def jZ (l:List Lab.aL):List Lab.aL:=Lab.uniq (jD l)
theorem MH (l:List Lab.aL) (z:Lab.aL):z∈jZ l↔z∈l:=(Lab.HN _ z).trans (w8 _).mem_iff
theorem RY (l:List Lab.aL):(jZ l).Pairwise (·<·):=Lab.Mq _ (HG _)
theorem RZ (l:List Lab.aL):(jZ l).length≤l.length:=Nat.le_trans (Lab.Rw _) (by rw [(w8 l).length_eq];exact Nat.le_refl _)
def lX (l:List Lab.aL):List (Lab.aL×Lab.aL):=l.map fun x=>(x,[])
theorem R0:∀l:List Lab.aL,Lab.raw (lX l)=l
 |[]=>rfl
 |x::l=>by
  have:=R0 l
  unfold Lab.raw lX at this ⊢
  rw [List.map_cons,List.flatMap_cons,this];simp
theorem R1 (l:List Lab.aL):Lab.names (lX l)=jZ l:=by unfold Lab.names;rw [R0];rfl
theorem HU {l:List Lab.aL} {i:Nat} {x:Lab.aL} (h:l[i]? =some x):lX (l.take (i+1))=lX (l.take i)++[(x,[])]:=by
 unfold lX;rw [List.take_add_one,h,List.map_append];rfl
end
end Go.Eng
