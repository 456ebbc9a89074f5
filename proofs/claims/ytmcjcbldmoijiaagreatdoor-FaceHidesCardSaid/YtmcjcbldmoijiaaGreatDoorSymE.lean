/- Part of a proof of a law: rules of an evaluator, contracts, plain laws. No condition of its own. -/
import Derived.Test.YtmcjcbldmoijiaaGreatDoorSymD
import Derived.Test.YtmcjcbldmoijiaaGreatDoorEngE
import Derived.Test.YtmcjcbldmoijiaaGreatDoorSymB
import Derived.Test.YtmcjcbldmoijiaaGreatDoorSymC
set_option linter.unusedVariables false
set_option linter.unusedSimpArgs false
namespace Go.Eng
noncomputable section
end
end Go.Eng
namespace Go.Eng
noncomputable section
section
variable {ev:dr} {h:ae}
theorem L.n2 {r bytes n:Nat} {zero:List V} {x y:A} (hx:ev x= .int .i64 (n:Int)) (hy:ev y= .int .i64 (n:Int)) (eI:n * bytes≤1099511627776):
  light (.n2 r zero bytes x y) ev h= .new (.cells r h.next 0 (n * r) (eC r n 0 (rep n zero) T.e)) (.au h.next 0 n (some n)):=by
 show (match (ev x).asNat,(ev y).asNat with
  |some n,some m=>force h.next fun b=>bif n.ble m&&(Nat.mul m bytes).ble 1099511627776 then gl r m 0 (rep m zero) T.e fun t=>bE.new (.cells r b 0 (Nat.mul m r) t) (.au b 0 n (some m)) else .bad
  |_,_=> .bad)=_
 rw [hx,hy]
 show (force h.next fun b=>bif n.ble n&&(Nat.mul n bytes).ble 1099511627776 then gl r n 0 (rep n zero) T.e fun t=>bE.new (.cells r b 0 (Nat.mul n r) t) (.au b 0 n (some n)) else .bad)=_
 have aS:(n.ble n&&(Nat.mul n bytes).ble 1099511627776)=true:=by
  rw [show n.ble n=true from Nat.ble_eq_true_of_le (Nat.le_refl _),show (Nat.mul n bytes).ble 1099511627776=true from Nat.ble_eq_true_of_le eI];rfl
 rw [force_eq,aS,cond_true,h6];rfl
end
theorem ZN {r:Nat} {z:List V} (hr:0<r) (hz:z.length=r) (n:Nat):∀i row,(List.replicate n z)[i]? =some row→T.get i (eC r n 0 (rep n z) (T.e:T (List V)))=some row∧row.length=r:=by
 intro i row ag
 have hlt:=(List.getElem?_eq_some_iff.1 ag).1
 rw [List.length_replicate] at hlt
 rw [List.getElem?_replicate,if_pos hlt] at ag
 cases ag
 rw [qb r _ _ _ _ i (by omega) (by omega),if_pos ⟨by omega,by omega⟩,Mw,Nat.sub_zero]
 refine ⟨congrArg some ?_,hz⟩
 exact uo i (l:=List.replicate n z) (fun row hm=>by rw [(List.mem_replicate.1 hm).2];exact hz) (by rw [List.getElem?_replicate,if_pos hlt])
section
variable {c:Ctx} {Q:hX} {env:Env} {h:ae} {fs:List Fact} {vs:List V} {i j:bp}
theorem I.KA {l:List eA} {r bytes n:Nat} {zero:List V} {x y:A} (st:aq fs h) (hx:x.ev vs env= .int .i64 (n:Int)) (hy:y.ev vs env= .int .i64 (n:Int)) (hr:0<r) (hz:zero.length=r) (eI:n * bytes≤1099511627776)
  (K:∀b h1,aq (.mV b r (List.replicate n zero)::fs) h1→I c l Q (.au b 0 n (some n)::vs) (Env.set i j (.au b 0 n (some n)) env) h1):I c (.s i j (.L (.n2 r zero bytes x y))::l) Q vs env h:=by
 refine I.zq (L.n2 hx hy eI) (zu hr) (K _ _ ?_)
 have:=st.mV (r:=r) (rows:=List.replicate n zero) hr (ZN hr hz n)
 rw [List.length_replicate] at this;exact this
end
section
variable {c:Ctx} {Q:hX} {env:Env} {h:ae} {fs:List Fact} {vs:List V} {l:List eA}
theorem I.F7 {b k:Nat} {x y:A} {v:V} {rows:List (List V)} (st:aq (.mV b 1 rows::fs) h) (hx:x.ev vs env= .ptr b (0+k * 1)) (hy:(y.ev vs env).dA=some [v]) (hk:k<rows.length)
  (K:∀h1,aq (.mV b 1 (rows.set k [v])::fs) h1→I c l Q (un::vs) env h1):I c (.p (.H (.store 1 x y))::l) Q vs env h:=by
 obtain ⟨t,fB,h1,h2,fw⟩:=aq.Pg (v:=v) (i:=k) st hk
 exact I.act (fun _=>L.Pf (v:=v) hx hy fB h1 h2 hk) (K _ fw)
end
theorem aq.ZO {gs l fs:List Fact} {x:Fact} {h:ae} (s:aq (x::(gs++(l++fs))) h):aq (gs++((l++[x])++fs)) h:=by
 refine s.perm ?_
 rw [List.append_assoc]
 exact (List.perm_middle (a:=x) (l₁:=gs) (l₂:=l++fs)).symm.trans (List.Perm.append_left gs (List.perm_middle (a:=x) (l₁:=l) (l₂:=fs)).symm)
theorem ZP {f r n:Nat} {h:ae} {v:V} {rows:List (List V)} (a:mQ f r h v rows) (ar:rows.length=n) (hn:n≠0):∃b,v= .au b 0 n none:=by
 subst ar
 cases a with
 |nil=>exact absurd rfl hn
 |row a=>exact ⟨_,rfl⟩
theorem F8 {bs:List Nat} {f r n:Nat} {h:ae} {v:V} {rows:List (List V)} (a:ia bs f r h v rows) (ar:rows.length=n) (hn:n≠0):∃b,v= .au b 0 n none:=by
 subst ar
 cases a with
 |nil=>exact absurd rfl hn
 |row=>exact ⟨_,rfl⟩
theorem Rows.cap {r b o n:Nat} {h:ae} {cap B6:Option Nat} {rows:List (List V)} (a:Rows r h (.au b o n cap) rows):Rows r h (.au b o n B6) rows:=by
 cases a with
 |row hr dj bd cF dC hlen=>exact .row hr dj bd cF dC hlen
theorem aq.vR {gs l fs:List Fact} {t:Fact} {h:ae} (s:aq (gs++(t::(l++fs))) h):aq (t::(l++(fs++gs))) h:=by
 have:=s.perm (List.perm_append_comm (l₁:=gs) (l₂:=t::(l++fs)))
 rw [List.cons_append,List.append_assoc] at this;exact this
theorem aq.zS {gs l fs:List Fact} {t:Fact} {h:ae} (s:aq (t::(l++(fs++gs))) h):aq (gs++(t::(l++fs))) h:=by
 rw [←List.append_assoc,←List.cons_append] at s
 exact s.perm List.perm_append_comm
theorem ZQ {bs:List Nat} {M:List (List Bool)} (ar:bs.length=M.length) (b:Nat) (r:List Bool):gH (bs++[b]) (M++[r])=gH bs M++[ux b r]:=by
 unfold gH
 rw [List.zipWith_append ar];rfl
def bv (x:Bool):List V:=[.bool x]
def mr (h:ae):List (List Bool)→List V→Prop
 |[],[]=>True
 |r::J,v::vs=>Rows 1 h v (r.map bv)∧mr h J vs
 |_,_=>False
theorem mr.at {h:ae}:∀{J:List (List Bool)} {vs:List V},mr h J vs→∀{i:Nat} {r:List Bool},J[i]? =some r→∃v,vs[i]? =some v∧Rows 1 h v (r.map bv)
 |[],[],_,i,r,ag=>by simp at ag
 |[],_::_,h,_,_,_=>h.elim
 |_::_,[],h,_,_,_=>h.elim
 |a::J,v::vs,h,0,r,ag=>by simp at ag;subst ag;exact ⟨v,rfl,h.1⟩
 |a::J,v::vs,h,i+1,r,ag=>by
  obtain ⟨w,h1,h2⟩:=h.2.at (i:=i) (r:=r) (by simpa using ag)
  exact ⟨w,by simpa using h1,h2⟩
theorem mr.len {h:ae}:∀{J:List (List Bool)} {vs:List V},mr h J vs→vs.length=J.length
 |[],[],_=>rfl
 |[],_::_,h=>h.elim
 |_::_,[],h=>h.elim
 |_::_,_::_,h=>by simp [h.2.len]
def gb (h:ae) (v:V) (J:List (List Bool)):Prop:=∃vs:List V,Rows 1 h v (vs.map fun x=>[x])∧mr h J vs
theorem PV {n:Nat}:∀{bs:List Nat} {M:List (List Bool)} {fs:List Fact} {h:ae},bs.length=M.length→(∀r∈M,r.length=n)→aq (gH bs M++fs) h→aq (.aE (fun h=>mr h M (bs.map fun b=> .au b 0 n (some n)))::fs) h
 |[],[],fs,h,_,_,s=>s.qB fun h=>trivial
 |[],_::_,_,_,ar,_,_=>by simp at ar
 |_::_,[],_,_,ar,_,_=>by simp at ar
 |b::bs,r::M,fs,h,ar,hr,s=>by
  have s1:aq (.mV b 1 (r.map bv)::(gH bs M++fs)) h:=s
  have s2:=s1.Pb (some n)
  rw [List.length_map,hr r (by simp)] at s2
  have fw:aq (gH bs M++ .aE (fun h=>Rows 1 h (.au b 0 n (some n)) (r.map bv))::fs) h:=s2.Pc
  have iG:=PV (n:=n) (by simpa using ar) (fun r hm=>hr r (by simp [hm])) fw
  have jS:=(iG.pick 1 rfl).and
  exact jS
theorem Pz.of {h:ae} {cq br n:Nat} {cap:Option Nat} {M:List (List Bool)} (e5:eJ n M) (t:gb h (.au cq br n cap) M):Pz cq br n M h:=by
 obtain ⟨vs,aD,hb⟩:=t
 intro a ha
 obtain ⟨r,hr,ar⟩:=e5.at ha
 obtain ⟨v,h1,h2⟩:=hb.at hr
 have a6:=aD.eb (i:=a) (x:=v) (by rw [List.getElem?_map,h1];rfl)
 have EB:=h2
 have hlen:=h2.len
 rw [List.length_map,ar] at hlen
 rcases hlen with ⟨rfl,e⟩|⟨aT,ro,Ko,rfl⟩
 · have:r=[]:=by simpa using e
   subst this;simp at ar;omega
 · refine ⟨aT,ro,Ko,a6,fun b ec=> ?_⟩
   obtain ⟨x,hx⟩:∃x,r[b]? =some x:=⟨r[b]'(by omega),List.getElem?_eq_getElem (by omega)⟩
   have:=h2.eb (i:=b) (x:= .bool x) (by rw [List.getElem?_map,hx];rfl)
   rw [this,Lab.vO hr,hx];rfl
abbrev lJ:=Lab.aL×Lab.aL×Int
def zT (p:lJ):List V:=[L.str p.1,L.str p.2.1, .int .i64 p.2.2]
def er (l:List lJ):List (Lab.aL×Lab.aL):=l.map fun p=>(p.1,p.2.1)
def fj (h:ae) (v:V) (aO:List lJ):Prop:=(v= .U∧aO=[])∨∃b o cap,v= .au b o aO.length cap∧∀i p,aO[i]? =some p→h.load b (o+i * 3) 3=some (zT p)∧∀j x,(zT p)[j]? =some x→h.eb b (o+i * 3+j)=some x
theorem fj.au {h:ae} {v:V} {aO:List lJ} (a:fj h v aO) {i:Nat} (ag:i<aO.length):v= .au (cY v) (db v) aO.length (JN v):=by
 rcases a with ⟨_,rfl⟩|⟨b,o,cap,rfl,_⟩
 · simp at ag
 · rfl
theorem L.PW {h:ae} {v:V} {aO:List lJ} {ev:dr} {x:A} (hx:ev x=v) (a:fj h v aO):light (.len false x) ev h= .val (.int .i64 (aO.length:Int)):=by
 rcases a with ⟨rfl,rfl⟩|⟨b,o,cap,rfl,_⟩
 · exact L.zt hx
 · exact L.pr hx
theorem L.zU {h:ae} {v:V} {aO:List lJ} (a:fj h v aO) {i:Nat} (ag:i<aO.length) {ev:dr} {x y:A} (hx:ev x=v) (hy:ev y= .int .i64 (i:Int)):light (.bY 3 x y) ev h= .val (.ptr (cY v) (db v+i * 3)):=
 L.bY (hx.trans (a.au ag)) hy ag
theorem fj.at {h:ae} {v:V} {aO:List lJ} (a:fj h v aO) {i:Nat} {p:lJ} (hp:aO[i]? =some p):h.load (cY v) (db v+i * 3) 3=some (zT p):=by
 rcases a with ⟨_,rfl⟩|⟨b,o,cap,rfl,ha⟩
 · simp at hp
 · exact (ha i p hp).1
theorem fj.xT {h:ae} {v x:V} {aO:List lJ} (a:fj h v aO) {i j:Nat} {p:lJ} (hp:aO[i]? =some p) (aR:(zT p)[j]? =some x):h.eb (cY v) (db v+i * 3+j)=some x:=by
 rcases a with ⟨_,rfl⟩|⟨b,o,cap,rfl,ha⟩
 · simp at hp
 · exact (ha i p hp).2 j x aR
theorem fj.of {h:ae} {v:V} {aO:List lJ} (a:Rows 3 h v (aO.map zT)):fj h v aO:=by
 have ar:=a.len
 rw [List.length_map] at ar
 rcases ar with ⟨rfl,e⟩|⟨b,o,cap,rfl⟩
 · exact .inl ⟨rfl,by simpa using e⟩
 · exact .inr ⟨b,o,cap,rfl,fun i p hp=>⟨a.da (by rw [List.getElem?_map,hp];rfl),fun j x aR=>a.xq (row:=zT p) (by rw [List.getElem?_map,hp];rfl) aR⟩⟩
namespace Lab
theorem PX {ns:List aL} {aO:List lJ} {i:Nat} {p:lJ} (h:aO[i]? =some p):table ns (er (aO.take (i+1)))=xQ ns (table ns (er (aO.take i))) (p.1,p.2.1):=by
 unfold table er
 rw [List.take_add_one,h,List.map_append,List.foldl_append]
 rfl
def uy (n k:Nat):List (List Bool):=(List.range k).map fun a=>(List.replicate n false).set a true
theorem ZR (n k:Nat):uy n (k+1)=uy n k++[(List.replicate n false).set k true]:=by unfold uy;rw [List.range_succ,List.map_append];rfl
theorem ZS (n k:Nat):(uy n k).length=k:=by simp [uy]
end Lab
end
end Go.Eng
namespace Go.Eng
noncomputable section
structure ie where
 ns:List Lab.aL
 M:List (List Bool)
 J:List (List Nat)
 K:List (List Nat)
 br:Nat
 ag:Nat
def ie.none:ie:=⟨[],[],[],[],0,0⟩
def ie.num (t:ie) (cg jB dT ei:V):List V:=[cg,jB,dT,ei, .int .i64 (t.br:Int), .int .i64 (t.ag:Int)]
structure mX (h:ae) (cg jB dT ei:V) (t:ie):Prop where
 N:Rows 1 h cg (SR t.ns)
 L:gb h jB t.M
 J:oz h dT t.J
 K:oz h ei t.K
def KB {α:Type} (l:List (List α)):Prop:=l.length<4294967296∧∀r∈l,r.length<4294967296
structure ie.small (t:ie):Prop where
 N:t.ns.length<4294967296
 L:KB t.M
 J:KB t.J
 K:KB t.K
theorem mX.none (h:ae):mX h .U .U .U .U ie.none:=⟨.nil,⟨[], .nil,trivial⟩,⟨[], .nil,trivial⟩,⟨[], .nil,trivial⟩⟩
theorem ie.PY:ie.none.small:=⟨by decide,⟨by decide,fun r hr=>by cases hr⟩,⟨by decide,fun r hr=>by cases hr⟩,⟨by decide,fun r hr=>by cases hr⟩⟩
section
variable {h:ae} {v:V}
theorem gb.at {M:List (List Bool)} (t:gb h v M) {i:Nat} {r:List Bool} (hr:M[i]? =some r):∃u,h.eb (cY v) (db v+i * 1)=some u∧Rows 1 h u (r.map bv):=by
 obtain ⟨vs,aD,hb⟩:=t
 obtain ⟨u,h1,h2⟩:=hb.at hr
 exact ⟨u,aD.vA (by rw [List.getElem?_map,h1];rfl),h2⟩
theorem oz.at {M:List (List Nat)} (t:oz h v M) {i:Nat} {r:List Nat} (hr:M[i]? =some r):∃u,h.eb (cY v) (db v+i * 1)=some u∧Rows 1 h u (r.map rJ):=by
 obtain ⟨vs,aD,hb⟩:=t
 obtain ⟨u,h1,h2⟩:=hb.at hr
 exact ⟨u,aD.vA (by rw [List.getElem?_map,h1];rfl),h2⟩
variable {ev:dr} {x y:A}
theorem L.nM {rows:List (List V)} (R:Rows 1 h v rows) {k:Nat} (hk:k<rows.length) (hx:ev x=v) (hy:ev y= .int .i64 (k:Int)):light (.bY 1 x y) ev h= .val (.ptr (cY v) (db v+k * 1)):=L.bY (hx.trans (R.au hk)) hy hk
theorem L.ZT {M:List (List Bool)} (hx:ev x=v) (t:gb h v M):light (.len false x) ev h= .val (.int .i64 (M.length:Int)):=by
 obtain ⟨vs,aD,hb⟩:=t
 exact L.fD hx aD (by rw [List.length_map,hb.len])
theorem L.zV {M:List (List Bool)} (t:gb h v M) {k:Nat} (hk:k<M.length) (hx:ev x=v) (hy:ev y= .int .i64 (k:Int)):light (.bY 1 x y) ev h= .val (.ptr (cY v) (db v+k * 1)):=by
 obtain ⟨vs,aD,hb⟩:=t
 exact L.nM aD (by rw [List.length_map,hb.len];exact hk) hx hy
theorem L.PZ {M:List (List Nat)} (t:oz h v M) {k:Nat} (hk:k<M.length) (hx:ev x=v) (hy:ev y= .int .i64 (k:Int)):light (.bY 1 x y) ev h= .val (.ptr (cY v) (db v+k * 1)):=by
 obtain ⟨vs,aD,hb⟩:=t
 exact L.nM aD (by rw [List.length_map,hb.len];exact hk) hx hy
def F9 (h:ae) (v:V) (l:List UInt8):Prop:=(v= .U∧l=[])∨∃b o cap,v= .au b o l.length cap∧∀i x,l[i]? =some x→h.eb b (o+i * 1)=some (FQ x)
theorem F9.at {l:List UInt8} (a:F9 h v l) {i:Nat} {b:UInt8} (hp:l[i]? =some b):h.eb (cY v) (db v+i * 1)=some (.int .u8 (b.toNat:Int)):=by
 rcases a with ⟨_,rfl⟩|⟨b,o,cap,rfl,ha⟩
 · simp at hp
 · exact ha i _ hp
theorem F9.of {l:List UInt8} {a:V} {o:Obj} (hb:FR 0 l a o) {h:ae} (bd:T.get 0 h.t=some o):F9 h a l:=by
 cases hb with
 |nil=>exact .inl ⟨rfl,rfl⟩
 |zero=>exact .inr ⟨0,0,none,rfl,fun i x hx=>by simp at hx⟩
 |some bG cap=>exact .inr ⟨0,0,some cap,rfl,fun i x hx=>by rw [Nat.mul_one,Nat.zero_add];exact YI bd hx⟩
namespace Lab
theorem zW {α β:Type} {f:α→List β} {n:Nat}:∀{l:List α},(∀x∈l,(f x).length≤n)→(l.flatMap f).length≤l.length * n
 |[],_=>Nat.zero_le _
 |a::l,h=>by
  have h1:=h a (by simp)
  have h2:=zW (l:=l) (fun x hx=>h x (by simp [hx]))
  rw [List.flatMap_cons,List.length_append,List.length_cons,Nat.add_mul];omega
end Lab
def ig (l:List (Lab.aL×Lab.aL)):ie:=match (Lab.made l).2 with
 |some x=>⟨Lab.names l,Lab.order l,Lab.jL (Lab.names l).length (Lab.order l) (Lab.names l).length,Lab.qC (Lab.names l).length (Lab.order l) (Lab.names l).length,x.1,x.2⟩
 |none=>ie.none
theorem ZU (l:List (Lab.aL×Lab.aL)):(ig l).small:=by
 unfold ig
 cases h:(Lab.made l).2 with
 |none=>exact ie.PY
 |some x=>
  have hn:(Lab.names l).length≤12:=by
   unfold Lab.made at h
   split at h
   · cases h
   · split at h
     · cases h
     · omega
  have e5:=Lab.zP (Lab.Ks (Lab.names l) l) _ (Nat.le_refl _)
  have aS:∀r∈Lab.order l,r.length=(Lab.names l).length:=e5.row
  have bl:(Lab.order l).length=(Lab.names l).length:=e5.len
  refine ⟨by show (Lab.names l).length<_;omega,⟨by show (Lab.order l).length<_;omega,fun r hr=>by rw [aS r hr];omega⟩,⟨?_,fun r hr=> ?_⟩,⟨?_,fun r hr=> ?_⟩⟩
  · show (Lab.jL _ _ _).length<_
    unfold Lab.jL;rw [List.length_map,List.length_range];omega
  · obtain ⟨a,_,rfl⟩:=List.mem_map.1 hr
    unfold Lab.lI;rw [List.length_map,List.length_range];omega
  · show (Lab.qC _ _ _).length<_
    unfold Lab.qC;rw [List.length_map,List.length_range];omega
  · obtain ⟨a,_,rfl⟩:=List.mem_map.1 hr
    unfold Lab.vN;rw [List.length_map,List.length_range];omega
end
end
end Go.Eng
namespace Go.Eng
noncomputable section
inductive Ga (j:Nat):List (List V)→V→Obj→Prop where
 |nil:Ga j [] .U .dead
 |zero:Ga j [] (.au j 0 0 none) .dead
 |some {l:List (List V)} (h:l≠[]) (cap:Nat):Ga j l (.au j 0 l.length (some cap)) (.box l.flatten)
theorem ZV {r:Nat} {l:List (List V)} (ar:∀row∈l,row.length=r) {i k:Nat} {row:List V} (ag:l[i]? =some row) (hk:k<r):l.flatten[i * r+k]? =row[k]? :=by
 have:=congrArg (fun x:List V=>x[k]?) (uo i ar ag)
 simp only [List.getElem?_take,List.getElem?_drop,if_pos hk] at this
 exact this
structure agY {α:Type} (r:Nat) (P0:α→List V) (val:α→List Value):Prop where
 pos:0<r
 len:∀x,(P0 x).length=r
 rel:∀(x:α) (k:Nat) (u:V) (y:Value),(P0 x)[k]? =some u→(val x)[k]? =some y→(∀ι,bD ι u y)∧y.oneCell'=true
end
end Go.Eng
namespace Go.Eng
noncomputable section
namespace Lab
theorem CP {n:Nat} {le:Nat→Nat→Bool} {is:Nat→Bool} {x:Nat} (h:least n le is=some x):x<n∧is x=true∧∀d,d<n→is d=true→le x d=true:=by
 unfold least at h
 have h1:=List.find?_some h
 have h2:=List.mem_of_find?_eq_some h
 rw [Bool.and_eq_true] at h1
 refine ⟨List.mem_range.1 h2,h1.1,fun d aQ ag=> ?_⟩
 have:=h1.2
 unfold lower at this
 rw [List.all_eq_true] at this
 have:=this d (List.mem_range.2 aQ)
 rw [ag] at this;simpa using this
theorem ZW {n:Nat} {le:Nat→Nat→Bool} {is:Nat→Bool} (h:least n le is=none) {x:Nat} (hx:x<n) (ag:is x=true):lower n le is x=false:=by
 unfold least at h
 rw [List.find?_eq_none] at h
 have:=h x (List.mem_range.2 hx)
 rw [ag] at this;simpa using this
def kI (n:Nat) (M:List (List Bool)):List (List Bool):=(List.range n).map fun i=>(List.range n).map fun k=>cf M k i
theorem KC (n:Nat) (M:List (List Bool)):eJ n (kI n M):=⟨by simp [kI],fun r hr=>by
 obtain ⟨i,_,rfl⟩:=List.mem_map.1 hr
 simp⟩
theorem KD {n:Nat} {M:List (List Bool)} (s:eJ n M) (a b:Nat):cf (kI n M) a b=cf M b a:=by
 by_cases h:a<n∧b<n
 · have h1:(kI n M)[a]? =some ((List.range n).map fun k=>cf M k a):=by unfold kI;rw [List.getElem?_map,List.getElem?_range h.1];rfl
   rw [vO h1,List.getElem?_map,List.getElem?_range h.2];rfl
 · cases h1:cf (kI n M) a b with
   |true=>exact absurd (Kq (KC n M) h1) h
   |false=>
    cases h2:cf M b a with
    |true=>exact absurd ((Kq s h2).symm) h
    |false=>rfl
theorem P1 {n:Nat} {M:List (List Bool)} (s:eJ n M) (a b:Nat):join n (kI n M) a b=meet n M a b:=by
 unfold join meet
 congr 1
 · funext x y;exact KD s x y
 · funext x;rw [KD s,KD s]
theorem P2 {n:Nat} {M:List (List Bool)} (s:eJ n M) (k:Nat):jL n (kI n M) k=qC n M k:=by
 unfold jL qC lI vN
 simp only [P1 s]
def vS (n:Nat) (M:List (List Bool)) (a k:Nat):Bool:=(List.range k).all fun b=>(join n M a b).isSome
def nN (n:Nat) (M:List (List Bool)) (k:Nat):Bool:=(List.range k).all fun a=>vS n M a n
theorem ZX (n:Nat) (M:List (List Bool)) (a k:Nat):vS n M a (k+1)=(vS n M a k&&(join n M a k).isSome):=by unfold vS;rw [List.range_succ,List.all_append];simp
theorem ZY (n:Nat) (M:List (List Bool)) (k:Nat):nN n M (k+1)=(nN n M k&&vS n M k n):=by unfold nN;rw [List.range_succ,List.all_append];simp
theorem ZZ {n:Nat} {M:List (List Bool)} {a b k:Nat} (ha:a<k) (hb:b<n) (h:join n M a b=none):nN n M k=false:=by
 rw [Bool.eq_false_iff];intro ht
 unfold nN vS at ht
 rw [List.all_eq_true] at ht
 have:=ht a (List.mem_range.2 ha)
 rw [List.all_eq_true] at this
 have:=this b (List.mem_range.2 hb)
 rw [h] at this;cases this
def KE (n:Nat) (M:List (List Bool)):Prop:=∀a b,a<n→b<n→a≠b→¬(cf M a b=true∧cf M b a=true)
theorem CQ {n:Nat} {M:List (List Bool)} (s:eJ n M):oA n M n=true↔(KE n M∧nN n M n=true∧nN n (kI n M) n=true):=by
 unfold oA Kp nN vS KE
 simp only [List.all_eq_true,List.mem_range,P1 s]
 unfold CK
 simp only [Bool.and_eq_true,Bool.not_eq_true',Bool.and_eq_false_iff,decide_eq_false_iff_not]
 constructor
 · intro h
   refine ⟨fun a b ha hb bG ⟨h1,h2⟩=> ?_,fun a ha b hb=>(h a ha b hb).2.1,fun a ha b hb=>(h a ha b hb).2.2⟩
   rcases (h a ha b hb).1 with h|h|h
   · exact h bG
   · rw [h1] at h;cases h
   · rw [h2] at h;cases h
 · rintro ⟨h1,h2,a6⟩ a ha b hb
   refine ⟨?_,h2 a ha b hb,a6 a ha b hb⟩
   by_cases bG:a=b
   · exact .inl (fun h=>h bG)
   · by_cases cc:cf M a b=true
     · by_cases fA:cf M b a=true
       · exact absurd ⟨cc,fA⟩ (h1 a b ha hb bG)
       · exact .inr (.inr (by simpa using fA))
     · exact .inr (.inl (by simpa using cc))
def iY (n:Nat) (M:List (List Bool)) (k:Nat):Nat:=(List.range k).foldl (fun h a=>(join n M h a).getD 0) 0
def iZ (n:Nat) (M:List (List Bool)) (k:Nat):Nat:=(List.range k).foldl (fun h a=>(meet n M h a).getD 0) 0
theorem KF (n:Nat) (M:List (List Bool)) (k:Nat):iY n M (k+1)=(join n M (iY n M k) k).getD 0:=by unfold iY;rw [List.range_succ,List.foldl_append];rfl
theorem KG (n:Nat) (M:List (List Bool)) (k:Nat):iZ n M (k+1)=(meet n M (iZ n M k) k).getD 0:=by unfold iZ;rw [List.range_succ,List.foldl_append];rfl
theorem P3 {n:Nat} {M:List (List Bool)} (h:oA n M n=true) {a b:Nat} (ha:a<n) (hb:b<n):CK n M a b=true:=by
 unfold oA Kp at h
 simp only [List.all_eq_true,List.mem_range] at h
 exact h a ha b hb
theorem P4 {n:Nat} {M:List (List Bool)} (h0:0<n) (s5:∀a b c,cf M a b=true→cf M b c=true→cf M a c=true) (h:oA n M n=true):∀k,k≤n→iY n M k<n∧∀a,a<k→cf M a (iY n M k)=true
 |0,_=>⟨h0,fun a ha=>absurd ha (by omega)⟩
 |k+1,hk=>by
  obtain ⟨i1,i2⟩:=P4 h0 s5 h k (by omega)
  have av:=P3 h i1 (show k<n by omega)
  unfold CK at av
  rw [Bool.and_eq_true,Bool.and_eq_true] at av
  obtain ⟨x,hx⟩:=Option.isSome_iff_exists.1 av.2.1
  obtain ⟨p1,tM,_⟩:=CP hx
  rw [Bool.and_eq_true] at tM
  rw [KF,hx]
  refine ⟨p1,fun a ha=> ?_⟩
  by_cases e:a=k
  · subst e;exact tM.2
  · exact s5 _ _ _ (i2 a (by omega)) tM.1
theorem P5 {n:Nat} {M:List (List Bool)} (h0:0<n) (s5:∀a b c,cf M a b=true→cf M b c=true→cf M a c=true) (h:oA n M n=true):∀k,k≤n→iZ n M k<n∧∀a,a<k→cf M (iZ n M k) a=true
 |0,_=>⟨h0,fun a ha=>absurd ha (by omega)⟩
 |k+1,hk=>by
  obtain ⟨i1,i2⟩:=P5 h0 s5 h k (by omega)
  have av:=P3 h i1 (show k<n by omega)
  unfold CK at av
  rw [Bool.and_eq_true,Bool.and_eq_true] at av
  obtain ⟨x,hx⟩:=Option.isSome_iff_exists.1 av.2.2
  obtain ⟨p1,tM,_⟩:=CP hx
  rw [Bool.and_eq_true] at tM
  rw [KG,hx]
  refine ⟨p1,fun a ha=> ?_⟩
  by_cases e:a=k
  · subst e;exact tM.2
  · exact s5 _ _ _ tM.1 (i2 a (by omega))
theorem P6 {n:Nat} {le:Nat→Nat→Bool} {is:Nat→Bool} {x:Nat} (hx:x<n) (ag:is x=true) (ar:∀d,d<n→is d=true→le x d=true) (hu:∀y,y<n→is y=true→le y x=true→le x y=true→y=x):least n le is=some x:=by
 cases h:least n le is with
 |none=>
  have:=ZW h hx ag
  rw [Bool.eq_false_iff] at this
  exact absurd (by unfold lower;rw [List.all_eq_true];intro d aQ;cases vc:is d with|false=>rfl|true=>simp [ar d (List.mem_range.1 aQ) vc]) this
 |some y=>
  obtain ⟨pA,nL,KH⟩:=CP h
  rw [hu y pA nL (KH x hx ag) (ar y pA nL)]
theorem Z0 {n:Nat} {M:List (List Bool)} (s:eJ n M) (h0:0<n) (s5:∀a b c,cf M a b=true→cf M b c=true→cf M a c=true):complete n M=if oA n M n=true then some (iZ n M n,iY n M n) else none:=by
 by_cases h:oA n M n=true
 · rw [if_pos h]
   obtain ⟨an,_,_⟩:=(CQ s).1 h
   obtain ⟨h1,h2⟩:=P4 h0 s5 h n (Nat.le_refl _)
   obtain ⟨aW,bu⟩:=P5 h0 s5 h n (Nat.le_refl _)
   have eq:∀x y,x<n→y<n→cf M x y=true→cf M y x=true→y=x:=fun x y hx hy aS bl=>by
    by_cases e:y=x
    · exact e
    · exact absurd ⟨bl,aS⟩ (an y x hy hx e)
   have Z1:high n M=some (iY n M n):=P6 (le:=fun x y=>cf M y x) h1 rfl (fun d aQ _=>h2 d aQ) (fun y hy _ aS bl=>eq _ _ h1 hy aS bl)
   have el:low n M=some (iZ n M n):=P6 (le:=cf M) aW rfl (fun d aQ _=>bu d aQ) (fun y hy _ aS bl=>eq _ _ aW hy bl aS)
   unfold complete;rw [h,Z1,el];rfl
 · rw [if_neg h]
   unfold complete
   rw [Bool.not_eq_true] at h;rw [h];rfl
def Ins (S:List aL) (s:aL) (bU:List aL):Prop:=∃i,i≤S.length∧(∀x∈S.take i,x<s)∧(∀x,S[i]? =some x→¬x<s)∧bU=if S[i]? =some s then S else S.take i++s::S.drop i
theorem Ins.mem {S bU:List aL} {s:aL} (h:Ins S s bU) (z:aL):z∈bU↔(z∈S∨z=s):=by
 obtain ⟨i,ag,_,_,rfl⟩:=h
 by_cases e:S[i]? =some s
 · rw [if_pos e]
   have:=List.mem_of_getElem? e
   constructor
   · exact .inl
   · rintro (h|rfl)
     · exact h
     · exact this
 · rw [if_neg e,List.mem_append,List.mem_cons]
   have:z∈S↔(z∈S.take i∨z∈S.drop i):=by rw [←List.mem_append,List.take_append_drop]
   rw [this]
   constructor
   · rintro (h|h|h)
     · exact .inl (.inl h)
     · exact .inr h
     · exact .inl (.inr h)
   · rintro ((h|h)|h)
     · exact .inl h
     · exact .inr (.inr h)
     · exact .inr (.inl h)
theorem Ins.len {S bU:List aL} {s:aL} (h:Ins S s bU):bU.length≤S.length+1∧S.length≤bU.length:=by
 obtain ⟨i,ag,_,_,rfl⟩:=h
 split
 · omega
 · simp;omega
theorem Ins.vT {S bU:List aL} {s:aL} (h:Ins S s bU) (ay:S.Pairwise (·<·)):bU.Pairwise (·<·):=by
 obtain ⟨i,ag,h1,h2,rfl⟩:=h
 by_cases e:S[i]? =some s
 · rw [if_pos e];exact ay
 · rw [if_neg e]
   have s6:(S.take i++S.drop i).Pairwise (·<·):=by rw [List.take_append_drop];exact ay
   rw [List.pairwise_append] at s6
   obtain ⟨a1,a2,a3⟩:=s6
   have CR:∀y∈S.drop i,s<y:=by
    intro y hy
    have bG:S.drop i≠[]:=fun hn=>by rw [hn] at hy;cases hy
    have sP:i<S.length:=by
     rcases Nat.lt_or_ge i S.length with h|h
     · exact h
     · exact absurd (List.drop_of_length_le h) bG
    have hx:=h2 _ (List.getElem?_eq_getElem sP)
    have sJ:s≤S[i]:=hx
    have hlt:s<S[i]:=lt_of_le_ne sJ fun bl=>e (by rw [List.getElem?_eq_getElem sP,←bl])
    rw [List.drop_eq_getElem_cons sP] at hy a2
    rcases List.mem_cons.1 hy with rfl|hy
    · exact hlt
    · exact List.lt_trans hlt ((List.pairwise_cons.1 a2).1 y hy)
   rw [List.pairwise_append]
   refine ⟨a1,List.pairwise_cons.2 ⟨CR,a2⟩,fun x hx y hy=> ?_⟩
   rcases List.mem_cons.1 hy with rfl|hy
   · exact h1 x hx
   · exact List.lt_trans (h1 x hx) (CR y hy)
structure Seen (aO:List (aL×aL)) (S:List aL):Prop where
 vT:S.Pairwise (·<·)
 mem:∀z,z∈S↔z∈raw aO
theorem Seen.nil:Seen [] []:=⟨List.Pairwise.nil,fun z=>Iff.rfl⟩
theorem Seen.is {aO:List (aL×aL)} {S:List aL} (h:Seen aO S):S=names aO:=PD h.vT (Zr aO) fun z=>(h.mem z).trans (F1 aO z).symm
theorem P7 (aO:List (aL×aL)) (p:aL×aL):raw (aO++[p])=raw aO++(if p.2=[] then [p.1] else [p.1,p.2]):=by
 unfold raw;rw [List.flatMap_append];simp
theorem Seen.one {aO:List (aL×aL)} {S bU:List aL} {p:aL×aL} (h:Seen aO S) (ag:Ins S p.1 bU) (he:p.2=[]):Seen (aO++[p]) bU:=by
 refine ⟨ag.vT h.vT,fun z=> ?_⟩
 rw [ag.mem,h.mem,P7,if_pos he,List.mem_append,List.mem_singleton]
theorem Seen.two {aO:List (aL×aL)} {S bU b9:List aL} {p:aL×aL} (h:Seen aO S) (ag:Ins S p.1 bU) (aR:Ins bU p.2 b9) (he:p.2≠[]):Seen (aO++[p]) b9:=by
 refine ⟨aR.vT (ag.vT h.vT),fun z=> ?_⟩
 rw [aR.mem,ag.mem,h.mem,P7,if_neg he,List.mem_append,List.mem_cons,List.mem_singleton,or_assoc]
theorem Z2:∀{a b:List aL},a.Pairwise (·<·)→(∀z,z∈a→z∈b)→a.length≤b.length:=by
 intro a
 induction a with
 |nil=>intro b _ _;exact Nat.zero_le _
 |cons x a bm=>
  intro b ha h
  obtain ⟨h1,h2⟩:=List.pairwise_cons.1 ha
  have hx:x∈b:=h x (by simp)
  have:=bm (b:=b.erase x) h2 fun z hz=>by
   have bG:z≠x:=fun e=>by subst e;exact absurd (h1 z hz) (List.lt_irrefl _)
   exact (List.mem_erase_of_ne bG).2 (h z (by simp [hz]))
  rw [List.length_erase_of_mem hx] at this
  have hb:0<b.length:=List.length_pos_of_mem hx
  rw [List.length_cons];omega
theorem Seen.many {aO rest:List (aL×aL)} {S:List aL} (h:Seen aO S):S.length≤(names (aO++rest)).length:=by
 refine Z2 h.vT fun z hz=>(F1 _ z).2 ?_
 unfold raw;rw [List.flatMap_append,List.mem_append]
 exact .inl ((h.mem z).1 hz)
end Lab
theorem zX {h:ae} {v:V} {n:Nat} {M:List (List Bool)} (e5:eJ n M) (t:gb h v M) {a:Nat} (ha:a<n):∃(u:V) (r:List Bool),h.eb (cY v) (db v+a * 1)=some u∧Rows 1 h u (r.map bv)∧r.length=n∧∀b,b<n→r[b]? =some (Lab.cf M a b):=by
 obtain ⟨r,hr,ar⟩:=e5.at ha
 obtain ⟨u,h1,h2⟩:=t.at hr
 refine ⟨u,r,h1,h2,ar,fun b hb=> ?_⟩
 obtain ⟨x,hx⟩:∃x,r[b]? =some x:=⟨r[b]'(by omega),List.getElem?_eq_getElem (by omega)⟩
 rw [hx,Lab.vO hr,hx];rfl
theorem pD {h:ae} {u:V} {r:List Bool} {b:Nat} {x:Bool} (R:Rows 1 h u (r.map bv)) (hx:r[b]? =some x):h.eb (cY u) (db u+b * 1)=some (.bool x):=R.vA (by rw [List.getElem?_map,hx];rfl)
def KI (o:Option Nat):Int:=match o with
 |none=> -1
 |some x=>(x:Int)
namespace Lab
def mu (n:Nat) (M:List (List Bool)) (is:Nat→Bool) (i k:Nat):Bool:=is i&&(List.range k).all fun d=> !is d||cf M i d
theorem Z3 (n:Nat) (M:List (List Bool)) (is:Nat→Bool) (i k:Nat):mu n M is i (k+1)=(mu n M is i k&&(!is k||cf M i k)):=by
 unfold mu;rw [List.range_succ,List.all_append,←Bool.and_assoc];simp
theorem find_range {p:Nat→Bool} {n i:Nat} (ag:i<n) (hp:p i=true) (e2:∀j,j<i→p j=false):(List.range n).find? p=some i:=by
 rw [show n=i+(n - i) by omega,List.range_add,List.find?_append]
 have aS:(List.range i).find? p=none:=by
  rw [List.find?_eq_none];intro x hx
  rw [e2 x (List.mem_range.1 hx)];simp
 rw [aS]
 obtain ⟨m,hm⟩:∃m,n - i=m+1:=⟨n - i - 1,by omega⟩
 rw [hm,List.range_succ_eq_map]
 simp [hp]
theorem Z4 {n:Nat} {M:List (List Bool)} {is:Nat→Bool} {i:Nat} (ag:i<n) (h:mu n M is i n=true) (e2:∀j,j<i→mu n M is j n=false):least n (cf M) is=some i:=find_range ag h e2
theorem Z5 {n:Nat} {M:List (List Bool)} {is:Nat→Bool} (e2:∀j,j<n→mu n M is j n=false):least n (cf M) is=none:=by
 unfold least;rw [List.find?_eq_none];intro x hx
 have:=e2 x (List.mem_range.1 hx)
 unfold mu at this
 unfold lower
 rw [this];simp
end Lab
theorem uz (b:Bool):b=false∨b=true:=by cases b<;>simp
theorem Z6 {p:Nat→Bool} {i:Nat} (e2:∀j,j<i→p j=false) (h:p i=false):∀j,j<i+1→p j=false:=fun j aR=>by
 by_cases e:j=i
 · subst e;exact h
 · exact e2 j (by omega)
section
variable {ev:dr} {h:ae} {x y:A}
theorem L.Z7 {l m:List UInt8} (hx:ev x=L.str l) (hy:ev y=L.str m):light (.e8 .lss x y) ev h= .val (.bool (decide (l<m))):=by
 show (ev x).l3 (fun n a=>(ev y).l3 fun m b=>_)=_
 rw [hx,hy]
 rw [←xL,←y9,←qg,←qg];rfl
theorem L.xU {v:V} {n:Nat} {M:List (List Bool)} (hx:ev x=v) (t:gb h v M) (hn:M.length=n):light (.len false x) ev h= .val (.int .i64 (n:Int)):=hn▸L.ZT hx t
end
end
end Go.Eng
namespace Go.Eng
noncomputable section
def dU (h:ae) (v:V) (l:List Lab.aL):Prop:=(v= .U∧l=[])∨∃b o cap,v= .au b o l.length cap∧h.load b o (Nat.mul l.length 1)=some (SR l).flatten∧∀i x,l[i]? =some x→h.eb b (o+i * 1)=some (L.str x)
section
variable {h:ae} {v:V} {l:List Lab.aL} {ev:dr} {x y:A}
theorem Rows.ak (a:Rows 1 h v (SR l)):dU h v l:=by
 generalize cz:SR l=R at a
 have a0:=a
 cases a with
 |nil=>exact .inl ⟨rfl,by simpa [SR] using cz⟩
 | @row b o f ap bk cap t rows hr dj bd cF dC hlen=>
   have ar:R.length=l.length:=by rw [←cz,gQ]
   refine .inr ⟨b,o,cap,by rw [ar],by rw [←ar,cz];exact a0.B4,fun i x hx=> ?_⟩
   have:=a0.vA (i:=i) (x:=L.str x) (by rw [←cz];exact qD hx)
   exact this
theorem dU.au (a:dU h v l) {i:Nat} (ag:i<l.length):v= .au (cY v) (db v) l.length (JN v):=by
 rcases a with ⟨_,rfl⟩|⟨b,o,cap,rfl,_⟩
 · simp at ag
 · rfl
theorem L.Gb (hx:ev x=v) (a:dU h v l):light (.len false x) ev h= .val (.int .i64 (l.length:Int)):=by
 rcases a with ⟨rfl,rfl⟩|⟨b,o,cap,rfl,_⟩
 · exact L.zt hx
 · exact L.pr hx
theorem L.KJ (a:dU h v l) {i:Nat} (ag:i<l.length) (hx:ev x=v) (hy:ev y= .int .i64 (i:Int)):light (.bY 1 x y) ev h= .val (.ptr (cY v) (db v+i * 1)):=L.bY (hx.trans (a.au ag)) hy ag
theorem dU.at (a:dU h v l) {i:Nat} {s:Lab.aL} (hp:l[i]? =some s):h.eb (cY v) (db v+i * 1)=some (L.str s):=by
 rcases a with ⟨_,rfl⟩|⟨b,o,cap,rfl,_,ha⟩
 · simp at hp
 · exact ha i _ hp
theorem dU.of {j:Nat} {a:V} {o:Obj} (hb:Ga j (SR l) a o) (bd:T.get j h.t=some o):dU h a l:=by
 generalize ar:SR l=KK at hb
 cases hb with
 |nil=>exact .inl ⟨rfl,by simpa [SR] using ar⟩
 |zero=>
  obtain rfl:l=[]:=by simpa [SR] using ar
  exact .inr ⟨j,0,none,rfl,rfl,fun i p hp=>by simp at hp⟩
 |some bG cap=>
  have hlen:KK.length=l.length:=by rw [←ar,gQ]
  rw [hlen]
  have cF:∀row∈KK,row.length=1:=fun row hm=>by rw [←ar] at hm;obtain ⟨x,_,rfl⟩:=List.mem_map.1 hm;rfl
  have k2:=OT cF
  refine .inr ⟨j,0,some cap,rfl, ?_,fun i x hx=>L.JH bd ?_⟩
  · rw [ar]
    by_cases h0:l.length=0
    · exact absurd (List.length_eq_zero_iff.1 (hlen.trans h0)) bG
    · refine L.eN bd ?_ (by rw [kX,k2,hlen];exact Nat.ble_eq_true_of_le (by show 0+Nat.mul l.length 1≤l.length * 1;rw [show Nat.mul l.length 1=l.length * 1 from rfl];omega)) ?_
      · rw [h5,show Nat.mul l.length 1=l.length * 1 from rfl];exact decide_eq_false (by omega)
      · rw [oZ,Bb,List.drop_zero,List.take_of_length_le (by rw [k2,hlen];exact Nat.le_refl _)]
  · have ag:KK[i]? =some [L.str x]:=by rw [←ar];exact qD hx
    have:=ZV cF ag (k:=0) (by decide)
    rw [Nat.add_zero] at this
    rw [wO,oZ,List.head?_drop,Nat.zero_add,this];rfl
theorem L.Z8 {call:et} {s:A} {bytes:Nat} {w fN:V} {new:List Lab.aL} {out:a7} (ay:ev s=w) (hx:ev x=fN) (hn:dU h fN new) (bd:fH h 1 bytes w (SR new).flatten new.length=out):gM (.append 1 bytes s x) call ev h=out:=by
 subst bd ay hx
 show (match ev x with
  | .U=>fH h 1 bytes (ev s) [] 0
  | .au b o m _=>(Option.rec .bad (fun new=>fH h 1 bytes (ev s) new m) (h.load b o (Nat.mul m 1)):a7)
  | .str m a=>bif Nat.beq 1 1 then fH h 1 bytes (ev s) (mE (gy m a)) m else .bad
  |_=> .bad)=_
 rcases hn with ⟨e,rfl⟩|⟨b,o,cap,e,ar,_⟩
 · rw [e];rfl
 · rw [e]
   simp only [ar]
theorem Z9 (l:List Lab.aL):∀row∈SR l,row.length=1:=fun row hm=>by obtain ⟨x,_,rfl⟩:=List.mem_map.1 hm;rfl
end
section
variable {c:Ctx} {Q:hX} {env:Env} {h:ae} {fs:List Fact} {vs:List V} {l:List eA} {i j:bp} {bs:List Nat} {f bytes:Nat} {v fN:V} {old new:List Lab.aL}
theorem I.aac {b:Nat} {s x:A} (st:aq fs h) (ay:s.ev vs env= .au b 0 0 (some 0)) (hb:8≤b) (hx:x.ev vs env=fN) (hn:dU h fN new) (bG:0<new.length) (eI:new.length * bytes≤1099511627776)
  (K:∀bs f v h1,aq (.cS bs f 1 v (SR new)::fs) h1→I c l Q (v::vs) (Env.set i j v env) h1):I c (.s i j (.H (.append 1 bytes s x))::l) Q vs env h:=by
 have KL:h.load b 0 (Nat.mul 0 1)=some []:=rfl
 have e:=Kd (h:=h) (r:=1) (bytes:=bytes) (b:=b) (n:=0) (m:=new.length) (old:=[]) (new:=(SR new).flatten) hb KL bG (by rw [Nat.zero_add];exact eI)
 rw [Nat.zero_add,List.nil_append] at e
 obtain ⟨bs,f,v,ax,bl,dE⟩:=(st.xN 1).CG (bytes:=bytes) (by decide) (Z9 new) (by rw [gQ];simpa using eI)
 rw [gQ] at bl
 rw [List.nil_append] at dE
 exact I.E2 (fun _=>L.Z8 (ev:=fun a=>a.ev vs env) ay hx hn (e.trans bl)) (K _ _ _ _ dE)
end
def mY (l:List Lab.aL):List Lab.aL:=Lab.uniq (iz l)
theorem aad (l:List Lab.aL) (z:Lab.aL):z∈mY l↔z∈l:=(Lab.FZ _ z).trans (uv _).mem_iff
theorem P8 (l:List Lab.aL):(mY l).length≤l.length:=Nat.le_trans (Lab.PB _) (by rw [(uv l).length_eq];exact Nat.le_refl _)
end
end Go.Eng
