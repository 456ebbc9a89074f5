/- Part of a proof of a law: rules of an evaluator, contracts, plain laws. No condition of its own. -/
import Derived.Test.YtjgmahbgfbkhnaaSymF
import Derived.Test.YtjgmahbgfbkhnaaSymD
set_option linter.unusedVariables false
set_option linter.unusedSimpArgs false
namespace Go.Eng
noncomputable section
structure Lat where
 ns:List Lab.Txt
 M:List (List Bool)
 J:List (List Nat)
 K:List (List Nat)
 lo:Nat
 hi:Nat
def Lat.none:Lat:=⟨[],[],[],[],0,0⟩
def Lat.num (t:Lat) (vN vL vJ vK:V):List V:=[vN,vL,vJ,vK, .int .i64 (t.lo:Int), .int .i64 (t.hi:Int)]
structure gV (h:Heap) (vN vL vJ vK:V) (t:Lat):Prop where
 N:Rows 1 h vN (SR t.ns)
 L:fU h vL t.M
 J:kV h vJ t.J
 K:kV h vK t.K
def tQ {α:Type} (l:List (List α)):Prop:=l.length<4294967296∧∀r∈l,r.length<4294967296
structure Lat.small (t:Lat):Prop where
 N:t.ns.length<4294967296
 L:tQ t.M
 J:tQ t.J
 K:tQ t.K
theorem gV.none (h:Heap):gV h .slN .slN .slN .slN Lat.none:=⟨.nil,⟨[], .nil,trivial⟩,⟨[], .nil,trivial⟩,⟨[], .nil,trivial⟩⟩
theorem Lat.xS:Lat.none.small:=⟨by decide,⟨by decide,fun r hr=>by cases hr⟩,⟨by decide,fun r hr=>by cases hr⟩,⟨by decide,fun r hr=>by cases hr⟩⟩
section
variable {h:Heap} {v:V}
theorem fU.at {M:List (List Bool)} (t:fU h v M) {i:Nat} {r:List Bool} (hr:M[i]? =some r):∃u,h.bE (slB v) (slO v+i * 1)=some u∧Rows 1 h u (r.map bv):=by
 obtain ⟨vs,hv,hb⟩:=t
 obtain ⟨u,h1,h2⟩:=hb.at hr
 exact ⟨u,hv.iF (by rw [List.getElem?_map,h1];rfl),h2⟩
theorem kV.at {M:List (List Nat)} (t:kV h v M) {i:Nat} {r:List Nat} (hr:M[i]? =some r):∃u,h.bE (slB v) (slO v+i * 1)=some u∧Rows 1 h u (r.map iv):=by
 obtain ⟨vs,hv,hb⟩:=t
 obtain ⟨u,h1,h2⟩:=hb.at hr
 exact ⟨u,hv.iF (by rw [List.getElem?_map,h1];rfl),h2⟩
variable {ev:Ev} {x y:A}
theorem L.fB {rows:List (List V)} (R:Rows 1 h v rows) {k:Nat} (hk:k<rows.length) (hx:ev x=v) (hy:ev y= .int .i64 (k:Int)):light (.aC 1 x y) ev h= .val (.ptr (slB v) (slO v+k * 1)):=L.aC (hx.trans (R.sl hk)) hy hk
theorem L.Aq {M:List (List Bool)} (hx:ev x=v) (t:fU h v M):light (.len false x) ev h= .val (.int .i64 (M.length:Int)):=by
 obtain ⟨vs,hv,hb⟩:=t
 exact L.dU hx hv (by rw [List.length_map,hb.len])
theorem L.qQ {M:List (List Nat)} (hx:ev x=v) (t:kV h v M):light (.len false x) ev h= .val (.int .i64 (M.length:Int)):=by
 obtain ⟨vs,hv,hb⟩:=t
 exact L.dU hx hv (by rw [List.length_map,hb.len])
theorem L.jb {M:List (List Bool)} (t:fU h v M) {k:Nat} (hk:k<M.length) (hx:ev x=v) (hy:ev y= .int .i64 (k:Int)):light (.aC 1 x y) ev h= .val (.ptr (slB v) (slO v+k * 1)):=by
 obtain ⟨vs,hv,hb⟩:=t
 exact L.fB hv (by rw [List.length_map,hb.len];exact hk) hx hy
theorem L.nK {M:List (List Nat)} (t:kV h v M) {k:Nat} (hk:k<M.length) (hx:ev x=v) (hy:ev y= .int .i64 (k:Int)):light (.aC 1 x y) ev h= .val (.ptr (slB v) (slO v+k * 1)):=by
 obtain ⟨vs,hv,hb⟩:=t
 exact L.fB hv (by rw [List.length_map,hb.len];exact hk) hx hy
def jV (h:Heap) (v:V) (l:List UInt8):Prop:=(v= .slN∧l=[])∨∃b o cap,v= .sl b o l.length cap∧∀i x,l[i]? =some x→h.bE b (o+i * 1)=some (byV x)
theorem jV.sl {l:List UInt8} (a:jV h v l) {i:Nat} (hi:i<l.length):v= .sl (slB v) (slO v) l.length (slC v):=by
 rcases a with ⟨_,rfl⟩|⟨b,o,cap,rfl,_⟩
 · simp at hi
 · rfl
theorem L.llenBy {l:List UInt8} (hx:ev x=v) (a:jV h v l):light (.len false x) ev h= .val (.int .i64 (l.length:Int)):=by
 rcases a with ⟨rfl,rfl⟩|⟨b,o,cap,rfl,_⟩
 · exact L.BN hx
 · exact L.llen hx
theorem L.Ga {l:List UInt8} (a:jV h v l) {i:Nat} (hi:i<l.length) (hx:ev x=v) (hy:ev y= .int .i64 (i:Int)):light (.aC 1 x y) ev h= .val (.ptr (slB v) (slO v+i * 1)):=L.aC (hx.trans (a.sl hi)) hy hi
theorem jV.at {l:List UInt8} (a:jV h v l) {i:Nat} {b:UInt8} (hp:l[i]? =some b):h.bE (slB v) (slO v+i * 1)=some (.int .u8 (b.toNat:Int)):=by
 rcases a with ⟨_,rfl⟩|⟨b,o,cap,rfl,ha⟩
 · simp at hp
 · exact ha i _ hp
theorem jV.of {l:List UInt8} {a:V} {o:Obj} (hb:Ii 0 l a o) {h:Heap} (ho:T.get 0 h.t=some o):jV h a l:=by
 cases hb with
 |nil=>exact .inl ⟨rfl,rfl⟩
 |zero=>exact .inr ⟨0,0,none,rfl,fun i x hx=>by simp at hx⟩
 |some hne cap=>exact .inr ⟨0,0,some cap,rfl,fun i x hx=>by rw [Nat.mul_one,Nat.zero_add];exact Ik ho hx⟩
namespace Lab
def lt (ns:List UInt8) (i:Nat):Txt:=[UInt8.ofNat (97+(ns[i]?.getD 0).toNat % 6)]
def lV (ns:List UInt8) (k:Nat):List (Txt×Txt):=(List.range k).map fun j=>(lt ns (2 * j),lt ns (2 * j+1))
def pairs (ns:List UInt8):List (Txt×Txt):=lV ns (ns.length / 2)
theorem CJ (ns:List UInt8) (k:Nat):lV ns (k+1)=lV ns k++[(lt ns (2 * k),lt ns (2 * k+1))]:=by unfold lV;rw [List.range_succ,List.map_append];rfl
theorem EG (ns:List UInt8) (k:Nat):(lV ns k).length=k:=by simp [lV]
theorem lt_at {ns:List UInt8} {i:Nat} {b:UInt8} (h:ns[i]? =some b):lt ns i=[UInt8.ofNat (97+b.toNat % 6)]:=by unfold lt;rw [h];rfl
theorem pairs_two (ns:List UInt8):∀p∈pairs ns,p.2≠[]:=by
 intro p hp
 obtain ⟨j,_,rfl⟩:=List.mem_map.1 hp
 exact List.cons_ne_nil _ _
def rY (l:List (Txt×Txt)) (j:Nat):List (Txt×Txt):=(l.drop j).reverse.flatMap fun p=>[p,p]
theorem downP_all (l:List (Txt×Txt)):rY l l.length=[]:=by unfold rY;rw [List.drop_length];rfl
theorem downP_step {l:List (Txt×Txt)} {q:Nat} {p:Txt×Txt} (h:l[q]? =some p):rY l q=rY l (q+1)++[p,p]:=by
 unfold rY
 obtain ⟨hl,rfl⟩:=List.getElem?_eq_some_iff.1 h
 rw [List.drop_eq_getElem_cons hl,List.reverse_cons,List.flatMap_append];rfl
theorem downP_len (l:List (Txt×Txt)) (j:Nat):(rY l j).length≤2 * l.length:=by
 unfold rY
 have:∀m:List (Txt×Txt),(m.flatMap fun p=>[p,p]).length=2 * m.length:=fun m=>by
  induction m with
  |nil=>rfl
  |cons a m ih=>rw [List.flatMap_cons,List.length_append,ih,List.length_cons];simp only [List.length_cons,List.length_nil];omega
 rw [this,List.length_reverse,List.length_drop];omega
def Ar (l:List (Txt×Txt)) (p:Txt×Txt) (k:Nat):List (Txt×Txt):=(l.take k).flatMap fun q=>if p.2=q.1 then [(p.1,q.2)] else []
def EH (l:List (Txt×Txt)) (i:Nat):List (Txt×Txt):=(l.take i).flatMap fun p=>Ar l p l.length
theorem folQ_step {l:List (Txt×Txt)} {p q:Txt×Txt} {k:Nat} (h:l[k]? =some q):Ar l p (k+1)=Ar l p k++(if p.2=q.1 then [(p.1,q.2)] else []):=by
 unfold Ar
 rw [List.take_add_one,h,List.flatMap_append];simp
theorem folP_step {l:List (Txt×Txt)} {p:Txt×Txt} {i:Nat} (h:l[i]? =some p):EH l (i+1)=EH l i++Ar l p l.length:=by
 unfold EH
 rw [List.take_add_one,h,List.flatMap_append];simp
theorem Au {α β:Type} {f:α→List β} {n:Nat}:∀{l:List α},(∀x∈l,(f x).length≤n)→(l.flatMap f).length≤l.length * n
 |[],_=>Nat.zero_le _
 |a::l,h=>by
  have h1:=h a (by simp)
  have h2:=Au (l:=l) (fun x hx=>h x (by simp [hx]))
  rw [List.flatMap_cons,List.length_append,List.length_cons,Nat.add_mul];omega
theorem Ku (l:List (Txt×Txt)) (p:Txt×Txt) (k:Nat):(Ar l p k).length≤l.length:=by
 have:=Au (l:=l.take k) (f:=fun q=>if p.2=q.1 then [(p.1,q.2)] else []) (n:=1) (fun x _=>by split<;>simp)
 rw [List.length_take] at this
 unfold Ar;omega
theorem folP_len (l:List (Txt×Txt)) (i:Nat):(EH l i).length≤l.length * l.length:=by
 have h1:=Au (l:=l.take i) (f:=fun p=>Ar l p l.length) (n:=l.length) (fun x _=>Ku l x _)
 have h2:(l.take i).length * l.length≤l.length * l.length:=Nat.mul_le_mul_right _ (by rw [List.length_take];omega)
 unfold EH;omega
theorem turned_is (l:List (Txt×Txt)):rY l 0++EH l l.length=turned l:=by
 unfold turned rY EH follow Ar
 rw [List.drop_zero,List.take_length]
end Lab
def p0 (l:List (Lab.Txt×Lab.Txt)):List Prm:=l.map fun p=>(p.1,p.2,0)
theorem pr_p0 (l:List (Lab.Txt×Lab.Txt)):pr (p0 l)=l:=by unfold pr p0;rw [List.map_map];exact List.map_id _
theorem p0_len (l:List (Lab.Txt×Lab.Txt)):(p0 l).length=l.length:=List.length_map _
theorem p0_at {l:List (Lab.Txt×Lab.Txt)} {i:Nat} {p:Lab.Txt×Lab.Txt} (h:l[i]? =some p):(p0 l)[i]? =some (p.1,p.2,0):=by unfold p0;rw [List.getElem?_map,h];rfl
def QPr (l:List (Lab.Txt×Lab.Txt)):List (List V):=(p0 l).map Ao
theorem QPr_len (l:List (Lab.Txt×Lab.Txt)):(QPr l).length=l.length:=by unfold QPr p0;rw [List.length_map,List.length_map]
theorem QPr_app (a b:List (Lab.Txt×Lab.Txt)):QPr (a++b)=QPr a++QPr b:=by unfold QPr p0;rw [List.map_append,List.map_append]
theorem QPr_two (p q:Lab.Txt×Lab.Txt):QPr [p,q]=[Ao (p.1,p.2,0),Ao (q.1,q.2,0)]:=rfl
theorem QPr_one (x y:Lab.Txt):QPr [(x,y)]=[[L.str x,L.str y, .int .i64 0]]:=rfl
def bN (l:List (Lab.Txt×Lab.Txt)):Lat:=match (Lab.made l).2 with
 |some x=>⟨Lab.names l,Lab.order l,Lab.fu (Lab.names l).length (Lab.order l) (Lab.names l).length,Lab.gX (Lab.names l).length (Lab.order l) (Lab.names l).length,x.1,x.2⟩
 |none=>Lat.none
theorem uQ (l:List (Lab.Txt×Lab.Txt)):(bN l).small:=by
 unfold bN
 cases h:(Lab.made l).2 with
 |none=>exact Lat.xS
 |some x=>
  have hn:(Lab.names l).length≤12:=by
   unfold Lab.made at h
   split at h
   · cases h
   · split at h
     · cases h
     · omega
  have sq:=Lab.eU (Lab.fw (Lab.names l) l) _ (Nat.le_refl _)
  have e1:∀r∈Lab.order l,r.length=(Lab.names l).length:=sq.row
  have e2:(Lab.order l).length=(Lab.names l).length:=sq.len
  refine ⟨by show (Lab.names l).length<_;omega,⟨by show (Lab.order l).length<_;omega,fun r hr=>by rw [e1 r hr];omega⟩,⟨?_,fun r hr=> ?_⟩,⟨?_,fun r hr=> ?_⟩⟩
  · show (Lab.fu _ _ _).length<_
    unfold Lab.fu;rw [List.length_map,List.length_range];omega
  · obtain ⟨a,_,rfl⟩:=List.mem_map.1 hr
    unfold Lab.bQ;rw [List.length_map,List.length_range];omega
  · show (Lab.gX _ _ _).length<_
    unfold Lab.gX;rw [List.length_map,List.length_range];omega
  · obtain ⟨a,_,rfl⟩:=List.mem_map.1 hr
    unfold Lab.dn;rw [List.length_map,List.length_range];omega
theorem mkLat_turned {l:List (Lab.Txt×Lab.Txt)} (hl:∀p∈l,p.2≠[]):bN (Lab.turned l)=bN l:=by
 unfold bN;rw [Lab.Cy hl,Lab.rW hl,Lab.kC hl]
end
end
end Go.Eng
