/- Part of a proof of a law: rules of an evaluator, contracts, plain laws. No condition of its own. -/
import Derived.Test.YtmcjcbldmoijiaaGreatDoorSymD
import Derived.Test.YtmcjcbldmoijiaaGreatDoorEngF
import Derived.Test.YtmcjcbldmoijiaaGreatDoorSymA
import Derived.Test.YtmcjcbldmoijiaaGreatDoorSymE
set_option linter.unusedVariables false
set_option linter.unusedSimpArgs false
namespace Go.Eng
noncomputable section
abbrev ft:=List UInt8×List V
def ft.row (t:ft):List V:=L.str t.1::t.2
def ft.ly (t:ft):e7:=(t.1,(t.2,[]))
theorem Sl {k:Nat}:∀(L:List (List V)),(∀r∈L,r.length=k)→nY k L.length L.flatten=L
 |[],_=>rfl
 |r::L,h=>by
  have hr:r.length=k:=h r (by simp)
  show (r++L.flatten).take k::nY k L.length ((r++L.flatten).drop k)=_
  rw [List.take_left' hr,List.drop_left' hr,Sl L fun s aC=>h s (by simp [aC])]
theorem ft.Sm (T:List ft):T.map ft.row=(T.map ft.ly).map e7.v:=by rw [List.map_map];rfl
theorem ft.ab6 (T:List ft):fT (T.map ft.ly)=(fT T).map ft.ly:=xj (fun p:List V=>(p,([]:List Value))) T
theorem ft.pC (T:List ft):pC (T.map ft.row)=(fT T).map ft.row:=by rw [ft.Sm,H4,ft.ab6,ft.Sm]
theorem Sn:∀{l:List ft},l.Pairwise (fun a b=>a.1≤b.1)→(l.map (·.1)).Nodup→ui (l.map ft.row)=true
 |[],_,_=>rfl
 |[_],_,_=>rfl
 |a::b::l,aC,hn=>by
  have Sp:=List.pairwise_cons.1 aC
  have tC:a.1∉((b::l).map (·.1))∧((b::l).map (·.1)).Nodup:=List.nodup_cons.1 hn
  show (y7 a.row b.row&&ui ((b::l).map ft.row))=true
  rw [Sn Sp.2 tC.2,Bool.and_true]
  show yU (hB a.1) (hB b.1)=true
  rw [HF,yV]
  have h1:a.1≤b.1:=Sp.1 b (by simp)
  have h2:a.1≠b.1:=fun e=>tC.1 (by simp [e])
  refine decide_eq_true (Classical.byContradiction fun h=>h2 (List.le_antisymm h1 h))
theorem Sq:∀T:List ft,(T.map ft.row).all uh=true
 |[]=>rfl
 |t::T=>by
  show (uh t.row&&(T.map ft.row).all uh)=true
  rw [Sq T];rfl
theorem Sr {c:Ctx} {f0 fz k:Nat} (hk:0<k) (ax:∀args h r,pD f0 fz k f0 args h=r→r≠.bad→iL c f0 args h r) {fs:List Fact} {h:ag} {bs:List Nat} {f:Nat} {v:V} {T:List ft} (hn:T.length<4294967296) (au:∀t∈T,t.2.length+1=k) (aX:(T.map (·.1)).Nodup) (st:ak (.cX bs f k v (T.map ft.row)::fs) h):
  bU c f0 [v, .fn fz [] []] h fun _ h1=>ak (.cX bs f k v ((fT T).map ft.row)::fs) h1:=by
 obtain ⟨_,_,a⟩:=st.HH
 have hf:f0.beq f0=true:=Nat.beq_refl _
 have yg:=a.rows hk
 have hlen:∀r∈T.map ft.row,r.length=k:=by
  intro r hr
  obtain ⟨t,ht,rfl⟩:=List.mem_map.1 hr
  exact au t ht
 generalize cA:T.map ft.row=R at st a yg hlen
 cases a with
 |nil=>
  obtain rfl:T=[]:=by simpa using cA
  refine ⟨.dD [],h,ax _ _ _ ?_ (by simp),st⟩
  unfold pD;rw [hf]
  simp
 |row ge hb Kb aO dh len mem=>
  rename_i b ap hid t
  have Eg:R.length=T.length:=by rw [←cA,List.length_map]
  have Mj:h.load b 0 (R.length * k)=some R.flatten:=yg.Dr
  have hj:(fT T).length=T.length:=(rJ T).length_eq
  have Ss:nY k R.length R.flatten=R:=Sl R hlen
  have Bf:R.all uh=true:=by rw [←cA];exact Sq T
  have uf:ui (pC R)=true:=by
   rw [←cA,ft.pC]
   exact Sn (ML T) (((rJ T).map _).nodup_iff.2 aX)
  have oB:(nY k R.length R.flatten).all uh=true∧ui (pC (nY k R.length R.flatten))=true∧R.length<4294967296∧0<k:=by
   rw [Ss];exact ⟨Bf,uf,by omega,hk⟩
  have yd:∀r:bg,h.ef b 0 (R.length * k) ((fT T).map ft.row).flatten .bad (fun h=>bg.ok (.dD []) h)=r→pD f0 fz k f0 [.av b 0 R.length none, .fn fz [] []] h=r:=by
   intro r hr
   unfold pD;rw [hf]
   show (if fz=fz then H3 k h b 0 R.length else .bad)=r
   rw [if_pos rfl]
   unfold H3
   rw [Mj]
   simp only
   rw [if_pos oB,Ss,←cA,ft.pC,cA];exact hr
  by_cases h0:T.length=0
  · obtain rfl:T=[]:=by simpa using h0
    obtain rfl:R=[]:=by simpa using cA.symm
    refine ⟨.dD [],h,ax _ _ _ (yd _ ?_) (by simp),st⟩
    show h.ef b 0 (0 * k) [] .bad (fun h=>bg.ok (.dD []) h)=_
    rw [Nat.zero_mul];rfl
  · obtain ⟨aB,e,en⟩:=st.Ef (i:=0) (k:=T.length) (new:=(fT T).map ft.row) hk (by omega) (by rw [List.length_map,hj]) (fun row hm=>by
     obtain ⟨s,aC,rfl⟩:=List.mem_map.1 hm
     exact au s ((rJ T).mem_iff.1 aC)) (by omega)
    refine ⟨.dD [],aB,ax _ _ _ (yd _ ?_) (by simp), ?_⟩
    · have:=e (.bad:bg) (fun h=> .ok (.dD []) h)
      rw [Nat.zero_mul] at this
      rw [Eg];exact this
    · have dH:R.take 0++((fT T).map ft.row)++R.drop (0+T.length)=(fT T).map ft.row:=by
       rw [Nat.zero_add,List.drop_of_length_le (by omega)];simp
      rw [dH] at en;exact en
end
end Go.Eng
namespace Go.Eng
noncomputable section
structure Tok where
 kind:Nat
 text:List UInt8
 at_:Nat
def Tok.row (t:Tok):List V:=[.int .i64 (t.kind:Int),L.str t.text, .int .i64 (t.at_:Int)]
structure eE where
 aW:Nat
 ch:Nat
 to:Nat
 cap:Option Nat
 a8:List Tok
def eE.toks (p:eE):Fact:= .ay (fun h=>Rows 3 h (.av p.ch p.to p.a8.length p.cap) (p.a8.map Tok.row))
structure xk (s:List UInt8):Prop where
 ne:s≠[]
 len:s.length≤9
 St:∀b∈s,48≤b.toNat∧b.toNat≤57
def num (s:List UInt8):Nat:=s.foldl (fun n b=>n * 10+(b.toNat - 48)) 0
theorem MO {s:List UInt8} {k:Nat} {b:UInt8} (hb:s[k]? =some b):num (s.take (k+1))=num (s.take k) * 10+(b.toNat - 48):=by
 unfold num
 rw [List.take_add_one,hb];simp
theorem Sv:∀(n:Nat) (s:List UInt8),s.length=n→(∀b∈s,b.toNat≤57)→num s<10 ^ n
 |0,s,au,_=>by
  obtain rfl:s=[]:=by simpa using au
  simp [num]
 |n+1,s,au,aX=>by
  have hk:n<s.length:=by omega
  have h1:=MO (s:=s) (k:=n) (List.getElem?_eq_getElem hk)
  have h2:=Sv n (s.take n) (by simp;omega) (fun b hb=>aX b (List.mem_of_mem_take hb))
  have bj:=aX _ (List.getElem_mem hk)
  rw [List.take_of_length_le (by omega)] at h1
  rw [h1,Nat.pow_succ];omega
theorem xk.bound {s:List UInt8} (d:xk s) (k:Nat):num (s.take k)<1000000000:=by
 have h1:=Sv (s.take k).length (s.take k) rfl fun b hb=>(d.St b (List.mem_of_mem_take hb)).2
 have h2:(s.take k).length≤9:=by simp;have:=d.len;omega
 have bj:10 ^ (s.take k).length≤10 ^ 9:=Nat.pow_le_pow_right (by omega) h2
 omega
structure Left (p:eE) (i:Nat) (l:List Tok):Prop where
 drop:p.a8.drop i=l
 ne:l≠[]
 last:∀t,l.getLast? =some t→t.kind=0
 num:∀t∈l,t.kind=2→xk t.text
 small:p.a8.length<4294967296
theorem Left.get {p:eE} {i:Nat} {t:Tok} {l:List Tok} (h:Left p i (t::l)):p.a8[i]? =some t∧i<p.a8.length:=by
 have h1:(p.a8.drop i)[0]? =some t:=by rw [h.drop];rfl
 rw [List.getElem?_drop,Nat.add_zero] at h1
 exact ⟨h1,(List.getElem?_eq_some_iff.1 h1).1⟩
theorem Left.row {p:eE} {i:Nat} {t:Tok} {l:List Tok} (h:Left p i (t::l)):(p.a8.map Tok.row)[i]? =some t.row:=by
 rw [List.getElem?_map,h.get.1];rfl
theorem Left.next {p:eE} {i:Nat} {t:Tok} {l:List Tok} (h:Left p i (t::l)) (hk:t.kind≠0):Left p (i+1) l:=by
 have bO:l≠[]:=by
  intro e;subst e
  exact hk (h.last t rfl)
 refine ⟨?_,bO,fun u hu=>h.last u ?_,fun u hu=>h.num u (List.mem_cons_of_mem _ hu),h.small⟩
 · rw [←List.drop_drop,h.drop];rfl
 · rw [List.getLast?_cons_of_ne_nil bO];exact hu
theorem Left.cons {p:eE} {i:Nat} {l:List Tok} (h:Left p i l):∃t aP,l=t::aP:=by
 cases l with
 |nil=>exact absurd rfl h.ne
 |cons t aP=>exact ⟨t,aP,rfl⟩
namespace Par
def aX:List Tok→Tok
 |[]=>⟨0,[],0⟩
 |t::_=>t
def is (s:List UInt8) (l:List Tok):Bool:=decide ((aX l).text=s)&&(decide ((aX l).kind=4)||decide ((aX l).kind=3))
def here (l:List Tok):Nat:=(aX l).at_
abbrev R (α:Type):=Except (Nat×Nat) (α×List Tok)
def fail {α:Type} (e:Nat) (l:List Tok):R α:= .error (e,here l)
def must (s:List UInt8) (l:List Tok):R Nat:=if is s l=true then .ok (here l,l.tail) else fail 11 l
def of (kind:Nat) (l:List Tok):R Tok:=if (aX l).kind=kind then .ok (aX l,l.tail) else fail 11 l
def name (l:List Tok):R (List UInt8):=match of 1 l with
 | .ok (t,l)=> .ok (t.text,l)
 | .error e=> .error e
def number (l:List Tok):R Nat:=match of 2 l with
 | .ok (t,l)=> .ok (Go.Eng.num t.text,l)
 | .error e=> .error e
def iS (l:List Tok):R (List UInt8×List UInt8):=match name l with
 | .error e=> .error e
 | .ok (a,l)=>if is [46] l=true then (match name l.tail with
   | .error e=> .error e
   | .ok (b,l)=> .ok ((a,b),l)) else .ok (([],a),l)
end Par
theorem Left.tail {p:eE} {i:Nat} {l:List Tok} (h:Left p i l) (hk:(Par.aX l).kind≠0):Left p (i+1) l.tail:=by
 obtain ⟨t,l,rfl⟩:=h.cons
 exact h.next hk
theorem Left.is {p:eE} {i:Nat} {l:List Tok} {s:List UInt8} (h:Left p i l) (aq:Par.is s l=true):Left p (i+1) l.tail:=h.tail fun e=>by simp [Par.is,e] at aq
theorem Left.lt {p:eE} {i:Nat} {l:List Tok} (h:Left p i l):i<p.a8.length:=by
 obtain ⟨t,l,rfl⟩:=h.cons
 exact h.get.2
theorem Left.len {p:eE} {i:Nat} {l:List Tok} (h:Left p i l):l.length=p.a8.length - i:=by rw [←h.drop,List.length_drop]
end
end Go.Eng
namespace Go.Eng
noncomputable section
end
end Go.Eng
namespace Go.Eng
noncomputable section
end
end Go.Eng
namespace Go.Eng
noncomputable section
structure bS where
 kind:Nat
 num:Int
 mod:List UInt8
 name:List UInt8
 a:Int
 b:Int
 at_:Nat
def bS.row (n:bS):List V:=[.int .i64 (n.kind:Int), .int .i64 n.num,L.str n.mod,L.str n.name, .int .i64 n.a, .int .i64 n.b, .int .i64 (n.at_:Int)]
abbrev jh:=List UInt8×Nat
namespace Par
def find (ops:List jh) (l:List Tok):Option jh:=ops.find? fun o=>is o.1 l
abbrev E:=Nat→List Tok→List bS→R (Nat×List bS)
def lz (un:E) (ops:List jh):Nat→Nat→List Tok→Nat→List bS→R (Nat×List bS)
 |0,_,l,a,ns=> .ok ((a,ns),l)
 |f+1,d,l,a,ns=>match find ops l with
  |none=> .ok ((a,ns),l)
  |some o=>match un d l.tail ns with
   | .error e=> .error e
   | .ok ((b,ns),aP)=>lz un ops f d aP ns.length (ns++[⟨o.2,0,[],[],(a:Int),(b:Int),here l⟩])
def chain (un:E) (ops:List jh):E:=fun d l ns=>match un d l ns with
 | .error e=> .error e
 | .ok ((a,ns),l)=>lz un ops l.length d l a ns
def vG:List jh:=[([42],7),([47],8),([37],9)]
def xl:List jh:=[([43],5),([45],6)]
def rK:List jh:=[([61,61],10),([60,61],12),([60],11)]
def pE:List jh:=[([45],3),([33],4)]
def term (un:E):E:=chain un vG
def sum (un:E):E:=chain (term un) xl
def whole (un:E):E:=fun d l ns=>match sum un d l ns with
 | .error e=> .error e
 | .ok ((a,ns),l)=>match find rK l with
   |none=> .ok ((a,ns),l)
   |some o=>match sum un d l.tail ns with
    | .error e=> .error e
    | .ok ((b,ns),aP)=> .ok ((ns.length,ns++[⟨o.2,0,[],[],(a:Int),(b:Int),here l⟩]),aP)
def qB (un:E):E:=fun d l ns=>match find pE l with
 |some o=>if 40≤d then fail 12 l else (match un (d+1) l.tail ns with
  | .error e=> .error e
  | .ok ((a,ns),aP)=> .ok ((ns.length,ns++[⟨o.2,0,[],[],(a:Int), -1,here l⟩]),aP))
 |none=>if is [40] l=true then (if 40≤d then fail 12 l else (match whole un (d+1) l.tail ns with
   | .error e=> .error e
   | .ok ((a,ns),aP)=>match must [41] aP with
     | .error e=> .error e
     | .ok (_,aP)=> .ok ((a,ns),aP)))
  else if (aX l).kind=2 then (match number l with
   | .error e=> .error e
   | .ok (n,aP)=> .ok ((ns.length,ns++[⟨1,(n:Int),[],[], -1, -1,here l⟩]),aP))
  else (match iS l with
   | .error e=> .error e
   | .ok ((m,n),aP)=> .ok ((ns.length,ns++[⟨2,0,m,n, -1, -1,here l⟩]),aP))
def unary:Nat→E
 |0=>fun _ _ _=> .error (0,0)
 |f+1=>qB (unary f)
end Par
theorem Par.ab7 {k:Nat} {l aP:List Tok} {t:Tok} (hk:k≠0) (h:Par.of k l= .ok (t,aP)):aP.length<l.length:=by
 unfold Par.of at h
 by_cases b4:(Par.aX l).kind=k
 · rw [if_pos b4] at h;cases h
   cases l with
   |nil=>exact absurd b4.symm hk
   |cons a l=>simp
 · rw [if_neg b4] at h;cases h
theorem Par.Sw {s:List UInt8} {l:List Tok} (h:Par.is s l=true):0<l.length:=by
 cases l with
 |nil=>simp [Par.is,Par.aX] at h
 |cons a l=>simp
theorem Par.Sx {s:List UInt8} {l aP:List Tok} {a:Nat} (h:Par.must s l= .ok (a,aP)):aP.length<l.length:=by
 unfold Par.must at h
 by_cases b4:Par.is s l=true
 · rw [if_pos b4] at h;cases h
   have:=Par.Sw b4
   have AE:l.tail.length=l.length - 1:=List.length_tail
   omega
 · rw [if_neg b4] at h;cases h
theorem Par.Sy {l aP:List Tok} {a:List UInt8} (h:Par.name l= .ok (a,aP)):aP.length<l.length:=by
 unfold Par.name at h
 cases bq:Par.of 1 l with
 |error e=>rw [bq] at h;cases h
 |ok x=>obtain ⟨t,aZ⟩:=x;rw [bq] at h;cases h;exact Par.ab7 (by decide) bq
def Par.expr (d:Nat) (l:List Tok):Par.R (List bS):=match Par.whole (Par.unary l.length) d l [] with
 | .error e=> .error e
 | .ok ((_,ns),l)=> .ok (ns,l)
end
end Go.Eng
namespace Go.Eng
noncomputable section
inductive cR where
 |mk (kind at_:Nat) (mod name label:List UInt8) (has:Bool) (tomod to:List UInt8) (e:List bS) (args:List (List bS)) (body aiZ:List cR)
def oQ (h:ag):List (List bS)→List V→Prop
 |[],[]=>True
 |e::as_,v::vs=>Rows 7 h v (e.map bS.row)∧oQ h as_ vs
 |_,_=>False
def nZ (h:ag) (v:V) (as_:List (List bS)):Prop:=∃vs:List V,Rows 1 h v (vs.map fun x=>[x])∧oQ h as_ vs
mutual
def nv (h:ag):cR→List V→Prop
 | .mk k a m n l aC rM t e as_ b el,row=>∃Bu cO mz cf,row=[.int .i64 (k:Int), .int .i64 (a:Int),L.str m,L.str n,L.str l, .bool aC,L.str rM,L.str t,Bu,cO,mz,cf]∧
     Rows 7 h Bu (e.map bS.row)∧nZ h cO as_∧(∃rows,Rows 12 h mz rows∧lA h b rows)∧(∃rows,Rows 12 h cf rows∧lA h el rows)
def lA (h:ag):List cR→List (List V)→Prop
 |[],rows=>rows=[]
 |s::l,rows=>∃r rs,rows=r::rs∧nv h s r∧lA h l rs
end
def hS (h:ag) (v:V) (l:List cR):Prop:=∃rows,Rows 12 h v rows∧lA h l rows
theorem oQ.snoc {h:ag}:∀{as_:List (List bS)} {vs:List V} {e:List bS} {v:V},oQ h as_ vs→Rows 7 h v (e.map bS.row)→oQ h (as_++[e]) (vs++[v])
 |[],[],e,v,_,hr=>⟨hr,trivial⟩
 |_::_,_::_,e,v,ha,hr=>⟨ha.1,ha.2.snoc hr⟩
 |[],_::_,_,_,ha,_=>ha.elim
 |_::_,[],_,_,ha,_=>ha.elim
theorem lA.nil {h:ag}:lA h [] []:=by simp [lA]
theorem lA.snoc {h:ag}:∀{l:List cR} {rows:List (List V)} {s:cR} {row:List V},lA h l rows→nv h s row→lA h (l++[s]) (rows++[row])
 |[],rows,s,row,au,aC=>by
  simp only [lA] at au;subst au
  simp only [List.nil_append,lA]
  exact ⟨row,[],rfl,aC,rfl⟩
 |a::l,rows,s,row,au,aC=>by
  simp only [lA] at au
  obtain ⟨r,rs,rfl,h1,h2⟩:=au
  simp only [List.cons_append,lA]
  exact ⟨r,rs++[row],rfl,h1,lA.snoc h2 aC⟩
theorem MP {ev:dM} {x:A} {z v:V} (ax:(ev x).dY=some [v]):fill [(0,1,x)] ev (rep 1 [z])=some [v]:=by
 show (Option.rec none (fun l=>bif (cZ l).beq 1&&(Nat.add 0 1).ble (cZ (rep 1 [z])) then some (hX 0 l (rep 1 [z])) else none) (ev x).dY:Option (List V))=_
 rw [ax];rfl
theorem H5 {ev:dM} {x:A} {n:Nat} {zero row:List V} (hx:ev x= .agg row) (au:row.length=n) (hz:zero.length=n:=by rfl):fill [(0,n,x)] ev (rep 1 zero)=some [row].flatten:=by
 show (Option.rec none (fun l=>bif (cZ l).beq n&&(Nat.add 0 n).ble (cZ (rep 1 zero)) then some (hX 0 l (rep 1 zero)) else none) (ev x).dY:Option (List V))=_
 rw [hx]
 have aT:rep 1 zero=zero:=by
  show gd zero []=zero
  rw [pZ,List.append_nil]
 show (bif (cZ row).beq n&&(Nat.add 0 n).ble (cZ (rep 1 zero)) then some (hX 0 row (rep 1 zero)) else none)=_
 have bu:(Nat.add 0 n).ble n=true:=by rw [fa];simp
 rw [aT,me,me,au,hz,Nat.beq_refl,bu]
 show some (gd row (ix (cZ row) zero))=_
 rw [pZ,tt,me,au,←hz,List.drop_length];simp
namespace Par
def fin (s:cR) (l:List Tok):R cR:=match must [59] l with
 | .error e=> .error e
 | .ok (_,aP)=> .ok (s,aP)
def n0 (d:Nat):Nat→List Tok→List (List bS)→R (List (List bS))
 |0,_,_=> .error (0,0)
 |f+1,l,as_=>if is [41] l=true then .ok (as_,l.tail) else
   match as_ with
   |[]=>(match expr d l with
    | .error e=> .error e
    | .ok (e,aP)=>n0 d f aP [e])
   |a::as_=>(match must [44] l with
    | .error e=> .error e
    | .ok (_,aZ)=>match expr d aZ with
      | .error e=> .error e
      | .ok (e,aP)=>n0 d f aP ((a::as_)++[e]))
structure sS where
 has:Bool
 mod:List UInt8
 name:List UInt8
 tomod:List UInt8
 to:List UInt8
 args:List (List bS)
def qC (d:Nat) (c:sS) (l:List Tok):R sS:=match must [40] l with
 | .error e=> .error e
 | .ok (_,aZ)=>match n0 d aZ.length aZ [] with
   | .error e=> .error e
   | .ok (as_,bF)=> .ok ({c with args:=as_},bF)
def call (d:Nat) (l:List Tok):R sS:=match iS l with
 | .error e=> .error e
 | .ok (q,aZ)=>if is [61] aZ=true then (match iS aZ.tail with
     | .error e=> .error e
     | .ok (r,bF)=>qC d ⟨true,q.1,q.2,r.1,r.2,[]⟩ bF)
   else qC d ⟨false,[],[],q.1,q.2,[]⟩ aZ
abbrev oG:=Nat→List Tok→R (List cR)
def xm (cr:oG) (d a:Nat) (l:List Tok):R cR:=match expr d l with
 | .error e=> .error e
 | .ok (e,aZ)=>match cr d aZ with
   | .error e=> .error e
   | .ok (b,bF)=>if is [101,108,115,101] bF=true then (match cr d bF.tail with
       | .error e=> .error e
       | .ok (el,cV)=> .ok (.mk 5 a [] [] [] false [] [] e [] b el,cV))
     else .ok (.mk 5 a [] [] [] false [] [] e [] b [],bF)
def Bv (cr:oG) (d a:Nat) (l:List Tok):R cR:=match expr d l with
 | .error e=> .error e
 | .ok (e,aZ)=>match cr d aZ with
   | .error e=> .error e
   | .ok (b,bF)=> .ok (.mk 6 a [] [] [] false [] [] e [] b [],bF)
def Bw (d a:Nat) (l:List Tok):R cR:=match name l with
 | .error e=> .error e
 | .ok (n,aZ)=>match must [58] aZ with
   | .error e=> .error e
   | .ok (_,bF)=>match name bF with
     | .error e=> .error e
     | .ok (cU,cV)=>match must [61] cV with
       | .error e=> .error e
       | .ok (_,eC)=>match expr d eC with
         | .error e=> .error e
         | .ok (e,ji)=>fin (.mk 1 a [] n cU false [] [] e [] [] []) ji
def Bx (d a:Nat) (l:List Tok):R cR:=match must [61] l with
 | .error e=> .error e
 | .ok (_,aZ)=>match expr d aZ with
   | .error e=> .error e
   | .ok (e,bF)=>fin (.mk 3 a [] [] [] false [] [] e [] [] []) bF
def Bz (d a:Nat) (l:List Tok):R cR:=match call d l with
 | .error e=> .error e
 | .ok (c,aZ)=>fin (.mk 4 a c.mod c.name [] c.has c.tomod c.to [] c.args [] []) aZ
def BA (a:Nat) (l:List Tok):R cR:=match name l with
 | .error e=> .error e
 | .ok (n,aZ)=>fin (.mk 7 a [] n [] false [] [] [] [] [] []) aZ
def H6 (a:Nat) (l:List Tok):R cR:=fin (.mk 8 a [] [] [] false [] [] [] [] [] []) l
def Ex (d a:Nat) (l:List Tok):R cR:=match iS l with
 | .error e=> .error e
 | .ok (q,aZ)=>match must [61] aZ with
   | .error e=> .error e
   | .ok (_,bF)=>match expr d bF with
     | .error e=> .error e
     | .ok (e,cV)=>fin (.mk 2 a q.1 q.2 [] false [] [] e [] [] []) cV
def j1 (cr:oG) (d:Nat) (l:List Tok):R cR:=
 if is [105,102] l=true then xm cr d (here l) l.tail else
 if is [119,104,105,108,101] l=true then Bv cr d (here l) l.tail else
 if is [108,101,116] l=true then Bw d (here l) l.tail else
 if is [114,101,115,117,108,116] l=true then Bx d (here l) l.tail else
 if is [99,97,108,108] l=true then Bz d (here l) l.tail else
 if is [101,109,105,116] l=true then BA (here l) l.tail else
 if is [115,107,105,112] l=true then H6 (here l) l.tail else Ex d (here l) l
def n1 (gu:Nat→List Tok→R cR) (d:Nat):Nat→List Tok→List cR→R (List cR)
 |0,_,_=> .error (0,0)
 |f+1,l,ss=>if is [125] l=true then .ok (ss,l.tail) else match gu d l with
  | .error e=> .error e
  | .ok (s,aP)=>n1 gu d f aP (ss++[s])
def sT (gu:Nat→List Tok→R cR):oG:=fun d l=>if is [123] l=true then (if 40≤d then fail 12 l else n1 gu (d+1) l.tail.length l.tail []) else fail 11 l
def stmt:Nat→Nat→List Tok→R cR
 |0=>fun _ _=> .error (0,0)
 |f+1=>j1 (sT (stmt f))
def block (d:Nat) (l:List Tok):R (List cR):=sT (stmt l.length) d l
end Par
end
end Go.Eng
namespace Go.Eng
noncomputable section
structure cC where
 name:List UInt8
 label:List UInt8
 at_:Nat
def cC.row (x:cC):List V:=[L.str x.name,L.str x.label, .int .i64 (x.at_:Int)]
structure eW where
 name:List UInt8
 label:List UInt8
 init:Int
 at_:Nat
def eW.row (x:eW):List V:=[L.str x.name,L.str x.label, .int .i64 x.init, .int .i64 (x.at_:Int)]
structure gA where
 name:List UInt8
 at_:Nat
def gA.row (x:gA):List V:=[L.str x.name, .int .i64 (x.at_:Int)]
structure eb where
 name:List UInt8
 params:List cC
 has:Bool
 result:List UInt8
 bI:List UInt8
 fU:List (List UInt8)
 body:List cR
 at_:Nat
def iT (u:List UInt8):List V:=[L.str u]
def y8 (h:ag) (p:eb) (row:List V):Prop:=∃dX hE mz,row=[L.str p.name,dX, .bool p.has,L.str p.result,L.str p.bI,hE,mz, .int .i64 (p.at_:Int)]∧Rows 3 h dX (p.params.map cC.row)∧Rows 1 h hE (p.fU.map iT)∧hS h mz p.body∧(p.fU=[]→hE= .U)
def ie (h:ag):List eb→List (List V)→Prop
 |[],rows=>rows=[]
 |p::l,rows=>∃r rs,rows=r::rs∧y8 h p r∧ie h l rs
structure eK where
 name:List UInt8
 at_:Nat
 imports:List gA
 vars:List eW
 procs:List eb
def vH (h:ag) (m:eK) (row:List V):Prop:=∃sU eX dX,row=[L.str m.name, .int .i64 (m.at_:Int),sU,eX,dX]∧Rows 2 h sU (m.imports.map gA.row)∧Rows 4 h eX (m.vars.map eW.row)∧∃rows,Rows 8 h dX rows∧ie h m.procs rows
theorem ie.nil {h:ag}:ie h [] []:=rfl
theorem ie.snoc {h:ag}:∀{l:List eb} {rows:List (List V)} {s:eb} {row:List V},ie h l rows→y8 h s row→ie h (l++[s]) (rows++[row])
 |[],rows,s,row,au,aC=>by
  have au:rows=[]:=au
  subst au;exact ⟨row,[],rfl,aC,rfl⟩
 |a::l,rows,s,row,au,aC=>by
  obtain ⟨r,rs,rfl,h1,h2⟩:=au
  exact ⟨r,rs++[row],rfl,h1,h2.snoc aC⟩
namespace Par
def j2 {α:Type} (one:α→List Tok→R α) (e:List UInt8):Nat→Nat→List Tok→α→R α
 |0,_,_,_=> .error (0,0)
 |f+1,n,l,x=>if is e l=true then .ok (x,l.tail) else
   if n=0 then (match one x l with
    | .error e=> .error e
    | .ok (y,aP)=>j2 one e f 1 aP y)
   else (match must [44] l with
    | .error e=> .error e
    | .ok (_,aZ)=>match one x aZ with
      | .error e=> .error e
      | .ok (y,aP)=>j2 one e f (n+1) aP y)
def jL {α:Type} (one:α→List Tok→R α) (e:List UInt8) (l:List Tok) (x:α):R α:=j2 one e l.length 0 l x
def pF (x:List cC) (l:List Tok):R (List cC):=match name l with
 | .error e=> .error e
 | .ok (n,aZ)=>match must [58] aZ with
   | .error e=> .error e
   | .ok (_,bF)=>match name bF with
     | .error e=> .error e
     | .ok (b,cV)=> .ok (x++[⟨n,b,here l⟩],cV)
def use (x:List (List UInt8)) (l:List Tok):R (List (List UInt8)):=match name l with
 | .error e=> .error e
 | .ok (n,aZ)=> .ok (x++[n],aZ)
def lY (d:Nat) (q:eb) (l:List Tok):R eb:=match must [112,99] l with
 | .error e=> .error e
 | .ok (_,aZ)=>match name aZ with
   | .error e=> .error e
   | .ok (bI,bF)=>match must [117,115,101,115] bF with
     | .error e=> .error e
     | .ok (_,cV)=>match must [123] cV with
       | .error e=> .error e
       | .ok (_,eC)=>match jL use [125] eC [] with
         | .error e=> .error e
         | .ok (us,ji)=>match block d ji with
           | .error e=> .error e
           | .ok (b,BB)=> .ok ({q with bI:=bI,fU:=us,body:=b},BB)
def proc (d:Nat) (l:List Tok):R eb:=match name l with
 | .error e=> .error e
 | .ok (n,aZ)=>match must [40] aZ with
   | .error e=> .error e
   | .ok (_,bF)=>match jL pF [41] bF [] with
     | .error e=> .error e
     | .ok (aQ,cV)=>if is [45,62] cV=true then (match name cV.tail with
         | .error e=> .error e
         | .ok (r,eC)=>lY d ⟨n,aQ,true,r,[],[],[],here l⟩ eC)
       else lY d ⟨n,aQ,false,[],[],[],[],here l⟩ cV
def ku (n cU:List UInt8) (at_:Nat) (neg:Bool) (l:List Tok):R eW:=match number l with
 | .error e=> .error e
 | .ok (k,aZ)=>match must [59] aZ with
   | .error e=> .error e
   | .ok (_,bF)=> .ok (⟨n,cU,if neg then -(k:Int) else (k:Int),at_⟩,bF)
def sV (l:List Tok):R eW:=match name l with
 | .error e=> .error e
 | .ok (n,aZ)=>match must [58] aZ with
   | .error e=> .error e
   | .ok (_,bF)=>match name bF with
     | .error e=> .error e
     | .ok (b,cV)=>match must [61] cV with
       | .error e=> .error e
       | .ok (_,eC)=>if is [45] eC=true then ku n b (here l) true eC.tail else ku n b (here l) false eC
def kY:Nat→List Tok→List gA→R (List gA)
 |0,_,_=> .error (0,0)
 |f+1,l,x=>if is [105,109,112,111,114,116] l=true then (match name l.tail with
   | .error e=> .error e
   | .ok (n,aZ)=>match must [59] aZ with
     | .error e=> .error e
     | .ok (_,bF)=>kY f bF (x++[⟨n,here l.tail⟩]))
  else .ok (x,l)
def iu (d:Nat):Nat→List Tok→List eW→List eb→R (List eW×List eb)
 |0,_,_,_=> .error (0,0)
 |f+1,l,vs,aQ=>if (aX l).kind=0 then .ok ((vs,aQ),l) else
   if is [118,97,114] l=true then (match sV l.tail with
    | .error e=> .error e
    | .ok (v,aZ)=>iu d f aZ (vs++[v]) aQ)
   else (match must [112,114,111,99] l with
    | .error e=> .error e
    | .ok (_,aZ)=>match proc d aZ with
      | .error e=> .error e
      | .ok (p,bF)=>iu d f bF vs (aQ++[p]))
def y9 (d:Nat) (l:List Tok):R eK:=match must [109,111,100,117,108,101] l with
 | .error e=> .error e
 | .ok (_,aZ)=>match name aZ with
   | .error e=> .error e
   | .ok (n,bF)=>match must [59] bF with
     | .error e=> .error e
     | .ok (_,cV)=>match kY cV.length cV [] with
       | .error e=> .error e
       | .ok (is,eC)=>match iu d eC.length eC [] [] with
         | .error e=> .error e
         | .ok (x,ji)=> .ok (⟨n,here aZ,is,x.1,x.2⟩,ji)
def mA:Nat→List Tok→List UInt8→List cC→Bool→R ((List UInt8×Bool)×List cC)
 |0,_,_,_,_=> .error (0,0)
 |f+1,l,last,x,alone=>if is [60] l=true then (match name l.tail with
   | .error e=> .error e
   | .ok (n,aZ)=>mA f aZ n (x++[⟨last,n,here l.tail⟩]) false)
  else .ok (((last,alone),x),l)
def n2:Nat→List Tok→List cC→R (List cC)
 |0,_,_=> .error (0,0)
 |f+1,l,x=>if (aX l).kind=0 then .ok (x,l) else match name l with
  | .error e=> .error e
  | .ok (n,aZ)=>match mA aZ.length aZ n x true with
    | .error e=> .error e
    | .ok (((last,alone),y),bF)=>match must [59] bF with
      | .error e=> .error e
      | .ok (_,cV)=>n2 f cV (if alone then y++[⟨last,[],here l⟩] else y)
def labels (l:List Tok):R (List cC):=match must [108,97,98,101,108,115] l with
 | .error e=> .error e
 | .ok (_,aZ)=>n2 aZ.length aZ []
end Par
end
end Go.Eng
namespace Go.Eng
noncomputable section
namespace Lex
def small (c:UInt8):Bool:=decide (97≤c.toNat)&&decide (c.toNat≤122)
def digit (c:UInt8):Bool:=decide (48≤c.toNat)&&decide (c.toNat≤57)
def within (c:UInt8):Bool:=small c||(digit c||decide (c.toNat=95))
def j3 (c:UInt8):Bool:=decide (c.toNat≠10)
def blank (c:UInt8):Bool:=decide (c.toNat=32)||(decide (c.toNat=9)||(decide (c.toNat=10)||decide (c.toNat=13)))
def keys:List (List UInt8):=[[109,111,100,117,108,101],[105,109,112,111,114,116],[118,97,114],[112,114,111,99],[112,99],[117,115,101,115],[108,101,116],[99,97,108,108],[105,102],[101,108,115,101],[119,104,105,108,101],[101,109,105,116],[114,101,115,117,108,116],[115,107,105,112],[108,97,98,101,108,115]]
def mB:List (List UInt8):=[[61,61],[60,61],[45,62]]
def gB:List UInt8:=[40,41,123,125,44,59,58,46,61,60,43,45,42,47,37,33]
def xn (p l:List UInt8):Bool:=decide (p.length≤l.length)&&decide (l.take p.length=p)
def sign (l:List UInt8):List UInt8:=match mB.find? (xn · l) with
 |some t=>t
 |none=>match l with
  |[]=>[]
  |c::_=>if 0≤Lib.indexByte gB c then [c] else []
def word (w:List UInt8):Nat×Nat:=if w∈keys then (3,0) else if w.length>20 then (0,9) else (1,0)
def number (w f:List UInt8):Nat×Nat:=if w.length>9 then (0,9) else
 if w.head? =some 48∧w.length>1 then (0,10) else
 match f with
 |[]=>(2,0)
 |c::_=>if within c then (0,10) else (2,0)
def put (t:Nat×Nat) (w:List UInt8) (pos:Nat) (out:List Tok) (k:List Tok→Except (Nat×Nat) (List Tok)):Except (Nat×Nat) (List Tok):=if t.2≠0 then .error (t.2,pos) else k (out++[⟨t.1,w,pos⟩])
def all:Nat→Nat→List UInt8→List Tok→Except (Nat×Nat) (List Tok)
 |0,_,_,_=> .error (0,0)
 |_+1,pos,[],out=> .ok (out++[⟨0,[],pos⟩])
 |f+1,pos,c::r,out=>
  if blank c then all f (pos+1) r out else
  if c.toNat=35 then all f (pos+((c::r).takeWhile j3).length) ((c::r).drop ((c::r).takeWhile j3).length) out else
  if small c then put (word ((c::r).takeWhile within)) ((c::r).takeWhile within) pos out (all f (pos+((c::r).takeWhile within).length) ((c::r).drop ((c::r).takeWhile within).length)) else
  if digit c then put (number ((c::r).takeWhile digit) ((c::r).drop ((c::r).takeWhile digit).length)) ((c::r).takeWhile digit) pos out (all f (pos+((c::r).takeWhile digit).length) ((c::r).drop ((c::r).takeWhile digit).length)) else
  put (if sign (c::r)=[] then (4,10) else (4,0)) (sign (c::r)) pos out (all f (pos+(sign (c::r)).length) ((c::r).drop (sign (c::r)).length))
def lex (s:List UInt8):Except (Nat×Nat) (List Tok):=if 8192<s.length then .error (9,8192) else all (s.length+1) 0 s []
end Lex
theorem BD {f:UInt8→Bool} {l:List UInt8} {k:Nat} {c:UInt8} (hk:l[k]? =some c) (hf:f c=true):(l.drop k).takeWhile f=c::(l.drop (k+1)).takeWhile f:=by
 obtain ⟨hlt,rfl⟩:=List.getElem?_eq_some_iff.1 hk
 rw [List.drop_eq_getElem_cons hlt,List.takeWhile_cons,if_pos hf]
theorem MQ {f:UInt8→Bool} {l:List UInt8} {k:Nat} {c:UInt8} (hk:l[k]? =some c) (hf:f c=false):(l.drop k).takeWhile f=[]:=by
 obtain ⟨hlt,rfl⟩:=List.getElem?_eq_some_iff.1 hk
 rw [List.drop_eq_getElem_cons hlt,List.takeWhile_cons,if_neg (by simp [hf])]
def BF (a8:List Tok):Prop:=∀t∈a8,t.kind=2→xk t.text
theorem BF.snoc {a8:List Tok} {t:Tok} (h:BF a8) (ht:t.kind=2→xk t.text):BF (a8++[t]):=by
 intro u hu
 rcases List.mem_append.1 hu with hu|hu
 · exact h u hu
 · simp at hu;subst hu;exact ht
theorem Lex.BG {t:Nat×Nat} {w:List UInt8} {pos:Nat} {out a8:List Tok} {k:List Tok→Except (Nat×Nat) (List Tok)} (h:Lex.put t w pos out k= .ok a8):t.2=0∧k (out++[⟨t.1,w,pos⟩])= .ok a8:=by
 unfold Lex.put at h
 by_cases he:t.2≠0
 · rw [if_pos he] at h;cases h
 · rw [if_neg he] at h;exact ⟨by omega,h⟩
theorem Lex.ab8 (w:List UInt8):(Lex.word w).1≠2:=by
 unfold Lex.word;split
 · decide
 · split<;>decide
theorem Lex.ab9 {w f:List UInt8} (hw:∀b∈w,Lex.digit b=true) (bO:w≠[]) (h:(Lex.number w f).2=0):xk w:=by
 refine ⟨bO, ?_,fun b hb=> ?_⟩
 · unfold Lex.number at h
   by_cases au:w.length>9
   · rw [if_pos au] at h;cases h
   · omega
 · have:=hw b hb
   simp [Lex.digit] at this;exact this
theorem Sz {α:Type} {p:α→Bool}:∀{l:List α} {x:α},x∈l.takeWhile p→p x=true
 |[],x,h=>by simp at h
 |a::l,x,h=>by
  rw [List.takeWhile_cons] at h
  by_cases hp:p a=true
  · rw [if_pos hp] at h
    rcases List.mem_cons.1 h with rfl|h
    · exact hp
    · exact Sz h
  · rw [if_neg hp] at h;simp at h
theorem Lex.BH:∀{f pos:Nat} {r:List UInt8} {out a8:List Tok},Lex.all f pos r out= .ok a8→BF out→∃us a,a8=us++[⟨0,[],a⟩]∧BF us
 |0,_,_,_,_,h,_=>by cases h
 |f+1,pos,[],out,a8,h,bq=>by
  simp only [Lex.all] at h;cases h;exact ⟨out,pos,rfl,bq⟩
 |f+1,pos,c::r,out,a8,h,bq=>by
  simp only [Lex.all] at h
  by_cases h1:Lex.blank c=true
  · rw [if_pos h1] at h;exact Lex.BH h bq
  rw [if_neg h1] at h
  by_cases h2:c.toNat=35
  · rw [if_pos h2] at h;exact Lex.BH h bq
  rw [if_neg h2] at h
  by_cases bj:Lex.small c=true
  · rw [if_pos bj] at h
    obtain ⟨ja,h⟩:=Lex.BG h
    exact Lex.BH h (bq.snoc fun hk=>absurd hk (Lex.ab8 _))
  rw [if_neg bj] at h
  by_cases cy:Lex.digit c=true
  · rw [if_pos cy] at h
    obtain ⟨ja,h⟩:=Lex.BG h
    refine Lex.BH h (bq.snoc fun _=>Lex.ab9 (fun b hb=>Sz hb) ?_ ja)
    rw [List.takeWhile_cons,if_pos cy];simp
  rw [if_neg cy] at h
  obtain ⟨ja,h⟩:=Lex.BG h
  refine Lex.BH h (bq.snoc fun hk=> ?_)
  by_cases aC:Lex.sign (c::r)=[]
  · simp [aC] at ja
  · simp [aC] at hk
theorem Left.start {p:eE} {us:List Tok} {a:Nat} (h:p.a8=us++[⟨0,[],a⟩]) (hn:BF us) (aC:p.a8.length<4294967296):Left p 0 p.a8:=by
 refine ⟨rfl,by rw [h];simp,fun t ht=> ?_,fun t ht hk=> ?_,aC⟩
 · rw [h] at ht;simp at ht;rw [←ht]
 · rw [h] at ht
   rcases List.mem_append.1 ht with ht|ht
   · exact hn t ht hk
   · simp at ht;subst ht;cases hk
theorem Lex.xo:∀{f pos:Nat} {r:List UInt8} {out a8:List Tok},Lex.all f pos r out= .ok a8→a8.length≤out.length+f
 |0,_,_,_,_,h=>by cases h
 |f+1,pos,[],out,a8,h=>by
  simp only [Lex.all] at h;cases h;simp
 |f+1,pos,c::r,out,a8,h=>by
  simp only [Lex.all] at h
  by_cases h1:Lex.blank c=true
  · rw [if_pos h1] at h;have:=Lex.xo h;omega
  rw [if_neg h1] at h
  by_cases h2:c.toNat=35
  · rw [if_pos h2] at h;have:=Lex.xo h;omega
  rw [if_neg h2] at h
  by_cases bj:Lex.small c=true
  · rw [if_pos bj] at h
    have:=Lex.xo (Lex.BG h).2;simp at this;omega
  rw [if_neg bj] at h
  by_cases cy:Lex.digit c=true
  · rw [if_pos cy] at h
    have:=Lex.xo (Lex.BG h).2;simp at this;omega
  rw [if_neg cy] at h
  have:=Lex.xo (Lex.BG h).2;simp at this;omega
end
end Go.Eng
namespace Go.Eng
noncomputable section
namespace Par
structure ai0 (a8 pG:List Tok) (m:Nat):Prop where
 le:m≤a8.length
 ai1:m≤pG.length
 same:∀j,j<m→a8[j]? =pG[j]?
 last:∀t,a8.getLast? =some t→t.kind=0
section
variable {a8 pG:List Tok} {m:Nat} {α β:Type}
def uj (a8 pG:List Tok) (m i k:Nat) (r eT:R α):Prop:=
 (∃x i1,r= .ok (x,a8.drop i1)∧i≤i1∧k≤i1∧i1<a8.length∧(i1<m→eT= .ok (x,pG.drop i1)))∨
 (∃e j,r= .error (e+1,here (a8.drop j))∧i≤j∧j<a8.length∧(j<m→eT= .error (e+1,here (a8.drop j))))
theorem uj.mono {i i1 k cH:Nat} {r eT:R α} (h:uj a8 pG m i1 cH r eT) (aq:i≤i1) (hk:k≤cH):uj a8 pG m i k r eT:=by
 rcases h with ⟨x,j,e,h1,h0,h2,bj⟩|⟨x,j,e,h1,h2,bj⟩
 · exact Or.inl ⟨x,j,e,by omega,by omega,h2,bj⟩
 · exact Or.inr ⟨x,j,e,by omega,h2,bj⟩
theorem uj.any {i k:Nat} {r eT gl:R α} (h:uj a8 pG m i k r eT) (aq:m≤i):uj a8 pG m i k r gl:=by
 rcases h with ⟨x,j,e,h1,h0,h2,bj⟩|⟨x,j,e,h1,h2,bj⟩
 · exact Or.inl ⟨x,j,e,h1,h0,h2,fun h=>by omega⟩
 · exact Or.inr ⟨x,j,e,h1,h2,fun h=>by omega⟩
theorem uj.bind {i k c6:Nat} {r eT:R α} {f dG:α→List Tok→R β} (h:uj a8 pG m i k r eT) (K:∀x i1,i≤i1→k≤i1→i1<a8.length→uj a8 pG m i1 c6 (f x (a8.drop i1)) (dG x (pG.drop i1))):
  uj a8 pG m i c6 (match (generalizing:=false) r with| .error e=> .error e| .ok (x,l)=>f x l) (match (generalizing:=false) eT with| .error e=> .error e| .ok (x,l)=>dG x l):=by
 rcases h with ⟨x,i1,rfl,h1,h0,h2,bj⟩|⟨e,j,rfl,h1,h2,bj⟩
 · by_cases hm:i1<m
   · rw [bj hm];exact (K x i1 h1 h0 h2).mono h1 (Nat.le_refl _)
   · exact ((K x i1 h1 h0 h2).any (by omega)).mono h1 (Nat.le_refl _)
 · exact Or.inr ⟨e,j,rfl,h1,h2,fun hm=>by rw [bj hm]⟩
def bP (r:R α) (f:α→List Tok→R β):R β:=match r with
 | .error e=> .error e
 | .ok (x,l)=>f x l
def H7 (o:Option jh) (a:R α) (g:jh→R α):R α:=match o with
 |none=>a
 |some o=>g o
theorem aca (l:List Tok):name l=bP (of 1 l) fun t l=> .ok (t.text,l):=by kernel_rfl
theorem acb (l:List Tok):number l=bP (of 2 l) fun t l=> .ok (Go.Eng.num t.text,l):=by kernel_rfl
theorem acd (l:List Tok):iS l=bP (name l) fun a l=>if is [46] l=true then bP (name l.tail) fun b l=> .ok ((a,b),l) else .ok (([],a),l):=by kernel_rfl
theorem ace (un:E) (ops:List jh) (f d a:Nat) (l:List Tok) (ns:List bS):lz un ops (f+1) d l a ns=H7 (find ops l) (.ok ((a,ns),l)) fun o=>bP (un d l.tail ns) fun x aP=>lz un ops f d aP x.2.length (x.2++[⟨o.2,0,[],[],(a:Int),(x.1:Int),here l⟩]):=by kernel_rfl
theorem acf (un:E) (ops:List jh) (d:Nat) (l:List Tok) (ns:List bS):chain un ops d l ns=bP (un d l ns) fun x aP=>lz un ops aP.length d aP x.1 x.2:=by kernel_rfl
theorem acg (un:E) (d:Nat) (l:List Tok) (ns:List bS):whole un d l ns=bP (sum un d l ns) fun x aZ=>H7 (find rK aZ) (.ok (x,aZ)) fun o=>bP (sum un d aZ.tail x.2) fun y aP=> .ok ((y.2.length,y.2++[⟨o.2,0,[],[],(x.1:Int),(y.1:Int),here aZ⟩]),aP):=by kernel_rfl
theorem ach (un:E) (d:Nat) (l:List Tok) (ns:List bS):qB un d l ns=H7 (find pE l)
  (if is [40] l=true then (if 40≤d then fail 12 l else bP (whole un (d+1) l.tail ns) fun x aP=>bP (must [41] aP) fun _ aP=> .ok (x,aP))
   else if (aX l).kind=2 then bP (number l) fun n aP=> .ok ((ns.length,ns++[⟨1,(n:Int),[],[], -1, -1,here l⟩]),aP)
   else bP (iS l) fun q aP=> .ok ((ns.length,ns++[⟨2,0,q.1,q.2, -1, -1,here l⟩]),aP))
  fun o=>if 40≤d then fail 12 l else bP (un (d+1) l.tail ns) fun x aP=> .ok ((x.2.length,x.2++[⟨o.2,0,[],[],(x.1:Int), -1,here l⟩]),aP):=by kernel_rfl
theorem aci (d:Nat) (l:List Tok):expr d l=bP (whole (unary l.length) d l []) fun x l=> .ok (x.2,l):=by kernel_rfl
end
end Par
end
end Go.Eng
namespace Go.Eng
noncomputable section
namespace Par
section
variable {a8 pG:List Tok} {m:Nat} {α β:Type}
theorem acj (s:cR) (l:List Tok):fin s l=bP (must [59] l) fun _ aP=> .ok (s,aP):=by kernel_rfl
theorem ack (d f:Nat) (l:List Tok):n0 d (f+1) l []=if is [41] l=true then .ok ([],l.tail) else bP (expr d l) fun e aP=>n0 d f aP [e]:=by kernel_rfl
theorem acm (d f:Nat) (l:List Tok) (a:List bS) (as_:List (List bS)):n0 d (f+1) l (a::as_)=if is [41] l=true then .ok (a::as_,l.tail) else bP (must [44] l) fun _ aZ=>bP (expr d aZ) fun e aP=>n0 d f aP ((a::as_)++[e]):=by kernel_rfl
theorem acn (d:Nat) (c:sS) (l:List Tok):qC d c l=bP (must [40] l) fun _ aZ=>bP (n0 d aZ.length aZ []) fun as_ bF=> .ok ({c with args:=as_},bF):=by kernel_rfl
theorem aco (d:Nat) (l:List Tok):call d l=bP (iS l) fun q aZ=>if is [61] aZ=true then bP (iS aZ.tail) fun r bF=>qC d ⟨true,q.1,q.2,r.1,r.2,[]⟩ bF else qC d ⟨false,[],[],q.1,q.2,[]⟩ aZ:=by kernel_rfl
theorem acp (cr:oG) (d a:Nat) (l:List Tok):xm cr d a l=bP (expr d l) fun e aZ=>bP (cr d aZ) fun b bF=>if is [101,108,115,101] bF=true then bP (cr d bF.tail) fun el cV=> .ok (.mk 5 a [] [] [] false [] [] e [] b el,cV) else .ok (.mk 5 a [] [] [] false [] [] e [] b [],bF):=by kernel_rfl
theorem acq (cr:oG) (d a:Nat) (l:List Tok):Bv cr d a l=bP (expr d l) fun e aZ=>bP (cr d aZ) fun b bF=> .ok (.mk 6 a [] [] [] false [] [] e [] b [],bF):=by kernel_rfl
theorem acr (d a:Nat) (l:List Tok):Bw d a l=bP (name l) fun n aZ=>bP (must [58] aZ) fun _ bF=>bP (name bF) fun cU cV=>bP (must [61] cV) fun _ eC=>bP (expr d eC) fun e ji=>fin (.mk 1 a [] n cU false [] [] e [] [] []) ji:=by kernel_rfl
theorem acs (d a:Nat) (l:List Tok):Bx d a l=bP (must [61] l) fun _ aZ=>bP (expr d aZ) fun e bF=>fin (.mk 3 a [] [] [] false [] [] e [] [] []) bF:=by kernel_rfl
theorem acu (d a:Nat) (l:List Tok):Bz d a l=bP (call d l) fun c aZ=>fin (.mk 4 a c.mod c.name [] c.has c.tomod c.to [] c.args [] []) aZ:=by kernel_rfl
theorem acv (a:Nat) (l:List Tok):BA a l=bP (name l) fun n aZ=>fin (.mk 7 a [] n [] false [] [] [] [] [] []) aZ:=by kernel_rfl
theorem acw (d a:Nat) (l:List Tok):Ex d a l=bP (iS l) fun q aZ=>bP (must [61] aZ) fun _ bF=>bP (expr d bF) fun e cV=>fin (.mk 2 a q.1 q.2 [] false [] [] e [] [] []) cV:=by kernel_rfl
theorem acx (gu:Nat→List Tok→R cR) (d f:Nat) (l:List Tok) (ss:List cR):n1 gu d (f+1) l ss=if is [125] l=true then .ok (ss,l.tail) else bP (gu d l) fun s aP=>n1 gu d f aP (ss++[s]):=by kernel_rfl
theorem acy {x:α} (one:α→List Tok→R α) (e:List UInt8) (f n:Nat) (l:List Tok):j2 one e (f+1) n l x=if is e l=true then .ok (x,l.tail) else if n=0 then bP (one x l) fun y aP=>j2 one e f 1 aP y else bP (must [44] l) fun _ aZ=>bP (one x aZ) fun y aP=>j2 one e f (n+1) aP y:=by kernel_rfl
theorem acz (x:List cC) (l:List Tok):pF x l=bP (name l) fun n aZ=>bP (must [58] aZ) fun _ bF=>bP (name bF) fun b cV=> .ok (x++[⟨n,b,here l⟩],cV):=by kernel_rfl
theorem acA (x:List (List UInt8)) (l:List Tok):use x l=bP (name l) fun n aZ=> .ok (x++[n],aZ):=by kernel_rfl
theorem acB (d:Nat) (q:eb) (l:List Tok):lY d q l=bP (must [112,99] l) fun _ aZ=>bP (name aZ) fun bI bF=>bP (must [117,115,101,115] bF) fun _ cV=>bP (must [123] cV) fun _ eC=>bP (jL use [125] eC []) fun us ji=>bP (block d ji) fun b BB=> .ok ({q with bI:=bI,fU:=us,body:=b},BB):=by kernel_rfl
theorem acC (d:Nat) (l:List Tok):proc d l=bP (name l) fun n aZ=>bP (must [40] aZ) fun _ bF=>bP (jL pF [41] bF []) fun aQ cV=>if is [45,62] cV=true then bP (name cV.tail) fun r eC=>lY d ⟨n,aQ,true,r,[],[],[],here l⟩ eC else lY d ⟨n,aQ,false,[],[],[],[],here l⟩ cV:=by kernel_rfl
theorem acD (n cU:List UInt8) (at_:Nat) (neg:Bool) (l:List Tok):ku n cU at_ neg l=bP (number l) fun k aZ=>bP (must [59] aZ) fun _ bF=> .ok (⟨n,cU,if neg then -(k:Int) else (k:Int),at_⟩,bF):=by kernel_rfl
theorem acE (l:List Tok):sV l=bP (name l) fun n aZ=>bP (must [58] aZ) fun _ bF=>bP (name bF) fun b cV=>bP (must [61] cV) fun _ eC=>if is [45] eC=true then ku n b (here l) true eC.tail else ku n b (here l) false eC:=by kernel_rfl
theorem acF (f:Nat) (l:List Tok) (x:List gA):kY (f+1) l x=if is [105,109,112,111,114,116] l=true then bP (name l.tail) fun n aZ=>bP (must [59] aZ) fun _ bF=>kY f bF (x++[⟨n,here l.tail⟩]) else .ok (x,l):=by kernel_rfl
theorem acG (d f:Nat) (l:List Tok) (vs:List eW) (aQ:List eb):iu d (f+1) l vs aQ=if (aX l).kind=0 then .ok ((vs,aQ),l) else if is [118,97,114] l=true then bP (sV l.tail) fun v aZ=>iu d f aZ (vs++[v]) aQ else bP (must [112,114,111,99] l) fun _ aZ=>bP (proc d aZ) fun p bF=>iu d f bF vs (aQ++[p]):=by kernel_rfl
theorem acH (d:Nat) (l:List Tok):y9 d l=bP (must [109,111,100,117,108,101] l) fun _ aZ=>bP (name aZ) fun n bF=>bP (must [59] bF) fun _ cV=>bP (kY cV.length cV []) fun is eC=>bP (iu d eC.length eC [] []) fun x ji=> .ok (⟨n,here aZ,is,x.1,x.2⟩,ji):=by kernel_rfl
end
end Par
end
end Go.Eng
namespace Go.Eng
noncomputable section
namespace Lex
def acI:List UInt8→List UInt8
 |[]=>[]
 |c::r=>if blank c then [c] else if c.toNat=35 then (c::r).takeWhile j3 else if small c then (c::r).takeWhile within else if digit c then (c::r).takeWhile digit else sign (c::r)
structure Piece (l w r:List UInt8):Prop where
 split:l=w++r
 cut:acI l=w
end Lex
end
end Go.Eng
namespace Go.Eng
noncomputable section
end
end Go.Eng
namespace Go.Eng
noncomputable section
def bS.za (n:bS):bS:={n with at_:=0}
def SA (b:Bool) (es sg:List bS):Prop:=es.map bS.za=sg.map bS.za∧(b=true→es=sg)
def SB (b:Bool) (as_ nP:List (List bS)):Prop:=nP.length=as_.length∧∀(i:Nat) (e bN:List bS),as_[i]? =some e→nP[i]? =some bN→SA b e bN
mutual
inductive SC (b:Bool):cR→cR→Prop
 |mk {k a bp:Nat} {m n l:List UInt8} {aC:Bool} {rM t:List UInt8} {e bN:List bS} {as_ nP:List (List bS)} {n3 SD el CN:List cR} (ha:b=true→a=bp) (he:SA b e bN) (has:SB b as_ nP) (hb:BI b n3 SD) (au:BI b el CN):
   SC b (.mk k a m n l aC rM t e as_ n3 el) (.mk k bp m n l aC rM t bN nP SD CN)
inductive BI (b:Bool):List cR→List cR→Prop
 |nil:BI b [] []
 |cons {s en:cR} {l aP:List cR} (aC:SC b s en) (au:BI b l aP):BI b (s::l) (en::aP)
end
def mC (as_:List (List bS)):Nat:=as_.foldr (fun e n=>1+e.length+n) 0
mutual
def cR.bo:cR→Nat
 | .mk _ _ _ _ _ _ _ _ e as_ n3 el=>1+e.length+mC as_+j4.bo n3+j4.bo el
def j4.bo:List cR→Nat
 |[]=>0
 |s::l=>cR.bo s+j4.bo l
end
end
end Go.Eng
namespace Go.Eng
noncomputable section
structure H8 {α:Type} (R:α→α→Prop) (l aP:List α):Prop where
 len:aP.length=l.length
 at_:∀(i:Nat) (x y:α),l[i]? =some x→aP[i]? =some y→R x y
structure acJ (b:Bool) (x y:gA):Prop where
 name:x.name=y.name
 at_:b=true→x.at_=y.at_
structure acK (b:Bool) (x y:eW):Prop where
 name:x.name=y.name
 label:x.label=y.label
 init:x.init=y.init
 at_:b=true→x.at_=y.at_
structure acL (b:Bool) (x y:cC):Prop where
 name:x.name=y.name
 label:x.label=y.label
 at_:b=true→x.at_=y.at_
structure acM (b:Bool) (x y:eb):Prop where
 name:x.name=y.name
 has:x.has=y.has
 result:x.result=y.result
 bI:x.bI=y.bI
 fU:x.fU=y.fU
 params:H8 (acL b) x.params y.params
 body:BI b x.body y.body
 at_:b=true→x.at_=y.at_
structure ai2 (b:Bool) (x y:eK):Prop where
 name:x.name=y.name
 at_:b=true→x.at_=y.at_
 imports:H8 (acJ b) x.imports y.imports
 vars:H8 (acK b) x.vars y.vars
 procs:H8 (acM b) x.procs y.procs
structure ai3 (m:eK):Prop where
 imports:m.imports.length<4294967296
 vars:m.vars.length<4294967296
 procs:m.procs.length<4294967296
 proc:∀p∈m.procs,p.params.length<4294967296∧p.fU.length<4294967296∧j4.bo p.body<4294967296
theorem ie.at_ {h:ag}:∀{l:List eb} {rw:List (List V)} {i:Nat} {s:eb},ie h l rw→l[i]? =some s→∃row,rw[i]? =some row∧y8 h s row
 |[],_,_,_,_,h=>by simp at h
 |a::l,rw,0,s,hr,h=>by
  simp only [ie] at hr
  obtain ⟨r,rs,rfl,h1,_⟩:=hr
  simp at h;subst h;exact ⟨r,rfl,h1⟩
 |a::l,rw,i+1,s,hr,h=>by
  simp only [ie] at hr
  obtain ⟨r,rs,rfl,_,h2⟩:=hr
  obtain ⟨row,bj,cy⟩:=ie.at_ (i:=i) (s:=s) h2 (by simpa using h)
  exact ⟨row,by simpa using bj,cy⟩
theorem ak.acN {fs:List Fact} {h:ag} {m:eK} {row:List V} (st:ak (.ay (fun h=>vH h m row)::fs) h):
  ∃sU eX dX rw,row=[L.str m.name, .int .i64 (m.at_:Int),sU,eX,dX]∧
   ak (.ay (fun h=>Rows 2 h sU (m.imports.map gA.row)):: .ay (fun h=>Rows 4 h eX (m.vars.map eW.row)):: .ay (fun h=>Rows 8 h dX rw):: .ay (fun h=>ie h m.procs rw)::fs) h:=by
 obtain ⟨sU,eX,dX,rfl,_⟩:=st.aS 0 rfl
 have all:∀h,vH h m [L.str m.name, .int .i64 (m.at_:Int),sU,eX,dX]→Rows 2 h sU (m.imports.map gA.row)∧Rows 4 h eX (m.vars.map eW.row)∧∃rows,Rows 8 h dX rows∧ie h m.procs rows:=by
  intro h hr
  obtain ⟨ai4,ai5,ai6,ge,g3,g4,g5⟩:=hr
  simp only [List.cons.injEq,true_and,and_true] at ge
  obtain ⟨rfl,rfl,rfl⟩:=ge
  exact ⟨g3,g4,g5⟩
 have s1:=st.imp fun h hr=>(all h hr).1
 have s2:=((s1.pick 1 rfl).imp fun h hr=>(all h hr).2.1)
 have gb:=((s2.pick 1 rfl).fD fun h hr=>(all h hr).2.2)
 obtain ⟨rw,jo⟩:=gb.QZ
 refine ⟨sU,eX,dX,rw,rfl, ?_⟩
 exact (jo.pick 2 rfl).pick 3 rfl
end
end Go.Eng
namespace Go.Eng
noncomputable section
namespace Fc
abbrev aL:=List UInt8
structure b6 where
 mod:aL
 at_:Nat
 code:Nat
 name:aL
def b6.row (x:b6):List V:=[L.str x.mod, .int .i64 (x.at_:Int), .int .i64 (x.code:Int),L.str x.name]
def a7 (mod:aL):List aL→List (aL×Nat)→List b6
 |_,[]=>[]
 |A,x::l=>(if x.1∈A then [⟨mod,x.2,6,x.1⟩] else [])++a7 mod (A++[x.1]) l
theorem H9 (mod:aL):∀(l k:List (aL×Nat)) (A:List aL),a7 mod A (l++k)=a7 mod A l++a7 mod (A++l.map (·.1)) k
 |[],k,A=>by simp [a7]
 |x::l,k,A=>by
  show (if x.1∈A then _ else _)++a7 mod (A++[x.1]) (l++k)=((if x.1∈A then _ else _)++a7 mod (A++[x.1]) l)++_
  rw [H9 mod l k,List.append_assoc,List.map_cons,List.append_assoc];rfl
theorem rN (mod:aL) {l:List (aL×Nat)} {i:Nat} {x:aL×Nat} (A:List aL) (h:l[i]? =some x):a7 mod A (l.take (i+1))=a7 mod A (l.take i)++(if x.1∈A++(l.take i).map (·.1) then [⟨mod,x.2,6,x.1⟩] else []):=by
 rw [List.take_add_one,h,H9]
 show _++((if x.1∈_ then _ else _)++[])=_
 rw [List.append_nil]
theorem lB (mod:aL):∀(l:List (aL×Nat)) (A:List aL),(a7 mod A l).length≤l.length
 |[],_=>Nat.le_refl _
 |x::l,A=>by
  have:=lB mod l (A++[x.1])
  show ((if x.1∈A then [⟨mod,x.2,6,x.1⟩] else [])++a7 mod (A++[x.1]) l:List b6).length≤_
  rw [List.length_append,List.length_cons]
  split<;>simp<;>omega
def zb (mod:aL) (A:List aL) (x:aL×Nat):List b6:=if x.1∈A then [⟨mod,x.2,6,x.1⟩] else []
def unk (mod:aL) (NS:List aL) (x:aL×Nat):List b6:=if x.1∈NS then [] else [⟨mod,x.2,7,x.1⟩]
theorem nw (mod:aL) (NS:List aL) (x:aL×Nat):(unk mod NS x).length≤1:=by unfold unk;split<;>simp
def cN (m:eK):List (aL×Nat):=m.imports.map fun x=>(x.name,x.at_)
def bY (m:eK):List (aL×Nat):=m.vars.map fun x=>(x.name,x.at_)
def dO (m:eK):List (aL×Nat):=m.procs.map fun x=>(x.name,x.at_)
def dB (p:eb):List (aL×Nat):=p.params.map fun x=>(x.name,x.at_)
def h4 (m:eK):List b6:=a7 m.name [m.name] (cN m)++a7 m.name [] (bY m++dO m)++m.procs.flatMap fun p=>a7 m.name [] (dB p)
def gM (p:eb):List (aL×Nat):=p.params.map fun x=>(x.label,x.at_)
def fE (mod:aL) (NS:List aL) (p:eb):List b6:=(gM p).flatMap (unk mod NS)++(if p.has then unk mod NS (p.result,p.at_) else [])++unk mod NS (p.bI,p.at_)
theorem MR (mod:aL) (NS:List aL) {p:eb} (h:p.params.length≤8193):(fE mod NS p).length≤8195:=by
 have h1:=Lab.Bq (f:=unk mod NS) (n:=1) (l:=gM p) fun x _=>nw mod NS x
 have h2:(gM p).length=p.params.length:=List.length_map _
 have bj:=nw mod NS (p.result,p.at_)
 have cy:=nw mod NS (p.bI,p.at_)
 unfold fE
 rw [List.length_append,List.length_append]
 split
 · omega
 · rw [List.length_nil];omega
def eh (m:eK):List (aL×Nat):=m.vars.map fun x=>(x.label,x.at_)
def Ia (m:eK) (NS:List aL):List b6:=(eh m).flatMap (unk m.name NS)++m.procs.flatMap (fE m.name NS)
def jj (m:eK) (NS:List aL):List b6:=h4 m++Ia m NS
structure gv where
 name:aL
 params:List aL
 has:Bool
 result:aL
 bI:aL
 fU:List aL
def gV (p:eb):gv:=⟨p.name,p.params.map (·.label),p.has,p.result,p.bI,jZ p.fU⟩
def iv (x:aL×aL):List V:=[L.str x.1,L.str x.2, .int .i64 0, .int .i64 0]
def uk (m:eK):List (aL×aL):=fT (m.vars.map fun x=>(x.name,x.label))
def qD (m:eK):List gv:=(fT (m.procs.map fun p=>(p.name,gV p))).map (·.2)
theorem rO {α β:Type} {l:List α} {i:Nat} {x:α} (f:α→List β) (h:l[i]? =some x):(l.take (i+1)).flatMap f=(l.take i).flatMap f++f x:=by
 rw [List.take_add_one,h,List.flatMap_append];simp
theorem rP {α β:Type} {f:α→List β} {n:Nat} {l:List α} (h:∀x∈l,(f x).length≤n) (i:Nat):((l.take i).flatMap f).length≤l.length * n:=by
 have h1:∀x∈l.take i,(f x).length≤n:=fun x hx=>h x (List.mem_of_mem_take hx)
 refine Nat.le_trans (Lab.Bq h1) (Nat.mul_le_mul_right n ?_)
 rw [List.length_take];exact Nat.min_le_right _ _
theorem n4 {α β:Type} {l:List α} {i:Nat} {x:α} (f:α→β) (h:l[i]? =some x):(l.take (i+1)).map f=(l.take i).map f++[f x]:=by
 rw [List.take_add_one,h,List.map_append];rfl
end Fc
structure n5 where
 p:V
 u:V
 b:V
def BJ (p:eb) (q:n5):List V:=[L.str p.name,q.p, .bool p.has,L.str p.result,L.str p.bI,q.u,q.b, .int .i64 (p.at_:Int)]
def zc (aQ:List eb) (fm:List n5):List (List V):=List.zipWith BJ aQ fm
def SE (h:ag) (aQ:List eb) (fm:List n5):Prop:=∀(i:Nat) (p:eb) (q:n5),aQ[i]? =some p→fm[i]? =some q→Rows 3 h q.p (p.params.map cC.row)∧Rows 1 h q.u (SR p.fU)
theorem sW {aQ:List eb} {fm:List n5} {i:Nat} {p:eb} {q:n5} (hp:aQ[i]? =some p) (bC:fm[i]? =some q):(zc aQ fm)[i]? =some (BJ p q):=by
 unfold zc;rw [List.getElem?_zipWith,hp,bC]
theorem iF {aQ:List eb} {fm:List n5} (h:fm.length=aQ.length):(zc aQ fm).length=aQ.length:=by
 unfold zc;rw [List.length_zipWith,h,Nat.min_self]
structure kZ where
 i:V
 v:V
 p:V
 fm:List n5
def vI (m:eK) (w:kZ):List V:=[L.str m.name, .int .i64 (m.at_:Int),w.i,w.v,w.p]
structure bG (h:ag) (m:eK) (w:kZ):Prop where
 BK:Rows 2 h w.i (m.imports.map gA.row)
 vars:Rows 4 h w.v (m.vars.map eW.row)
 procs:Rows 8 h w.p (zc m.procs w.fm)
 all:SE h m.procs w.fm
structure mD (m:eK) (w:kZ):Prop where
 len:w.fm.length=m.procs.length
 nil:∀(i:Nat) (p:eb) (q:n5),m.procs[i]? =some p→w.fm[i]? =some q→p.fU=[]→q.u= .U
 MS:m.imports.length≤8193
 um:m.vars.length≤8193
 jq:m.procs.length≤8193
 pa:∀p∈m.procs,p.params.length≤8193∧p.fU.length≤8193
theorem mD.pv {m:eK} {w:kZ} (ok:mD m w) {i:Nat} {p:eb} (h:m.procs[i]? =some p):∃q,w.fm[i]? =some q∧p.params.length≤8193∧p.fU.length≤8193∧(p.fU=[]→q.u= .U):=by
 have au:=(List.getElem?_eq_some_iff.1 h).1
 have bC:w.fm[i]? =some (w.fm[i]'(by rw [ok.len];exact au)):=List.getElem?_eq_getElem (by rw [ok.len];exact au)
 have:=ok.pa p (List.mem_of_getElem? h)
 exact ⟨_,bC,this.1,this.2,ok.nil i p _ h bC⟩
theorem Fc.MT {m:eK} {w:kZ} (ok:mD m w):(Fc.h4 m).length≤67200000:=by
 have h1:=Fc.lB m.name (Fc.cN m) [m.name]
 have h2:=Fc.lB m.name (Fc.bY m++Fc.dO m) []
 have bj:=Lab.Bq (f:=fun p=>Fc.a7 m.name [] (Fc.dB p)) (n:=8193) (l:=m.procs) fun p hp=>Nat.le_trans (Fc.lB _ _ _) (by unfold Fc.dB;rw [List.length_map];exact (ok.pa p hp).1)
 have aT:(Fc.cN m).length=m.imports.length:=List.length_map _
 have bu:(Fc.bY m).length=m.vars.length:=List.length_map _
 have dH:(Fc.dO m).length=m.procs.length:=List.length_map _
 have:=ok.MS;have:=ok.um;have:=ok.jq
 unfold Fc.h4
 rw [List.length_append,List.length_append]
 rw [List.length_append] at h2
 omega
structure eS where
 p:V
 u:V
def pH (g:Fc.gv) (q:eS):List V:=[L.str g.name,q.p, .bool g.has,L.str g.result,L.str g.bI,q.u]
def Ey (h:ag) (g:Fc.gv) (q:eS):Prop:=Rows 1 h q.p (SR g.params)∧Rows 1 h q.u (SR g.fU)
def hF (h:ag) (gs:List (Fc.gv×eS)):Prop:=∀x∈gs,Ey h x.1 x.2
def e1 (gs:List (Fc.gv×eS)):List (List V):=gs.map fun x=>pH x.1 x.2
def pI (h:ag) (eX dX:V) (vs:List (Fc.aL×Fc.aL)) (aQ:List Fc.gv):Prop:=Rows 4 h eX (vs.map Fc.iv)∧∃gs:List (Fc.gv×eS),gs.map (·.1)=aQ∧Rows 6 h dX (e1 gs)∧hF h gs
theorem pI.none (h:ag):pI h .U .U [] []:=⟨.nil,[],rfl, .nil,fun x hx=>by cases hx⟩
theorem hF.snoc {h:ag} {gs:List (Fc.gv×eS)} {g:Fc.gv} {q:eS} (a:hF h gs) (b:Ey h g q):hF h (gs++[(g,q)]):=by
 intro x hx
 rcases List.mem_append.1 hx with hx|hx
 · exact a x hx
 · obtain rfl:x=(g,q):=by simpa using hx
   exact b
end
end Go.Eng
namespace Go.Eng
noncomputable section
end
end Go.Eng
