/- Part of a proof of a law: rules of an evaluator, contracts, plain laws. No condition of its own. -/
import Derived.Test.YtmcjcbldmoijiaaGreatDoorSymD
import Derived.Test.YtmcjcbldmoijiaaGreatDoorEngF
import Derived.Test.YtmcjcbldmoijiaaGreatDoorSymA
import Derived.Test.YtmcjcbldmoijiaaGreatDoorSymE
set_option linter.unusedVariables false
set_option linter.unusedSimpArgs false
namespace Go.Eng
noncomputable section
abbrev eR:=List UInt8×List V
def eR.row (t:eR):List V:=L.str t.1::t.2
def eR.kI (t:eR):eF:=(t.1,(t.2,[]))
theorem Qs {k:Nat}:∀(L:List (List V)),(∀r∈L,r.length=k)→mZ k L.length L.flatten=L
 |[],_=>rfl
 |r::L,h=>by
  have hr:r.length=k:=h r (by simp)
  show (r++L.flatten).take k::mZ k L.length ((r++L.flatten).drop k)=_
  rw [List.take_left' hr,List.drop_left' hr,Qs L fun s ay=>h s (by simp [ay])]
theorem eR.Qt (T:List eR):T.map eR.row=(T.map eR.kI).map eF.v:=by rw [List.map_map];rfl
theorem eR.aat (T:List eR):fo (T.map eR.kI)=(fo T).map eR.kI:=zZ (fun p:List V=>(p,([]:List Value))) T
theorem eR.oC (T:List eR):oC (T.map eR.row)=(fo T).map eR.row:=by rw [eR.Qt,Ge,eR.aat,eR.Qt]
theorem Qu:∀{l:List eR},l.Pairwise (fun a b=>a.1≤b.1)→(l.map (·.1)).Nodup→s8 (l.map eR.row)=true
 |[],_,_=>rfl
 |[_],_,_=>rfl
 |a::b::l,ay,hn=>by
  have Qv:=List.pairwise_cons.1 ay
  have sB:a.1∉((b::l).map (·.1))∧((b::l).map (·.1)).Nodup:=List.nodup_cons.1 hn
  show (xW a.row b.row&&s8 ((b::l).map eR.row))=true
  rw [Qu Qv.2 sB.2,Bool.and_true]
  show xK (gF a.1) (gF b.1)=true
  rw [FU,xL]
  have h1:a.1≤b.1:=Qv.1 b (by simp)
  have h2:a.1≠b.1:=fun e=>sB.1 (by simp [e])
  refine decide_eq_true (Classical.byContradiction fun h=>h2 (List.le_antisymm h1 h))
theorem Qw:∀T:List eR,(T.map eR.row).all s7=true
 |[]=>rfl
 |t::T=>by
  show (s7 t.row&&(T.map eR.row).all s7)=true
  rw [Qw T];rfl
theorem Qx {c:Ctx} {f0 eZ k:Nat} (hk:0<k) (av:∀args h r,oD f0 eZ k f0 args h=r→r≠.bad→h9 c f0 args h r) {fs:List Fact} {h:ae} {bs:List Nat} {f:Nat} {v:V} {T:List eR} (hn:T.length<4294967296) (ar:∀t∈T,t.2.length+1=k) (aQ:(T.map (·.1)).Nodup) (st:aq (.cS bs f k v (T.map eR.row)::fs) h):
  bT c f0 [v, .fn eZ [] []] h fun _ h1=>aq (.cS bs f k v ((fo T).map eR.row)::fs) h1:=by
 obtain ⟨_,_,a⟩:=st.FV
 have hf:f0.beq f0=true:=Nat.beq_refl _
 have w8:=a.rows hk
 have hlen:∀r∈T.map eR.row,r.length=k:=by
  intro r hr
  obtain ⟨t,ht,rfl⟩:=List.mem_map.1 hr
  exact ar t ht
 generalize cz:T.map eR.row=R at st a w8 hlen
 cases a with
 |nil=>
  obtain rfl:T=[]:=by simpa using cz
  refine ⟨.dh [],h,av _ _ _ ?_ (by simp),st⟩
  unfold oD;rw [hf]
  simp
 |row ge hb Ic aG cF len mem=>
  rename_i b ap hid t
  have CI:R.length=T.length:=by rw [←cz,List.length_map]
  have Kl:h.load b 0 (R.length * k)=some R.flatten:=w8.B4
  have gD:(fo T).length=T.length:=(qE T).length_eq
  have Qy:mZ k R.length R.flatten=R:=Qs R hlen
  have zL:R.all s7=true:=by rw [←cz];exact Qw T
  have s6:s8 (oC R)=true:=by
   rw [←cz,eR.oC]
   exact Qu (KR T) (((qE T).map _).nodup_iff.2 aQ)
  have nE:(mZ k R.length R.flatten).all s7=true∧s8 (oC (mZ k R.length R.flatten))=true∧R.length<4294967296∧0<k:=by
   rw [Qy];exact ⟨zL,s6,by omega,hk⟩
  have w5:∀r:a7,h.dB b 0 (R.length * k) ((fo T).map eR.row).flatten .bad (fun h=>a7.ok (.dh []) h)=r→oD f0 eZ k f0 [.au b 0 R.length none, .fn eZ [] []] h=r:=by
   intro r hr
   unfold oD;rw [hf]
   show (if eZ=eZ then Gd k h b 0 R.length else .bad)=r
   rw [if_pos rfl]
   unfold Gd
   rw [Kl]
   simp only
   rw [if_pos nE,Qy,←cz,eR.oC,cz];exact hr
  by_cases h0:T.length=0
  · obtain rfl:T=[]:=by simpa using h0
    obtain rfl:R=[]:=by simpa using cz.symm
    refine ⟨.dh [],h,av _ _ _ (w5 _ ?_) (by simp),st⟩
    show h.dB b 0 (0 * k) [] .bad (fun h=>a7.ok (.dh []) h)=_
    rw [Nat.zero_mul];rfl
  · obtain ⟨ax,e,dE⟩:=st.CD (i:=0) (k:=T.length) (new:=(fo T).map eR.row) hk (by omega) (by rw [List.length_map,gD]) (fun row hm=>by
     obtain ⟨s,ay,rfl⟩:=List.mem_map.1 hm
     exact ar s ((qE T).mem_iff.1 ay)) (by omega)
    refine ⟨.dh [],ax,av _ _ _ (w5 _ ?_) (by simp), ?_⟩
    · have:=e (.bad:a7) (fun h=> .ok (.dh []) h)
      rw [Nat.zero_mul] at this
      rw [CI];exact this
    · have df:R.take 0++((fo T).map eR.row)++R.drop (0+T.length)=(fo T).map eR.row:=by
       rw [Nat.zero_add,List.drop_of_length_le (by omega)];simp
      rw [df] at dE;exact dE
end
end Go.Eng
namespace Go.Eng
noncomputable section
structure Tok where
 kind:Nat
 text:List UInt8
 at_:Nat
def Tok.row (t:Tok):List V:=[.int .i64 (t.kind:Int),L.str t.text, .int .i64 (t.at_:Int)]
structure dV where
 aT:Nat
 cr:Nat
 to:Nat
 cap:Option Nat
 aP:List Tok
def dV.toks (p:dV):Fact:= .aE (fun h=>Rows 3 h (.au p.cr p.to p.aP.length p.cap) (p.aP.map Tok.row))
structure vU (s:List UInt8):Prop where
 ne:s≠[]
 len:s.length≤9
 Qz:∀b∈s,48≤b.toNat∧b.toNat≤57
def num (s:List UInt8):Nat:=s.foldl (fun n b=>n * 10+(b.toNat - 48)) 0
theorem KU {s:List UInt8} {k:Nat} {b:UInt8} (hb:s[k]? =some b):num (s.take (k+1))=num (s.take k) * 10+(b.toNat - 48):=by
 unfold num
 rw [List.take_add_one,hb];simp
theorem QA:∀(n:Nat) (s:List UInt8),s.length=n→(∀b∈s,b.toNat≤57)→num s<10 ^ n
 |0,s,ar,_=>by
  obtain rfl:s=[]:=by simpa using ar
  simp [num]
 |n+1,s,ar,aQ=>by
  have hk:n<s.length:=by omega
  have h1:=KU (s:=s) (k:=n) (List.getElem?_eq_getElem hk)
  have h2:=QA n (s.take n) (by simp;omega) (fun b hb=>aQ b (List.mem_of_mem_take hb))
  have a6:=aQ _ (List.getElem_mem hk)
  rw [List.take_of_length_le (by omega)] at h1
  rw [h1,Nat.pow_succ];omega
theorem vU.bound {s:List UInt8} (d:vU s) (k:Nat):num (s.take k)<1000000000:=by
 have h1:=QA (s.take k).length (s.take k) rfl fun b hb=>(d.Qz b (List.mem_of_mem_take hb)).2
 have h2:(s.take k).length≤9:=by simp;have:=d.len;omega
 have a6:10 ^ (s.take k).length≤10 ^ 9:=Nat.pow_le_pow_right (by omega) h2
 omega
structure Left (p:dV) (i:Nat) (l:List Tok):Prop where
 drop:p.aP.drop i=l
 ne:l≠[]
 last:∀t,l.getLast? =some t→t.kind=0
 num:∀t∈l,t.kind=2→vU t.text
 small:p.aP.length<4294967296
theorem Left.get {p:dV} {i:Nat} {t:Tok} {l:List Tok} (h:Left p i (t::l)):p.aP[i]? =some t∧i<p.aP.length:=by
 have h1:(p.aP.drop i)[0]? =some t:=by rw [h.drop];rfl
 rw [List.getElem?_drop,Nat.add_zero] at h1
 exact ⟨h1,(List.getElem?_eq_some_iff.1 h1).1⟩
theorem Left.row {p:dV} {i:Nat} {t:Tok} {l:List Tok} (h:Left p i (t::l)):(p.aP.map Tok.row)[i]? =some t.row:=by
 rw [List.getElem?_map,h.get.1];rfl
theorem Left.next {p:dV} {i:Nat} {t:Tok} {l:List Tok} (h:Left p i (t::l)) (hk:t.kind≠0):Left p (i+1) l:=by
 have bG:l≠[]:=by
  intro e;subst e
  exact hk (h.last t rfl)
 refine ⟨?_,bG,fun u hu=>h.last u ?_,fun u hu=>h.num u (List.mem_cons_of_mem _ hu),h.small⟩
 · rw [←List.drop_drop,h.drop];rfl
 · rw [List.getLast?_cons_of_ne_nil bG];exact hu
theorem Left.cons {p:dV} {i:Nat} {l:List Tok} (h:Left p i l):∃t aI,l=t::aI:=by
 cases l with
 |nil=>exact absurd rfl h.ne
 |cons t aI=>exact ⟨t,aI,rfl⟩
namespace Par
def aQ:List Tok→Tok
 |[]=>⟨0,[],0⟩
 |t::_=>t
def is (s:List UInt8) (l:List Tok):Bool:=decide ((aQ l).text=s)&&(decide ((aQ l).kind=4)||decide ((aQ l).kind=3))
def here (l:List Tok):Nat:=(aQ l).at_
abbrev R (α:Type):=Except (Nat×Nat) (α×List Tok)
def fail {α:Type} (e:Nat) (l:List Tok):R α:= .error (e,here l)
def must (s:List UInt8) (l:List Tok):R Nat:=if is s l=true then .ok (here l,l.tail) else fail 11 l
def of (kind:Nat) (l:List Tok):R Tok:=if (aQ l).kind=kind then .ok (aQ l,l.tail) else fail 11 l
def name (l:List Tok):R (List UInt8):=match of 1 l with
 | .ok (t,l)=> .ok (t.text,l)
 | .error e=> .error e
def number (l:List Tok):R Nat:=match of 2 l with
 | .ok (t,l)=> .ok (Go.Eng.num t.text,l)
 | .error e=> .error e
def ij (l:List Tok):R (List UInt8×List UInt8):=match name l with
 | .error e=> .error e
 | .ok (a,l)=>if is [46] l=true then (match name l.tail with
   | .error e=> .error e
   | .ok (b,l)=> .ok ((a,b),l)) else .ok (([],a),l)
end Par
theorem Left.tail {p:dV} {i:Nat} {l:List Tok} (h:Left p i l) (hk:(Par.aQ l).kind≠0):Left p (i+1) l.tail:=by
 obtain ⟨t,l,rfl⟩:=h.cons
 exact h.next hk
theorem Left.is {p:dV} {i:Nat} {l:List Tok} {s:List UInt8} (h:Left p i l) (ag:Par.is s l=true):Left p (i+1) l.tail:=h.tail fun e=>by simp [Par.is,e] at ag
theorem Left.lt {p:dV} {i:Nat} {l:List Tok} (h:Left p i l):i<p.aP.length:=by
 obtain ⟨t,l,rfl⟩:=h.cons
 exact h.get.2
theorem Left.len {p:dV} {i:Nat} {l:List Tok} (h:Left p i l):l.length=p.aP.length - i:=by rw [←h.drop,List.length_drop]
end
end Go.Eng
namespace Go.Eng
noncomputable section
def aau (T:Nat) (e a:Nat):V:= .ez T (.agg [.int .i64 (e:Int), .int .i64 (a:Int)])
def QB {α:Type} (p:dV) (T:Nat) (res:Par.R α) (P:α→Nat→V→ae→Prop) (E:ae→Prop) (r:a7):Prop:=match res with
 | .ok (a,l)=>∃v h1 i,r= .ok v h1∧Left p i l∧P a i v h1
 | .error (e,a)=>∃h1,r= .c8 (aau T e a) h1∧E h1
theorem QB.ok {α:Type} {p:dV} {T:Nat} {res:Par.R α} {P:α→Nat→V→ae→Prop} {E:ae→Prop} {x:α} {l:List Tok} {v:V} {i:Nat} {h1:ae} (hr:res= .ok (x,l)) (ar:Left p i l) (nH:P x i v h1):QB p T res P E (.ok v h1):=by
 subst hr;exact ⟨v,h1,i,rfl,ar,nH⟩
end
end Go.Eng
namespace Go.Eng
noncomputable section
end
end Go.Eng
namespace Go.Eng
noncomputable section
structure bJ where
 kind:Nat
 num:Int
 mod:List UInt8
 name:List UInt8
 a:Int
 b:Int
 at_:Nat
def bJ.row (n:bJ):List V:=[.int .i64 (n.kind:Int), .int .i64 n.num,L.str n.mod,L.str n.name, .int .i64 n.a, .int .i64 n.b, .int .i64 (n.at_:Int)]
abbrev gZ:=List UInt8×Nat
namespace Par
def find (ops:List gZ) (l:List Tok):Option gZ:=ops.find? fun o=>is o.1 l
abbrev E:=Nat→List Tok→List bJ→R (Nat×List bJ)
def kJ (un:E) (ops:List gZ):Nat→Nat→List Tok→Nat→List bJ→R (Nat×List bJ)
 |0,_,l,a,ns=> .ok ((a,ns),l)
 |f+1,d,l,a,ns=>match find ops l with
  |none=> .ok ((a,ns),l)
  |some o=>match un d l.tail ns with
   | .error e=> .error e
   | .ok ((b,ns),aI)=>kJ un ops f d aI ns.length (ns++[⟨o.2,0,[],[],(a:Int),(b:Int),here l⟩])
def chain (un:E) (ops:List gZ):E:=fun d l ns=>match un d l ns with
 | .error e=> .error e
 | .ok ((a,ns),l)=>kJ un ops l.length d l a ns
def uE:List gZ:=[([42],7),([47],8),([37],9)]
def vV:List gZ:=[([43],5),([45],6)]
def qF:List gZ:=[([61,61],10),([60,61],12),([60],11)]
def oE:List gZ:=[([45],3),([33],4)]
def term (un:E):E:=chain un uE
def sum (un:E):E:=chain (term un) vV
def whole (un:E):E:=fun d l ns=>match sum un d l ns with
 | .error e=> .error e
 | .ok ((a,ns),l)=>match find qF l with
   |none=> .ok ((a,ns),l)
   |some o=>match sum un d l.tail ns with
    | .error e=> .error e
    | .ok ((b,ns),aI)=> .ok ((ns.length,ns++[⟨o.2,0,[],[],(a:Int),(b:Int),here l⟩]),aI)
def pE (un:E):E:=fun d l ns=>match find oE l with
 |some o=>if 40≤d then fail 12 l else (match un (d+1) l.tail ns with
  | .error e=> .error e
  | .ok ((a,ns),aI)=> .ok ((ns.length,ns++[⟨o.2,0,[],[],(a:Int), -1,here l⟩]),aI))
 |none=>if is [40] l=true then (if 40≤d then fail 12 l else (match whole un (d+1) l.tail ns with
   | .error e=> .error e
   | .ok ((a,ns),aI)=>match must [41] aI with
     | .error e=> .error e
     | .ok (_,aI)=> .ok ((a,ns),aI)))
  else if (aQ l).kind=2 then (match number l with
   | .error e=> .error e
   | .ok (n,aI)=> .ok ((ns.length,ns++[⟨1,(n:Int),[],[], -1, -1,here l⟩]),aI))
  else (match ij l with
   | .error e=> .error e
   | .ok ((m,n),aI)=> .ok ((ns.length,ns++[⟨2,0,m,n, -1, -1,here l⟩]),aI))
def unary:Nat→E
 |0=>fun _ _ _=> .error (0,0)
 |f+1=>pE (unary f)
end Par
def Par.Good (un:Par.E) (N:Nat):Prop:=∀{d:Nat} {l:List Tok} {ns:List bJ} {a:Nat} {vW:List bJ} {aI:List Tok},l.length≤N→un d l ns= .ok ((a,vW),aI)→aI.length<l.length∧vW.length+aI.length≤ns.length+l.length
theorem Par.Good.mono {un:Par.E} {N QC:Nat} (h:Par.Good un N) (hn:QC≤N):Par.Good un QC:=fun ar hr=>h (Nat.le_trans ar hn) hr
theorem Par.aav {k:Nat} {l aI:List Tok} {t:Tok} (hk:k≠0) (h:Par.of k l= .ok (t,aI)):aI.length<l.length:=by
 unfold Par.of at h
 by_cases bQ:(Par.aQ l).kind=k
 · rw [if_pos bQ] at h;cases h
   cases l with
   |nil=>exact absurd bQ.symm hk
   |cons a l=>simp
 · rw [if_neg bQ] at h;cases h
theorem Par.QD {s:List UInt8} {l:List Tok} (h:Par.is s l=true):0<l.length:=by
 cases l with
 |nil=>simp [Par.is,Par.aQ] at h
 |cons a l=>simp
theorem Par.QE {s:List UInt8} {l aI:List Tok} {a:Nat} (h:Par.must s l= .ok (a,aI)):aI.length<l.length:=by
 unfold Par.must at h
 by_cases bQ:Par.is s l=true
 · rw [if_pos bQ] at h;cases h
   have:=Par.QD bQ
   have zi:l.tail.length=l.length - 1:=List.length_tail
   omega
 · rw [if_neg bQ] at h;cases h
theorem Par.QF {l aI:List Tok} {a:List UInt8} (h:Par.name l= .ok (a,aI)):aI.length<l.length:=by
 unfold Par.name at h
 cases bd:Par.of 1 l with
 |error e=>rw [bd] at h;cases h
 |ok x=>obtain ⟨t,aW⟩:=x;rw [bd] at h;cases h;exact Par.aav (by decide) bd
def Par.expr (d:Nat) (l:List Tok):Par.R (List bJ):=match Par.whole (Par.unary l.length) d l [] with
 | .error e=> .error e
 | .ok ((_,ns),l)=> .ok (ns,l)
end
end Go.Eng
namespace Go.Eng
noncomputable section
inductive cx where
 |mk (kind at_:Nat) (mod name label:List UInt8) (has:Bool) (tomod to:List UInt8) (e:List bJ) (args:List (List bJ)) (body ag1:List cx)
def nO (h:ae):List (List bJ)→List V→Prop
 |[],[]=>True
 |e::as_,v::vs=>Rows 7 h v (e.map bJ.row)∧nO h as_ vs
 |_,_=>False
def na (h:ae) (v:V) (as_:List (List bJ)):Prop:=∃vs:List V,Rows 1 h v (vs.map fun x=>[x])∧nO h as_ vs
mutual
def mw (h:ae):cx→List V→Prop
 | .mk k a m n l ay qG t e as_ b el,row=>∃z1 cR lK b2,row=[.int .i64 (k:Int), .int .i64 (a:Int),L.str m,L.str n,L.str l, .bool ay,L.str qG,L.str t,z1,cR,lK,b2]∧
     Rows 7 h z1 (e.map bJ.row)∧na h cR as_∧(∃rows,Rows 12 h lK rows∧kK h b rows)∧(∃rows,Rows 12 h b2 rows∧kK h el rows)
def kK (h:ae):List cx→List (List V)→Prop
 |[],rows=>rows=[]
 |s::l,rows=>∃r rs,rows=r::rs∧mw h s r∧kK h l rs
end
def gR (h:ae) (v:V) (l:List cx):Prop:=∃rows,Rows 12 h v rows∧kK h l rows
theorem nO.snoc {h:ae}:∀{as_:List (List bJ)} {vs:List V} {e:List bJ} {v:V},nO h as_ vs→Rows 7 h v (e.map bJ.row)→nO h (as_++[e]) (vs++[v])
 |[],[],e,v,_,hr=>⟨hr,trivial⟩
 |_::_,_::_,e,v,ha,hr=>⟨ha.1,ha.2.snoc hr⟩
 |[],_::_,_,_,ha,_=>ha.elim
 |_::_,[],_,_,ha,_=>ha.elim
theorem kK.nil {h:ae}:kK h [] []:=by simp [kK]
theorem kK.snoc {h:ae}:∀{l:List cx} {rows:List (List V)} {s:cx} {row:List V},kK h l rows→mw h s row→kK h (l++[s]) (rows++[row])
 |[],rows,s,row,ar,ay=>by
  simp only [kK] at ar;subst ar
  simp only [List.nil_append,kK]
  exact ⟨row,[],rfl,ay,rfl⟩
 |a::l,rows,s,row,ar,ay=>by
  simp only [kK] at ar
  obtain ⟨r,rs,rfl,h1,h2⟩:=ar
  simp only [List.cons_append,kK]
  exact ⟨r,rs++[row],rfl,h1,kK.snoc h2 ay⟩
theorem KV {ev:dr} {x:A} {z v:V} (av:(ev x).dA=some [v]):fill [(0,1,x)] ev (rep 1 [z])=some [v]:=by
 show (Option.rec none (fun l=>bif (cI l).beq 1&&(Nat.add 0 1).ble (cI (rep 1 [z])) then some (gL 0 l (rep 1 [z])) else none) (ev x).dA:Option (List V))=_
 rw [av];rfl
theorem KW {ev:dr} {x:A} {n:Nat} {zero row:List V} (hx:ev x= .agg row) (ar:row.length=n) (hz:zero.length=n:=by rfl):fill [(0,n,x)] ev (rep 1 zero)=some [row].flatten:=by
 show (Option.rec none (fun l=>bif (cI l).beq n&&(Nat.add 0 n).ble (cI (rep 1 zero)) then some (gL 0 l (rep 1 zero)) else none) (ev x).dA:Option (List V))=_
 rw [hx]
 have aS:rep 1 zero=zero:=by
  show fx zero []=zero
  rw [o0,List.append_nil]
 show (bif (cI row).beq n&&(Nat.add 0 n).ble (cI (rep 1 zero)) then some (gL 0 row (rep 1 zero)) else none)=_
 have bl:(Nat.add 0 n).ble n=true:=by rw [ew];simp
 rw [aS,kX,kX,ar,hz,Nat.beq_refl,bl]
 show some (fx row (hJ (cI row) zero))=_
 rw [o0,oZ,kX,ar,←hz,List.drop_length];simp
namespace Par
def fin (s:cx) (l:List Tok):R cx:=match must [59] l with
 | .error e=> .error e
 | .ok (_,aI)=> .ok (s,aI)
def nb (d:Nat):Nat→List Tok→List (List bJ)→R (List (List bJ))
 |0,_,_=> .error (0,0)
 |f+1,l,as_=>if is [41] l=true then .ok (as_,l.tail) else
   match as_ with
   |[]=>(match expr d l with
    | .error e=> .error e
    | .ok (e,aI)=>nb d f aI [e])
   |a::as_=>(match must [44] l with
    | .error e=> .error e
    | .ok (_,aW)=>match expr d aW with
      | .error e=> .error e
      | .ok (e,aI)=>nb d f aI ((a::as_)++[e]))
structure rN where
 has:Bool
 mod:List UInt8
 name:List UInt8
 tomod:List UInt8
 to:List UInt8
 args:List (List bJ)
def pF (d:Nat) (c:rN) (l:List Tok):R rN:=match must [40] l with
 | .error e=> .error e
 | .ok (_,aW)=>match nb d aW.length aW [] with
   | .error e=> .error e
   | .ok (as_,bu)=> .ok ({c with args:=as_},bu)
def call (d:Nat) (l:List Tok):R rN:=match ij l with
 | .error e=> .error e
 | .ok (q,aW)=>if is [61] aW=true then (match ij aW.tail with
     | .error e=> .error e
     | .ok (r,bu)=>pF d ⟨true,q.1,q.2,r.1,r.2,[]⟩ bu)
   else pF d ⟨false,[],[],q.1,q.2,[]⟩ aW
abbrev nJ:=Nat→List Tok→R (List cx)
def vX (b7:nJ) (d a:Nat) (l:List Tok):R cx:=match expr d l with
 | .error e=> .error e
 | .ok (e,aW)=>match b7 d aW with
   | .error e=> .error e
   | .ok (b,bu)=>if is [101,108,115,101] bu=true then (match b7 d bu.tail with
       | .error e=> .error e
       | .ok (el,cC)=> .ok (.mk 5 a [] [] [] false [] [] e [] b el,cC))
     else .ok (.mk 5 a [] [] [] false [] [] e [] b [],bu)
def z6 (b7:nJ) (d a:Nat) (l:List Tok):R cx:=match expr d l with
 | .error e=> .error e
 | .ok (e,aW)=>match b7 d aW with
   | .error e=> .error e
   | .ok (b,bu)=> .ok (.mk 6 a [] [] [] false [] [] e [] b [],bu)
def z7 (d a:Nat) (l:List Tok):R cx:=match name l with
 | .error e=> .error e
 | .ok (n,aW)=>match must [58] aW with
   | .error e=> .error e
   | .ok (_,bu)=>match name bu with
     | .error e=> .error e
     | .ok (cq,cC)=>match must [61] cC with
       | .error e=> .error e
       | .ok (_,dY)=>match expr d dY with
         | .error e=> .error e
         | .ok (e,iA)=>fin (.mk 1 a [] n cq false [] [] e [] [] []) iA
def z8 (d a:Nat) (l:List Tok):R cx:=match must [61] l with
 | .error e=> .error e
 | .ok (_,aW)=>match expr d aW with
   | .error e=> .error e
   | .ok (e,bu)=>fin (.mk 3 a [] [] [] false [] [] e [] [] []) bu
def Aa (d a:Nat) (l:List Tok):R cx:=match call d l with
 | .error e=> .error e
 | .ok (c,aW)=>fin (.mk 4 a c.mod c.name [] c.has c.tomod c.to [] c.args [] []) aW
def Ab (a:Nat) (l:List Tok):R cx:=match name l with
 | .error e=> .error e
 | .ok (n,aW)=>fin (.mk 7 a [] n [] false [] [] [] [] [] []) aW
def Gf (a:Nat) (l:List Tok):R cx:=fin (.mk 8 a [] [] [] false [] [] [] [] [] []) l
def CV (d a:Nat) (l:List Tok):R cx:=match ij l with
 | .error e=> .error e
 | .ok (q,aW)=>match must [61] aW with
   | .error e=> .error e
   | .ok (_,bu)=>match expr d bu with
     | .error e=> .error e
     | .ok (e,cC)=>fin (.mk 2 a q.1 q.2 [] false [] [] e [] [] []) cC
def jr (b7:nJ) (d:Nat) (l:List Tok):R cx:=
 if is [105,102] l=true then vX b7 d (here l) l.tail else
 if is [119,104,105,108,101] l=true then z6 b7 d (here l) l.tail else
 if is [108,101,116] l=true then z7 d (here l) l.tail else
 if is [114,101,115,117,108,116] l=true then z8 d (here l) l.tail else
 if is [99,97,108,108] l=true then Aa d (here l) l.tail else
 if is [101,109,105,116] l=true then Ab (here l) l.tail else
 if is [115,107,105,112] l=true then Gf (here l) l.tail else CV d (here l) l
def nc (fP:Nat→List Tok→R cx) (d:Nat):Nat→List Tok→List cx→R (List cx)
 |0,_,_=> .error (0,0)
 |f+1,l,ss=>if is [125] l=true then .ok (ss,l.tail) else match fP d l with
  | .error e=> .error e
  | .ok (s,aI)=>nc fP d f aI (ss++[s])
def rO (fP:Nat→List Tok→R cx):nJ:=fun d l=>if is [123] l=true then (if 40≤d then fail 12 l else nc fP (d+1) l.tail.length l.tail []) else fail 11 l
def stmt:Nat→Nat→List Tok→R cx
 |0=>fun _ _=> .error (0,0)
 |f+1=>jr (rO (stmt f))
def block (d:Nat) (l:List Tok):R (List cx):=rO (stmt l.length) d l
end Par
end
end Go.Eng
namespace Go.Eng
noncomputable section
structure ck where
 name:List UInt8
 label:List UInt8
 at_:Nat
def ck.row (x:ck):List V:=[L.str x.name,L.str x.label, .int .i64 (x.at_:Int)]
structure gd where
 name:List UInt8
 label:List UInt8
 init:Int
 at_:Nat
def gd.row (x:gd):List V:=[L.str x.name,L.str x.label, .int .i64 x.init, .int .i64 (x.at_:Int)]
structure fV where
 name:List UInt8
 at_:Nat
def fV.row (x:fV):List V:=[L.str x.name, .int .i64 (x.at_:Int)]
structure dO where
 name:List UInt8
 params:List ck
 has:Bool
 result:List UInt8
 bO:List UInt8
 gp:List (List UInt8)
 body:List cx
 at_:Nat
def ik (u:List UInt8):List V:=[L.str u]
def xX (h:ae) (p:dO) (row:List V):Prop:=∃dv iB lK,row=[L.str p.name,dv, .bool p.has,L.str p.result,L.str p.bO,iB,lK, .int .i64 (p.at_:Int)]∧Rows 3 h dv (p.params.map ck.row)∧Rows 1 h iB (p.gp.map ik)∧gR h lK p.body∧(p.gp=[]→iB= .U)
def hB (h:ae):List dO→List (List V)→Prop
 |[],rows=>rows=[]
 |p::l,rows=>∃r rs,rows=r::rs∧xX h p r∧hB h l rs
structure e0 where
 name:List UInt8
 at_:Nat
 imports:List fV
 vars:List gd
 procs:List dO
def uF (h:ae) (m:e0) (row:List V):Prop:=∃rP fm dv,row=[L.str m.name, .int .i64 (m.at_:Int),rP,fm,dv]∧Rows 2 h rP (m.imports.map fV.row)∧Rows 4 h fm (m.vars.map gd.row)∧∃rows,Rows 8 h dv rows∧hB h m.procs rows
theorem hB.nil {h:ae}:hB h [] []:=rfl
theorem hB.snoc {h:ae}:∀{l:List dO} {rows:List (List V)} {s:dO} {row:List V},hB h l rows→xX h s row→hB h (l++[s]) (rows++[row])
 |[],rows,s,row,ar,ay=>by
  have ar:rows=[]:=ar
  subst ar;exact ⟨row,[],rfl,ay,rfl⟩
 |a::l,rows,s,row,ar,ay=>by
  obtain ⟨r,rs,rfl,h1,h2⟩:=ar
  exact ⟨r,rs++[row],rfl,h1,h2.snoc ay⟩
namespace Par
def js {α:Type} (one:α→List Tok→R α) (e:List UInt8):Nat→Nat→List Tok→α→R α
 |0,_,_,_=> .error (0,0)
 |f+1,n,l,x=>if is e l=true then .ok (x,l.tail) else
   if n=0 then (match one x l with
    | .error e=> .error e
    | .ok (y,aI)=>js one e f 1 aI y)
   else (match must [44] l with
    | .error e=> .error e
    | .ok (_,aW)=>match one x aW with
      | .error e=> .error e
      | .ok (y,aI)=>js one e f (n+1) aI y)
def ja {α:Type} (one:α→List Tok→R α) (e:List UInt8) (l:List Tok) (x:α):R α:=js one e l.length 0 l x
def oF (x:List ck) (l:List Tok):R (List ck):=match name l with
 | .error e=> .error e
 | .ok (n,aW)=>match must [58] aW with
   | .error e=> .error e
   | .ok (_,bu)=>match name bu with
     | .error e=> .error e
     | .ok (b,cC)=> .ok (x++[⟨n,b,here l⟩],cC)
def use (x:List (List UInt8)) (l:List Tok):R (List (List UInt8)):=match name l with
 | .error e=> .error e
 | .ok (n,aW)=> .ok (x++[n],aW)
def k7 (d:Nat) (q:dO) (l:List Tok):R dO:=match must [112,99] l with
 | .error e=> .error e
 | .ok (_,aW)=>match name aW with
   | .error e=> .error e
   | .ok (bO,bu)=>match must [117,115,101,115] bu with
     | .error e=> .error e
     | .ok (_,cC)=>match must [123] cC with
       | .error e=> .error e
       | .ok (_,dY)=>match ja use [125] dY [] with
         | .error e=> .error e
         | .ok (us,iA)=>match block d iA with
           | .error e=> .error e
           | .ok (b,Ac)=> .ok ({q with bO:=bO,gp:=us,body:=b},Ac)
def proc (d:Nat) (l:List Tok):R dO:=match name l with
 | .error e=> .error e
 | .ok (n,aW)=>match must [40] aW with
   | .error e=> .error e
   | .ok (_,bu)=>match ja oF [41] bu [] with
     | .error e=> .error e
     | .ok (aO,cC)=>if is [45,62] cC=true then (match name cC.tail with
         | .error e=> .error e
         | .ok (r,dY)=>k7 d ⟨n,aO,true,r,[],[],[],here l⟩ dY)
       else k7 d ⟨n,aO,false,[],[],[],[],here l⟩ cC
def jN (n cq:List UInt8) (at_:Nat) (neg:Bool) (l:List Tok):R gd:=match number l with
 | .error e=> .error e
 | .ok (k,aW)=>match must [59] aW with
   | .error e=> .error e
   | .ok (_,bu)=> .ok (⟨n,cq,if neg then -(k:Int) else (k:Int),at_⟩,bu)
def rQ (l:List Tok):R gd:=match name l with
 | .error e=> .error e
 | .ok (n,aW)=>match must [58] aW with
   | .error e=> .error e
   | .ok (_,bu)=>match name bu with
     | .error e=> .error e
     | .ok (b,cC)=>match must [61] cC with
       | .error e=> .error e
       | .ok (_,dY)=>if is [45] dY=true then jN n b (here l) true dY.tail else jN n b (here l) false dY
def ke:Nat→List Tok→List fV→R (List fV)
 |0,_,_=> .error (0,0)
 |f+1,l,x=>if is [105,109,112,111,114,116] l=true then (match name l.tail with
   | .error e=> .error e
   | .ok (n,aW)=>match must [59] aW with
     | .error e=> .error e
     | .ok (_,bu)=>ke f bu (x++[⟨n,here l.tail⟩]))
  else .ok (x,l)
def hQ (d:Nat):Nat→List Tok→List gd→List dO→R (List gd×List dO)
 |0,_,_,_=> .error (0,0)
 |f+1,l,vs,aO=>if (aQ l).kind=0 then .ok ((vs,aO),l) else
   if is [118,97,114] l=true then (match rQ l.tail with
    | .error e=> .error e
    | .ok (v,aW)=>hQ d f aW (vs++[v]) aO)
   else (match must [112,114,111,99] l with
    | .error e=> .error e
    | .ok (_,aW)=>match proc d aW with
      | .error e=> .error e
      | .ok (p,bu)=>hQ d f bu vs (aO++[p]))
def xY (d:Nat) (l:List Tok):R e0:=match must [109,111,100,117,108,101] l with
 | .error e=> .error e
 | .ok (_,aW)=>match name aW with
   | .error e=> .error e
   | .ok (n,bu)=>match must [59] bu with
     | .error e=> .error e
     | .ok (_,cC)=>match ke cC.length cC [] with
       | .error e=> .error e
       | .ok (is,dY)=>match hQ d dY.length dY [] [] with
         | .error e=> .error e
         | .ok (x,iA)=> .ok (⟨n,here aW,is,x.1,x.2⟩,iA)
def lL:Nat→List Tok→List UInt8→List ck→Bool→R ((List UInt8×Bool)×List ck)
 |0,_,_,_,_=> .error (0,0)
 |f+1,l,last,x,alone=>if is [60] l=true then (match name l.tail with
   | .error e=> .error e
   | .ok (n,aW)=>lL f aW n (x++[⟨last,n,here l.tail⟩]) false)
  else .ok (((last,alone),x),l)
def nd:Nat→List Tok→List ck→R (List ck)
 |0,_,_=> .error (0,0)
 |f+1,l,x=>if (aQ l).kind=0 then .ok (x,l) else match name l with
  | .error e=> .error e
  | .ok (n,aW)=>match lL aW.length aW n x true with
    | .error e=> .error e
    | .ok (((last,alone),y),bu)=>match must [59] bu with
      | .error e=> .error e
      | .ok (_,cC)=>nd f cC (if alone then y++[⟨last,[],here l⟩] else y)
def labels (l:List Tok):R (List ck):=match must [108,97,98,101,108,115] l with
 | .error e=> .error e
 | .ok (_,aW)=>nd aW.length aW []
end Par
end
end Go.Eng
namespace Go.Eng
noncomputable section
namespace Lex
def small (c:UInt8):Bool:=decide (97≤c.toNat)&&decide (c.toNat≤122)
def digit (c:UInt8):Bool:=decide (48≤c.toNat)&&decide (c.toNat≤57)
def within (c:UInt8):Bool:=small c||(digit c||decide (c.toNat=95))
def jt (c:UInt8):Bool:=decide (c.toNat≠10)
def blank (c:UInt8):Bool:=decide (c.toNat=32)||(decide (c.toNat=9)||(decide (c.toNat=10)||decide (c.toNat=13)))
def keys:List (List UInt8):=[[109,111,100,117,108,101],[105,109,112,111,114,116],[118,97,114],[112,114,111,99],[112,99],[117,115,101,115],[108,101,116],[99,97,108,108],[105,102],[101,108,115,101],[119,104,105,108,101],[101,109,105,116],[114,101,115,117,108,116],[115,107,105,112],[108,97,98,101,108,115]]
def lM:List (List UInt8):=[[61,61],[60,61],[45,62]]
def fW:List UInt8:=[40,41,123,125,44,59,58,46,61,60,43,45,42,47,37,33]
def vY (p l:List UInt8):Bool:=decide (p.length≤l.length)&&decide (l.take p.length=p)
def sign (l:List UInt8):List UInt8:=match lM.find? (vY · l) with
 |some t=>t
 |none=>match l with
  |[]=>[]
  |c::_=>if 0≤Lib.indexByte fW c then [c] else []
def word (w:List UInt8):Nat×Nat:=if w∈keys then (3,0) else if w.length>20 then (0,9) else (1,0)
def number (w f:List UInt8):Nat×Nat:=if w.length>9 then (0,9) else
 if w.head? =some 48∧w.length>1 then (0,10) else
 match f with
 |[]=>(2,0)
 |c::_=>if within c then (0,10) else (2,0)
def put (t:Nat×Nat) (w:List UInt8) (pos:Nat) (out:List Tok) (k:List Tok→Except (Nat×Nat) (List Tok)):Except (Nat×Nat) (List Tok):=if t.2≠0 then .error (t.2,pos) else k (out++[⟨t.1,w,pos⟩])
def all:Nat→Nat→List UInt8→List Tok→Except (Nat×Nat) (List Tok)
 |0,_,_,_=> .error (0,0)
 |_+1,pos,[],out=> .ok (out++[⟨0,[],pos⟩])
 |f+1,pos,c::r,out=>
  if blank c then all f (pos+1) r out else
  if c.toNat=35 then all f (pos+((c::r).takeWhile jt).length) ((c::r).drop ((c::r).takeWhile jt).length) out else
  if small c then put (word ((c::r).takeWhile within)) ((c::r).takeWhile within) pos out (all f (pos+((c::r).takeWhile within).length) ((c::r).drop ((c::r).takeWhile within).length)) else
  if digit c then put (number ((c::r).takeWhile digit) ((c::r).drop ((c::r).takeWhile digit).length)) ((c::r).takeWhile digit) pos out (all f (pos+((c::r).takeWhile digit).length) ((c::r).drop ((c::r).takeWhile digit).length)) else
  put (if sign (c::r)=[] then (4,10) else (4,0)) (sign (c::r)) pos out (all f (pos+(sign (c::r)).length) ((c::r).drop (sign (c::r)).length))
def lex (s:List UInt8):Except (Nat×Nat) (List Tok):=if 8192<s.length then .error (9,8192) else all (s.length+1) 0 s []
end Lex
theorem Ad {f:UInt8→Bool} {l:List UInt8} {k:Nat} {c:UInt8} (hk:l[k]? =some c) (hf:f c=true):(l.drop k).takeWhile f=c::(l.drop (k+1)).takeWhile f:=by
 obtain ⟨hlt,rfl⟩:=List.getElem?_eq_some_iff.1 hk
 rw [List.drop_eq_getElem_cons hlt,List.takeWhile_cons,if_pos hf]
theorem KX {f:UInt8→Bool} {l:List UInt8} {k:Nat} {c:UInt8} (hk:l[k]? =some c) (hf:f c=false):(l.drop k).takeWhile f=[]:=by
 obtain ⟨hlt,rfl⟩:=List.getElem?_eq_some_iff.1 hk
 rw [List.drop_eq_getElem_cons hlt,List.takeWhile_cons,if_neg (by simp [hf])]
def Ae (aP:List Tok):Prop:=∀t∈aP,t.kind=2→vU t.text
theorem Ae.snoc {aP:List Tok} {t:Tok} (h:Ae aP) (ht:t.kind=2→vU t.text):Ae (aP++[t]):=by
 intro u hu
 rcases List.mem_append.1 hu with hu|hu
 · exact h u hu
 · simp at hu;subst hu;exact ht
theorem Lex.Af {t:Nat×Nat} {w:List UInt8} {pos:Nat} {out aP:List Tok} {k:List Tok→Except (Nat×Nat) (List Tok)} (h:Lex.put t w pos out k= .ok aP):t.2=0∧k (out++[⟨t.1,w,pos⟩])= .ok aP:=by
 unfold Lex.put at h
 by_cases he:t.2≠0
 · rw [if_pos he] at h;cases h
 · rw [if_neg he] at h;exact ⟨by omega,h⟩
theorem Lex.aaw (w:List UInt8):(Lex.word w).1≠2:=by
 unfold Lex.word;split
 · decide
 · split<;>decide
theorem Lex.aax {w f:List UInt8} (hw:∀b∈w,Lex.digit b=true) (bG:w≠[]) (h:(Lex.number w f).2=0):vU w:=by
 refine ⟨bG, ?_,fun b hb=> ?_⟩
 · unfold Lex.number at h
   by_cases ar:w.length>9
   · rw [if_pos ar] at h;cases h
   · omega
 · have:=hw b hb
   simp [Lex.digit] at this;exact this
theorem QG {α:Type} {p:α→Bool}:∀{l:List α} {x:α},x∈l.takeWhile p→p x=true
 |[],x,h=>by simp at h
 |a::l,x,h=>by
  rw [List.takeWhile_cons] at h
  by_cases hp:p a=true
  · rw [if_pos hp] at h
    rcases List.mem_cons.1 h with rfl|h
    · exact hp
    · exact QG h
  · rw [if_neg hp] at h;simp at h
theorem Lex.Ag:∀{f pos:Nat} {r:List UInt8} {out aP:List Tok},Lex.all f pos r out= .ok aP→Ae out→∃us a,aP=us++[⟨0,[],a⟩]∧Ae us
 |0,_,_,_,_,h,_=>by cases h
 |f+1,pos,[],out,aP,h,bd=>by
  simp only [Lex.all] at h;cases h;exact ⟨out,pos,rfl,bd⟩
 |f+1,pos,c::r,out,aP,h,bd=>by
  simp only [Lex.all] at h
  by_cases h1:Lex.blank c=true
  · rw [if_pos h1] at h;exact Lex.Ag h bd
  rw [if_neg h1] at h
  by_cases h2:c.toNat=35
  · rw [if_pos h2] at h;exact Lex.Ag h bd
  rw [if_neg h2] at h
  by_cases a6:Lex.small c=true
  · rw [if_pos a6] at h
    obtain ⟨iv,h⟩:=Lex.Af h
    exact Lex.Ag h (bd.snoc fun hk=>absurd hk (Lex.aaw _))
  rw [if_neg a6] at h
  by_cases cc:Lex.digit c=true
  · rw [if_pos cc] at h
    obtain ⟨iv,h⟩:=Lex.Af h
    refine Lex.Ag h (bd.snoc fun _=>Lex.aax (fun b hb=>QG hb) ?_ iv)
    rw [List.takeWhile_cons,if_pos cc];simp
  rw [if_neg cc] at h
  obtain ⟨iv,h⟩:=Lex.Af h
  refine Lex.Ag h (bd.snoc fun hk=> ?_)
  by_cases ay:Lex.sign (c::r)=[]
  · simp [ay] at iv
  · simp [ay] at hk
theorem Left.start {p:dV} {us:List Tok} {a:Nat} (h:p.aP=us++[⟨0,[],a⟩]) (hn:Ae us) (ay:p.aP.length<4294967296):Left p 0 p.aP:=by
 refine ⟨rfl,by rw [h];simp,fun t ht=> ?_,fun t ht hk=> ?_,ay⟩
 · rw [h] at ht;simp at ht;rw [←ht]
 · rw [h] at ht
   rcases List.mem_append.1 ht with ht|ht
   · exact hn t ht hk
   · simp at ht;subst ht;cases hk
theorem Lex.vZ:∀{f pos:Nat} {r:List UInt8} {out aP:List Tok},Lex.all f pos r out= .ok aP→aP.length≤out.length+f
 |0,_,_,_,_,h=>by cases h
 |f+1,pos,[],out,aP,h=>by
  simp only [Lex.all] at h;cases h;simp
 |f+1,pos,c::r,out,aP,h=>by
  simp only [Lex.all] at h
  by_cases h1:Lex.blank c=true
  · rw [if_pos h1] at h;have:=Lex.vZ h;omega
  rw [if_neg h1] at h
  by_cases h2:c.toNat=35
  · rw [if_pos h2] at h;have:=Lex.vZ h;omega
  rw [if_neg h2] at h
  by_cases a6:Lex.small c=true
  · rw [if_pos a6] at h
    have:=Lex.vZ (Lex.Af h).2;simp at this;omega
  rw [if_neg a6] at h
  by_cases cc:Lex.digit c=true
  · rw [if_pos cc] at h
    have:=Lex.vZ (Lex.Af h).2;simp at this;omega
  rw [if_neg cc] at h
  have:=Lex.vZ (Lex.Af h).2;simp at this;omega
end
end Go.Eng
namespace Go.Eng
noncomputable section
namespace Par
structure pG (aP fQ:List Tok) (m:Nat):Prop where
 le:m≤aP.length
 aay:m≤fQ.length
 same:∀j,j<m→aP[j]? =fQ[j]?
 last:∀t,aP.getLast? =some t→t.kind=0
section
variable {aP fQ:List Tok} {m:Nat} {α β:Type}
def iR (aP fQ:List Tok) (m i k:Nat) (r dt:R α):Prop:=
 (∃x i1,r= .ok (x,aP.drop i1)∧i≤i1∧k≤i1∧i1<aP.length∧(i1<m→dt= .ok (x,fQ.drop i1)))∨
 (∃e j,r= .error (e+1,here (aP.drop j))∧i≤j∧j<aP.length∧(j<m→dt= .error (e+1,here (aP.drop j))))
theorem iR.mono {i i1 k cu:Nat} {r dt:R α} (h:iR aP fQ m i1 cu r dt) (ag:i≤i1) (hk:k≤cu):iR aP fQ m i k r dt:=by
 rcases h with ⟨x,j,e,h1,h0,h2,a6⟩|⟨x,j,e,h1,h2,a6⟩
 · exact Or.inl ⟨x,j,e,by omega,by omega,h2,a6⟩
 · exact Or.inr ⟨x,j,e,by omega,h2,a6⟩
theorem iR.here {i k:Nat} {r dt:R α} (h:iR aP fQ m i k r dt) {j:Nat} (aR:j≤i):iR aP fQ m i j r dt:=by
 rcases h with ⟨x,j,e,h1,h0,h2,a6⟩|⟨x,j,e,h1,h2,a6⟩
 · exact Or.inl ⟨x,j,e,by omega,by omega,h2,a6⟩
 · exact Or.inr ⟨x,j,e,by omega,h2,a6⟩
theorem iR.any {i k:Nat} {r dt fI:R α} (h:iR aP fQ m i k r dt) (ag:m≤i):iR aP fQ m i k r fI:=by
 rcases h with ⟨x,j,e,h1,h0,h2,a6⟩|⟨x,j,e,h1,h2,a6⟩
 · exact Or.inl ⟨x,j,e,h1,h0,h2,fun h=>by omega⟩
 · exact Or.inr ⟨x,j,e,h1,h2,fun h=>by omega⟩
theorem iR.bind {i k cB:Nat} {r dt:R α} {f c5:α→List Tok→R β} (h:iR aP fQ m i k r dt) (K:∀x i1,i≤i1→k≤i1→i1<aP.length→iR aP fQ m i1 cB (f x (aP.drop i1)) (c5 x (fQ.drop i1))):
  iR aP fQ m i cB (match (generalizing:=false) r with| .error e=> .error e| .ok (x,l)=>f x l) (match (generalizing:=false) dt with| .error e=> .error e| .ok (x,l)=>c5 x l):=by
 rcases h with ⟨x,i1,rfl,h1,h0,h2,a6⟩|⟨e,j,rfl,h1,h2,a6⟩
 · by_cases hm:i1<m
   · rw [a6 hm];exact (K x i1 h1 h0 h2).mono h1 (Nat.le_refl _)
   · exact ((K x i1 h1 h0 h2).any (by omega)).mono h1 (Nat.le_refl _)
 · exact Or.inr ⟨e,j,rfl,h1,h2,fun hm=>by rw [a6 hm]⟩
theorem pG.aQ (T:pG aP fQ m) {i:Nat} (h:i<m):aQ (aP.drop i)=aQ (fQ.drop i):=by
 have e:=T.same i h
 have h1:=T.le;have h2:=T.aay
 rw [List.getElem?_eq_getElem (by omega),List.getElem?_eq_getElem (by omega)] at e
 rw [List.drop_eq_getElem_cons (l:=aP) (i:=i) (by omega),List.drop_eq_getElem_cons (l:=fQ) (i:=i) (by omega)]
 exact Option.some.inj e
theorem pG.here (T:pG aP fQ m) {i:Nat} (h:i<m):here (aP.drop i)=here (fQ.drop i):=by unfold Par.here;rw [T.aQ h]
theorem pG.is (T:pG aP fQ m) {i:Nat} (h:i<m) (s:List UInt8):is s (aP.drop i)=is s (fQ.drop i):=by unfold Par.is;rw [T.aQ h]
theorem pG.find (T:pG aP fQ m) {i:Nat} (h:i<m) (ops:List gZ):find ops (aP.drop i)=find ops (fQ.drop i):=by
 unfold Par.find;congr 1;funext o;rw [T.is h]
theorem pG.tail (T:pG aP fQ m) {i:Nat} (ag:i<aP.length) (hk:(Par.aQ (aP.drop i)).kind≠0):i+1<aP.length:=by
 apply Classical.byContradiction
 intro hn
 have e:i+1=aP.length:=by omega
 apply hk
 rw [List.drop_eq_getElem_cons ag]
 show aP[i].kind=0
 refine T.last _ ?_
 rw [List.getLast?_eq_getElem?,show aP.length - 1=i by omega,List.getElem?_eq_getElem ag]
theorem aaz {s:List UInt8} {l:List Tok} (h:is s l=true):(Par.aQ l).kind≠0:=fun e=>by simp [Par.is,e] at h
theorem pG.aaA (T:pG aP fQ m) {i:Nat} {s:List UInt8} (ag:i<aP.length) (h:Par.is s (aP.drop i)=true):i+1<aP.length:=T.tail ag (aaz h)
theorem iR.map {i k:Nat} {r dt:R α} (g:α→β) (h:iR aP fQ m i k r dt):iR aP fQ m i k (match (generalizing:=false) r with| .ok (t,l)=> .ok (g t,l)| .error e=> .error e) (match (generalizing:=false) dt with| .ok (t,l)=> .ok (g t,l)| .error e=> .error e):=by
 rcases h with ⟨x,i1,rfl,h1,h0,h2,a6⟩|⟨e,j,rfl,h1,h2,a6⟩
 · exact Or.inl ⟨g x,i1,rfl,h1,h0,h2,fun hm=>by rw [a6 hm]⟩
 · exact Or.inr ⟨e,j,rfl,h1,h2,fun hm=>by rw [a6 hm]⟩
def bH (r:R α) (f:α→List Tok→R β):R β:=match r with
 | .error e=> .error e
 | .ok (x,l)=>f x l
def uG (o:Option gZ) (a:R α) (g:gZ→R α):R α:=match o with
 |none=>a
 |some o=>g o
theorem iR.bH {i k cB:Nat} {r dt:R α} {f c5:α→List Tok→R β} (h:iR aP fQ m i k r dt) (K:∀x i1,i≤i1→k≤i1→i1<aP.length→iR aP fQ m i1 cB (f x (aP.drop i1)) (c5 x (fQ.drop i1))):
  iR aP fQ m i cB (Par.bH r f) (Par.bH dt c5):=iR.bind h K
theorem iR.uG (T:pG aP fQ m) {i k:Nat} {ops:List gZ} {a bf:R α} {g sU:gZ→R α} (ag:i<aP.length) (h0:iR aP fQ m i k a bf) (h1:∀o,i+1<aP.length→iR aP fQ m i k (g o) (sU o)):
  iR aP fQ m i k (Par.uG (find ops (aP.drop i)) a g) (Par.uG (find ops (fQ.drop i)) bf sU):=by
 have main:iR aP fQ m i k (Par.uG (find ops (aP.drop i)) a g) (Par.uG (find ops (aP.drop i)) bf sU):=by
  cases hf:find ops (aP.drop i) with
  |none=>exact h0
  |some o=>
   have bd:is o.1 (aP.drop i)=true:=List.find?_some (p:=fun o:gZ=>is o.1 (aP.drop i)) hf
   exact h1 o (T.aaA ag bd)
 by_cases hm:i<m
 · rw [←T.find hm];exact main
 · exact main.any (by omega)
theorem aaB (l:List Tok):name l=bH (of 1 l) fun t l=> .ok (t.text,l):=by kernel_rfl
theorem aaC (l:List Tok):number l=bH (of 2 l) fun t l=> .ok (Go.Eng.num t.text,l):=by kernel_rfl
theorem aaD (l:List Tok):ij l=bH (name l) fun a l=>if is [46] l=true then bH (name l.tail) fun b l=> .ok ((a,b),l) else .ok (([],a),l):=by kernel_rfl
theorem aaE (un:E) (ops:List gZ) (f d a:Nat) (l:List Tok) (ns:List bJ):kJ un ops (f+1) d l a ns=uG (find ops l) (.ok ((a,ns),l)) fun o=>bH (un d l.tail ns) fun x aI=>kJ un ops f d aI x.2.length (x.2++[⟨o.2,0,[],[],(a:Int),(x.1:Int),here l⟩]):=by kernel_rfl
theorem aaF (un:E) (ops:List gZ) (d:Nat) (l:List Tok) (ns:List bJ):chain un ops d l ns=bH (un d l ns) fun x aI=>kJ un ops aI.length d aI x.1 x.2:=by kernel_rfl
theorem aaG (un:E) (d:Nat) (l:List Tok) (ns:List bJ):whole un d l ns=bH (sum un d l ns) fun x aW=>uG (find qF aW) (.ok (x,aW)) fun o=>bH (sum un d aW.tail x.2) fun y aI=> .ok ((y.2.length,y.2++[⟨o.2,0,[],[],(x.1:Int),(y.1:Int),here aW⟩]),aI):=by kernel_rfl
theorem aaH (un:E) (d:Nat) (l:List Tok) (ns:List bJ):pE un d l ns=uG (find oE l)
  (if is [40] l=true then (if 40≤d then fail 12 l else bH (whole un (d+1) l.tail ns) fun x aI=>bH (must [41] aI) fun _ aI=> .ok (x,aI))
   else if (aQ l).kind=2 then bH (number l) fun n aI=> .ok ((ns.length,ns++[⟨1,(n:Int),[],[], -1, -1,here l⟩]),aI)
   else bH (ij l) fun q aI=> .ok ((ns.length,ns++[⟨2,0,q.1,q.2, -1, -1,here l⟩]),aI))
  fun o=>if 40≤d then fail 12 l else bH (un (d+1) l.tail ns) fun x aI=> .ok ((x.2.length,x.2++[⟨o.2,0,[],[],(x.1:Int), -1,here l⟩]),aI):=by kernel_rfl
theorem aaI (d:Nat) (l:List Tok):expr d l=bH (whole (unary l.length) d l []) fun x l=> .ok (x.2,l):=by kernel_rfl
end
end Par
end
end Go.Eng
namespace Go.Eng
noncomputable section
namespace Par
section
variable {aP fQ:List Tok} {m:Nat} {α β:Type}
theorem aaJ (s:cx) (l:List Tok):fin s l=bH (must [59] l) fun _ aI=> .ok (s,aI):=by kernel_rfl
theorem aaK (d f:Nat) (l:List Tok):nb d (f+1) l []=if is [41] l=true then .ok ([],l.tail) else bH (expr d l) fun e aI=>nb d f aI [e]:=by kernel_rfl
theorem aaL (d f:Nat) (l:List Tok) (a:List bJ) (as_:List (List bJ)):nb d (f+1) l (a::as_)=if is [41] l=true then .ok (a::as_,l.tail) else bH (must [44] l) fun _ aW=>bH (expr d aW) fun e aI=>nb d f aI ((a::as_)++[e]):=by kernel_rfl
theorem aaM (d:Nat) (c:rN) (l:List Tok):pF d c l=bH (must [40] l) fun _ aW=>bH (nb d aW.length aW []) fun as_ bu=> .ok ({c with args:=as_},bu):=by kernel_rfl
theorem aaN (d:Nat) (l:List Tok):call d l=bH (ij l) fun q aW=>if is [61] aW=true then bH (ij aW.tail) fun r bu=>pF d ⟨true,q.1,q.2,r.1,r.2,[]⟩ bu else pF d ⟨false,[],[],q.1,q.2,[]⟩ aW:=by kernel_rfl
theorem aaO (b7:nJ) (d a:Nat) (l:List Tok):vX b7 d a l=bH (expr d l) fun e aW=>bH (b7 d aW) fun b bu=>if is [101,108,115,101] bu=true then bH (b7 d bu.tail) fun el cC=> .ok (.mk 5 a [] [] [] false [] [] e [] b el,cC) else .ok (.mk 5 a [] [] [] false [] [] e [] b [],bu):=by kernel_rfl
theorem aaP (b7:nJ) (d a:Nat) (l:List Tok):z6 b7 d a l=bH (expr d l) fun e aW=>bH (b7 d aW) fun b bu=> .ok (.mk 6 a [] [] [] false [] [] e [] b [],bu):=by kernel_rfl
theorem aaQ (d a:Nat) (l:List Tok):z7 d a l=bH (name l) fun n aW=>bH (must [58] aW) fun _ bu=>bH (name bu) fun cq cC=>bH (must [61] cC) fun _ dY=>bH (expr d dY) fun e iA=>fin (.mk 1 a [] n cq false [] [] e [] [] []) iA:=by kernel_rfl
theorem aaR (d a:Nat) (l:List Tok):z8 d a l=bH (must [61] l) fun _ aW=>bH (expr d aW) fun e bu=>fin (.mk 3 a [] [] [] false [] [] e [] [] []) bu:=by kernel_rfl
theorem aaS (d a:Nat) (l:List Tok):Aa d a l=bH (call d l) fun c aW=>fin (.mk 4 a c.mod c.name [] c.has c.tomod c.to [] c.args [] []) aW:=by kernel_rfl
theorem aaT (a:Nat) (l:List Tok):Ab a l=bH (name l) fun n aW=>fin (.mk 7 a [] n [] false [] [] [] [] [] []) aW:=by kernel_rfl
theorem aaU (d a:Nat) (l:List Tok):CV d a l=bH (ij l) fun q aW=>bH (must [61] aW) fun _ bu=>bH (expr d bu) fun e cC=>fin (.mk 2 a q.1 q.2 [] false [] [] e [] [] []) cC:=by kernel_rfl
theorem aaV (fP:Nat→List Tok→R cx) (d f:Nat) (l:List Tok) (ss:List cx):nc fP d (f+1) l ss=if is [125] l=true then .ok (ss,l.tail) else bH (fP d l) fun s aI=>nc fP d f aI (ss++[s]):=by kernel_rfl
theorem aaW {x:α} (one:α→List Tok→R α) (e:List UInt8) (f n:Nat) (l:List Tok):js one e (f+1) n l x=if is e l=true then .ok (x,l.tail) else if n=0 then bH (one x l) fun y aI=>js one e f 1 aI y else bH (must [44] l) fun _ aW=>bH (one x aW) fun y aI=>js one e f (n+1) aI y:=by kernel_rfl
theorem aaX (x:List ck) (l:List Tok):oF x l=bH (name l) fun n aW=>bH (must [58] aW) fun _ bu=>bH (name bu) fun b cC=> .ok (x++[⟨n,b,here l⟩],cC):=by kernel_rfl
theorem aaY (x:List (List UInt8)) (l:List Tok):use x l=bH (name l) fun n aW=> .ok (x++[n],aW):=by kernel_rfl
theorem aaZ (d:Nat) (q:dO) (l:List Tok):k7 d q l=bH (must [112,99] l) fun _ aW=>bH (name aW) fun bO bu=>bH (must [117,115,101,115] bu) fun _ cC=>bH (must [123] cC) fun _ dY=>bH (ja use [125] dY []) fun us iA=>bH (block d iA) fun b Ac=> .ok ({q with bO:=bO,gp:=us,body:=b},Ac):=by kernel_rfl
theorem aa0 (d:Nat) (l:List Tok):proc d l=bH (name l) fun n aW=>bH (must [40] aW) fun _ bu=>bH (ja oF [41] bu []) fun aO cC=>if is [45,62] cC=true then bH (name cC.tail) fun r dY=>k7 d ⟨n,aO,true,r,[],[],[],here l⟩ dY else k7 d ⟨n,aO,false,[],[],[],[],here l⟩ cC:=by kernel_rfl
theorem aa1 (n cq:List UInt8) (at_:Nat) (neg:Bool) (l:List Tok):jN n cq at_ neg l=bH (number l) fun k aW=>bH (must [59] aW) fun _ bu=> .ok (⟨n,cq,if neg then -(k:Int) else (k:Int),at_⟩,bu):=by kernel_rfl
theorem aa2 (l:List Tok):rQ l=bH (name l) fun n aW=>bH (must [58] aW) fun _ bu=>bH (name bu) fun b cC=>bH (must [61] cC) fun _ dY=>if is [45] dY=true then jN n b (here l) true dY.tail else jN n b (here l) false dY:=by kernel_rfl
theorem aa3 (f:Nat) (l:List Tok) (x:List fV):ke (f+1) l x=if is [105,109,112,111,114,116] l=true then bH (name l.tail) fun n aW=>bH (must [59] aW) fun _ bu=>ke f bu (x++[⟨n,here l.tail⟩]) else .ok (x,l):=by kernel_rfl
theorem aa4 (d f:Nat) (l:List Tok) (vs:List gd) (aO:List dO):hQ d (f+1) l vs aO=if (aQ l).kind=0 then .ok ((vs,aO),l) else if is [118,97,114] l=true then bH (rQ l.tail) fun v aW=>hQ d f aW (vs++[v]) aO else bH (must [112,114,111,99] l) fun _ aW=>bH (proc d aW) fun p bu=>hQ d f bu vs (aO++[p]):=by kernel_rfl
theorem aa5 (d:Nat) (l:List Tok):xY d l=bH (must [109,111,100,117,108,101] l) fun _ aW=>bH (name aW) fun n bu=>bH (must [59] bu) fun _ cC=>bH (ke cC.length cC []) fun is dY=>bH (hQ d dY.length dY [] []) fun x iA=> .ok (⟨n,here aW,is,x.1,x.2⟩,iA):=by kernel_rfl
end
end Par
end
end Go.Eng
namespace Go.Eng
noncomputable section
namespace Lex
def aa6:List UInt8→List UInt8
 |[]=>[]
 |c::r=>if blank c then [c] else if c.toNat=35 then (c::r).takeWhile jt else if small c then (c::r).takeWhile within else if digit c then (c::r).takeWhile digit else sign (c::r)
structure Piece (l w r:List UInt8):Prop where
 split:l=w++r
 cut:aa6 l=w
end Lex
end
end Go.Eng
namespace Go.Eng
noncomputable section
end
end Go.Eng
namespace Go.Eng
noncomputable section
def bJ.s9 (n:bJ):bJ:={n with at_:=0}
def QH (b:Bool) (es rh:List bJ):Prop:=es.map bJ.s9=rh.map bJ.s9∧(b=true→es=rh)
def QI (b:Bool) (as_ mR:List (List bJ)):Prop:=mR.length=as_.length∧∀(i:Nat) (e bF:List bJ),as_[i]? =some e→mR[i]? =some bF→QH b e bF
mutual
inductive QK (b:Bool):cx→cx→Prop
 |mk {k a bf:Nat} {m n l:List UInt8} {ay:Bool} {qG t:List UInt8} {e bF:List bJ} {as_ mR:List (List bJ)} {nf QL el Bn:List cx} (ha:b=true→a=bf) (he:QH b e bF) (has:QI b as_ mR) (hb:Ah b nf QL) (ar:Ah b el Bn):
   QK b (.mk k a m n l ay qG t e as_ nf el) (.mk k bf m n l ay qG t bF mR QL Bn)
inductive Ah (b:Bool):List cx→List cx→Prop
 |nil:Ah b [] []
 |cons {s dE:cx} {l aI:List cx} (ay:QK b s dE) (ar:Ah b l aI):Ah b (s::l) (dE::aI)
end
def lN (as_:List (List bJ)):Nat:=as_.foldr (fun e n=>1+e.length+n) 0
mutual
def cx.bk:cx→Nat
 | .mk _ _ _ _ _ _ _ _ e as_ nf el=>1+e.length+lN as_+ju.bk nf+ju.bk el
def ju.bk:List cx→Nat
 |[]=>0
 |s::l=>cx.bk s+ju.bk l
end
end
end Go.Eng
namespace Go.Eng
noncomputable section
structure Ai {α:Type} (R:α→α→Prop) (l aI:List α):Prop where
 len:aI.length=l.length
 at_:∀(i:Nat) (x y:α),l[i]? =some x→aI[i]? =some y→R x y
structure aa7 (b:Bool) (x y:fV):Prop where
 name:x.name=y.name
 at_:b=true→x.at_=y.at_
structure aa8 (b:Bool) (x y:gd):Prop where
 name:x.name=y.name
 label:x.label=y.label
 init:x.init=y.init
 at_:b=true→x.at_=y.at_
structure aa9 (b:Bool) (x y:ck):Prop where
 name:x.name=y.name
 label:x.label=y.label
 at_:b=true→x.at_=y.at_
structure abb (b:Bool) (x y:dO):Prop where
 name:x.name=y.name
 has:x.has=y.has
 result:x.result=y.result
 bO:x.bO=y.bO
 gp:x.gp=y.gp
 params:Ai (aa9 b) x.params y.params
 body:Ah b x.body y.body
 at_:b=true→x.at_=y.at_
structure ag2 (b:Bool) (x y:e0):Prop where
 name:x.name=y.name
 at_:b=true→x.at_=y.at_
 imports:Ai (aa7 b) x.imports y.imports
 vars:Ai (aa8 b) x.vars y.vars
 procs:Ai (abb b) x.procs y.procs
structure ag3 (m:e0):Prop where
 imports:m.imports.length<4294967296
 vars:m.vars.length<4294967296
 procs:m.procs.length<4294967296
 proc:∀p∈m.procs,p.params.length<4294967296∧p.gp.length<4294967296∧ju.bk p.body<4294967296
theorem hB.at_ {h:ae}:∀{l:List dO} {rw:List (List V)} {i:Nat} {s:dO},hB h l rw→l[i]? =some s→∃row,rw[i]? =some row∧xX h s row
 |[],_,_,_,_,h=>by simp at h
 |a::l,rw,0,s,hr,h=>by
  simp only [hB] at hr
  obtain ⟨r,rs,rfl,h1,_⟩:=hr
  simp at h;subst h;exact ⟨r,rfl,h1⟩
 |a::l,rw,i+1,s,hr,h=>by
  simp only [hB] at hr
  obtain ⟨r,rs,rfl,_,h2⟩:=hr
  obtain ⟨row,a6,cc⟩:=hB.at_ (i:=i) (s:=s) h2 (by simpa using h)
  exact ⟨row,by simpa using a6,cc⟩
theorem aq.abd {fs:List Fact} {h:ae} {m:e0} {row:List V} (st:aq (.aE (fun h=>uF h m row)::fs) h):
  ∃rP fm dv rw,row=[L.str m.name, .int .i64 (m.at_:Int),rP,fm,dv]∧
   aq (.aE (fun h=>Rows 2 h rP (m.imports.map fV.row)):: .aE (fun h=>Rows 4 h fm (m.vars.map gd.row)):: .aE (fun h=>Rows 8 h dv rw):: .aE (fun h=>hB h m.procs rw)::fs) h:=by
 obtain ⟨rP,fm,dv,rfl,_⟩:=st.bt 0 rfl
 have all:∀h,uF h m [L.str m.name, .int .i64 (m.at_:Int),rP,fm,dv]→Rows 2 h rP (m.imports.map fV.row)∧Rows 4 h fm (m.vars.map gd.row)∧∃rows,Rows 8 h dv rows∧hB h m.procs rows:=by
  intro h hr
  obtain ⟨ag4,ag5,ag6,ge,g3,g4,g5⟩:=hr
  simp only [List.cons.injEq,true_and,and_true] at ge
  obtain ⟨rfl,rfl,rfl⟩:=ge
  exact ⟨g3,g4,g5⟩
 have s1:=st.imp fun h hr=>(all h hr).1
 have s2:=((s1.pick 1 rfl).imp fun h hr=>(all h hr).2.1)
 have fw:=((s2.pick 1 rfl).e4 fun h hr=>(all h hr).2.2)
 obtain ⟨rw,iG⟩:=fw.O0
 refine ⟨rP,fm,dv,rw,rfl, ?_⟩
 exact (iG.pick 2 rfl).pick 3 rfl
end
end Go.Eng
namespace Go.Eng
noncomputable section
namespace Fc
abbrev aL:=List UInt8
structure cM where
 mod:aL
 at_:Nat
 code:Nat
 name:aL
def cM.row (x:cM):List V:=[L.str x.mod, .int .i64 (x.at_:Int), .int .i64 (x.code:Int),L.str x.name]
def b4 (mod:aL):List aL→List (aL×Nat)→List cM
 |_,[]=>[]
 |A,x::l=>(if x.1∈A then [⟨mod,x.2,6,x.1⟩] else [])++b4 mod (A++[x.1]) l
theorem KY (mod:aL):∀(l k:List (aL×Nat)) (A:List aL),b4 mod A (l++k)=b4 mod A l++b4 mod (A++l.map (·.1)) k
 |[],k,A=>by simp [b4]
 |x::l,k,A=>by
  show (if x.1∈A then _ else _)++b4 mod (A++[x.1]) (l++k)=((if x.1∈A then _ else _)++b4 mod (A++[x.1]) l)++_
  rw [KY mod l k,List.append_assoc,List.map_cons,List.append_assoc];rfl
theorem Gg (mod:aL) {l:List (aL×Nat)} {i:Nat} {x:aL×Nat} (A:List aL) (h:l[i]? =some x):b4 mod A (l.take (i+1))=b4 mod A (l.take i)++(if x.1∈A++(l.take i).map (·.1) then [⟨mod,x.2,6,x.1⟩] else []):=by
 rw [List.take_add_one,h,KY]
 show _++((if x.1∈_ then _ else _)++[])=_
 rw [List.append_nil]
theorem qI (mod:aL):∀(l:List (aL×Nat)) (A:List aL),(b4 mod A l).length≤l.length
 |[],_=>Nat.le_refl _
 |x::l,A=>by
  have:=qI mod l (A++[x.1])
  show ((if x.1∈A then [⟨mod,x.2,6,x.1⟩] else [])++b4 mod (A++[x.1]) l:List cM).length≤_
  rw [List.length_append,List.length_cons]
  split<;>simp<;>omega
def xZ (mod:aL) (A:List aL) (x:aL×Nat):List cM:=if x.1∈A then [⟨mod,x.2,6,x.1⟩] else []
def unk (mod:aL) (az:List aL) (x:aL×Nat):List cM:=if x.1∈az then [] else [⟨mod,x.2,7,x.1⟩]
theorem v7 (mod:aL) (az:List aL) (x:aL×Nat):(unk mod az x).length≤1:=by unfold unk;split<;>simp
def fb (m:e0):List (aL×Nat):=m.imports.map fun x=>(x.name,x.at_)
def dy (m:e0):List (aL×Nat):=m.vars.map fun x=>(x.name,x.at_)
def gS (m:e0):List (aL×Nat):=m.procs.map fun x=>(x.name,x.at_)
def gq (p:dO):List (aL×Nat):=p.params.map fun x=>(x.name,x.at_)
def v8 (m:e0):List cM:=b4 m.name [m.name] (fb m)++b4 m.name [] (dy m++gS m)++m.procs.flatMap fun p=>b4 m.name [] (gq p)
def kf (p:dO):List (aL×Nat):=p.params.map fun x=>(x.label,x.at_)
def jb (mod:aL) (az:List aL) (p:dO):List cM:=(kf p).flatMap (unk mod az)++(if p.has then unk mod az (p.result,p.at_) else [])++unk mod az (p.bO,p.at_)
theorem QM (mod:aL) (az:List aL) {p:dO} (h:p.params.length≤8193):(jb mod az p).length≤8195:=by
 have h1:=Lab.zW (f:=unk mod az) (n:=1) (l:=kf p) fun x _=>v7 mod az x
 have h2:(kf p).length=p.params.length:=List.length_map _
 have a6:=v7 mod az (p.result,p.at_)
 have cc:=v7 mod az (p.bO,p.at_)
 unfold jb
 rw [List.length_append,List.length_append]
 split
 · omega
 · rw [List.length_nil];omega
def gT (m:e0):List (aL×Nat):=m.vars.map fun x=>(x.label,x.at_)
def Gh (m:e0) (az:List aL):List cM:=(gT m).flatMap (unk m.name az)++m.procs.flatMap (jb m.name az)
def iS (m:e0) (az:List aL):List cM:=v8 m++Gh m az
structure gi where
 name:aL
 params:List aL
 has:Bool
 result:aL
 bO:aL
 gp:List aL
def k8 (p:dO):gi:=⟨p.name,p.params.map (·.label),p.has,p.result,p.bO,mY p.gp⟩
def ng (x:aL×aL):List V:=[L.str x.1,L.str x.2, .int .i64 0, .int .i64 0]
def Aj (m:e0):List (aL×aL):=fo (m.vars.map fun x=>(x.name,x.label))
def uH (m:e0):List gi:=(fo (m.procs.map fun p=>(p.name,k8 p))).map (·.2)
theorem CW {α β:Type} {l:List α} {i:Nat} {x:α} (f:α→List β) (h:l[i]? =some x):(l.take (i+1)).flatMap f=(l.take i).flatMap f++f x:=by
 rw [List.take_add_one,h,List.flatMap_append];simp
theorem CX {α β:Type} {f:α→List β} {n:Nat} {l:List α} (h:∀x∈l,(f x).length≤n) (i:Nat):((l.take i).flatMap f).length≤l.length * n:=by
 have h1:∀x∈l.take i,(f x).length≤n:=fun x hx=>h x (List.mem_of_mem_take hx)
 refine Nat.le_trans (Lab.zW h1) (Nat.mul_le_mul_right n ?_)
 rw [List.length_take];exact Nat.min_le_right _ _
theorem x0 {α β:Type} {l:List α} {i:Nat} {x:α} (f:α→β) (h:l[i]? =some x):(l.take (i+1)).map f=(l.take i).map f++[f x]:=by
 rw [List.take_add_one,h,List.map_append];rfl
end Fc
structure jc where
 p:V
 u:V
 b:V
def x2 (p:dO) (q:jc):List V:=[L.str p.name,q.p, .bool p.has,L.str p.result,L.str p.bO,q.u,q.b, .int .i64 (p.at_:Int)]
def oG (aO:List dO) (dP:List jc):List (List V):=List.zipWith x2 aO dP
def QN (h:ae) (aO:List dO) (dP:List jc):Prop:=∀(i:Nat) (p:dO) (q:jc),aO[i]? =some p→dP[i]? =some q→Rows 3 h q.p (p.params.map ck.row)∧Rows 1 h q.u (SR p.gp)
theorem wc {aO:List dO} {dP:List jc} {i:Nat} {p:dO} {q:jc} (hp:aO[i]? =some p) (bB:dP[i]? =some q):(oG aO dP)[i]? =some (x2 p q):=by
 unfold oG;rw [List.getElem?_zipWith,hp,bB]
theorem nP {aO:List dO} {dP:List jc} (h:dP.length=aO.length):(oG aO dP).length=aO.length:=by
 unfold oG;rw [List.length_zipWith,h,Nat.min_self]
structure lO where
 i:V
 v:V
 p:V
 dP:List jc
def CY (m:e0) (w:lO):List V:=[L.str m.name, .int .i64 (m.at_:Int),w.i,w.v,w.p]
structure cA (h:ae) (m:e0) (w:lO):Prop where
 Gi:Rows 2 h w.i (m.imports.map fV.row)
 vars:Rows 4 h w.v (m.vars.map gd.row)
 procs:Rows 8 h w.p (oG m.procs w.dP)
 all:QN h m.procs w.dP
structure lP (m:e0) (w:lO):Prop where
 len:w.dP.length=m.procs.length
 nil:∀(i:Nat) (p:dO) (q:jc),m.procs[i]? =some p→w.dP[i]? =some q→p.gp=[]→q.u= .U
 KZ:m.imports.length≤8193
 x3:m.vars.length≤8193
 jh:m.procs.length≤8193
 pa:∀p∈m.procs,p.params.length≤8193∧p.gp.length≤8193
theorem lP.pv {m:e0} {w:lO} (ok:lP m w) {i:Nat} {p:dO} (h:m.procs[i]? =some p):∃q,w.dP[i]? =some q∧p.params.length≤8193∧p.gp.length≤8193∧(p.gp=[]→q.u= .U):=by
 have ar:=(List.getElem?_eq_some_iff.1 h).1
 have bB:w.dP[i]? =some (w.dP[i]'(by rw [ok.len];exact ar)):=List.getElem?_eq_getElem (by rw [ok.len];exact ar)
 have:=ok.pa p (List.mem_of_getElem? h)
 exact ⟨_,bB,this.1,this.2,ok.nil i p _ h bB⟩
theorem Fc.QO {m:e0} {w:lO} (ok:lP m w):(Fc.v8 m).length≤67200000:=by
 have h1:=Fc.qI m.name (Fc.fb m) [m.name]
 have h2:=Fc.qI m.name (Fc.dy m++Fc.gS m) []
 have a6:=Lab.zW (f:=fun p=>Fc.b4 m.name [] (Fc.gq p)) (n:=8193) (l:=m.procs) fun p hp=>Nat.le_trans (Fc.qI _ _ _) (by unfold Fc.gq;rw [List.length_map];exact (ok.pa p hp).1)
 have aS:(Fc.fb m).length=m.imports.length:=List.length_map _
 have bl:(Fc.dy m).length=m.vars.length:=List.length_map _
 have df:(Fc.gS m).length=m.procs.length:=List.length_map _
 have:=ok.KZ;have:=ok.x3;have:=ok.jh
 unfold Fc.v8
 rw [List.length_append,List.length_append]
 rw [List.length_append] at h2
 omega
structure fp where
 p:V
 u:V
def uI (g:Fc.gi) (q:fp):List V:=[L.str g.name,q.p, .bool g.has,L.str g.result,L.str g.bO,q.u]
def Gj (h:ae) (g:Fc.gi) (q:fp):Prop:=Rows 1 h q.p (SR g.params)∧Rows 1 h q.u (SR g.gp)
def kL (h:ae) (gs:List (Fc.gi×fp)):Prop:=∀x∈gs,Gj h x.1 x.2
def gu (gs:List (Fc.gi×fp)):List (List V):=gs.map fun x=>uI x.1 x.2
def nQ (h:ae) (fm dv:V) (vs:List (Fc.aL×Fc.aL)) (aO:List Fc.gi):Prop:=Rows 4 h fm (vs.map Fc.ng)∧∃gs:List (Fc.gi×fp),gs.map (·.1)=aO∧Rows 6 h dv (gu gs)∧kL h gs
theorem nQ.none (h:ae):nQ h .U .U [] []:=⟨.nil,[],rfl, .nil,fun x hx=>by cases hx⟩
theorem kL.snoc {h:ae} {gs:List (Fc.gi×fp)} {g:Fc.gi} {q:fp} (a:kL h gs) (b:Gj h g q):kL h (gs++[(g,q)]):=by
 intro x hx
 rcases List.mem_append.1 hx with hx|hx
 · exact a x hx
 · obtain rfl:x=(g,q):=by simpa using hx
   exact b
end
end Go.Eng
namespace Go.Eng
noncomputable section
theorem Rows.drop {r b n:Nat} {h:ae} {rows:List (List V)} (R:Rows r h (.au b 0 n none) rows) {k:Nat} (hk:k≤n):Rows r h (.au b (0+k * r) (n - k) none) (rows.drop k):=by
 cases R with
 |row hr dj bd cF dC hlen=>
  have e:(rows.drop k).length=rows.length - k:=List.length_drop
  rw [←e]
  refine .row hr dj (by rw [Nat.zero_add];exact Nat.mul_mod_left k r) (fun i row ag=> ?_) (by rw [e,Nat.zero_add,Nat.sub_mul];have:k * r≤rows.length * r:=Nat.mul_le_mul_right _ hk;omega) fun row hm=>hlen row (List.mem_of_mem_drop hm)
  rw [List.getElem?_drop] at ag
  rw [Nat.zero_add,Nat.mul_div_cancel k hr]
  have:=cF (k+i) row ag
  rw [Nat.zero_div,Nat.zero_add] at this;exact this
end
end Go.Eng
