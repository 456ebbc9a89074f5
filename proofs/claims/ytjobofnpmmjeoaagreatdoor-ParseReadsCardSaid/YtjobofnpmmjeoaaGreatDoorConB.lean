/- Part of a proof of a law: rules of an evaluator, contracts, plain laws. No condition of its own. -/
import Derived.Test.YtjobofnpmmjeoaaGreatDoorConA
import Derived.Test.YtjobofnpmmjeoaaGreatDoorSymB
set_option linter.unusedVariables false
set_option linter.unusedSimpArgs false
namespace Go.Eng.YtjobofnpmmjeoaaGreatDoor
open Go.Eng
noncomputable section
variable {c:Ctx}
theorem Km (D:ko c) {fs:List Fact} {h:Heap} {s:List UInt8} (st:St fs h) (hd:o5 s):
 aV c 52 [L.str s] h fun v h1=>v= .int .i64 (num s:Int)∧St fs h1:=by
 have hs9:=hd.len
 refine aV.dh D.f52 rfl (WP.seq (WP.reg (WO.aB (v:= .int .i64 0) rfl (WO.nil (WP.seq (WP.reg (WO.aB (v:= .int .i64 0) rfl (WO.nil (WP.seq (WP.seq (WP.reg (WO.aB (v:= .int .i64 0) rfl (WO.nil (WP.block (WP.eO (α:=Nat) (fun k env h=>∃dz3,(k≤s.length)∧env=bG [L.str s, .int .i64 0, .int .i64 (k:Int),dz3, .int .i64 (num (s.take k):Int)] 0 Env.nil∧St (fs) h) (fun k=>s.length - k) 0 ?_ ?_)))))))))))))))
 ·exact ⟨.bot,(Nat.zero_le _),by kernel_rfl,st⟩
 rintro k _ h ⟨dz3,hk,rfl,st⟩
 have hbd:=hd.bound k
 refine WP.seq (WP.seq (WP.reg (WO.val (v:= .int .i64 (s.length:Int)) (L.nT rfl) (WO.ifS (L.lss rfl rfl) (fun c1=> ?_) (fun c1=> ?_)))))
 ·replace c1:k<s.length:=by omega
  refine WO.nil (WP.cond (t:=true) rfl (WP.skip (WP.seq (WP.block (WP.reg (WO.val (v:= .int .i64 ((num (s.take k) * 10:Nat):Int)) (L.mulE rfl rfl (by omega) (And.intro (by omega) (by omega))) ?_))))))
  obtain ⟨b,hb⟩:∃b,s[k]? =some b:=⟨_,List.getElem?_eq_getElem (by omega)⟩
  have hrb:=hd.dig b (List.mem_of_getElem? hb)
  refine WO.val (v:= .int .u8 (b.toNat:Int)) (L.qm rfl rfl hb) (WO.val (v:= .int .u8 ((b.toNat - 48:Nat):Int)) (L.subU8 (a:=b.toNat) (b:=48) rfl rfl rfl (by omega) (by omega)) (WO.val (v:= .int .i64 ((b.toNat - 48:Nat):Int)) (L.QU rfl (And.intro (by omega) (by omega))) (WO.aB (v:= .int .i64 (num (s.take (k+1)):Int)) (L.fQ rfl rfl (by rw [uG hb];omega) (by rw [uG hb];exact And.intro (by omega) (by omega))) (WO.nil (WP.reg (WO.aB (v:= .int .i64 ((k+1:Nat):Int)) (L.fQ rfl rfl (by omega) (And.intro (by omega) (by omega))) (WO.nil ?_)))))))
  exact ⟨k+1,(by omega),(.bool true),by omega,by kernel_rfl,st⟩
 ·replace c1:¬(k<s.length):=by omega
  refine WO.nil (WP.cond (t:=false) rfl (WP.exit (WP.seq (WP.reg (WO.aB (v:= .int .i64 (num (s.take k):Int)) rfl (WO.nil (WP.ret ?_)))))))
  exact ⟨_,(ak (aD (v:= .int .i64 (num (s.take k):Int)) rfl) (aF _ _)),(by rw [List.take_of_length_le (by omega)];rfl),st⟩
theorem zh (D:ko c) {fs:List Fact} {h:Heap} {k kd at_:Nat} {A:Int} {v:V} {ns:List Nd} (st:St (.acc k 7 v (ns.map Nd.row)::fs) h) (hn:ns.length<4294967298):
 aV c 86 [v, .int .i64 A, .int .i64 (kd:Int), .int .i64 (at_:Int)] h fun v1 h1=>∃k',St (.acc k' 7 v1 ((ns++[Nd.mk kd 0 [] [] A ((ns.length:Int) - 1) at_]).map Nd.row)::fs) h1:=by
 refine aV.dh D.f86 rfl (WP.seq (WP.reg (WO.aB (v:= .slN) rfl (WO.nil (WP.seq (WP.reg (WO.val (v:= .int .i64 (ns.length:Int)) (L.dJ rfl (st.u7 0 rfl (by decide)) (List.length_map _)) (WO.val (v:= .int .i64 ((ns.length:Int) - 1)) (L.rV rfl rfl (by omega) (And.intro (by omega) (by omega))) (WO.val (v:= .agg [.int .i64 (kd:Int), .int .i64 0, .str 0 0, .str 0 0, .int .i64 A, .int .i64 ((ns.length:Int) - 1), .int .i64 (at_:Int)]) (L.build rfl) (WO.iY (rows:=[[.int .i64 (kd:Int), .int .i64 0, .str 0 0, .str 0 0, .int .i64 A, .int .i64 ((ns.length:Int) - 1), .int .i64 (at_:Int)]]) st rfl (by decide) rfl (by simp) (fun bs1 h st=> ?_)))))))))))
 refine WO.kN st 1 rfl rfl rfl (st.aJ 0 rfl) (by decide) (by simp;omega) (fun f1 v1 h st=> ?_)
 rw [show (ns.map Nd.row)++[[V.int .i64 (kd:Int),V.int .i64 0,V.str 0 0,V.str 0 0,V.int .i64 A,V.int .i64 ((ns.length:Int) - 1),V.int .i64 (at_:Int)]]=(ns++[Nd.mk kd 0 [] [] A ((ns.length:Int) - 1) at_]).map Nd.row from by simp [Nd.row];rfl] at st
 obtain ⟨ab1,rfl⟩:=(st.bQ 1 rfl).ne (by simp)
 refine WO.nil (WP.ret ?_)
 exact ⟨_,(ak (aD (v:= .sl ab1 0 (((ns++[Nd.mk kd 0 [] [] A ((ns.length:Int) - 1) at_]).map Nd.row).length) none) rfl) (aF _ _)),_,st.tail⟩
theorem yx (D:ko c) {fs:List Fact} {h:Heap} {p:RP} {i d e a:Nat} {S:Par.SQ} (st:St (p.bD i d e a::p.toks::fs) h) (hx:XAt p i e a S):
 aV c 75 [.ptr p.rb 0] h fun v h1=>∃(x:List UInt8×List UInt8) (S':Par.SQ) (i' e' a':Nat),v= .tup [L.str x.1,L.str x.2]∧Stp p S i (Par.gB) x S' i' e' a'∧St (p.bD i' d e' a'::p.toks::fs) h1:=by
 refine aV.dh D.f75 rfl (WP.seq (WP.reg (WO.aB (v:= .str 0 0) rfl (WO.aB (v:= .str 0 0) rfl (WO.nil (WP.seq (WP.reg (WO.aU rfl (jf D st hx) ?_))))))))
 rintro _ h ⟨x1,S1,i1,e1,a1,rfl,q1,st⟩
 have ad1:=q1.adv
 have lt1:=q1.at_.lt
 refine WO.nil (WP.seq (WP.seq (WP.reg (WO.aU rfl (eF (s:=[46]) D st q1.at_) ?_))))
 rintro _ h (⟨rfl,⟨l2,hS2,he2,ha2,hi,hl2⟩,stn⟩|⟨rfl,hi,stn⟩)
 ·subst hS2 he2 ha2
  replace st:St ((p.bD (i1+1) d 0 0)::p.toks::fs) h:=stn
  have lt2:=hl2.lt
  refine WO.nil (WP.cond (t:=true) rfl (WP.seq (WP.reg (WO.aM rfl (jf D st (XAt.ok hl2)) ?_))))
  rintro _ h ⟨x3,S3,i3,e3,a3,rfl,q3,st⟩
  have ad3:=q3.adv
  have lt3:=q3.at_.lt
  refine WO.aB (v:=L.str x1) rfl (WO.aB (v:=L.str x3) rfl (WO.nil (WP.ret ?_)))
  exact ⟨_,(ak (aD (v:=L.str x1) rfl) (ak (aD (v:=L.str x3) rfl) (aF _ _))),(x1,x3),_,_,_,_,rfl,⟨q3.at_,Par.NY q1.res hi q3.res,by omega⟩,st⟩
 ·replace st:St ((p.bD i1 d e1 a1)::p.toks::fs) h:=stn
  refine WO.nil (WP.cond (t:=false) rfl (WP.skip (WP.seq (WP.reg (WO.aB (v:= .str 0 0) rfl (WO.aB (v:=L.str x1) rfl (WO.nil (WP.ret ?_))))))))
  exact ⟨_,(ak (aD (v:= .str 0 0) rfl) (ak (aD (v:=L.str x1) rfl) (aF _ _))),([],x1),_,_,_,_,rfl,⟨q1.at_,Par.RJ q1.res hi,by omega⟩,st⟩
theorem Ar (D:ko c) {fs:List Fact} {h:Heap} {p:RP} {i d e a:Nat} {S:Par.SQ} {s:List UInt8} (st:St (p.bD i d e a::p.toks::fs) h) (hx:XAt p i e a S) (hd:d≤40):
 aV c 66 [.ptr p.rb 0,L.str s] h fun v h1=>∃(S':Par.SQ) (i' e' a':Nat),v= .tup []∧Stp p S i (Par.nW d s) () S' i' e' a'∧(e'=0→d+1≤40)∧St (p.bD i' (d+1) e' a'::p.toks::fs) h1:=by
 refine aV.dh D.f66 rfl (WP.seq (WP.seq (WP.reg (WO.aM rfl (uI (s:=s) D st hx) ?_))))
 rintro _ h ⟨rfl,st⟩
 cases his:Par.isS s S
 ·refine WO.no rfl (WO.no rfl (WO.no rfl (WO.no rfl (WO.no rfl (WO.aB (v:= .bool false) rfl (WO.nil (WP.cond (t:=false) rfl (WP.skip (WP.seq (WP.reg (WO.aM rfl (cu (s:=s) D st hx) ?_)))))))))))
  rintro _ h ⟨x1,S1,i1,e1,a1,rfl,q1,st⟩
  have ad1:=q1.adv
  have lt1:=q1.at_.lt
  refine WO.nil (WP.reg (WO.val (v:= .ptr p.rb 0) rfl (WO.val (v:= .ptr p.rb 2) (L.aA rfl) (WO.val (v:= .int .i64 (d:Int)) (L.aC rfl (st.aj 0 rfl) rfl) (WO.val (v:= .int .i64 ((d+1:Nat):Int)) (L.fQ rfl rfl (by omega) (And.intro (by omega) (by omega))) (WO.val (v:= .ptr p.rb 0) rfl (WO.val (v:= .ptr p.rb 2) (L.aA rfl) (WO.aG (row':=[.sl p.tb p.to p.ts.length p.cap, .int .i64 (i1:Int), .int .i64 ((d+1:Nat):Int), .int .i64 (e1:Int), .int .i64 (a1:Int)]) st 0 rfl rfl rfl rfl rfl rfl rfl (fun h st=> ?_)))))))))
  refine WO.nil ?_
  have hS1:S1=Par.yh 11 S:=by
   have:=q1.res
   cases S with
   |error z=>exact this
   |ok l=>have h2:Par.is s l=false:=his;unfold Par.Res Par.must at this;simp only [h2,Bool.false_eq_true,if_false] at this;exact this
  exact ⟨_,(aF _ _),_,_,_,_,rfl,⟨q1.at_,(by rw [hS1];exact Par.open_no his),by omega⟩,(fun h0=>by obtain ⟨l2,h2,_⟩:=q1.at_.good h0;rw [hS1] at h2;cases S<;>cases h2),st⟩
 ·obtain ⟨l,hS,he,ha,hi,hl⟩:=hx.isS his
  subst hS he ha
  refine WO.yes rfl (WO.val (v:= .ptr p.rb 0) rfl (WO.yes rfl (WO.val (v:= .ptr p.rb 0) rfl (WO.yes rfl (WO.val (v:= .ptr p.rb 2) (L.aA rfl) (WO.yes rfl (WO.val (v:= .int .i64 (d:Int)) (L.aC rfl (st.aj 0 rfl) rfl) (WO.yes rfl (WO.ifV (L.geq rfl rfl) (fun cd=> ?_) (fun cd=> ?_))))))))))
  ·replace cd:40≤d:=by omega
   refine WO.aB (v:= .bool true) rfl (WO.nil (WP.cond (t:=true) rfl (WP.reg (WO.aM rfl (mY D st (XAt.ok hl) (by decide)) ?_))))
   rintro _ h ⟨rfl,ef,af,hef,hxf,st⟩
   refine WO.nil (WP.seq (WP.reg (WO.aM rfl (cu (s:=s) D st hxf) ?_)))
   rintro _ h ⟨x2,S2,i2,e2,a2,rfl,q2,st⟩
   have ad2:=q2.adv
   have lt2:=q2.at_.lt
   refine WO.nil (WP.reg (WO.val (v:= .ptr p.rb 0) rfl (WO.val (v:= .ptr p.rb 2) (L.aA rfl) (WO.val (v:= .int .i64 (d:Int)) (L.aC rfl (st.aj 0 rfl) rfl) (WO.val (v:= .int .i64 ((d+1:Nat):Int)) (L.fQ rfl rfl (by omega) (And.intro (by omega) (by omega))) (WO.val (v:= .ptr p.rb 0) rfl (WO.val (v:= .ptr p.rb 2) (L.aA rfl) (WO.aG (row':=[.sl p.tb p.to p.ts.length p.cap, .int .i64 (i2:Int), .int .i64 ((d+1:Nat):Int), .int .i64 (e2:Int), .int .i64 (a2:Int)]) st 0 rfl rfl rfl rfl rfl rfl rfl (fun h st=> ?_)))))))))
   refine WO.nil ?_
   have hb1:=hxf.bad hef
   rw [hb1] at q2
   exact ⟨_,(aF _ _),_,_,_,_,rfl,⟨q2.at_,(by have:=q2.res;rw [show S2=_ from this,←hb1];exact Par.N7 hi cd),by omega⟩,(fun h0=>by obtain ⟨l2,h2,_⟩:=q2.at_.good h0;have h3:=q2.res;rw [show S2=_ from h3] at h2;cases h2),st⟩
  ·replace cd:¬(40≤d):=by omega
   refine WO.aB (v:= .bool false) rfl (WO.nil (WP.cond (t:=false) rfl (WP.skip (WP.seq (WP.reg (WO.aM rfl (cu (s:=s) D st (XAt.ok hl)) ?_))))))
   rintro _ h ⟨x3,S3,i3,e3,a3,rfl,q3,st⟩
   have ad3:=q3.adv
   have lt3:=q3.at_.lt
   refine WO.nil (WP.reg (WO.val (v:= .ptr p.rb 0) rfl (WO.val (v:= .ptr p.rb 2) (L.aA rfl) (WO.val (v:= .int .i64 (d:Int)) (L.aC rfl (st.aj 0 rfl) rfl) (WO.val (v:= .int .i64 ((d+1:Nat):Int)) (L.fQ rfl rfl (by omega) (And.intro (by omega) (by omega))) (WO.val (v:= .ptr p.rb 0) rfl (WO.val (v:= .ptr p.rb 2) (L.aA rfl) (WO.aG (row':=[.sl p.tb p.to p.ts.length p.cap, .int .i64 (i3:Int), .int .i64 ((d+1:Nat):Int), .int .i64 (e3:Int), .int .i64 (a3:Int)]) st 0 rfl rfl rfl rfl rfl rfl rfl (fun h st=> ?_)))))))))
   refine WO.nil ?_
   have hS1:S3= .ok l.tail:=by have:=q3.res;unfold Par.Res Par.must at this;simp only [hi,if_true] at this;exact this.2
   exact ⟨_,(aF _ _),_,_,_,_,rfl,⟨q3.at_,(by rw [hS1];exact Par.yw hi cd),by omega⟩,(fun _=>by omega),st⟩
theorem xterm_c (D:ko c) {p:RP} {i d e a N:Nat} {S:Par.SQ} {un:Par.E} {fs:List Fact} {h:Heap} {ns:List Nd} {k:Nat} {v:V} (hU:qx c 101 N (un)) (st:St (p.bD i d e a::p.toks:: .acc k 7 v (ns.map Nd.row)::fs) h) (hx:XAt p i e a S) (hN:e=0→p.ts.length≤i+N∧d≤40) (hd:d≤41) (hns:ns.length≤i+min e 1):
 aV c 93 [.ptr p.rb 0,v] h (Et p d S i e (Par.chain un Par.o7) ns fs):=by
 have hsm:=hx.small
 have hlt:=hx.lt
 refine aV.dh D.f93 rfl (WP.seq (WP.reg (WO.aB (v:= .slN) rfl (WO.nil (WP.seq (WP.reg (WO.aU rfl (hU st hx hN (by omega) (by omega)) ?_)))))))
 rintro v1 h ⟨ns1,S1,i1,e1,a1,k1,q1,hn1,hg1,st⟩
 have ad1:=q1.adv
 have lt1:=q1.at_.lt
 refine WO.nil (WP.seq (WP.block (WP.eO (α:=Nat) (fun g env h=>∃Sz iz ez az nz kz vz dz2 dz3 dz4 dz5 dz6 dz7 dz8,((∀y S',Par.Res Sz (fun l=>Par.gQ un Par.o7 g d l (nz.length - 1) nz) y S'→Par.Res S (fun l=>Par.chain un Par.o7 d l ns) y S')∧XAt p iz ez az Sz∧(ez=0→p.ts.length≤iz+g)∧nz.length+(i+min e 1)≤ns.length+(iz+min ez 1)∧(ez=0→1≤nz.length)∧i+1≤iz+min ez 1∧(ez=0→e=0))∧env=bG [.ptr p.rb 0,vz,dz2,dz3,dz4,dz5,dz6,dz7,dz8] 0 Env.nil∧St ((p.bD iz d ez az)::p.toks:: .acc kz 7 vz (nz.map Nd.row)::fs) h) (fun g=>g) (Par.SQ.len S1) ?_ ?_)))
 ·exact ⟨S1,i1,e1,a1,ns1,k1,v1, .slN, .bot, .bot, .bot, .bot, .bot, .bot,⟨fun _ _ r=>Par.Es q1.res (Par.Res.len (F:=fun n l=>Par.gQ un Par.o7 n d l (ns1.length - 1) ns1) r),q1.at_,q1.at_.fuel,hn1,hg1,ad1,q1.good hx⟩,by kernel_rfl,st⟩
 rintro g _ h ⟨Sz,iz,ez,az,nz,kz,vz,dz2,dz3,dz4,dz5,dz6,dz7,dz8,⟨hs,hz,hk,hnz,hgz,hadz,hez⟩,rfl,st⟩
 have ltz:=hz.lt
 have smz:=hz.small
 refine WP.seq (WP.seq (WP.reg (WO.val (v:= .ptr p.rb 0) rfl (WO.val (v:= .ptr p.rb 3) (L.aA rfl) (WO.val (v:= .int .i64 (ez:Int)) (L.aC rfl (st.aj 0 rfl) rfl) (WO.ifS (L.eql rfl rfl) (fun ce=> ?_) (fun ce=> ?_)))))))
 ·replace ce:ez=0:=by omega
  obtain ⟨l2,hS2,ha2,hl2⟩:=hz.good ce
  subst hS2 ha2 ce
  obtain ⟨g,rfl⟩:∃m,g=m+1:=⟨g - 1,by omega⟩
  refine WO.nil (WP.cond (t:=true) rfl (WP.skip (WP.block (WP.seq (WP.reg (WO.val (v:= .int .i64 (nz.length:Int)) (L.dJ rfl (st.u7 2 rfl (by decide)) (List.length_map _)) (WO.val (v:= .int .i64 ((nz.length:Int) - 1)) (L.rV rfl rfl rfl (And.intro (by omega) (by omega))) (WO.aM rfl (lX D st (XAt.ok hl2)) ?_))))))))
  rintro _ h ⟨rfl,st⟩
  refine WO.aB (v:= .int .i64 ((nz.length:Int) - 1)) rfl (WO.aB (v:= .int .i64 (aL p iz:Int)) rfl (WO.nil (WP.block (WP.seq (WP.reg (WO.aU rfl (eF (s:=[42]) D st (XAt.ok hl2)) ?_))))))
  rintro _ h (⟨rfl,⟨lw3,hS3,_,_,h1,hl3⟩,stn⟩|⟨rfl,h1,stn⟩)
  ·cases hS3
   replace st:St ((p.bD (iz+1) d 0 0)::p.toks:: .acc kz 7 vz (nz.map Nd.row)::fs) h:=stn
   have lt3:=hl3.lt
   refine WO.nil (WP.cond (t:=true) rfl (WP.reg (WO.aM rfl (hU st (XAt.ok hl3) (fun _=>⟨by have:=hN (hez rfl);omega,(hN (hez rfl)).2⟩) (by omega) (by omega)) ?_)))
   rintro v4 h ⟨ns4,S4,i4,e4,a4,k4,q4,hn4,hg4,st⟩
   have ad4:=q4.adv
   have lt4:=q4.at_.lt
   refine WO.aU rfl (zh (kd:=7) (at_:=(aL p iz)) (A:=((nz.length:Int) - 1)) D (st.pick 2 rfl) (by omega)) ?_
   rintro v5 h ⟨k5,st⟩
   refine WO.nil ?_
   exact ⟨g,(Nat.lt_succ_self _),S4,i4,e4,a4,(ns4++[Nd.mk 7 0 [] [] ((nz.length:Int) - 1) ((ns4.length:Int) - 1) (aL p iz)]),k5,v5,dz2,(.bool true),(.bool true),(.int .i64 ((nz.length:Int) - 1)),(.int .i64 (aL p iz:Int)),dz7,dz8,⟨fun y S' r=>hs y S' (Par.nL (o:=([42],7)) (by simp [Par.find,Par.o7,h1]) hl2.here (by omega) q4.res (fun l' e'=>by have:=q4.at_;rw [e'] at this;have:=hg4 this.ok0.1;omega) r),q4.at_,(by omega),(by simp;omega),(by intro _;simp),(by omega),(fun _=>hez rfl)⟩,by kernel_rfl,((st.pick 2 rfl).pick 2 rfl)⟩
  ·replace st:St ((p.bD iz d 0 0)::p.toks:: .acc kz 7 vz (nz.map Nd.row)::fs) h:=stn
   replace h1:Par.is [42] l2=false:=h1
   refine WO.nil (WP.cond (t:=false) rfl (WP.seq (WP.reg (WO.aU rfl (eF (s:=[47]) D st (XAt.ok hl2)) ?_))))
   rintro _ h (⟨rfl,⟨lw6,hS6,_,_,h2,hl6⟩,stn⟩|⟨rfl,h2,stn⟩)
   ·cases hS6
    replace st:St ((p.bD (iz+1) d 0 0)::p.toks:: .acc kz 7 vz (nz.map Nd.row)::fs) h:=stn
    have lt6:=hl6.lt
    refine WO.nil (WP.cond (t:=true) rfl (WP.reg (WO.aM rfl (hU st (XAt.ok hl6) (fun _=>⟨by have:=hN (hez rfl);omega,(hN (hez rfl)).2⟩) (by omega) (by omega)) ?_)))
    rintro v7 h ⟨ns7,S7,i7,e7,a7,k7,q7,hn7,hg7,st⟩
    have ad7:=q7.adv
    have lt7:=q7.at_.lt
    refine WO.aU rfl (zh (kd:=8) (at_:=(aL p iz)) (A:=((nz.length:Int) - 1)) D (st.pick 2 rfl) (by omega)) ?_
    rintro v8 h ⟨k8,st⟩
    refine WO.nil ?_
    exact ⟨g,(Nat.lt_succ_self _),S7,i7,e7,a7,(ns7++[Nd.mk 8 0 [] [] ((nz.length:Int) - 1) ((ns7.length:Int) - 1) (aL p iz)]),k8,v8,dz2,(.bool true),(.bool false),(.int .i64 ((nz.length:Int) - 1)),(.int .i64 (aL p iz:Int)),(.bool true),dz8,⟨fun y S' r=>hs y S' (Par.nL (o:=([47],8)) (by simp [Par.find,Par.o7,h1,h2]) hl2.here (by omega) q7.res (fun l' e'=>by have:=q7.at_;rw [e'] at this;have:=hg7 this.ok0.1;omega) r),q7.at_,(by omega),(by simp;omega),(by intro _;simp),(by omega),(fun _=>hez rfl)⟩,by kernel_rfl,((st.pick 2 rfl).pick 2 rfl)⟩
   ·replace st:St ((p.bD iz d 0 0)::p.toks:: .acc kz 7 vz (nz.map Nd.row)::fs) h:=stn
    replace h2:Par.is [47] l2=false:=h2
    refine WO.nil (WP.cond (t:=false) rfl (WP.seq (WP.reg (WO.aU rfl (eF (s:=[37]) D st (XAt.ok hl2)) ?_))))
    rintro _ h (⟨rfl,⟨lw9,hS9,_,_,h3,hl9⟩,stn⟩|⟨rfl,h3,stn⟩)
    ·cases hS9
     replace st:St ((p.bD (iz+1) d 0 0)::p.toks:: .acc kz 7 vz (nz.map Nd.row)::fs) h:=stn
     have lt9:=hl9.lt
     refine WO.nil (WP.cond (t:=true) rfl (WP.reg (WO.aM rfl (hU st (XAt.ok hl9) (fun _=>⟨by have:=hN (hez rfl);omega,(hN (hez rfl)).2⟩) (by omega) (by omega)) ?_)))
     rintro v10 h ⟨ns10,S10,i10,e10,a10,k10,q10,hn10,hg10,st⟩
     have ad10:=q10.adv
     have lt10:=q10.at_.lt
     refine WO.aU rfl (zh (kd:=9) (at_:=(aL p iz)) (A:=((nz.length:Int) - 1)) D (st.pick 2 rfl) (by omega)) ?_
     rintro v11 h ⟨k11,st⟩
     refine WO.nil ?_
     exact ⟨g,(Nat.lt_succ_self _),S10,i10,e10,a10,(ns10++[Nd.mk 9 0 [] [] ((nz.length:Int) - 1) ((ns10.length:Int) - 1) (aL p iz)]),k11,v11,dz2,(.bool true),(.bool false),(.int .i64 ((nz.length:Int) - 1)),(.int .i64 (aL p iz:Int)),(.bool false),(.bool true),⟨fun y S' r=>hs y S' (Par.nL (o:=([37],9)) (by simp [Par.find,Par.o7,h1,h2,h3]) hl2.here (by omega) q10.res (fun l' e'=>by have:=q10.at_;rw [e'] at this;have:=hg10 this.ok0.1;omega) r),q10.at_,(by omega),(by simp;omega),(by intro _;simp),(by omega),(fun _=>hez rfl)⟩,by kernel_rfl,((st.pick 2 rfl).pick 2 rfl)⟩
    ·replace st:St ((p.bD iz d 0 0)::p.toks:: .acc kz 7 vz (nz.map Nd.row)::fs) h:=stn
     replace h3:Par.is [37] l2=false:=h3
     refine WO.nil (WP.cond (t:=false) rfl (WP.seq (WP.reg (WO.aB (v:=vz) rfl (WO.nil (WP.ret ?_))))))
     exact ⟨_,(ak (aD (v:=vz) rfl) (aF _ _)),nz,_,_,_,_,_,⟨hz,hs _ _ (Par.zS (by simp [Par.find,Par.o7,h1,h2,h3])),hadz⟩,hnz,hgz,st⟩
 ·replace ce:ez≠0:=by omega
  have hbad:=hz.bad ce
  refine WO.nil (WP.cond (t:=false) rfl (WP.exit (WP.seq (WP.reg (WO.aB (v:=vz) rfl (WO.nil (WP.ret ?_)))))))
  exact ⟨_,(ak (aD (v:=vz) rfl) (aF _ _)),nz,_,_,_,_,_,⟨hz,hs _ _ (by rw [hbad];rfl),hadz⟩,hnz,hgz,st⟩
theorem xsum_c (D:ko c) {p:RP} {i d e a N:Nat} {S:Par.SQ} {un:Par.E} {fs:List Fact} {h:Heap} {ns:List Nd} {k:Nat} {v:V} (hU:qx c 93 N ((Par.term un))) (st:St (p.bD i d e a::p.toks:: .acc k 7 v (ns.map Nd.row)::fs) h) (hx:XAt p i e a S) (hN:e=0→p.ts.length≤i+N∧d≤40) (hd:d≤41) (hns:ns.length≤i+min e 1):
 aV c 85 [.ptr p.rb 0,v] h (Et p d S i e (Par.chain (Par.term un) Par.qo) ns fs):=by
 have hsm:=hx.small
 have hlt:=hx.lt
 refine aV.dh D.f85 rfl (WP.seq (WP.reg (WO.aB (v:= .slN) rfl (WO.nil (WP.seq (WP.reg (WO.aU rfl (hU st hx hN (by omega) (by omega)) ?_)))))))
 rintro v1 h ⟨ns1,S1,i1,e1,a1,k1,q1,hn1,hg1,st⟩
 have ad1:=q1.adv
 have lt1:=q1.at_.lt
 refine WO.nil (WP.seq (WP.block (WP.eO (α:=Nat) (fun g env h=>∃Sz iz ez az nz kz vz dz2 dz3 dz4 dz5 dz6 dz7,((∀y S',Par.Res Sz (fun l=>Par.gQ (Par.term un) Par.qo g d l (nz.length - 1) nz) y S'→Par.Res S (fun l=>Par.chain (Par.term un) Par.qo d l ns) y S')∧XAt p iz ez az Sz∧(ez=0→p.ts.length≤iz+g)∧nz.length+(i+min e 1)≤ns.length+(iz+min ez 1)∧(ez=0→1≤nz.length)∧i+1≤iz+min ez 1∧(ez=0→e=0))∧env=bG [.ptr p.rb 0,vz,dz2,dz3,dz4,dz5,dz6,dz7] 0 Env.nil∧St ((p.bD iz d ez az)::p.toks:: .acc kz 7 vz (nz.map Nd.row)::fs) h) (fun g=>g) (Par.SQ.len S1) ?_ ?_)))
 ·exact ⟨S1,i1,e1,a1,ns1,k1,v1, .slN, .bot, .bot, .bot, .bot, .bot,⟨fun _ _ r=>Par.Es q1.res (Par.Res.len (F:=fun n l=>Par.gQ (Par.term un) Par.qo n d l (ns1.length - 1) ns1) r),q1.at_,q1.at_.fuel,hn1,hg1,ad1,q1.good hx⟩,by kernel_rfl,st⟩
 rintro g _ h ⟨Sz,iz,ez,az,nz,kz,vz,dz2,dz3,dz4,dz5,dz6,dz7,⟨hs,hz,hk,hnz,hgz,hadz,hez⟩,rfl,st⟩
 have ltz:=hz.lt
 have smz:=hz.small
 refine WP.seq (WP.seq (WP.reg (WO.val (v:= .ptr p.rb 0) rfl (WO.val (v:= .ptr p.rb 3) (L.aA rfl) (WO.val (v:= .int .i64 (ez:Int)) (L.aC rfl (st.aj 0 rfl) rfl) (WO.ifS (L.eql rfl rfl) (fun ce=> ?_) (fun ce=> ?_)))))))
 ·replace ce:ez=0:=by omega
  obtain ⟨l2,hS2,ha2,hl2⟩:=hz.good ce
  subst hS2 ha2 ce
  obtain ⟨g,rfl⟩:∃m,g=m+1:=⟨g - 1,by omega⟩
  refine WO.nil (WP.cond (t:=true) rfl (WP.skip (WP.block (WP.seq (WP.reg (WO.val (v:= .int .i64 (nz.length:Int)) (L.dJ rfl (st.u7 2 rfl (by decide)) (List.length_map _)) (WO.val (v:= .int .i64 ((nz.length:Int) - 1)) (L.rV rfl rfl rfl (And.intro (by omega) (by omega))) (WO.aM rfl (lX D st (XAt.ok hl2)) ?_))))))))
  rintro _ h ⟨rfl,st⟩
  refine WO.aB (v:= .int .i64 ((nz.length:Int) - 1)) rfl (WO.aB (v:= .int .i64 (aL p iz:Int)) rfl (WO.nil (WP.block (WP.seq (WP.reg (WO.aU rfl (eF (s:=[43]) D st (XAt.ok hl2)) ?_))))))
  rintro _ h (⟨rfl,⟨lw3,hS3,_,_,h1,hl3⟩,stn⟩|⟨rfl,h1,stn⟩)
  ·cases hS3
   replace st:St ((p.bD (iz+1) d 0 0)::p.toks:: .acc kz 7 vz (nz.map Nd.row)::fs) h:=stn
   have lt3:=hl3.lt
   refine WO.nil (WP.cond (t:=true) rfl (WP.reg (WO.aM rfl (hU st (XAt.ok hl3) (fun _=>⟨by have:=hN (hez rfl);omega,(hN (hez rfl)).2⟩) (by omega) (by omega)) ?_)))
   rintro v4 h ⟨ns4,S4,i4,e4,a4,k4,q4,hn4,hg4,st⟩
   have ad4:=q4.adv
   have lt4:=q4.at_.lt
   refine WO.aU rfl (zh (kd:=5) (at_:=(aL p iz)) (A:=((nz.length:Int) - 1)) D (st.pick 2 rfl) (by omega)) ?_
   rintro v5 h ⟨k5,st⟩
   refine WO.nil ?_
   exact ⟨g,(Nat.lt_succ_self _),S4,i4,e4,a4,(ns4++[Nd.mk 5 0 [] [] ((nz.length:Int) - 1) ((ns4.length:Int) - 1) (aL p iz)]),k5,v5,dz2,(.bool true),(.bool true),(.int .i64 ((nz.length:Int) - 1)),(.int .i64 (aL p iz:Int)),dz7,⟨fun y S' r=>hs y S' (Par.nL (o:=([43],5)) (by simp [Par.find,Par.qo,h1]) hl2.here (by omega) q4.res (fun l' e'=>by have:=q4.at_;rw [e'] at this;have:=hg4 this.ok0.1;omega) r),q4.at_,(by omega),(by simp;omega),(by intro _;simp),(by omega),(fun _=>hez rfl)⟩,by kernel_rfl,((st.pick 2 rfl).pick 2 rfl)⟩
  ·replace st:St ((p.bD iz d 0 0)::p.toks:: .acc kz 7 vz (nz.map Nd.row)::fs) h:=stn
   replace h1:Par.is [43] l2=false:=h1
   refine WO.nil (WP.cond (t:=false) rfl (WP.seq (WP.reg (WO.aU rfl (eF (s:=[45]) D st (XAt.ok hl2)) ?_))))
   rintro _ h (⟨rfl,⟨lw6,hS6,_,_,h2,hl6⟩,stn⟩|⟨rfl,h2,stn⟩)
   ·cases hS6
    replace st:St ((p.bD (iz+1) d 0 0)::p.toks:: .acc kz 7 vz (nz.map Nd.row)::fs) h:=stn
    have lt6:=hl6.lt
    refine WO.nil (WP.cond (t:=true) rfl (WP.reg (WO.aM rfl (hU st (XAt.ok hl6) (fun _=>⟨by have:=hN (hez rfl);omega,(hN (hez rfl)).2⟩) (by omega) (by omega)) ?_)))
    rintro v7 h ⟨ns7,S7,i7,e7,a7,k7,q7,hn7,hg7,st⟩
    have ad7:=q7.adv
    have lt7:=q7.at_.lt
    refine WO.aU rfl (zh (kd:=6) (at_:=(aL p iz)) (A:=((nz.length:Int) - 1)) D (st.pick 2 rfl) (by omega)) ?_
    rintro v8 h ⟨k8,st⟩
    refine WO.nil ?_
    exact ⟨g,(Nat.lt_succ_self _),S7,i7,e7,a7,(ns7++[Nd.mk 6 0 [] [] ((nz.length:Int) - 1) ((ns7.length:Int) - 1) (aL p iz)]),k8,v8,dz2,(.bool true),(.bool false),(.int .i64 ((nz.length:Int) - 1)),(.int .i64 (aL p iz:Int)),(.bool true),⟨fun y S' r=>hs y S' (Par.nL (o:=([45],6)) (by simp [Par.find,Par.qo,h1,h2]) hl2.here (by omega) q7.res (fun l' e'=>by have:=q7.at_;rw [e'] at this;have:=hg7 this.ok0.1;omega) r),q7.at_,(by omega),(by simp;omega),(by intro _;simp),(by omega),(fun _=>hez rfl)⟩,by kernel_rfl,((st.pick 2 rfl).pick 2 rfl)⟩
   ·replace st:St ((p.bD iz d 0 0)::p.toks:: .acc kz 7 vz (nz.map Nd.row)::fs) h:=stn
    replace h2:Par.is [45] l2=false:=h2
    refine WO.nil (WP.cond (t:=false) rfl (WP.seq (WP.reg (WO.aB (v:=vz) rfl (WO.nil (WP.ret ?_))))))
    exact ⟨_,(ak (aD (v:=vz) rfl) (aF _ _)),nz,_,_,_,_,_,⟨hz,hs _ _ (Par.zS (by simp [Par.find,Par.qo,h1,h2])),hadz⟩,hnz,hgz,st⟩
 ·replace ce:ez≠0:=by omega
  have hbad:=hz.bad ce
  refine WO.nil (WP.cond (t:=false) rfl (WP.exit (WP.seq (WP.reg (WO.aB (v:=vz) rfl (WO.nil (WP.ret ?_)))))))
  exact ⟨_,(ak (aD (v:=vz) rfl) (aF _ _)),nz,_,_,_,_,_,⟨hz,hs _ _ (by rw [hbad];rfl),hadz⟩,hnz,hgz,st⟩
theorem xexpr_c (D:ko c) {p:RP} {i d e a N:Nat} {S:Par.SQ} {un:Par.E} {fs:List Fact} {h:Heap} {ns:List Nd} {k:Nat} {v:V} (hU:qx c 85 N (Par.sum un)) (st:St (p.bD i d e a::p.toks:: .acc k 7 v (ns.map Nd.row)::fs) h) (hx:XAt p i e a S) (hN:e=0→p.ts.length≤i+N∧d≤40) (hd:d≤41) (hns:ns.length≤i+min e 1):
 aV c 76 [.ptr p.rb 0,v] h (Et p d S i e (Par.whole un) ns fs):=by
 have hsm:=hx.small
 have hlt:=hx.lt
 refine aV.dh D.f76 rfl (WP.seq (WP.reg (WO.aB (v:= .slN) rfl (WO.nil (WP.seq (WP.reg (WO.aU rfl (hU st hx hN (by omega) (by omega)) ?_)))))))
 rintro v1 h ⟨ns1,S1,i1,e1,a1,k1,q1,hn1,hg1,st⟩
 have ad1:=q1.adv
 have lt1:=q1.at_.lt
 refine WO.nil (WP.seq (WP.reg (WO.QI (rows:=Par.jS.map bK) st rfl (by decide) rfl (by intro row hm;simp at hm;obtain ⟨a,_,rfl⟩:=hm;rfl) (fun gb h st=> ?_))))
 refine WO.nil (WP.seq (WP.seq (WP.reg (WO.aB (v:= .int .i64 0) rfl (WO.nil (WP.block (WP.eO (α:=Nat) (fun j env h=>∃dz2 dz5 dz6 dz7 dz8,(j≤3∧∀q y,Par.jS[q]? =some y→q<j→Par.isS y S1=false)∧env=bG [.ptr p.rb 0,v1,dz2, .sl gb 0 3 (some 3), .int .i64 (j:Int),dz5,dz6,dz7,dz8] 0 Env.nil∧St (.stb (fun h=>Rows 1 h (.sl gb 0 3 (some 3)) (Par.jS.map bK))::(p.bD i1 d e1 a1)::p.toks:: .acc k1 7 v1 (ns1.map Nd.row)::fs) h) (fun j=>3 - j) 0 ?_ ?_)))))))
 ·exact ⟨.slN, .bot, .bot, .bot, .bot,⟨Nat.zero_le _,fun _ _ _ h=>absurd h (Nat.not_lt_zero _)⟩,by kernel_rfl,st⟩
 rintro j _ h ⟨dz2,dz5,dz6,dz7,dz8,⟨hj,hno⟩,rfl,st⟩
 refine WP.seq (WP.seq (WP.reg (WO.val (v:= .int .i64 3) (L.llen rfl) (WO.ifS (L.lss rfl rfl) (fun c1=> ?_) (fun c1=> ?_)))))
 ·replace c1:j<3:=by omega
  refine WO.nil (WP.cond (t:=true) rfl (WP.skip (WP.seq (WP.block (WP.seq (WP.reg (WO.val (v:= .int .i64 (ns1.length:Int)) (L.dJ rfl (st.u7 3 rfl (by decide)) (List.length_map _)) (WO.val (v:= .int .i64 ((ns1.length:Int) - 1)) (L.rV rfl rfl rfl (And.intro (by omega) (by omega))) (WO.aM rfl (lX D ((st.pick 2 rfl).pick 2 rfl) q1.at_) ?_)))))))))
  rintro _ h ⟨rfl,st⟩
  refine WO.aB (v:= .int .i64 ((ns1.length:Int) - 1)) rfl (WO.aB (v:= .int .i64 (aL p i1:Int)) rfl (WO.nil (WP.seq (WP.reg ?_))))
  obtain ⟨y,hy⟩:∃y,Par.jS[j]? =some y:=⟨_,List.getElem?_eq_getElem (show j<Par.jS.length from by show j<3;omega)⟩
  refine WO.val (L.bT rfl rfl (by omega)) (WO.val (v:=L.str y) (L.load rfl ((st.aJ 2 rfl).jG (by rw [List.getElem?_map,hy];rfl))) ?_)
  refine WO.aU rfl (eF (s:=y) D st q1.at_) ?_
  rintro _ h (⟨rfl,⟨l2,hS2,he2,ha2,ht1,hl2⟩,stn⟩|⟨rfl,ht1,stn⟩)
  ·subst hS2 he2 ha2
   replace st:St ((p.bD (i1+1) d 0 0)::p.toks:: .stb (fun h=>Rows 1 h (.sl gb 0 3 (some 3)) (Par.jS.map bK)):: .acc k1 7 v1 (ns1.map Nd.row)::fs) h:=stn
   have lt2:=hl2.lt
   refine WO.nil (WP.cond (t:=true) rfl (WP.seq (WP.reg (WO.aM rfl (hU (((st.pick 3 rfl).pick 2 rfl).pick 2 rfl) (XAt.ok hl2) (fun _=>⟨by have:=hN (q1.good hx rfl);omega,(hN (q1.good hx rfl)).2⟩) (by omega) (by omega)) ?_))))
   rintro v3 h ⟨ns3,S3,i3,e3,a3,k3,q3,hn3,hg3,st⟩
   have ad3:=q3.adv
   have lt3:=q3.at_.lt
   refine WO.val (v:= .int .i64 ((10+j:Nat):Int)) (L.fQ rfl rfl (by omega) (And.intro (by omega) (by omega))) (WO.aU rfl (zh (kd:=(10+j)) (at_:=(aL p i1)) (A:=((ns1.length:Int) - 1)) D (st.pick 2 rfl) (by omega)) ?_)
   rintro v4 h ⟨k4,st⟩
   refine WO.nil (WP.ret ?_)
   exact ⟨_,(ak (aD (v:=v4) rfl) (aF _ _)),_,_,_,_,_,_,⟨q3.at_,Par.NT q1.res (Par.RL hy ht1) (q1.at_.here rfl) (by have:=hg1 rfl;omega) q3.res (fun l2 e2=>by have:=q3.at_;rw [e2] at this;have:=hg3 this.ok0.1;omega),by omega⟩,(by simp;omega),(by intro _;simp),(((st.pick 3 rfl).tail.pick 2 rfl).pick 2 rfl)⟩
  ·replace st:St ((p.bD i1 d e1 a1)::p.toks:: .stb (fun h=>Rows 1 h (.sl gb 0 3 (some 3)) (Par.jS.map bK)):: .acc k1 7 v1 (ns1.map Nd.row)::fs) h:=stn
   refine WO.nil (WP.cond (t:=false) rfl (WP.skip (WP.reg (WO.aB (v:= .int .i64 ((j+1:Nat):Int)) (L.fQ rfl rfl (by omega) (And.intro (by omega) (by omega))) (WO.nil ?_)))))
   have hno':∀q y,Par.jS[q]? =some y→q<j+1→Par.isS y S1=false:=by
    intro q y' hq hlt
    rcases Nat.lt_succ_iff_lt_or_eq.1 hlt with hlt|rfl
    ·exact hno q y' hq hlt
    ·rw [hy] at hq;cases hq;exact ht1
   exact ⟨j+1,(by omega),dz2,(.bool true),(.bool false),(.int .i64 ((ns1.length:Int) - 1)),(.int .i64 (aL p i1:Int)),⟨by omega,hno'⟩,by kernel_rfl,(st.pick 2 rfl)⟩
 ·replace c1:¬(j<3):=by omega
  refine WO.nil (WP.cond (t:=false) rfl (WP.exit (WP.seq (WP.reg (WO.aB (v:=v1) rfl (WO.nil (WP.ret ?_)))))))
  exact ⟨_,(ak (aD (v:=v1) rfl) (aF _ _)),_,_,_,_,_,_,⟨q1.at_,Par.NS q1.res (fun l2 e2=>Par.RO e2 (fun q y hq hlt=>hno q y hq (by omega))),by omega⟩,hn1,hg1,st.tail⟩
theorem CO (D:ko c) {p:RP} {i d e a N:Nat} {S:Par.SQ} {g:Par.E} {fs:List Fact} {h:Heap} {ns:List Nd} {k:Nat} {v:V} (st:St (p.bD i d e a::p.toks:: .acc k 7 v (ns.map Nd.row)::fs) h) (hx:XAt p i e a S) (he:e≠0):
 aV c 101 [.ptr p.rb 0,v] h (Et p d S i e g ns fs):=by
 refine aV.dh D.f101 rfl (WP.seq (WP.reg (WO.aB (v:= .slN) rfl (WO.nil (WP.seq (WP.seq (WP.reg (WO.val (v:= .ptr p.rb 0) rfl (WO.val (v:= .ptr p.rb 3) (L.aA rfl) (WO.val (v:= .int .i64 (e:Int)) (L.aC rfl (st.aj 0 rfl) rfl) (WO.ifS (L.neq rfl rfl) (fun c1=> ?_) (fun c1=>by exfalso;omega))))))))))))
 refine WO.nil (WP.cond (t:=true) rfl (WP.seq (WP.reg (WO.aB (v:=v) rfl (WO.nil (WP.ret ?_))))))
 exact ⟨_,(ak (aD (v:=v) rfl) (aF _ _)),ns,_,_,_,_,_,⟨hx,by rw [hx.bad he];rfl,by omega⟩,by omega,fun h0=>absurd h0 he,st⟩
theorem N8 (D:ko c) {p:RP} {i d N:Nat} {un:Par.E} {fs:List Fact} {h:Heap} {ns:List Nd} {k:Nat} {v:V} {t:Tok} {l:List Tok} (hU:qx c 101 N un) (hW:qx c 76 N (Par.whole un)) (st:St (p.bD i d 0 0::p.toks:: .acc k 7 v (ns.map Nd.row)::fs) h) (hl:Left p i (t::l)) (hN:p.ts.length≤i+(N+1)) (hd:d≤40) (hns:ns.length≤i):
 aV c 101 [.ptr p.rb 0,v] h (Et p d (.ok (t::l)) i 0 (Par.gT un) ns fs):=by
 have hsm:=hl.small
 have hlt:=hl.lt
 refine aV.dh D.f101 rfl (WP.seq (WP.reg (WO.aB (v:= .slN) rfl (WO.nil (WP.seq (WP.seq (WP.reg (WO.val (v:= .ptr p.rb 0) rfl (WO.val (v:= .ptr p.rb 3) (L.aA rfl) (WO.val (v:= .int .i64 0) (L.aC rfl (st.aj 0 rfl) rfl) (WO.ifS (L.neq rfl rfl) (fun ce=>by exfalso;omega) (fun ce=> ?_))))))))))))
 refine WO.nil (WP.cond (t:=false) rfl (WP.skip (WP.seq (WP.draw (WD.val (v:= .ptr p.rb 0) rfl (WD.val (v:= .ptr p.rb 0) rfl (WD.val (v:= .ptr p.rb 0) (L.aA rfl) (WD.val (v:= .sl p.tb p.to p.ts.length p.cap) (L.aC rfl (st.aj 0 rfl) rfl) (WD.val (v:= .ptr p.rb 0) rfl (WD.val (v:= .ptr p.rb 0) rfl (WD.val (v:= .ptr p.rb 1) (L.aA rfl) (WD.val (v:= .int .i64 (i:Int)) (L.aC rfl (st.aj 0 rfl) rfl) (WD.val (v:= .ptr p.tb (p.to+i * 3)) (L.bT rfl rfl (XAt.ok hl).lt) (WD.val (v:= .agg [.int .i64 (t.kind:Int),L.str t.text, .int .i64 (t.at_:Int)]) (L.aY rfl ((st.aJ 1 rfl).aY hl.row)) (WD.bL st L.alloc (fun tb h st=> ?_))))))))))))))))
 refine WD.aG (row':=[.int .i64 (t.kind:Int),L.str t.text, .int .i64 (t.at_:Int)]) st 0 rfl rfl rfl rfl rfl rfl rfl (fun h st=>rfl) (fun h st=> ?_)
 refine WD.nil (WP.seq (WP.block (WP.seq (WP.reg (WO.aM rfl (uI (s:=[45]) D ((st.pick 2 rfl).pick 2 rfl) (XAt.ok hl)) ?_)))))
 rintro _ h ⟨rfl,st⟩
 cases h1:Par.isS [45] (.ok (t::l))
 ·replace h1:Par.is [45] (t::l)=false:=h1
  refine WO.yes rfl (WO.val (v:= .ptr p.rb 0) rfl (WO.yes rfl (WO.aM rfl (uI (s:=[33]) D st (XAt.ok hl)) ?_)))
  rintro _ h ⟨rfl,st⟩
  cases h2:Par.isS [33] (.ok (t::l))
  ·replace h2:Par.is [33] (t::l)=false:=h2
   refine WO.aB (v:= .bool false) rfl (WO.nil (WP.cond (t:=false) rfl (WP.seq (WP.reg (WO.aU rfl (uI (s:=[40]) D st (XAt.ok hl)) ?_)))))
   rintro _ h ⟨rfl,st⟩
   cases h3:Par.isS [40] (.ok (t::l))
   ·replace h3:Par.is [40] (t::l)=false:=h3
    refine WO.nil (WP.cond (t:=false) rfl (WP.seq (WP.reg (WO.val (v:= .ptr tb 0) (L.aA rfl) (WO.val (v:= .int .i64 (t.kind:Int)) (L.aC rfl (st.aj 2 rfl) rfl) (WO.ifS (L.eql rfl rfl) (fun c2=> ?_) (fun c2=> ?_)))))))
    ·replace c2:t.kind=2:=by omega
     refine WO.nil (WP.cond (t:=true) rfl (WP.seq (WP.reg (WO.val (v:= .ptr p.rb 0) rfl (WO.val (v:= .ptr p.rb 1) (L.aA rfl) (WO.val (v:= .int .i64 (i:Int)) (L.aC rfl (st.aj 0 rfl) rfl) (WO.val (v:= .int .i64 ((i+1:Nat):Int)) (L.fQ rfl rfl (by omega) (And.intro (by omega) (by omega))) (WO.val (v:= .ptr p.rb 0) rfl (WO.val (v:= .ptr p.rb 1) (L.aA rfl) (WO.aG (row':=[.sl p.tb p.to p.ts.length p.cap, .int .i64 ((i+1:Nat):Int), .int .i64 (d:Int), .int .i64 0, .int .i64 0]) st 0 rfl rfl rfl rfl rfl rfl rfl (fun h st=> ?_)))))))))))
     refine WO.nil (WP.seq (WP.draw (WD.val (v:=v) rfl (WD.val (v:= .ptr tb 1) (L.aA rfl) (WD.val (v:=L.str t.text) (L.aC rfl (st.aj 2 rfl) rfl) (WD.val (v:= .ptr tb 2) (L.aA rfl) (WD.val (v:= .int .i64 (t.at_:Int)) (L.aC rfl (st.aj 2 rfl) rfl) (WD.aM rfl (Km D st (hl.num t (by simp) c2)) (fun _ h hp=> ?_) ?_))))))))
     ·obtain ⟨rfl,st⟩:=hp
      exact aR (by first|exact av (L.aC rfl (st.aj 0 rfl) rfl)|exact aH st 0 rfl|exact av (L.aK rfl (st.aj 0 rfl) rfl rfl rfl)|exact av (L.aC rfl (st.aj 2 rfl) rfl)|exact aH st 2 rfl|exact av (L.aK rfl (st.aj 2 rfl) rfl rfl rfl)) (bC _ _)
     rintro _ h ⟨rfl,st⟩
     refine WD.val (v:= .agg [.int .i64 1, .int .i64 (num t.text:Int), .str 0 0, .str 0 0, .int .i64 (-1), .int .i64 (-1), .int .i64 (t.at_:Int)]) (L.build rfl) (WD.iY (rows:=[[.int .i64 1, .int .i64 (num t.text:Int), .str 0 0, .str 0 0, .int .i64 (-1), .int .i64 (-1), .int .i64 (t.at_:Int)]]) st rfl (by decide) rfl (by simp) (fun bs1 h _ st=> ?_))
     refine WD.rX st 4 rfl rfl rfl (st.aJ 0 rfl) (by decide) (by simp;omega) (fun _ _ h st=>rfl) (fun f1 v1 h st=> ?_)
     rw [show (ns.map Nd.row)++[[V.int .i64 1,V.int .i64 (num t.text:Int),V.str 0 0,V.str 0 0,V.int .i64 (-1),V.int .i64 (-1),V.int .i64 (t.at_:Int)]]=(ns++[Nd.mk 1 (num t.text:Int) [] [] (-1) (-1) t.at_]).map Nd.row from by simp [Nd.row];rfl] at st
     obtain ⟨ab1,rfl⟩:=(st.bQ 4 rfl).ne (by simp)
     refine WD.aB (v:= .sl ab1 0 (((ns++[Nd.mk 1 (num t.text:Int) [] [] (-1) (-1) t.at_]).map Nd.row).length) none) rfl (WD.nil (WP.ret ?_))
     exact ⟨_,(ak (aD (v:= .sl ab1 0 (((ns++[Nd.mk 1 (num t.text:Int) [] [] (-1) (-1) t.at_]).map Nd.row).length) none) rfl) (aF _ _)),_,_,_,_,_,_,⟨.ok (hl.next (by omega)),Par.NV (by simp [Par.find,Par.iB,h1,h2]) h3 c2 rfl,by omega⟩,(by simp;omega),(by intro _;simp),(st.tail.pick 2 rfl).tail⟩
    ·replace c2:t.kind≠2:=by omega
     refine WO.nil (WP.cond (t:=false) rfl (WP.seq (WP.reg (WO.val (v:= .ptr tb 0) (L.aA rfl) (WO.val (v:= .int .i64 (t.kind:Int)) (L.aC rfl (st.aj 2 rfl) rfl) (WO.ifS (L.eql rfl rfl) (fun c3=> ?_) (fun c3=> ?_)))))))
     ·replace c3:t.kind=1:=by omega
      refine WO.nil (WP.cond (t:=true) rfl (WP.seq (WP.reg (WO.aM rfl (yx D st (XAt.ok hl)) ?_))))
      rintro _ h ⟨x2,S2,i2,e2,a2,rfl,q2,st⟩
      have ad2:=q2.adv
      have lt2:=q2.at_.lt
      refine WO.val (v:=L.str x2.1) rfl (WO.val (v:=L.str x2.2) rfl (WO.aB (v:=L.str x2.1) rfl (WO.aB (v:=L.str x2.2) rfl (WO.nil (WP.seq (WP.reg (WO.val (v:= .ptr tb 2) (L.aA rfl) (WO.val (v:= .int .i64 (t.at_:Int)) (L.aC rfl (st.aj 2 rfl) rfl) (WO.val (v:= .agg [.int .i64 2, .int .i64 0,L.str x2.1,L.str x2.2, .int .i64 (-1), .int .i64 (-1), .int .i64 (t.at_:Int)]) (L.build rfl) (WO.iY (rows:=[[.int .i64 2, .int .i64 0,L.str x2.1,L.str x2.2, .int .i64 (-1), .int .i64 (-1), .int .i64 (t.at_:Int)]]) st rfl (by decide) rfl (by simp) (fun bs2 h st=> ?_)))))))))))
      refine WO.kN st 4 rfl rfl rfl (st.aJ 0 rfl) (by decide) (by simp;omega) (fun f3 v3 h st=> ?_)
      rw [show (ns.map Nd.row)++[[V.int .i64 2,V.int .i64 0,L.str x2.1,L.str x2.2,V.int .i64 (-1),V.int .i64 (-1),V.int .i64 (t.at_:Int)]]=(ns++[Nd.mk 2 0 x2.1 x2.2 (-1) (-1) t.at_]).map Nd.row from by simp [Nd.row]] at st
      obtain ⟨ab3,rfl⟩:=(st.bQ 4 rfl).ne (by simp)
      refine WO.nil (WP.ret ?_)
      exact ⟨_,(ak (aD (v:= .sl ab3 0 (((ns++[Nd.mk 2 0 x2.1 x2.2 (-1) (-1) t.at_]).map Nd.row).length) none) rfl) (aF _ _)),_,_,_,_,_,_,⟨q2.at_,Par.NW (by simp [Par.find,Par.iB,h1,h2]) h3 c2 rfl q2.res,by omega⟩,(by simp;omega),(by intro _;simp),(st.tail.pick 2 rfl).tail⟩
     ·replace c3:t.kind≠1:=by omega
      refine WO.nil (WP.cond (t:=false) rfl (WP.skip (WP.seq (WP.reg (WO.aM rfl (mY (k:=11) D st (XAt.ok hl) (by decide)) ?_)))))
      rintro _ h ⟨rfl,ef,af,hef,hxf,st⟩
      refine WO.nil (WP.seq (WP.reg (WO.aB (v:=v) rfl (WO.nil (WP.ret ?_)))))
      have hb1:=hxf.bad hef
      exact ⟨_,(ak (aD (v:=v) rfl) (aF _ _)),ns,_,_,_,_,_,⟨hxf,Par.RI (by simp [Par.find,Par.iB,h1,h2]) h3 c2 c3,by omega⟩,(by omega),(fun h0=>absurd h0 hef),(st.pick 2 rfl).tail⟩
   ·replace h3:Par.is [40] (t::l)=true:=h3
    have htx:t.text=[40]:=Par.Aq h3
    refine WO.nil (WP.cond (t:=true) rfl (WP.seq (WP.reg (WO.aM rfl (Ar (s:=[40]) D st (XAt.ok hl) (by omega)) ?_))))
    rintro _ h ⟨S4,i4,e4,a4,rfl,q4,hd4,st⟩
    have ad4:=q4.adv
    have lt4:=q4.at_.lt
    refine WO.nil (WP.seq (WP.reg (WO.aU rfl (hW (((st.pick 3 rfl).pick 2 rfl).pick 2 rfl) q4.at_ (fun h0=>⟨by omega,hd4 h0⟩) (by omega) (by omega)) ?_)))
    rintro v5 h ⟨ns5,S5,i5,e5,a5,k5,q5,hn5,hg5,st⟩
    have ad5:=q5.adv
    have lt5:=q5.at_.lt
    refine WO.nil (WP.seq (WP.reg (WO.aM rfl (cu (s:=[41]) D st q5.at_) ?_)))
    rintro _ h ⟨x6,S6,i6,e6,a6,rfl,q6,st⟩
    have ad6:=q6.adv
    have lt6:=q6.at_.lt
    refine WO.nil (WP.seq (WP.reg (WO.val (v:= .ptr p.rb 0) rfl (WO.val (v:= .ptr p.rb 2) (L.aA rfl) (WO.val (v:= .int .i64 ((d+1:Nat):Int)) (L.aC rfl (st.aj 0 rfl) rfl) (WO.val (v:= .int .i64 (d:Int)) (L.rV rfl rfl (by omega) (And.intro (by omega) (by omega))) (WO.val (v:= .ptr p.rb 0) rfl (WO.val (v:= .ptr p.rb 2) (L.aA rfl) (WO.aG (row':=[.sl p.tb p.to p.ts.length p.cap, .int .i64 (i6:Int), .int .i64 (d:Int), .int .i64 (e6:Int), .int .i64 (a6:Int)]) st 0 rfl rfl rfl rfl rfl rfl rfl (fun h st=> ?_))))))))))
    refine WO.nil (WP.seq (WP.reg (WO.aB (v:=v5) rfl (WO.nil (WP.ret ?_)))))
    exact ⟨_,(ak (aD (v:=v5) rfl) (aF _ _)),_,_,_,_,_,_,⟨q6.at_,Par.NU (by simp [Par.find,Par.iB,h1,h2]) h3 q4.res q5.res q6.res,by omega⟩,(by omega),(fun h0=>hg5 (q6.good q5.at_ h0)),(st.pick 3 rfl).tail⟩
  ·replace h2:Par.is [33] (t::l)=true:=h2
   have htx:t.text=[33]:=Par.Aq h2
   refine WO.aB (v:= .bool true) rfl (WO.nil (WP.cond (t:=true) rfl (WP.seq (WP.reg (WO.aB (v:= .int .i64 3) rfl (WO.nil (WP.seq (WP.seq (WP.reg (WO.val (v:= .ptr tb 1) (L.aA rfl) (WO.val (v:=L.str t.text) (L.aC rfl (st.aj 2 rfl) rfl) (WO.ifS (L.seq (m:=[33]) rfl rfl) (fun _=> ?_) (fun cc=>absurd htx cc)))))))))))))
   refine WO.nil (WP.cond (t:=true) rfl (WP.reg (WO.aB (v:= .int .i64 4) rfl (WO.nil (WP.seq (WP.reg (WO.val (v:= .ptr tb 1) (L.aA rfl) (WO.val (v:=L.str t.text) (L.aC rfl (st.aj 2 rfl) rfl) (WO.aM rfl (Ar (s:=t.text) D st (XAt.ok hl) (by omega)) ?_)))))))))
   rintro _ h ⟨S7,i7,e7,a7,rfl,q7,hd7,st⟩
   have ad7:=q7.adv
   have lt7:=q7.at_.lt
   refine WO.nil (WP.seq (WP.reg (WO.aU rfl (hU (((st.pick 3 rfl).pick 2 rfl).pick 2 rfl) q7.at_ (fun h0=>⟨by omega,hd7 h0⟩) (by omega) (by omega)) ?_)))
   rintro v8 h ⟨ns8,S8,i8,e8,a8,k8,q8,hn8,hg8,st⟩
   have ad8:=q8.adv
   have lt8:=q8.at_.lt
   refine WO.nil (WP.seq (WP.reg (WO.val (v:= .ptr p.rb 0) rfl (WO.val (v:= .ptr p.rb 2) (L.aA rfl) (WO.val (v:= .int .i64 ((d+1:Nat):Int)) (L.aC rfl (st.aj 0 rfl) rfl) (WO.val (v:= .int .i64 (d:Int)) (L.rV rfl rfl (by omega) (And.intro (by omega) (by omega))) (WO.val (v:= .ptr p.rb 0) rfl (WO.val (v:= .ptr p.rb 2) (L.aA rfl) (WO.aG (row':=[.sl p.tb p.to p.ts.length p.cap, .int .i64 (i8:Int), .int .i64 (d:Int), .int .i64 (e8:Int), .int .i64 (a8:Int)]) st 0 rfl rfl rfl rfl rfl rfl rfl (fun h st=> ?_))))))))))
   refine WO.nil (WP.seq (WP.reg (WO.val (v:= .int .i64 (ns8.length:Int)) (L.dJ rfl (st.u7 2 rfl (by decide)) (List.length_map _)) (WO.val (v:= .int .i64 ((ns8.length:Int) - 1)) (L.rV rfl rfl rfl (And.intro (by omega) (by omega))) (WO.val (v:= .ptr tb 2) (L.aA rfl) (WO.val (v:= .int .i64 (t.at_:Int)) (L.aC rfl (st.aj 3 rfl) rfl) (WO.val (v:= .agg [.int .i64 4, .int .i64 0, .str 0 0, .str 0 0, .int .i64 ((ns8.length:Int) - 1), .int .i64 (-1), .int .i64 (t.at_:Int)]) (L.build rfl) (WO.iY (rows:=[[.int .i64 4, .int .i64 0, .str 0 0, .str 0 0, .int .i64 ((ns8.length:Int) - 1), .int .i64 (-1), .int .i64 (t.at_:Int)]]) st rfl (by decide) rfl (by simp) (fun bs3 h st=> ?_)))))))))
   refine WO.kN st 3 rfl rfl rfl (st.aJ 0 rfl) (by decide) (by simp;omega) (fun f9 v9 h st=> ?_)
   rw [show (ns8.map Nd.row)++[[V.int .i64 4,V.int .i64 0,V.str 0 0,V.str 0 0,V.int .i64 ((ns8.length:Int) - 1),V.int .i64 (-1),V.int .i64 (t.at_:Int)]]=(ns8++[Nd.mk 4 0 [] [] ((ns8.length:Int) - 1) (-1) t.at_]).map Nd.row from by simp [Nd.row];rfl] at st
   obtain ⟨ab9,rfl⟩:=(st.bQ 3 rfl).ne (by simp)
   refine WO.nil (WP.ret ?_)
   exact ⟨_,(ak (aD (v:= .sl ab9 0 (((ns8++[Nd.mk 4 0 [] [] ((ns8.length:Int) - 1) (-1) t.at_]).map Nd.row).length) none) rfl) (aF _ _)),_,_,_,_,_,_,⟨q8.at_,Par.unary_neg (o:=([33],4)) (by simp [Par.find,Par.iB,h1,h2]) h2 rfl (by have ho:=q7.res;rw [htx] at ho;exact ho) q8.res (fun l2 e2=>by have:=q8.at_;rw [e2] at this;have:=hg8 this.ok0.1;omega),by omega⟩,(by simp;omega),(by intro _;simp),(st.tail.pick 3 rfl).tail⟩
 ·replace h1:Par.is [45] (t::l)=true:=h1
  have htx:t.text=[45]:=Par.Aq h1
  refine WO.no rfl (WO.no rfl (WO.aB (v:= .bool true) rfl (WO.nil (WP.cond (t:=true) rfl (WP.seq (WP.reg (WO.aB (v:= .int .i64 3) rfl (WO.nil (WP.seq (WP.seq (WP.reg (WO.val (v:= .ptr tb 1) (L.aA rfl) (WO.val (v:=L.str t.text) (L.aC rfl (st.aj 2 rfl) rfl) (WO.ifS (L.seq (m:=[33]) rfl rfl) (fun cc=>absurd (cc.symm.trans htx) (by decide)) (fun _=> ?_)))))))))))))))
  refine WO.nil (WP.cond (t:=false) rfl (WP.skip (WP.seq (WP.reg (WO.val (v:= .ptr tb 1) (L.aA rfl) (WO.val (v:=L.str t.text) (L.aC rfl (st.aj 2 rfl) rfl) (WO.aM rfl (Ar (s:=t.text) D st (XAt.ok hl) (by omega)) ?_)))))))
  rintro _ h ⟨S10,i10,e10,a10,rfl,q10,hd10,st⟩
  have ad10:=q10.adv
  have lt10:=q10.at_.lt
  refine WO.nil (WP.seq (WP.reg (WO.aU rfl (hU (((st.pick 3 rfl).pick 2 rfl).pick 2 rfl) q10.at_ (fun h0=>⟨by omega,hd10 h0⟩) (by omega) (by omega)) ?_)))
  rintro v11 h ⟨ns11,S11,i11,e11,a11,k11,q11,hn11,hg11,st⟩
  have ad11:=q11.adv
  have lt11:=q11.at_.lt
  refine WO.nil (WP.seq (WP.reg (WO.val (v:= .ptr p.rb 0) rfl (WO.val (v:= .ptr p.rb 2) (L.aA rfl) (WO.val (v:= .int .i64 ((d+1:Nat):Int)) (L.aC rfl (st.aj 0 rfl) rfl) (WO.val (v:= .int .i64 (d:Int)) (L.rV rfl rfl (by omega) (And.intro (by omega) (by omega))) (WO.val (v:= .ptr p.rb 0) rfl (WO.val (v:= .ptr p.rb 2) (L.aA rfl) (WO.aG (row':=[.sl p.tb p.to p.ts.length p.cap, .int .i64 (i11:Int), .int .i64 (d:Int), .int .i64 (e11:Int), .int .i64 (a11:Int)]) st 0 rfl rfl rfl rfl rfl rfl rfl (fun h st=> ?_))))))))))
  refine WO.nil (WP.seq (WP.reg (WO.val (v:= .int .i64 (ns11.length:Int)) (L.dJ rfl (st.u7 2 rfl (by decide)) (List.length_map _)) (WO.val (v:= .int .i64 ((ns11.length:Int) - 1)) (L.rV rfl rfl rfl (And.intro (by omega) (by omega))) (WO.val (v:= .ptr tb 2) (L.aA rfl) (WO.val (v:= .int .i64 (t.at_:Int)) (L.aC rfl (st.aj 3 rfl) rfl) (WO.val (v:= .agg [.int .i64 3, .int .i64 0, .str 0 0, .str 0 0, .int .i64 ((ns11.length:Int) - 1), .int .i64 (-1), .int .i64 (t.at_:Int)]) (L.build rfl) (WO.iY (rows:=[[.int .i64 3, .int .i64 0, .str 0 0, .str 0 0, .int .i64 ((ns11.length:Int) - 1), .int .i64 (-1), .int .i64 (t.at_:Int)]]) st rfl (by decide) rfl (by simp) (fun bs4 h st=> ?_)))))))))
  refine WO.kN st 3 rfl rfl rfl (st.aJ 0 rfl) (by decide) (by simp;omega) (fun f12 v12 h st=> ?_)
  rw [show (ns11.map Nd.row)++[[V.int .i64 3,V.int .i64 0,V.str 0 0,V.str 0 0,V.int .i64 ((ns11.length:Int) - 1),V.int .i64 (-1),V.int .i64 (t.at_:Int)]]=(ns11++[Nd.mk 3 0 [] [] ((ns11.length:Int) - 1) (-1) t.at_]).map Nd.row from by simp [Nd.row];rfl] at st
  obtain ⟨ab12,rfl⟩:=(st.bQ 3 rfl).ne (by simp)
  refine WO.nil (WP.ret ?_)
  exact ⟨_,(ak (aD (v:= .sl ab12 0 (((ns11++[Nd.mk 3 0 [] [] ((ns11.length:Int) - 1) (-1) t.at_]).map Nd.row).length) none) rfl) (aF _ _)),_,_,_,_,_,_,⟨q11.at_,Par.unary_neg (o:=([45],3)) (by simp [Par.find,Par.iB,h1]) h1 rfl (by have ho:=q10.res;rw [htx] at ho;exact ho) q11.res (fun l2 e2=>by have:=q11.at_;rw [e2] at this;have:=hg11 this.ok0.1;omega),by omega⟩,(by simp;omega),(by intro _;simp),(st.tail.pick 3 rfl).tail⟩
theorem zT (D:ko c) {N:Nat} {un:Par.E} (hU:qx c 101 N un):qx c 76 N (Par.whole un):=by
 have h1:qx c 93 N (Par.term un):=by intro fs h p i d e a S ns k v st hx hN hd hns;exact xterm_c D hU st hx hN hd hns
 have h2:qx c 85 N (Par.sum un):=by intro fs h p i d e a S ns k v st hx hN hd hns;exact xsum_c D h1 st hx hN hd hns
 intro fs h p i d e a S ns k v st hx hN hd hns
 exact xexpr_c D h2 st hx hN hd hns
theorem FJ (D:ko c) (N:Nat):qx c 101 N (Par.unary N):=by
 induction N with
 |zero=>
  intro fs h p i d e a S ns k v st hx hN hd hns
  refine CO (N:=0) D st hx fun h0=> ?_
  have:=hx.lt;have:=(hN h0).1;omega
 |succ N ih=>
  intro fs h p i d e a S ns k v st hx hN hd hns
  by_cases he:e=0
  ·obtain ⟨l,hS,ha,hl⟩:=hx.good he
   subst hS ha he
   obtain ⟨t,l,rfl⟩:=hl.cons
   have:=hN rfl
   exact N8 D ih (zT D ih) st hl (by omega) this.2 (by omega)
  ·exact CO (N:=0) D st hx he
end
end Go.Eng.YtjobofnpmmjeoaaGreatDoor
