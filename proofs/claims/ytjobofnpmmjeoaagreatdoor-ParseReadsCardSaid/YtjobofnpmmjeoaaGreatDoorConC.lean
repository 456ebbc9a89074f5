/- Part of a proof of a law: rules of an evaluator, contracts, plain laws. No condition of its own. -/
import Derived.Test.YtjobofnpmmjeoaaGreatDoorConB
import Derived.Test.YtjobofnpmmjeoaaGreatDoorSymC
set_option linter.unusedVariables false
set_option linter.unusedSimpArgs false
namespace Go.Eng.YtjobofnpmmjeoaaGreatDoor
open Go.Eng
noncomputable section
variable {c:Ctx}
theorem lM.mq (h:Heap):lM h .slN []:=⟨[], .nil,trivial⟩
theorem iD.mq (h:Heap):iD h .slN []:=⟨[], .nil,bF.nil⟩
theorem iD.FK {h:Heap} {v:V} {l:List Sm} (a:iD h v l):v.bM=some [v]:=by obtain ⟨_,r,_⟩:=a;exact r.cells
theorem SmR.of {h:Heap} {k a:Nat} {m n l tm t:List UInt8} {hs:Bool} {e:List Nd} {ag:List (List Nd)} {b el:List Sm} {ve va vb vl:V} (h1:Rows 7 h ve (e.map Nd.row)) (h2:lM h va ag) (h3:iD h vb b) (h4:iD h vl el):
 SmR h (.mk k a m n l hs tm t e ag b el) [.int .i64 (k:Int), .int .i64 (a:Int),L.str m,L.str n,L.str l, .bool hs,L.str tm,L.str t,ve,va,vb,vl]:=by
 simp only [SmR];exact ⟨ve,va,vb,vl,rfl,h1,h2,h3,h4⟩
theorem pq (D:ko c) {fs:List Fact} {h:Heap} {p:RP} {i d e a:Nat} {S:Par.SQ} (st:St (p.bD i d e a::p.toks::fs) h) (hx:XAt p i e a S) (hd:e=0→d≤40) (hd2:d≤41):
 aV c 76 [.ptr p.rb 0, .slN] h fun v h1=>∃(x:List Nd) (S':Par.SQ) (i' e' a':Nat),Stp p S i (Par.expr d) x S' i' e' a'∧St (.stb (fun h=>Rows 7 h v (x.map Nd.row))::p.bD i' d e' a'::p.toks::fs) h1:=by
 have s0:St (p.bD i d e a::p.toks:: .acc 0 7 .slN (([]:List Nd).map Nd.row)::fs) h:=((st.acc0 7).pick 2 rfl).pick 2 rfl
 obtain ⟨v,h1,hr,ns,S',i',e',a',k',q,hn,hg,s1⟩:=zT D (FJ D S.len) s0 hx (fun h0=>⟨hx.fuel h0,hd h0⟩) hd2 (Nat.zero_le _)
 refine ⟨v,h1,hr,ns,S',i',e',a',⟨q.at_, ?_,q.adv⟩,(s1.pick 2 rfl).shut (by decide)⟩
 exact Par.Res.eqv (Par.expr_bn d) ((Par.Res.len (F:=fun n l=>Par.whole (Par.unary n) d l []) q.res).bn (g:=fun x l'=> .ok (x.2,l')) (Par.Res.pure S' ns))
def XStm (c:Ctx) (N:Nat) (stm:Nat→List Tok→Par.R Sm):Prop:=∀{fs:List Fact} {h:Heap} {p:RP} {i d:Nat} {l:List Tok},St (p.bD i d 0 0::p.toks::fs) h→Left p i l→p.ts.length≤i+N→d≤40→
 aV c 67 [.ptr p.rb 0] h fun v h1=>∃(x:Sm) (S':Par.SQ) (i' e' a':Nat) (row:List V),v= .agg row∧row.length=12∧Stp p (.ok l) i (stm d) x S' i' e' a'∧St (.stb (fun h=>SmR h x row)::p.bD i' d e' a'::p.toks::fs) h1
def XBlk (c:Ctx) (N:Nat) (blk:Par.Bk):Prop:=∀{fs:List Fact} {h:Heap} {p:RP} {i d e a:Nat} {S:Par.SQ},St (p.bD i d e a::p.toks::fs) h→XAt p i e a S→(e=0→p.ts.length≤i+N)→d≤40→
 aV c 53 [.ptr p.rb 0] h fun v h1=>∃(x:List Sm) (S':Par.SQ) (i' e' a':Nat),Stp p S i (blk d) x S' i' e' a'∧St (.stb (fun h=>iD h v x)::p.bD i' d e' a'::p.toks::fs) h1
theorem Ik (D:ko c) {N:Nat} {stm:Nat→List Tok→Par.R Sm} (hstm:XStm c N stm) {fs:List Fact} {h:Heap} {p:RP} {i d e a:Nat} {S:Par.SQ} (st:St (p.bD i d e a::p.toks::fs) h) (hx:XAt p i e a S) (hN:e=0→p.ts.length≤i+N) (hd:d≤40):
 aV c 53 [.ptr p.rb 0] h fun v h1=>∃(x:List Sm) (S':Par.SQ) (i' e' a':Nat),Stp p S i (Par.kQ stm d) x S' i' e' a'∧St (.stb (fun h=>iD h v x)::p.bD i' d e' a'::p.toks::fs) h1:=by
 have hsm:=hx.small
 have hlt:=hx.lt
 refine aV.dh D.f53 rfl (WP.seq (WP.reg (WO.aB (v:= .slN) rfl (WO.nil (WP.seq (WP.reg (WO.aB (v:= .slN) rfl (WO.nil (WP.seq (WP.reg (WO.aM rfl (Ar (s:=[123]) D st hx (by omega)) ?_)))))))))))
 rintro _ h ⟨S1,i1,e1,a1,rfl,q1,hd1,st⟩
 have ad1:=q1.adv
 have lt1:=q1.at_.lt
 refine WO.nil (WP.seq (WP.block ?_))
 replace st:St (.acc 0 12 .slN ([]):: .stb (fun h=>bF h ([]) ([]))::(p.bD i1 (d+1) e1 a1)::p.toks::fs) h:=((st.acc0 12) |> fun st=>((St.pure st (Q:=True) trivial).iA (Q:=fun h=>bF h [] []) (fun _ _=>bF.nil)).pick 1 rfl)
 refine WP.eO (α:=Nat) (fun k env h=>∃Sz iz ez az ssz rsz fz vz dz2,((∀y S',Par.Res Sz (fun l=>Par.jg stm (d+1) k l ssz) y S'→Par.Res S (Par.kQ stm d) y S')∧XAt p iz ez az Sz∧(ez=0→p.ts.length≤iz+k)∧rsz.length≤iz+min ez 1∧i+1≤iz+min ez 1∧(ez=0→e=0∧d+1≤40))∧env=bG [.ptr p.rb 0, .slN,dz2,vz] 0 Env.nil∧St (.acc fz 12 vz rsz:: .stb (fun h=>bF h ssz rsz)::(p.bD iz (d+1) ez az)::p.toks::fs) h) (fun k=>k) (Par.SQ.len S1) ?_ ?_
 ·exact ⟨S1,i1,e1,a1,[],[],0, .slN, .bot,⟨fun _ _ r=>Par.Oh q1.res (Par.Res.len (F:=fun n l=>Par.jg stm (d+1) n l []) r),q1.at_,q1.at_.fuel,Nat.zero_le _,ad1,fun h0=>⟨q1.good hx h0,hd1 h0⟩⟩,by kernel_rfl,st⟩
 rintro k _ h ⟨Sz,iz,ez,az,ssz,rsz,fz,vz,dz2,⟨hs,hz,hk,hrz,hadz,hez⟩,rfl,st⟩
 have ltz:=hz.lt
 have smz:=hz.small
 refine WP.seq (WP.seq (WP.reg (WO.val (v:= .ptr p.rb 0) rfl (WO.val (v:= .ptr p.rb 3) (L.aA rfl) (WO.val (v:= .int .i64 (ez:Int)) (L.aC rfl (st.aj 2 rfl) rfl) (WO.ifV (L.eql rfl rfl) (fun ce=> ?_) (fun ce=> ?_)))))))
 ·replace ce:ez=0:=by omega
  obtain ⟨l2,hS2,ha2,hl2⟩:=hz.good ce
  subst hS2 ha2 ce
  obtain ⟨k,rfl⟩:∃m,k=m+1:=⟨k - 1,by omega⟩
  refine WO.yes rfl (WO.val (v:= .ptr p.rb 0) rfl (WO.yes rfl (WO.aM rfl (uI (s:=[125]) D ((st.pick 3 rfl).pick 3 rfl) (XAt.ok hl2)) ?_)))
  rintro _ h ⟨rfl,st⟩
  cases hb:Par.isS [125] (.ok l2)
  ·replace hb:Par.is [125] l2=false:=hb
   refine WO.yes rfl (WO.val (v:= .bool true) rfl (WO.aB (v:= .bool true) rfl (WO.nil (WP.cond (t:=true) rfl (WP.skip (WP.block (WP.reg (WO.aM rfl (hstm st hl2 (by have:=hN (hez rfl).1;omega) (hez rfl).2) ?_))))))))
   rintro _ h ⟨x3,S3,i3,e3,a3,row3,rfl,hr3,q3,st⟩
   have ad3:=q3.adv
   have lt3:=q3.at_.lt
   refine WO.iY (rows:=[row3]) st (yc rfl hr3) (by decide) rfl (by simpa using hr3) (fun bs1 h st=> ?_)
   refine WO.kN st 4 rfl rfl rfl (st.aJ 0 rfl) (by decide) (by simp;omega) (fun f4 v4 h st=> ?_)
   obtain ⟨ab4,rfl⟩:=(st.bQ 4 rfl).ne (by simp)
   replace st:=((((st.pick 5 rfl).pick 2 rfl)).and).iA (fun h hx=>hx.2.snoc hx.1)
   refine WO.nil ?_
   exact ⟨k,(Nat.lt_succ_self _),S3,i3,e3,a3,(ssz++[x3]),(rsz++[row3]),f4,(.sl ab4 0 (rsz++[row3]).length none),(.bool true),⟨fun y S' r=>hs y S' (Par.Ij hb q3.res r),q3.at_,(by omega),(by simp;omega),(by omega),(fun _=>hez rfl)⟩,by kernel_rfl,((st.pick 1 rfl).tail.pick 3 rfl)⟩
  ·replace hb:Par.is [125] l2=true:=hb
   refine WO.yes rfl (WO.val (v:= .bool false) rfl (WO.aB (v:= .bool false) rfl (WO.nil (WP.cond (t:=false) rfl (WP.exit (WP.seq (WP.reg (WO.aM rfl (cu (s:=[125]) D st (XAt.ok hl2)) ?_))))))))
   rintro _ h ⟨x5,S5,i5,e5,a5,rfl,q5,st⟩
   have ad5:=q5.adv
   have lt5:=q5.at_.lt
   refine WO.nil (WP.seq (WP.reg (WO.val (v:= .ptr p.rb 0) rfl (WO.val (v:= .ptr p.rb 2) (L.aA rfl) (WO.val (v:= .int .i64 (((d+1):Nat):Int)) (L.aC rfl (st.aj 0 rfl) rfl) (WO.val (v:= .int .i64 (d:Int)) (L.rV rfl rfl (by omega) (And.intro (by omega) (by omega))) (WO.val (v:= .ptr p.rb 0) rfl (WO.val (v:= .ptr p.rb 2) (L.aA rfl) (WO.aG (row':=[.sl p.tb p.to p.ts.length p.cap, .int .i64 (i5:Int), .int .i64 (d:Int), .int .i64 (e5:Int), .int .i64 (a5:Int)]) st 0 rfl rfl rfl rfl rfl rfl rfl (fun h st=> ?_))))))))))
   refine WO.nil (WP.seq (WP.reg (WO.aB (v:=vz) rfl (WO.nil (WP.ret ?_)))))
   have st2:=((((st.pick 3 rfl).pick 3 rfl)).shut (by decide)).and
   exact ⟨_,(ak (aD (v:=vz) rfl) (aF _ _)),ssz,_,_,_,_,⟨q5.at_,hs _ _ (Par.Kq hb q5.res),by omega⟩,st2.iA fun h hx=>⟨_,hx.1,hx.2⟩⟩
 ·replace ce:ez≠0:=by omega
  have hbad:=hz.bad ce
  refine WO.no rfl (WO.no rfl (WO.no rfl (WO.aB (v:= .bool false) rfl (WO.nil (WP.cond (t:=false) rfl (WP.exit (WP.seq (WP.reg (WO.aM rfl (cu (s:=[125]) D ((st.pick 3 rfl).pick 3 rfl) hz) ?_)))))))))
  rintro _ h ⟨x6,S6,i6,e6,a6,rfl,q6,st⟩
  have ad6:=q6.adv
  have lt6:=q6.at_.lt
  refine WO.nil (WP.seq (WP.reg (WO.val (v:= .ptr p.rb 0) rfl (WO.val (v:= .ptr p.rb 2) (L.aA rfl) (WO.val (v:= .int .i64 (((d+1):Nat):Int)) (L.aC rfl (st.aj 0 rfl) rfl) (WO.val (v:= .int .i64 (d:Int)) (L.rV rfl rfl (by omega) (And.intro (by omega) (by omega))) (WO.val (v:= .ptr p.rb 0) rfl (WO.val (v:= .ptr p.rb 2) (L.aA rfl) (WO.aG (row':=[.sl p.tb p.to p.ts.length p.cap, .int .i64 (i6:Int), .int .i64 (d:Int), .int .i64 (e6:Int), .int .i64 (a6:Int)]) st 0 rfl rfl rfl rfl rfl rfl rfl (fun h st=> ?_))))))))))
  refine WO.nil (WP.seq (WP.reg (WO.aB (v:=vz) rfl (WO.nil (WP.ret ?_)))))
  have st2:=((((st.pick 3 rfl).pick 3 rfl)).shut (by decide)).and
  exact ⟨_,(ak (aD (v:=vz) rfl) (aF _ _)),ssz,_,_,_,_,⟨q6.at_,hs _ _ (Par.Res.any hbad q6.res),by omega⟩,st2.iA fun h hx=>⟨_,hx.1,hx.2⟩⟩
theorem xcall_c (D:ko c) {fs:List Fact} {h:Heap} {p:RP} {i d e a at_:Nat} {S:Par.SQ} (st:St (p.bD i d e a::p.toks::fs) h) (hx:XAt p i e a S) (hd:d≤40):
 aV c 77 [.ptr p.rb 0, .agg [.int .i64 0, .int .i64 (at_:Int),L.str [],L.str [],L.str [], .bool false,L.str [],L.str [], .slN, .slN, .slN, .slN]] h fun v h1=>∃(x:Par.Cl) (S':Par.SQ) (i' e' a':Nat) (va:V),v= .agg [.int .i64 4, .int .i64 (at_:Int),L.str x.mod,L.str x.name,L.str [], .bool x.has,L.str x.tomod,L.str x.to, .slN,va, .slN, .slN]∧va.bM=some [va]∧Stp p S i (Par.call d) x S' i' e' a'∧St (.stb (fun h=>lM h va x.args)::p.bD i' d e' a'::p.toks::fs) h1:=by
 have hsm:=hx.small
 have hlt:=hx.lt
 refine aV.dh D.f77 rfl (WP.seq (WP.reg (WO.bL st (L.box (l:=[.int .i64 0, .int .i64 (at_:Int),L.str [],L.str [],L.str [], .bool false,L.str [],L.str [], .slN, .slN, .slN, .slN]) rfl rfl) (fun sb h st=> ?_))))
 refine WO.bL st L.alloc (fun rb2 h st=> ?_)
 refine WO.nil (WP.seq (WP.reg (WO.val (v:= .ptr sb 0) (L.aA rfl) (WO.aG (row':=[.int .i64 4, .int .i64 (at_:Int),L.str [],L.str [],L.str [], .bool false,L.str [],L.str [], .slN, .slN, .slN, .slN]) st 1 rfl rfl rfl rfl rfl rfl rfl (fun h st=> ?_)))))
 refine WO.nil (WP.seq (WP.reg (WO.aM rfl (yx D ((st.pick 3 rfl).pick 3 rfl) hx) ?_)))
 rintro _ h ⟨x1,S1,i1,e1,a1,rfl,q1,st⟩
 have ad1:=q1.adv
 have lt1:=q1.at_.lt
 refine WO.val (v:=L.str x1.1) rfl (WO.val (v:=L.str x1.2) rfl (WO.aB (v:=L.str x1.1) rfl (WO.aB (v:=L.str x1.2) rfl (WO.nil (WP.seq (WP.seq (WP.reg (WO.aU rfl (eF (s:=[61]) D st q1.at_) ?_))))))))
 rintro _ h (⟨rfl,⟨l2,hS2,he2,ha2,hi,hl2⟩,stn⟩|⟨rfl,hi,stn⟩)
 ·subst hS2 he2 ha2
  replace st:St ((p.bD (i1+1) d 0 0)::p.toks:: .box rb2 [.int .i64 0, .int .i64 0, .str 0 0, .str 0 0, .str 0 0, .bool false, .str 0 0, .str 0 0, .slN, .slN, .slN, .slN]:: .box sb [.int .i64 4, .int .i64 (at_:Int),L.str [],L.str [],L.str [], .bool false,L.str [],L.str [], .slN, .slN, .slN, .slN]::fs) h:=stn
  have lt2:=hl2.lt
  refine WO.nil (WP.cond (t:=true) rfl (WP.seq (WP.reg (WO.val (v:= .ptr sb 5) (L.aA rfl) (WO.aG (row':=[.int .i64 4, .int .i64 (at_:Int),L.str [],L.str [],L.str [], .bool true,L.str [],L.str [], .slN, .slN, .slN, .slN]) st 3 rfl rfl rfl rfl rfl rfl rfl (fun h st=> ?_))))))
  refine WO.nil (WP.seq (WP.reg (WO.val (v:= .ptr sb 2) (L.aA rfl) (WO.aG (row':=[.int .i64 4, .int .i64 (at_:Int),L.str x1.1,L.str [],L.str [], .bool true,L.str [],L.str [], .slN, .slN, .slN, .slN]) st 3 rfl rfl rfl rfl rfl rfl rfl (fun h st=> ?_)))))
  refine WO.nil (WP.seq (WP.reg (WO.val (v:= .ptr sb 3) (L.aA rfl) (WO.aG (row':=[.int .i64 4, .int .i64 (at_:Int),L.str x1.1,L.str x1.2,L.str [], .bool true,L.str [],L.str [], .slN, .slN, .slN, .slN]) st 3 rfl rfl rfl rfl rfl rfl rfl (fun h st=> ?_)))))
  refine WO.nil (WP.seq (WP.reg (WO.aM rfl (yx D st (XAt.ok hl2)) ?_)))
  rintro _ h ⟨x3,S3,i3,e3,a3,rfl,q3,st⟩
  have ad3:=q3.adv
  have lt3:=q3.at_.lt
  refine WO.val (v:=L.str x3.1) rfl (WO.val (v:=L.str x3.2) rfl (WO.aB (v:=L.str x3.1) rfl (WO.aB (v:=L.str x3.2) rfl (WO.nil (WP.seq (WP.reg (WO.aB (v:=L.str x3.1) rfl (WO.nil (WP.reg (WO.aB (v:=L.str x3.2) rfl (WO.nil (WP.seq (WP.reg (WO.val (v:= .ptr sb 6) (L.aA rfl) (WO.aG (row':=[.int .i64 4, .int .i64 (at_:Int),L.str x1.1,L.str x1.2,L.str [], .bool true,L.str x3.1,L.str [], .slN, .slN, .slN, .slN]) st 3 rfl rfl rfl rfl rfl rfl rfl (fun h st=> ?_))))))))))))))))
  refine WO.nil (WP.seq (WP.reg (WO.val (v:= .ptr sb 7) (L.aA rfl) (WO.aG (row':=[.int .i64 4, .int .i64 (at_:Int),L.str x1.1,L.str x1.2,L.str [], .bool true,L.str x3.1,L.str x3.2, .slN, .slN, .slN, .slN]) st 3 rfl rfl rfl rfl rfl rfl rfl (fun h st=> ?_)))))
  refine WO.nil (WP.seq (WP.reg (WO.aM rfl (cu (s:=[40]) D st q3.at_) ?_)))
  rintro _ h ⟨x4,S4,i4,e4,a4,rfl,q4,st⟩
  have ad4:=q4.adv
  have lt4:=q4.at_.lt
  refine WO.nil (WP.seq (WP.seq (WP.reg (WO.aM rfl (uI (s:=[41]) D st q4.at_) ?_))))
  rintro _ h ⟨rfl,st⟩
  cases hno:Par.isS [41] S4
  ·refine WO.aB (v:= .bool true) rfl (WO.nil (WP.cond (t:=true) rfl (WP.block ?_)))
   replace st:St (.acc 0 1 .slN (([]:List V).map fun x=>[x]):: .stb (fun h=>bH h ([]) ([]))::(p.bD i4 d e4 a4)::p.toks:: .box rb2 [.int .i64 0, .int .i64 0, .str 0 0, .str 0 0, .str 0 0, .bool false, .str 0 0, .str 0 0, .slN, .slN, .slN, .slN]:: .box sb [.int .i64 4, .int .i64 (at_:Int),L.str x1.1,L.str x1.2,L.str [], .bool true,L.str x3.1,L.str x3.2, .slN, .slN, .slN, .slN]::fs) h:=((st.acc0 1).pick 0 rfl |> fun st=>((St.pure st (Q:=True) trivial).iA (Q:=fun h=>bH h [] []) (fun _ _=>trivial)).pick 1 rfl)
   refine WP.eO (α:=Nat) (fun g env h=>∃Sz iz ez az as2 vs2 f2 va2 dz10 dz11,((∀y S',Par.Res Sz (Par.CP (Par.kE d) [41] g as2.length as2) y S'→Par.Res S4 (fun l=>Par.several (Par.kE d) [41] l []) y S')∧XAt p iz ez az Sz∧(ez=0→p.ts.length≤iz+g+1)∧vs2.length≤iz+min ez 1∧as2.length=vs2.length∧i4+min e4 1≤iz+min ez 1)∧env=bG [.ptr p.rb 0, .agg [.int .i64 0, .int .i64 (at_:Int),L.str [],L.str [],L.str [], .bool false,L.str [],L.str [], .slN, .slN, .slN, .slN], .ptr rb2 0, .ptr sb 0, .bool true,L.str x3.1,L.str x3.2,L.str x3.1,L.str x3.2, .bool true,dz10,dz11] 0 Env.nil∧St (.box sb [.int .i64 4, .int .i64 (at_:Int),L.str x1.1,L.str x1.2,L.str [], .bool true,L.str x3.1,L.str x3.2, .slN,va2, .slN, .slN]:: .acc f2 1 va2 (vs2.map fun x=>[x]):: .stb (fun h=>bH h as2 vs2):: .box rb2 [.int .i64 0, .int .i64 0, .str 0 0, .str 0 0, .str 0 0, .bool false, .str 0 0, .str 0 0, .slN, .slN, .slN, .slN]::(p.bD iz d ez az)::p.toks::fs) h) (fun g=>g) (Par.SQ.len S4 - 1) ?_ ?_
   ·exact ⟨S4,i4,e4,a4,[],[],0, .slN, .bot, .bot,⟨fun _ _ r=>Par.vw hno (fun l e=>by have:=q4.at_;rw [e] at this;exact List.length_pos_iff.2 this.ok0.2.2.ne) r,q4.at_,(fun h0=>by have:=q4.at_.fuel h0;omega),Nat.zero_le _,rfl,Nat.le_refl _⟩,by kernel_rfl,((((st.pick 4 rfl).pick 2 rfl).pick 2 rfl).pick 5 rfl)⟩
   rintro g _ h ⟨Sz,iz,ez,az,as2,vs2,f2,va2,dz10,dz11,⟨hs,hz,hk,hvz,hal,hadz⟩,rfl,st⟩
   have ltz:=hz.lt
   have smz:=hz.small
   refine WP.seq (WP.seq (WP.reg (WO.val (v:= .ptr p.rb 0) rfl (WO.val (v:= .ptr p.rb 3) (L.aA rfl) (WO.val (v:= .int .i64 (ez:Int)) (L.aC rfl (st.aj 4 rfl) rfl) (WO.ifS (L.eql rfl rfl) (fun ce=> ?_) (fun ce=> ?_)))))))
   ·replace ce:ez=0:=by omega
    obtain ⟨l5,hS5,ha5,hl5⟩:=hz.good ce
    subst hS5 ha5 ce
    refine WO.nil (WP.cond (t:=true) rfl (WP.skip (WP.block (WP.seq (WP.draw (WD.val (v:= .ptr sb 9) (L.aA rfl) (WD.val (v:=va2) (L.aC rfl (st.aj 0 rfl) rfl) (WD.val (v:= .ptr p.rb 0) rfl (WD.aM rfl (pq D ((st.pick 5 rfl).pick 5 rfl) (XAt.ok hl5) (fun _=>by omega) (by omega)) (fun v_ h hp=> ?_) ?_)))))))))
    ·obtain ⟨x6,S6,i6,e6,a6,q6,st⟩:=hp
     exact aR (by first|exact av (L.aC rfl (st.aj 1 rfl) rfl)|exact aH st 1 rfl|exact av (L.aK rfl (st.aj 1 rfl) rfl rfl rfl)|exact av (L.aC rfl (st.aj 3 rfl) rfl)|exact aH st 3 rfl|exact av (L.aK rfl (st.aj 3 rfl) rfl rfl rfl)|exact av (L.aC rfl (st.aj 6 rfl) rfl)|exact aH st 6 rfl|exact av (L.aK rfl (st.aj 6 rfl) rfl rfl rfl)) (bC _ _)
    rintro v6 h ⟨x6,S6,i6,e6,a6,q6,st⟩
    have ad6:=q6.adv
    have lt6:=q6.at_.lt
    have hc6:=(st.aJ 0 rfl).cells
    have hone:∀{as2:List (List Nd)} {l S2 x2},Par.Res (.ok l) (Par.expr d) x2 S2→Par.Res (.ok l) (Par.kE d as2) (as2++[x2]) S2:=fun q=>q.bn (Par.Res.pure _ _)
    refine WD.iY (rows:=[[v6]]) st (qL hc6) (by decide) rfl (by simp) (fun bs1 h _ st=> ?_)
    refine WD.rX st 5 rfl rfl rfl (st.aJ 0 rfl) (by decide) (by simp;omega) (fun _ _ h st=>rfl) (fun f7 v7 h st=> ?_)
    rw [show (vs2.map fun x=>[x])++[[v6]]=(vs2++[v6]).map fun x=>[x] from by simp] at st
    obtain ⟨ab7,rfl⟩:=(st.bQ 5 rfl).ne (by simp)
    refine WD.val (v:= .ptr sb 9) (L.aA rfl) (WD.aG (row':=[.int .i64 4, .int .i64 (at_:Int),L.str x1.1,L.str x1.2,L.str [], .bool true,L.str x3.1,L.str x3.2, .slN, .sl ab7 0 (((vs2++[v6]).map fun x=>[x]).length) none, .slN, .slN]) st 4 rfl rfl rfl rfl rfl rfl rfl (fun h st=>rfl) (fun h st=> ?_))
    replace st:=((((st.pick 6 rfl).pick 2 rfl)).and).iA (fun h hx=>hx.2.snoc hx.1)
    refine WD.nil (WP.seq (WP.reg (WO.aM rfl (eF (s:=[44]) D ((st.pick 3 rfl).pick 3 rfl) q6.at_) ?_)))
    rintro _ h (⟨rfl,⟨l8,hS8,he8,ha8,hcm,hl8⟩,stn⟩|⟨rfl,hcm,stn⟩)
    ·subst hS8 he8 ha8
     replace st:St ((p.bD (i6+1) d 0 0)::p.toks:: .stb (fun h=>bH h (as2++[x6]) (vs2++[v6])):: .stb (fun h=>Rows 1 h (.sl bs1 0 1 (some 1)) [[v6]]):: .box sb [.int .i64 4, .int .i64 (at_:Int),L.str x1.1,L.str x1.2,L.str [], .bool true,L.str x3.1,L.str x3.2, .slN, .sl ab7 0 (((vs2++[v6]).map fun x=>[x]).length) none, .slN, .slN]:: .acc f7 1 (.sl ab7 0 ((vs2++[v6]).map fun x=>[x]).length none) ((vs2++[v6]).map fun x=>[x]):: .box rb2 [.int .i64 0, .int .i64 0, .str 0 0, .str 0 0, .str 0 0, .bool false, .str 0 0, .str 0 0, .slN, .slN, .slN, .slN]::fs) h:=stn
     have lt8:=hl8.lt
     obtain ⟨g,rfl⟩:∃m,g=m+1:=⟨g - 1,by omega⟩
     refine WO.aB (v:= .bool false) rfl (WO.nil (WP.cond (t:=false) rfl (WP.skip ?_)))
     exact ⟨g,(Nat.lt_succ_self _),(.ok l8.tail),i6+1,0,0,(as2++[x6]),(vs2++[v6]),f7,(.sl ab7 0 ((vs2++[v6]).map fun x=>[x]).length none),(.bool true),(.bool false),⟨fun y S' r=>hs y S' (Par.yC (by decide) (hone (as2:=as2) q6.res) hcm (by rw [List.length_append] at r;exact r)), .ok hl8,(by omega),(by simp;omega),(by simp [hal]),(by omega)⟩,by kernel_rfl,(((((st.pick 3 rfl).tail.pick 5 rfl).pick 3 rfl).pick 5 rfl).pick 5 rfl)⟩
    ·replace st:St ((p.bD i6 d e6 a6)::p.toks:: .stb (fun h=>bH h (as2++[x6]) (vs2++[v6])):: .stb (fun h=>Rows 1 h (.sl bs1 0 1 (some 1)) [[v6]]):: .box sb [.int .i64 4, .int .i64 (at_:Int),L.str x1.1,L.str x1.2,L.str [], .bool true,L.str x3.1,L.str x3.2, .slN, .sl ab7 0 (((vs2++[v6]).map fun x=>[x]).length) none, .slN, .slN]:: .acc f7 1 (.sl ab7 0 ((vs2++[v6]).map fun x=>[x]).length none) ((vs2++[v6]).map fun x=>[x]):: .box rb2 [.int .i64 0, .int .i64 0, .str 0 0, .str 0 0, .str 0 0, .bool false, .str 0 0, .str 0 0, .slN, .slN, .slN, .slN]::fs) h:=stn
     refine WO.aB (v:= .bool true) rfl (WO.nil (WP.cond (t:=true) rfl (WP.exit (WP.seq (WP.reg (WO.aM rfl (cu (s:=[41]) D st q6.at_) ?_))))))
     rintro _ h ⟨x9,S9,i9,e9,a9,rfl,q9,st⟩
     have ad9:=q9.adv
     have lt9:=q9.at_.lt
     refine WO.nil (WP.seq (WP.reg (WO.val (v:= .agg [.int .i64 4, .int .i64 (at_:Int),L.str x1.1,L.str x1.2,L.str [], .bool true,L.str x3.1,L.str x3.2, .slN, .sl ab7 0 (((vs2++[v6]).map fun x=>[x]).length) none, .slN, .slN]) (L.aK rfl (st.aj 4 rfl) rfl rfl rfl) (WO.aG (row':=[.int .i64 4, .int .i64 (at_:Int),L.str x1.1,L.str x1.2,L.str [], .bool true,L.str x3.1,L.str x3.2, .slN, .sl ab7 0 (((vs2++[v6]).map fun x=>[x]).length) none, .slN, .slN]) st 6 rfl rfl rfl rfl rfl rfl rfl (fun h st=> ?_)))))
     refine WO.nil (WP.ret ?_)
     have hva:=(st.bQ 5 rfl).cells
     have st2:=(((((((st.pick 3 rfl).tail.pick 3 rfl).tail.pick 4 rfl).tail.pick 2 rfl).pick 3 rfl)).shut (by decide)).and
     exact ⟨_,(ak (aP (l:=[.int .i64 4, .int .i64 (at_:Int),L.str x1.1,L.str x1.2,L.str [], .bool true,L.str x3.1,L.str x3.2, .slN, .sl ab7 0 (((vs2++[v6]).map fun x=>[x]).length) none, .slN, .slN]) rfl (L.aT (st.aj 6 rfl) rfl rfl rfl)) (aF _ _)),⟨true,x1.1,x1.2,x3.1,x3.2,(as2++[x6])⟩,_,_,_,_,_,rfl,hva,⟨q9.at_,(Par.CU q1.res hi q3.res q4.res (hs _ _ (Par.yD (hone q6.res) hcm q9.res (fun l e=>by have:=q6.at_;rw [e] at this;have h3:=this.ok0.1;have h4:=this.ok0.2.2.lt;omega)))),by omega⟩,st2.iA fun h hx=>⟨_,hx.1,hx.2⟩⟩
   ·replace ce:ez≠0:=by omega
    have hbad:=hz.bad ce
    refine WO.nil (WP.cond (t:=false) rfl (WP.exit (WP.seq (WP.reg (WO.aM rfl (cu (s:=[41]) D ((st.pick 5 rfl).pick 5 rfl) hz) ?_)))))
    rintro _ h ⟨x10,S10,i10,e10,a10,rfl,q10,st⟩
    have ad10:=q10.adv
    have lt10:=q10.at_.lt
    refine WO.nil (WP.seq (WP.reg (WO.val (v:= .agg [.int .i64 4, .int .i64 (at_:Int),L.str x1.1,L.str x1.2,L.str [], .bool true,L.str x3.1,L.str x3.2, .slN,va2, .slN, .slN]) (L.aK rfl (st.aj 2 rfl) rfl rfl rfl) (WO.aG (row':=[.int .i64 4, .int .i64 (at_:Int),L.str x1.1,L.str x1.2,L.str [], .bool true,L.str x3.1,L.str x3.2, .slN,va2, .slN, .slN]) st 5 rfl rfl rfl rfl rfl rfl rfl (fun h st=> ?_)))))
    refine WO.nil (WP.ret ?_)
    have hva:=(st.bQ 3 rfl).cells
    have st2:=((((((st.pick 2 rfl).tail.pick 4 rfl).tail.pick 3 rfl).pick 3 rfl)).shut (by decide)).and
    exact ⟨_,(ak (aP (l:=[.int .i64 4, .int .i64 (at_:Int),L.str x1.1,L.str x1.2,L.str [], .bool true,L.str x3.1,L.str x3.2, .slN,va2, .slN, .slN]) rfl (L.aT (st.aj 5 rfl) rfl rfl rfl)) (aF _ _)),⟨true,x1.1,x1.2,x3.1,x3.2,as2⟩,_,_,_,_,_,rfl,hva,⟨q10.at_,(Par.CU q1.res hi q3.res q4.res (hs _ _ (Par.Res.any hbad q10.res))),by omega⟩,st2.iA fun h hx=>⟨_,hx.1,hx.2⟩⟩
  ·refine WO.aB (v:= .bool false) rfl (WO.nil (WP.cond (t:=false) rfl (WP.skip (WP.seq (WP.reg (WO.aM rfl (cu (s:=[41]) D st q4.at_) ?_))))))
   rintro _ h ⟨x11,S11,i11,e11,a11,rfl,q11,st⟩
   have ad11:=q11.adv
   have lt11:=q11.at_.lt
   refine WO.nil (WP.seq (WP.reg (WO.val (v:= .agg [.int .i64 4, .int .i64 (at_:Int),L.str x1.1,L.str x1.2,L.str [], .bool true,L.str x3.1,L.str x3.2, .slN, .slN, .slN, .slN]) (L.aK rfl (st.aj 3 rfl) rfl rfl rfl) (WO.aG (row':=[.int .i64 4, .int .i64 (at_:Int),L.str x1.1,L.str x1.2,L.str [], .bool true,L.str x3.1,L.str x3.2, .slN, .slN, .slN, .slN]) st 2 rfl rfl rfl rfl rfl rfl rfl (fun h st=> ?_)))))
   refine WO.nil (WP.ret ?_)
   exact ⟨_,(ak (aP (l:=[.int .i64 4, .int .i64 (at_:Int),L.str x1.1,L.str x1.2,L.str [], .bool true,L.str x3.1,L.str x3.2, .slN, .slN, .slN, .slN]) rfl (L.aT (st.aj 2 rfl) rfl rfl rfl)) (aF _ _)),⟨true,x1.1,x1.2,x3.1,x3.2,[]⟩,_,_,_,_, .slN,rfl,rfl,⟨q11.at_,(Par.CU q1.res hi q3.res q4.res (Par.yB hno q11.res)),by omega⟩,(((st.pick 2 rfl).tail.pick 2 rfl).tail).yA fun h=>lM.mq h⟩
 ·replace st:St ((p.bD i1 d e1 a1)::p.toks:: .box rb2 [.int .i64 0, .int .i64 0, .str 0 0, .str 0 0, .str 0 0, .bool false, .str 0 0, .str 0 0, .slN, .slN, .slN, .slN]:: .box sb [.int .i64 4, .int .i64 (at_:Int),L.str [],L.str [],L.str [], .bool false,L.str [],L.str [], .slN, .slN, .slN, .slN]::fs) h:=stn
  refine WO.nil (WP.cond (t:=false) rfl (WP.skip (WP.seq (WP.reg (WO.val (v:= .ptr sb 6) (L.aA rfl) (WO.aG (row':=[.int .i64 4, .int .i64 (at_:Int),L.str [],L.str [],L.str [], .bool false,L.str x1.1,L.str [], .slN, .slN, .slN, .slN]) st 3 rfl rfl rfl rfl rfl rfl rfl (fun h st=> ?_)))))))
  refine WO.nil (WP.seq (WP.reg (WO.val (v:= .ptr sb 7) (L.aA rfl) (WO.aG (row':=[.int .i64 4, .int .i64 (at_:Int),L.str [],L.str [],L.str [], .bool false,L.str x1.1,L.str x1.2, .slN, .slN, .slN, .slN]) st 3 rfl rfl rfl rfl rfl rfl rfl (fun h st=> ?_)))))
  refine WO.nil (WP.seq (WP.reg (WO.aM rfl (cu (s:=[40]) D st q1.at_) ?_)))
  rintro _ h ⟨x12,S12,i12,e12,a12,rfl,q12,st⟩
  have ad12:=q12.adv
  have lt12:=q12.at_.lt
  refine WO.nil (WP.seq (WP.seq (WP.reg (WO.aM rfl (uI (s:=[41]) D st q12.at_) ?_))))
  rintro _ h ⟨rfl,st⟩
  cases hno:Par.isS [41] S12
  ·refine WO.aB (v:= .bool true) rfl (WO.nil (WP.cond (t:=true) rfl (WP.block ?_)))
   replace st:St (.acc 0 1 .slN (([]:List V).map fun x=>[x]):: .stb (fun h=>bH h ([]) ([]))::(p.bD i12 d e12 a12)::p.toks:: .box rb2 [.int .i64 0, .int .i64 0, .str 0 0, .str 0 0, .str 0 0, .bool false, .str 0 0, .str 0 0, .slN, .slN, .slN, .slN]:: .box sb [.int .i64 4, .int .i64 (at_:Int),L.str [],L.str [],L.str [], .bool false,L.str x1.1,L.str x1.2, .slN, .slN, .slN, .slN]::fs) h:=((st.acc0 1).pick 0 rfl |> fun st=>((St.pure st (Q:=True) trivial).iA (Q:=fun h=>bH h [] []) (fun _ _=>trivial)).pick 1 rfl)
   refine WP.eO (α:=Nat) (fun g env h=>∃Sz iz ez az as2 vs2 f2 va2 dz10 dz11,((∀y S',Par.Res Sz (Par.CP (Par.kE d) [41] g as2.length as2) y S'→Par.Res S12 (fun l=>Par.several (Par.kE d) [41] l []) y S')∧XAt p iz ez az Sz∧(ez=0→p.ts.length≤iz+g+1)∧vs2.length≤iz+min ez 1∧as2.length=vs2.length∧i12+min e12 1≤iz+min ez 1)∧env=bG [.ptr p.rb 0, .agg [.int .i64 0, .int .i64 (at_:Int),L.str [],L.str [],L.str [], .bool false,L.str [],L.str [], .slN, .slN, .slN, .slN], .ptr rb2 0, .ptr sb 0, .bool false,L.str x1.1,L.str x1.2, .bot, .bot, .bool true,dz10,dz11] 0 Env.nil∧St (.box sb [.int .i64 4, .int .i64 (at_:Int),L.str [],L.str [],L.str [], .bool false,L.str x1.1,L.str x1.2, .slN,va2, .slN, .slN]:: .acc f2 1 va2 (vs2.map fun x=>[x]):: .stb (fun h=>bH h as2 vs2):: .box rb2 [.int .i64 0, .int .i64 0, .str 0 0, .str 0 0, .str 0 0, .bool false, .str 0 0, .str 0 0, .slN, .slN, .slN, .slN]::(p.bD iz d ez az)::p.toks::fs) h) (fun g=>g) (Par.SQ.len S12 - 1) ?_ ?_
   ·exact ⟨S12,i12,e12,a12,[],[],0, .slN, .bot, .bot,⟨fun _ _ r=>Par.vw hno (fun l e=>by have:=q12.at_;rw [e] at this;exact List.length_pos_iff.2 this.ok0.2.2.ne) r,q12.at_,(fun h0=>by have:=q12.at_.fuel h0;omega),Nat.zero_le _,rfl,Nat.le_refl _⟩,by kernel_rfl,((((st.pick 4 rfl).pick 2 rfl).pick 2 rfl).pick 5 rfl)⟩
   rintro g _ h ⟨Sz,iz,ez,az,as2,vs2,f2,va2,dz10,dz11,⟨hs,hz,hk,hvz,hal,hadz⟩,rfl,st⟩
   have ltz:=hz.lt
   have smz:=hz.small
   refine WP.seq (WP.seq (WP.reg (WO.val (v:= .ptr p.rb 0) rfl (WO.val (v:= .ptr p.rb 3) (L.aA rfl) (WO.val (v:= .int .i64 (ez:Int)) (L.aC rfl (st.aj 4 rfl) rfl) (WO.ifS (L.eql rfl rfl) (fun ce=> ?_) (fun ce=> ?_)))))))
   ·replace ce:ez=0:=by omega
    obtain ⟨l13,hS13,ha13,hl13⟩:=hz.good ce
    subst hS13 ha13 ce
    refine WO.nil (WP.cond (t:=true) rfl (WP.skip (WP.block (WP.seq (WP.draw (WD.val (v:= .ptr sb 9) (L.aA rfl) (WD.val (v:=va2) (L.aC rfl (st.aj 0 rfl) rfl) (WD.val (v:= .ptr p.rb 0) rfl (WD.aM rfl (pq D ((st.pick 5 rfl).pick 5 rfl) (XAt.ok hl13) (fun _=>by omega) (by omega)) (fun v_ h hp=> ?_) ?_)))))))))
    ·obtain ⟨x14,S14,i14,e14,a14,q14,st⟩:=hp
     exact aR (by first|exact av (L.aC rfl (st.aj 1 rfl) rfl)|exact aH st 1 rfl|exact av (L.aK rfl (st.aj 1 rfl) rfl rfl rfl)|exact av (L.aC rfl (st.aj 3 rfl) rfl)|exact aH st 3 rfl|exact av (L.aK rfl (st.aj 3 rfl) rfl rfl rfl)|exact av (L.aC rfl (st.aj 6 rfl) rfl)|exact aH st 6 rfl|exact av (L.aK rfl (st.aj 6 rfl) rfl rfl rfl)) (bC _ _)
    rintro v14 h ⟨x14,S14,i14,e14,a14,q14,st⟩
    have ad14:=q14.adv
    have lt14:=q14.at_.lt
    have hc14:=(st.aJ 0 rfl).cells
    have hone:∀{as2:List (List Nd)} {l S2 x2},Par.Res (.ok l) (Par.expr d) x2 S2→Par.Res (.ok l) (Par.kE d as2) (as2++[x2]) S2:=fun q=>q.bn (Par.Res.pure _ _)
    refine WD.iY (rows:=[[v14]]) st (qL hc14) (by decide) rfl (by simp) (fun bs2 h _ st=> ?_)
    refine WD.rX st 5 rfl rfl rfl (st.aJ 0 rfl) (by decide) (by simp;omega) (fun _ _ h st=>rfl) (fun f15 v15 h st=> ?_)
    rw [show (vs2.map fun x=>[x])++[[v14]]=(vs2++[v14]).map fun x=>[x] from by simp] at st
    obtain ⟨ab15,rfl⟩:=(st.bQ 5 rfl).ne (by simp)
    refine WD.val (v:= .ptr sb 9) (L.aA rfl) (WD.aG (row':=[.int .i64 4, .int .i64 (at_:Int),L.str [],L.str [],L.str [], .bool false,L.str x1.1,L.str x1.2, .slN, .sl ab15 0 (((vs2++[v14]).map fun x=>[x]).length) none, .slN, .slN]) st 4 rfl rfl rfl rfl rfl rfl rfl (fun h st=>rfl) (fun h st=> ?_))
    replace st:=((((st.pick 6 rfl).pick 2 rfl)).and).iA (fun h hx=>hx.2.snoc hx.1)
    refine WD.nil (WP.seq (WP.reg (WO.aM rfl (eF (s:=[44]) D ((st.pick 3 rfl).pick 3 rfl) q14.at_) ?_)))
    rintro _ h (⟨rfl,⟨l16,hS16,he16,ha16,hcm,hl16⟩,stn⟩|⟨rfl,hcm,stn⟩)
    ·subst hS16 he16 ha16
     replace st:St ((p.bD (i14+1) d 0 0)::p.toks:: .stb (fun h=>bH h (as2++[x14]) (vs2++[v14])):: .stb (fun h=>Rows 1 h (.sl bs2 0 1 (some 1)) [[v14]]):: .box sb [.int .i64 4, .int .i64 (at_:Int),L.str [],L.str [],L.str [], .bool false,L.str x1.1,L.str x1.2, .slN, .sl ab15 0 (((vs2++[v14]).map fun x=>[x]).length) none, .slN, .slN]:: .acc f15 1 (.sl ab15 0 ((vs2++[v14]).map fun x=>[x]).length none) ((vs2++[v14]).map fun x=>[x]):: .box rb2 [.int .i64 0, .int .i64 0, .str 0 0, .str 0 0, .str 0 0, .bool false, .str 0 0, .str 0 0, .slN, .slN, .slN, .slN]::fs) h:=stn
     have lt16:=hl16.lt
     obtain ⟨g,rfl⟩:∃m,g=m+1:=⟨g - 1,by omega⟩
     refine WO.aB (v:= .bool false) rfl (WO.nil (WP.cond (t:=false) rfl (WP.skip ?_)))
     exact ⟨g,(Nat.lt_succ_self _),(.ok l16.tail),i14+1,0,0,(as2++[x14]),(vs2++[v14]),f15,(.sl ab15 0 ((vs2++[v14]).map fun x=>[x]).length none),(.bool true),(.bool false),⟨fun y S' r=>hs y S' (Par.yC (by decide) (hone (as2:=as2) q14.res) hcm (by rw [List.length_append] at r;exact r)), .ok hl16,(by omega),(by simp;omega),(by simp [hal]),(by omega)⟩,by kernel_rfl,(((((st.pick 3 rfl).tail.pick 5 rfl).pick 3 rfl).pick 5 rfl).pick 5 rfl)⟩
    ·replace st:St ((p.bD i14 d e14 a14)::p.toks:: .stb (fun h=>bH h (as2++[x14]) (vs2++[v14])):: .stb (fun h=>Rows 1 h (.sl bs2 0 1 (some 1)) [[v14]]):: .box sb [.int .i64 4, .int .i64 (at_:Int),L.str [],L.str [],L.str [], .bool false,L.str x1.1,L.str x1.2, .slN, .sl ab15 0 (((vs2++[v14]).map fun x=>[x]).length) none, .slN, .slN]:: .acc f15 1 (.sl ab15 0 ((vs2++[v14]).map fun x=>[x]).length none) ((vs2++[v14]).map fun x=>[x]):: .box rb2 [.int .i64 0, .int .i64 0, .str 0 0, .str 0 0, .str 0 0, .bool false, .str 0 0, .str 0 0, .slN, .slN, .slN, .slN]::fs) h:=stn
     refine WO.aB (v:= .bool true) rfl (WO.nil (WP.cond (t:=true) rfl (WP.exit (WP.seq (WP.reg (WO.aM rfl (cu (s:=[41]) D st q14.at_) ?_))))))
     rintro _ h ⟨x17,S17,i17,e17,a17,rfl,q17,st⟩
     have ad17:=q17.adv
     have lt17:=q17.at_.lt
     refine WO.nil (WP.seq (WP.reg (WO.val (v:= .agg [.int .i64 4, .int .i64 (at_:Int),L.str [],L.str [],L.str [], .bool false,L.str x1.1,L.str x1.2, .slN, .sl ab15 0 (((vs2++[v14]).map fun x=>[x]).length) none, .slN, .slN]) (L.aK rfl (st.aj 4 rfl) rfl rfl rfl) (WO.aG (row':=[.int .i64 4, .int .i64 (at_:Int),L.str [],L.str [],L.str [], .bool false,L.str x1.1,L.str x1.2, .slN, .sl ab15 0 (((vs2++[v14]).map fun x=>[x]).length) none, .slN, .slN]) st 6 rfl rfl rfl rfl rfl rfl rfl (fun h st=> ?_)))))
     refine WO.nil (WP.ret ?_)
     have hva:=(st.bQ 5 rfl).cells
     have st2:=(((((((st.pick 3 rfl).tail.pick 3 rfl).tail.pick 4 rfl).tail.pick 2 rfl).pick 3 rfl)).shut (by decide)).and
     exact ⟨_,(ak (aP (l:=[.int .i64 4, .int .i64 (at_:Int),L.str [],L.str [],L.str [], .bool false,L.str x1.1,L.str x1.2, .slN, .sl ab15 0 (((vs2++[v14]).map fun x=>[x]).length) none, .slN, .slN]) rfl (L.aT (st.aj 6 rfl) rfl rfl rfl)) (aF _ _)),⟨false,[],[],x1.1,x1.2,(as2++[x14])⟩,_,_,_,_,_,rfl,hva,⟨q17.at_,(Par.w9 q1.res hi q12.res (hs _ _ (Par.yD (hone q14.res) hcm q17.res (fun l e=>by have:=q14.at_;rw [e] at this;have h3:=this.ok0.1;have h4:=this.ok0.2.2.lt;omega)))),by omega⟩,st2.iA fun h hx=>⟨_,hx.1,hx.2⟩⟩
   ·replace ce:ez≠0:=by omega
    have hbad:=hz.bad ce
    refine WO.nil (WP.cond (t:=false) rfl (WP.exit (WP.seq (WP.reg (WO.aM rfl (cu (s:=[41]) D ((st.pick 5 rfl).pick 5 rfl) hz) ?_)))))
    rintro _ h ⟨x18,S18,i18,e18,a18,rfl,q18,st⟩
    have ad18:=q18.adv
    have lt18:=q18.at_.lt
    refine WO.nil (WP.seq (WP.reg (WO.val (v:= .agg [.int .i64 4, .int .i64 (at_:Int),L.str [],L.str [],L.str [], .bool false,L.str x1.1,L.str x1.2, .slN,va2, .slN, .slN]) (L.aK rfl (st.aj 2 rfl) rfl rfl rfl) (WO.aG (row':=[.int .i64 4, .int .i64 (at_:Int),L.str [],L.str [],L.str [], .bool false,L.str x1.1,L.str x1.2, .slN,va2, .slN, .slN]) st 5 rfl rfl rfl rfl rfl rfl rfl (fun h st=> ?_)))))
    refine WO.nil (WP.ret ?_)
    have hva:=(st.bQ 3 rfl).cells
    have st2:=((((((st.pick 2 rfl).tail.pick 4 rfl).tail.pick 3 rfl).pick 3 rfl)).shut (by decide)).and
    exact ⟨_,(ak (aP (l:=[.int .i64 4, .int .i64 (at_:Int),L.str [],L.str [],L.str [], .bool false,L.str x1.1,L.str x1.2, .slN,va2, .slN, .slN]) rfl (L.aT (st.aj 5 rfl) rfl rfl rfl)) (aF _ _)),⟨false,[],[],x1.1,x1.2,as2⟩,_,_,_,_,_,rfl,hva,⟨q18.at_,(Par.w9 q1.res hi q12.res (hs _ _ (Par.Res.any hbad q18.res))),by omega⟩,st2.iA fun h hx=>⟨_,hx.1,hx.2⟩⟩
  ·refine WO.aB (v:= .bool false) rfl (WO.nil (WP.cond (t:=false) rfl (WP.skip (WP.seq (WP.reg (WO.aM rfl (cu (s:=[41]) D st q12.at_) ?_))))))
   rintro _ h ⟨x19,S19,i19,e19,a19,rfl,q19,st⟩
   have ad19:=q19.adv
   have lt19:=q19.at_.lt
   refine WO.nil (WP.seq (WP.reg (WO.val (v:= .agg [.int .i64 4, .int .i64 (at_:Int),L.str [],L.str [],L.str [], .bool false,L.str x1.1,L.str x1.2, .slN, .slN, .slN, .slN]) (L.aK rfl (st.aj 3 rfl) rfl rfl rfl) (WO.aG (row':=[.int .i64 4, .int .i64 (at_:Int),L.str [],L.str [],L.str [], .bool false,L.str x1.1,L.str x1.2, .slN, .slN, .slN, .slN]) st 2 rfl rfl rfl rfl rfl rfl rfl (fun h st=> ?_)))))
   refine WO.nil (WP.ret ?_)
   exact ⟨_,(ak (aP (l:=[.int .i64 4, .int .i64 (at_:Int),L.str [],L.str [],L.str [], .bool false,L.str x1.1,L.str x1.2, .slN, .slN, .slN, .slN]) rfl (L.aT (st.aj 2 rfl) rfl rfl rfl)) (aF _ _)),⟨false,[],[],x1.1,x1.2,[]⟩,_,_,_,_, .slN,rfl,rfl,⟨q19.at_,(Par.w9 q1.res hi q12.res (Par.yB hno q19.res)),by omega⟩,(((st.pick 2 rfl).tail.pick 2 rfl).tail).yA fun h=>lM.mq h⟩
end
end Go.Eng.YtjobofnpmmjeoaaGreatDoor
namespace Go.Eng.YtjobofnpmmjeoaaGreatDoor
open Go.Eng
noncomputable section
variable {c:Ctx}
theorem xstmt_c (D:ko c) {N:Nat} {blk:Par.Bk} (hblk:XBlk c N blk) {fs:List Fact} {h:Heap} {p:RP} {i d:Nat} {l:List Tok} (st:St (p.bD i d 0 0::p.toks::fs) h) (hl:Left p i l) (hN:p.ts.length≤i+(N+1)) (hd:d≤40):
 aV c 67 [.ptr p.rb 0] h fun v h1=>∃(x:Sm) (S':Par.SQ) (i' e' a':Nat) (row:List V),v= .agg row∧row.length=12∧Stp p (.ok l) i (Par.dG blk d) x S' i' e' a'∧St (.stb (fun h=>SmR h x row)::p.bD i' d e' a'::p.toks::fs) h1:=by
 have hsm:=hl.small
 have hlt:=hl.lt
 refine aV.dh D.f67 rfl (WP.seq (WP.reg (WO.bL st L.alloc (fun res h st=> ?_))))
 refine WO.nil (WP.seq (WP.reg (WO.aM rfl (lX D ((st.pick 2 rfl).pick 2 rfl) (XAt.ok hl)) ?_)))
 rintro _ h ⟨rfl,st⟩
 refine WO.val (v:= .agg [.int .i64 0, .int .i64 (aL p i:Int), .str 0 0, .str 0 0, .str 0 0, .bool false, .str 0 0, .str 0 0, .slN, .slN, .slN, .slN]) (L.build rfl) (WO.bL st L.alloc (fun s h st=> ?_))
 refine WO.aG (row':=[.int .i64 0, .int .i64 (aL p i:Int), .str 0 0, .str 0 0, .str 0 0, .bool false, .str 0 0, .str 0 0, .slN, .slN, .slN, .slN]) st 0 rfl rfl rfl rfl rfl rfl rfl (fun h st=> ?_)
 refine WO.nil (WP.seq (WP.block (WP.seq (WP.draw (WD.val (v:= .ptr p.rb 0) rfl (WD.val (v:= .ptr p.rb 0) rfl (WD.val (v:= .ptr p.rb 3) (L.aA rfl) (WD.val (v:= .int .i64 0) (L.aC rfl (st.aj 1 rfl) rfl) (WD.ifV (L.eql rfl rfl) (fun _ ce=> ?_) (fun _ ce=>by exfalso;omega))))))))))
 refine WD.val (v:= .bool true) rfl (WD.yes rfl (WD.val (v:= .ptr p.rb 0) rfl (WD.yes rfl (WD.val (v:= .ptr p.rb 0) rfl (WD.yes rfl (WD.val (v:= .ptr p.rb 0) (L.aA rfl) (WD.yes rfl (WD.val (v:= .sl p.tb p.to p.ts.length p.cap) (L.aC rfl (st.aj 1 rfl) rfl) (WD.yes rfl (WD.val (v:= .ptr p.rb 0) rfl (WD.yes rfl (WD.val (v:= .ptr p.rb 0) rfl (WD.yes rfl (WD.val (v:= .ptr p.rb 1) (L.aA rfl) (WD.yes rfl (WD.val (v:= .int .i64 (i:Int)) (L.aC rfl (st.aj 1 rfl) rfl) (WD.yes rfl (WD.val (v:= .ptr p.tb (p.to+i * 3)) (L.bT rfl rfl (XAt.ok hl).lt) (WD.yes rfl (WD.val (v:= .ptr p.tb (p.to+i * 3+0)) (L.aA rfl) (WD.yes rfl ?_)))))))))))))))))))))
 obtain ⟨t,ht,hrow⟩:=(XAt.ok hl).row
 have hdt:=(XAt.ok hl).hd ht
 refine WD.val (v:= .int .i64 ((Par.hd l).kind:Int)) (by rw [hdt];exact L.load rfl ((st.aJ 2 rfl).yV hrow (show _=some _ from rfl))) (WD.yes rfl (WD.ifV (L.eql rfl rfl) (fun _ ck=> ?_) (fun _ ck=> ?_)))
 ·replace ck:(Par.hd l).kind=1:=by omega
  refine WD.val (v:= .bool true) rfl (WD.aB (v:= .bool true) rfl (WD.nil (WP.cond (t:=true) rfl (WP.seq (WP.reg (WO.aM rfl (yx D ((st.pick 2 rfl).pick 2 rfl) (XAt.ok hl)) ?_))))))
  rintro _ h ⟨x1,S1,i1,e1,a1,rfl,q1,st⟩
  have ad1:=q1.adv
  have lt1:=q1.at_.lt
  refine WO.val (v:=L.str x1.1) rfl (WO.val (v:=L.str x1.2) rfl (WO.aB (v:=L.str x1.1) rfl (WO.aB (v:=L.str x1.2) rfl (WO.nil (WP.seq (WP.reg (WO.val (v:= .ptr s 0) (L.aA rfl) (WO.aG (row':=[.int .i64 2, .int .i64 (aL p i:Int), .str 0 0, .str 0 0, .str 0 0, .bool false, .str 0 0, .str 0 0, .slN, .slN, .slN, .slN]) st 2 rfl rfl rfl rfl rfl rfl rfl (fun h st=> ?_)))))))))
  refine WO.nil (WP.seq (WP.reg (WO.val (v:= .ptr s 2) (L.aA rfl) (WO.aG (row':=[.int .i64 2, .int .i64 (aL p i:Int),L.str x1.1, .str 0 0, .str 0 0, .bool false, .str 0 0, .str 0 0, .slN, .slN, .slN, .slN]) st 2 rfl rfl rfl rfl rfl rfl rfl (fun h st=> ?_)))))
  refine WO.nil (WP.seq (WP.reg (WO.val (v:= .ptr s 3) (L.aA rfl) (WO.aG (row':=[.int .i64 2, .int .i64 (aL p i:Int),L.str x1.1,L.str x1.2, .str 0 0, .bool false, .str 0 0, .str 0 0, .slN, .slN, .slN, .slN]) st 2 rfl rfl rfl rfl rfl rfl rfl (fun h st=> ?_)))))
  refine WO.nil (WP.seq (WP.reg (WO.aM rfl (cu (s:=[61]) D st q1.at_) ?_)))
  rintro _ h ⟨x2,S2,i2,e2,a2,rfl,q2,st⟩
  have ad2:=q2.adv
  have lt2:=q2.at_.lt
  refine WO.nil (WP.reg (WO.aM rfl (pq D st q2.at_ (fun _=>by omega) (by omega)) ?_))
  rintro v3 h ⟨x3,S3,i3,e3,a3,q3,st⟩
  have ad3:=q3.adv
  have lt3:=q3.at_.lt
  have hc3:=(st.aJ 0 rfl).cells
  refine WO.val (v:= .ptr s 8) (L.aA rfl) (WO.aG (row':=[.int .i64 2, .int .i64 (aL p i:Int),L.str x1.1,L.str x1.2, .str 0 0, .bool false, .str 0 0, .str 0 0,v3, .slN, .slN, .slN]) st 3 rfl rfl hc3 rfl rfl rfl rfl (fun h st=> ?_))
  refine WO.nil (WP.seq (WP.reg (WO.aM rfl (cu (s:=[59]) D ((st.pick 2 rfl).pick 2 rfl) q3.at_) ?_)))
  rintro _ h ⟨x4,S4,i4,e4,a4,rfl,q4,st⟩
  have ad4:=q4.adv
  have lt4:=q4.at_.lt
  refine WO.nil (WP.seq (WP.reg (WO.val (v:= .agg [.int .i64 2, .int .i64 (aL p i:Int),L.str x1.1,L.str x1.2, .str 0 0, .bool false, .str 0 0, .str 0 0,v3, .slN, .slN, .slN]) (L.aK rfl (st.aj 3 rfl) rfl rfl rfl) (WO.aG (row':=[.int .i64 2, .int .i64 (aL p i:Int),L.str x1.1,L.str x1.2, .str 0 0, .bool false, .str 0 0, .str 0 0,v3, .slN, .slN, .slN]) st 4 rfl rfl rfl rfl rfl rfl rfl (fun h st=> ?_)))))
  refine WO.nil (WP.ret ?_)
  exact ⟨_,(ak (aP (l:=[.int .i64 2, .int .i64 (aL p i:Int),L.str x1.1,L.str x1.2, .str 0 0, .bool false, .str 0 0, .str 0 0,v3, .slN, .slN, .slN]) rfl (L.aT (st.aj 4 rfl) rfl rfl rfl)) (aF _ _)), .mk 2 (aL p i) x1.1 x1.2 [] false [] [] x3 [] [] [],_,_,_,_,_,rfl,rfl,⟨q4.at_,(Par.RU ck hl.here q1.res q2.res q3.res q4.res),by omega⟩,((((st.pick 3 rfl).tail.pick 3 rfl).tail.pick 2 rfl)).iA fun h hx=>SmR.of hx (lM.mq h) (iD.mq h) (iD.mq h)⟩
 ·replace ck:(Par.hd l).kind≠1:=by omega
  refine WD.val (v:= .bool false) rfl (WD.aB (v:= .bool false) rfl (WD.nil (WP.cond (t:=false) rfl (WP.seq (WP.reg (WO.aU rfl (eF (s:=[108,101,116]) D ((st.pick 2 rfl).pick 2 rfl) (XAt.ok hl)) ?_))))))
  rintro _ h (⟨rfl,⟨lw5,hS5,_,_,hlet,hl5⟩,stn⟩|⟨rfl,hlet,stn⟩)
  ·cases hS5
   replace st:St ((p.bD (i+1) d 0 0)::p.toks:: .box s [.int .i64 0, .int .i64 (aL p i:Int), .str 0 0, .str 0 0, .str 0 0, .bool false, .str 0 0, .str 0 0, .slN, .slN, .slN, .slN]:: .box res [.int .i64 0, .int .i64 0, .str 0 0, .str 0 0, .str 0 0, .bool false, .str 0 0, .str 0 0, .slN, .slN, .slN, .slN]::fs) h:=stn
   have lt5:=hl5.lt
   refine WO.nil (WP.cond (t:=true) rfl (WP.seq (WP.reg (WO.val (v:= .ptr s 0) (L.aA rfl) (WO.aG (row':=[.int .i64 1, .int .i64 (aL p i:Int), .str 0 0, .str 0 0, .str 0 0, .bool false, .str 0 0, .str 0 0, .slN, .slN, .slN, .slN]) st 2 rfl rfl rfl rfl rfl rfl rfl (fun h st=> ?_))))))
   refine WO.nil (WP.seq (WP.reg (WO.aM rfl (jf D st (XAt.ok hl5)) ?_)))
   rintro _ h ⟨x6,S6,i6,e6,a6,rfl,q6,st⟩
   have ad6:=q6.adv
   have lt6:=q6.at_.lt
   refine WO.val (v:= .ptr s 3) (L.aA rfl) (WO.aG (row':=[.int .i64 1, .int .i64 (aL p i:Int), .str 0 0,L.str x6, .str 0 0, .bool false, .str 0 0, .str 0 0, .slN, .slN, .slN, .slN]) st 2 rfl rfl rfl rfl rfl rfl rfl (fun h st=> ?_))
   refine WO.nil (WP.seq (WP.reg (WO.aM rfl (cu (s:=[58]) D st q6.at_) ?_)))
   rintro _ h ⟨x7,S7,i7,e7,a7,rfl,q7,st⟩
   have ad7:=q7.adv
   have lt7:=q7.at_.lt
   refine WO.nil (WP.seq (WP.reg (WO.aM rfl (jf D st q7.at_) ?_)))
   rintro _ h ⟨x8,S8,i8,e8,a8,rfl,q8,st⟩
   have ad8:=q8.adv
   have lt8:=q8.at_.lt
   refine WO.val (v:= .ptr s 4) (L.aA rfl) (WO.aG (row':=[.int .i64 1, .int .i64 (aL p i:Int), .str 0 0,L.str x6,L.str x8, .bool false, .str 0 0, .str 0 0, .slN, .slN, .slN, .slN]) st 2 rfl rfl rfl rfl rfl rfl rfl (fun h st=> ?_))
   refine WO.nil (WP.seq (WP.reg (WO.aM rfl (cu (s:=[61]) D st q8.at_) ?_)))
   rintro _ h ⟨x9,S9,i9,e9,a9,rfl,q9,st⟩
   have ad9:=q9.adv
   have lt9:=q9.at_.lt
   refine WO.nil (WP.reg (WO.aM rfl (pq D st q9.at_ (fun _=>by omega) (by omega)) ?_))
   rintro v10 h ⟨x10,S10,i10,e10,a10,q10,st⟩
   have ad10:=q10.adv
   have lt10:=q10.at_.lt
   have hc10:=(st.aJ 0 rfl).cells
   refine WO.val (v:= .ptr s 8) (L.aA rfl) (WO.aG (row':=[.int .i64 1, .int .i64 (aL p i:Int), .str 0 0,L.str x6,L.str x8, .bool false, .str 0 0, .str 0 0,v10, .slN, .slN, .slN]) st 3 rfl rfl hc10 rfl rfl rfl rfl (fun h st=> ?_))
   refine WO.nil (WP.seq (WP.reg (WO.aM rfl (cu (s:=[59]) D ((st.pick 2 rfl).pick 2 rfl) q10.at_) ?_)))
   rintro _ h ⟨x11,S11,i11,e11,a11,rfl,q11,st⟩
   have ad11:=q11.adv
   have lt11:=q11.at_.lt
   refine WO.nil (WP.seq (WP.reg (WO.val (v:= .agg [.int .i64 1, .int .i64 (aL p i:Int), .str 0 0,L.str x6,L.str x8, .bool false, .str 0 0, .str 0 0,v10, .slN, .slN, .slN]) (L.aK rfl (st.aj 3 rfl) rfl rfl rfl) (WO.aG (row':=[.int .i64 1, .int .i64 (aL p i:Int), .str 0 0,L.str x6,L.str x8, .bool false, .str 0 0, .str 0 0,v10, .slN, .slN, .slN]) st 4 rfl rfl rfl rfl rfl rfl rfl (fun h st=> ?_)))))
   refine WO.nil (WP.ret ?_)
   exact ⟨_,(ak (aP (l:=[.int .i64 1, .int .i64 (aL p i:Int), .str 0 0,L.str x6,L.str x8, .bool false, .str 0 0, .str 0 0,v10, .slN, .slN, .slN]) rfl (L.aT (st.aj 4 rfl) rfl rfl rfl)) (aF _ _)), .mk 1 (aL p i) [] x6 x8 false [] [] x10 [] [] [],_,_,_,_,_,rfl,rfl,⟨q11.at_,(Par.RV hlet hl.here q6.res q7.res q8.res q9.res q10.res q11.res),by omega⟩,((((st.pick 3 rfl).tail.pick 3 rfl).tail.pick 2 rfl)).iA fun h hx=>SmR.of hx (lM.mq h) (iD.mq h) (iD.mq h)⟩
  ·replace st:St ((p.bD i d 0 0)::p.toks:: .box s [.int .i64 0, .int .i64 (aL p i:Int), .str 0 0, .str 0 0, .str 0 0, .bool false, .str 0 0, .str 0 0, .slN, .slN, .slN, .slN]:: .box res [.int .i64 0, .int .i64 0, .str 0 0, .str 0 0, .str 0 0, .bool false, .str 0 0, .str 0 0, .slN, .slN, .slN, .slN]::fs) h:=stn
   replace hlet:Par.is [108,101,116] l=false:=hlet
   refine WO.nil (WP.cond (t:=false) rfl (WP.seq (WP.reg (WO.aU rfl (eF (s:=[114,101,115,117,108,116]) D st (XAt.ok hl)) ?_))))
   rintro _ h (⟨rfl,⟨lw12,hS12,_,_,hres,hl12⟩,stn⟩|⟨rfl,hres,stn⟩)
   ·cases hS12
    replace st:St ((p.bD (i+1) d 0 0)::p.toks:: .box s [.int .i64 0, .int .i64 (aL p i:Int), .str 0 0, .str 0 0, .str 0 0, .bool false, .str 0 0, .str 0 0, .slN, .slN, .slN, .slN]:: .box res [.int .i64 0, .int .i64 0, .str 0 0, .str 0 0, .str 0 0, .bool false, .str 0 0, .str 0 0, .slN, .slN, .slN, .slN]::fs) h:=stn
    have lt12:=hl12.lt
    refine WO.nil (WP.cond (t:=true) rfl (WP.seq (WP.reg (WO.val (v:= .ptr s 0) (L.aA rfl) (WO.aG (row':=[.int .i64 3, .int .i64 (aL p i:Int), .str 0 0, .str 0 0, .str 0 0, .bool false, .str 0 0, .str 0 0, .slN, .slN, .slN, .slN]) st 2 rfl rfl rfl rfl rfl rfl rfl (fun h st=> ?_))))))
    refine WO.nil (WP.seq (WP.reg (WO.aM rfl (cu (s:=[61]) D st (XAt.ok hl12)) ?_)))
    rintro _ h ⟨x13,S13,i13,e13,a13,rfl,q13,st⟩
    have ad13:=q13.adv
    have lt13:=q13.at_.lt
    refine WO.nil (WP.reg (WO.aM rfl (pq D st q13.at_ (fun _=>by omega) (by omega)) ?_))
    rintro v14 h ⟨x14,S14,i14,e14,a14,q14,st⟩
    have ad14:=q14.adv
    have lt14:=q14.at_.lt
    have hc14:=(st.aJ 0 rfl).cells
    refine WO.val (v:= .ptr s 8) (L.aA rfl) (WO.aG (row':=[.int .i64 3, .int .i64 (aL p i:Int), .str 0 0, .str 0 0, .str 0 0, .bool false, .str 0 0, .str 0 0,v14, .slN, .slN, .slN]) st 3 rfl rfl hc14 rfl rfl rfl rfl (fun h st=> ?_))
    refine WO.nil (WP.seq (WP.reg (WO.aM rfl (cu (s:=[59]) D ((st.pick 2 rfl).pick 2 rfl) q14.at_) ?_)))
    rintro _ h ⟨x15,S15,i15,e15,a15,rfl,q15,st⟩
    have ad15:=q15.adv
    have lt15:=q15.at_.lt
    refine WO.nil (WP.seq (WP.reg (WO.val (v:= .agg [.int .i64 3, .int .i64 (aL p i:Int), .str 0 0, .str 0 0, .str 0 0, .bool false, .str 0 0, .str 0 0,v14, .slN, .slN, .slN]) (L.aK rfl (st.aj 3 rfl) rfl rfl rfl) (WO.aG (row':=[.int .i64 3, .int .i64 (aL p i:Int), .str 0 0, .str 0 0, .str 0 0, .bool false, .str 0 0, .str 0 0,v14, .slN, .slN, .slN]) st 4 rfl rfl rfl rfl rfl rfl rfl (fun h st=> ?_)))))
    refine WO.nil (WP.ret ?_)
    exact ⟨_,(ak (aP (l:=[.int .i64 3, .int .i64 (aL p i:Int), .str 0 0, .str 0 0, .str 0 0, .bool false, .str 0 0, .str 0 0,v14, .slN, .slN, .slN]) rfl (L.aT (st.aj 4 rfl) rfl rfl rfl)) (aF _ _)), .mk 3 (aL p i) [] [] [] false [] [] x14 [] [] [],_,_,_,_,_,rfl,rfl,⟨q15.at_,(Par.Ii hres hl.here q13.res q14.res q15.res),by omega⟩,((((st.pick 3 rfl).tail.pick 3 rfl).tail.pick 2 rfl)).iA fun h hx=>SmR.of hx (lM.mq h) (iD.mq h) (iD.mq h)⟩
   ·replace st:St ((p.bD i d 0 0)::p.toks:: .box s [.int .i64 0, .int .i64 (aL p i:Int), .str 0 0, .str 0 0, .str 0 0, .bool false, .str 0 0, .str 0 0, .slN, .slN, .slN, .slN]:: .box res [.int .i64 0, .int .i64 0, .str 0 0, .str 0 0, .str 0 0, .bool false, .str 0 0, .str 0 0, .slN, .slN, .slN, .slN]::fs) h:=stn
    replace hres:Par.is [114,101,115,117,108,116] l=false:=hres
    refine WO.nil (WP.cond (t:=false) rfl (WP.seq (WP.reg (WO.aU rfl (eF (s:=[99,97,108,108]) D st (XAt.ok hl)) ?_))))
    rintro _ h (⟨rfl,⟨lw16,hS16,_,_,hcall,hl16⟩,stn⟩|⟨rfl,hcall,stn⟩)
    ·cases hS16
     replace st:St ((p.bD (i+1) d 0 0)::p.toks:: .box s [.int .i64 0, .int .i64 (aL p i:Int), .str 0 0, .str 0 0, .str 0 0, .bool false, .str 0 0, .str 0 0, .slN, .slN, .slN, .slN]:: .box res [.int .i64 0, .int .i64 0, .str 0 0, .str 0 0, .str 0 0, .bool false, .str 0 0, .str 0 0, .slN, .slN, .slN, .slN]::fs) h:=stn
     have lt16:=hl16.lt
     refine WO.nil (WP.cond (t:=true) rfl (WP.reg (WO.val (v:= .agg [.int .i64 0, .int .i64 (aL p i:Int), .str 0 0, .str 0 0, .str 0 0, .bool false, .str 0 0, .str 0 0, .slN, .slN, .slN, .slN]) (L.aK rfl (st.aj 2 rfl) rfl rfl rfl) (WO.aM rfl (xcall_c D st (XAt.ok hl16) (by omega)) ?_))))
     rintro _ h ⟨x17,S17,i17,e17,a17,va17,rfl,hva17,q17,st⟩
     have ad17:=q17.adv
     have lt17:=q17.at_.lt
     refine WO.aG (row':=[.int .i64 4, .int .i64 (aL p i:Int),L.str x17.mod,L.str x17.name,L.str [], .bool x17.has,L.str x17.tomod,L.str x17.to, .slN,va17, .slN, .slN]) st 3 rfl rfl rfl rfl rfl rfl rfl (fun h st=> ?_)
     refine WO.nil (WP.seq (WP.reg (WO.aM rfl (cu (s:=[59]) D ((st.pick 2 rfl).pick 2 rfl) q17.at_) ?_)))
     rintro _ h ⟨x18,S18,i18,e18,a18,rfl,q18,st⟩
     have ad18:=q18.adv
     have lt18:=q18.at_.lt
     refine WO.nil (WP.seq (WP.reg (WO.val (v:= .agg [.int .i64 4, .int .i64 (aL p i:Int),L.str x17.mod,L.str x17.name,L.str [], .bool x17.has,L.str x17.tomod,L.str x17.to, .slN,va17, .slN, .slN]) (L.aK rfl (st.aj 3 rfl) rfl rfl rfl) (WO.aG (row':=[.int .i64 4, .int .i64 (aL p i:Int),L.str x17.mod,L.str x17.name,L.str [], .bool x17.has,L.str x17.tomod,L.str x17.to, .slN,va17, .slN, .slN]) st 4 rfl rfl rfl rfl rfl rfl rfl (fun h st=> ?_)))))
     refine WO.nil (WP.ret ?_)
     exact ⟨_,(ak (aP (l:=[.int .i64 4, .int .i64 (aL p i:Int),L.str x17.mod,L.str x17.name,L.str [], .bool x17.has,L.str x17.tomod,L.str x17.to, .slN,va17, .slN, .slN]) rfl (L.aT (st.aj 4 rfl) rfl rfl rfl)) (aF _ _)), .mk 4 (aL p i) x17.mod x17.name [] x17.has x17.tomod x17.to [] x17.args [] [],_,_,_,_,_,rfl,rfl,⟨q18.at_,(Par.Ob hcall hl.here q17.res q18.res),by omega⟩,((((st.pick 3 rfl).tail.pick 3 rfl).tail.pick 2 rfl)).iA fun h hx=>SmR.of .nil hx (iD.mq h) (iD.mq h)⟩
    ·replace st:St ((p.bD i d 0 0)::p.toks:: .box s [.int .i64 0, .int .i64 (aL p i:Int), .str 0 0, .str 0 0, .str 0 0, .bool false, .str 0 0, .str 0 0, .slN, .slN, .slN, .slN]:: .box res [.int .i64 0, .int .i64 0, .str 0 0, .str 0 0, .str 0 0, .bool false, .str 0 0, .str 0 0, .slN, .slN, .slN, .slN]::fs) h:=stn
     replace hcall:Par.is [99,97,108,108] l=false:=hcall
     refine WO.nil (WP.cond (t:=false) rfl (WP.seq (WP.reg (WO.aU rfl (eF (s:=[101,109,105,116]) D st (XAt.ok hl)) ?_))))
     rintro _ h (⟨rfl,⟨lw19,hS19,_,_,hemit,hl19⟩,stn⟩|⟨rfl,hemit,stn⟩)
     ·cases hS19
      replace st:St ((p.bD (i+1) d 0 0)::p.toks:: .box s [.int .i64 0, .int .i64 (aL p i:Int), .str 0 0, .str 0 0, .str 0 0, .bool false, .str 0 0, .str 0 0, .slN, .slN, .slN, .slN]:: .box res [.int .i64 0, .int .i64 0, .str 0 0, .str 0 0, .str 0 0, .bool false, .str 0 0, .str 0 0, .slN, .slN, .slN, .slN]::fs) h:=stn
      have lt19:=hl19.lt
      refine WO.nil (WP.cond (t:=true) rfl (WP.seq (WP.reg (WO.val (v:= .ptr s 0) (L.aA rfl) (WO.aG (row':=[.int .i64 7, .int .i64 (aL p i:Int), .str 0 0, .str 0 0, .str 0 0, .bool false, .str 0 0, .str 0 0, .slN, .slN, .slN, .slN]) st 2 rfl rfl rfl rfl rfl rfl rfl (fun h st=> ?_))))))
      refine WO.nil (WP.reg (WO.aM rfl (jf D st (XAt.ok hl19)) ?_))
      rintro _ h ⟨x20,S20,i20,e20,a20,rfl,q20,st⟩
      have ad20:=q20.adv
      have lt20:=q20.at_.lt
      refine WO.val (v:= .ptr s 3) (L.aA rfl) (WO.aG (row':=[.int .i64 7, .int .i64 (aL p i:Int), .str 0 0,L.str x20, .str 0 0, .bool false, .str 0 0, .str 0 0, .slN, .slN, .slN, .slN]) st 2 rfl rfl rfl rfl rfl rfl rfl (fun h st=> ?_))
      refine WO.nil (WP.seq (WP.reg (WO.aM rfl (cu (s:=[59]) D st q20.at_) ?_)))
      rintro _ h ⟨x21,S21,i21,e21,a21,rfl,q21,st⟩
      have ad21:=q21.adv
      have lt21:=q21.at_.lt
      refine WO.nil (WP.seq (WP.reg (WO.val (v:= .agg [.int .i64 7, .int .i64 (aL p i:Int), .str 0 0,L.str x20, .str 0 0, .bool false, .str 0 0, .str 0 0, .slN, .slN, .slN, .slN]) (L.aK rfl (st.aj 2 rfl) rfl rfl rfl) (WO.aG (row':=[.int .i64 7, .int .i64 (aL p i:Int), .str 0 0,L.str x20, .str 0 0, .bool false, .str 0 0, .str 0 0, .slN, .slN, .slN, .slN]) st 3 rfl rfl rfl rfl rfl rfl rfl (fun h st=> ?_)))))
      refine WO.nil (WP.ret ?_)
      exact ⟨_,(ak (aP (l:=[.int .i64 7, .int .i64 (aL p i:Int), .str 0 0,L.str x20, .str 0 0, .bool false, .str 0 0, .str 0 0, .slN, .slN, .slN, .slN]) rfl (L.aT (st.aj 3 rfl) rfl rfl rfl)) (aF _ _)), .mk 7 (aL p i) [] x20 [] false [] [] [] [] [] [],_,_,_,_,_,rfl,rfl,⟨q21.at_,(Par.Oc hemit hl.here q20.res q21.res),by omega⟩,(((st.pick 2 rfl).tail.pick 2 rfl).tail).yA fun h=>SmR.of .nil (lM.mq h) (iD.mq h) (iD.mq h)⟩
     ·replace st:St ((p.bD i d 0 0)::p.toks:: .box s [.int .i64 0, .int .i64 (aL p i:Int), .str 0 0, .str 0 0, .str 0 0, .bool false, .str 0 0, .str 0 0, .slN, .slN, .slN, .slN]:: .box res [.int .i64 0, .int .i64 0, .str 0 0, .str 0 0, .str 0 0, .bool false, .str 0 0, .str 0 0, .slN, .slN, .slN, .slN]::fs) h:=stn
      replace hemit:Par.is [101,109,105,116] l=false:=hemit
      refine WO.nil (WP.cond (t:=false) rfl (WP.seq (WP.reg (WO.aU rfl (eF (s:=[115,107,105,112]) D st (XAt.ok hl)) ?_))))
      rintro _ h (⟨rfl,⟨lw22,hS22,_,_,hskip,hl22⟩,stn⟩|⟨rfl,hskip,stn⟩)
      ·cases hS22
       replace st:St ((p.bD (i+1) d 0 0)::p.toks:: .box s [.int .i64 0, .int .i64 (aL p i:Int), .str 0 0, .str 0 0, .str 0 0, .bool false, .str 0 0, .str 0 0, .slN, .slN, .slN, .slN]:: .box res [.int .i64 0, .int .i64 0, .str 0 0, .str 0 0, .str 0 0, .bool false, .str 0 0, .str 0 0, .slN, .slN, .slN, .slN]::fs) h:=stn
       have lt22:=hl22.lt
       refine WO.nil (WP.cond (t:=true) rfl (WP.reg (WO.val (v:= .ptr s 0) (L.aA rfl) (WO.aG (row':=[.int .i64 8, .int .i64 (aL p i:Int), .str 0 0, .str 0 0, .str 0 0, .bool false, .str 0 0, .str 0 0, .slN, .slN, .slN, .slN]) st 2 rfl rfl rfl rfl rfl rfl rfl (fun h st=> ?_)))))
       refine WO.nil (WP.seq (WP.reg (WO.aM rfl (cu (s:=[59]) D st (XAt.ok hl22)) ?_)))
       rintro _ h ⟨x23,S23,i23,e23,a23,rfl,q23,st⟩
       have ad23:=q23.adv
       have lt23:=q23.at_.lt
       refine WO.nil (WP.seq (WP.reg (WO.val (v:= .agg [.int .i64 8, .int .i64 (aL p i:Int), .str 0 0, .str 0 0, .str 0 0, .bool false, .str 0 0, .str 0 0, .slN, .slN, .slN, .slN]) (L.aK rfl (st.aj 2 rfl) rfl rfl rfl) (WO.aG (row':=[.int .i64 8, .int .i64 (aL p i:Int), .str 0 0, .str 0 0, .str 0 0, .bool false, .str 0 0, .str 0 0, .slN, .slN, .slN, .slN]) st 3 rfl rfl rfl rfl rfl rfl rfl (fun h st=> ?_)))))
       refine WO.nil (WP.ret ?_)
       exact ⟨_,(ak (aP (l:=[.int .i64 8, .int .i64 (aL p i:Int), .str 0 0, .str 0 0, .str 0 0, .bool false, .str 0 0, .str 0 0, .slN, .slN, .slN, .slN]) rfl (L.aT (st.aj 3 rfl) rfl rfl rfl)) (aF _ _)), .mk 8 (aL p i) [] [] [] false [] [] [] [] [] [],_,_,_,_,_,rfl,rfl,⟨q23.at_,(Par.Od hskip hl.here q23.res),by omega⟩,(((st.pick 2 rfl).tail.pick 2 rfl).tail).yA fun h=>SmR.of .nil (lM.mq h) (iD.mq h) (iD.mq h)⟩
      ·replace st:St ((p.bD i d 0 0)::p.toks:: .box s [.int .i64 0, .int .i64 (aL p i:Int), .str 0 0, .str 0 0, .str 0 0, .bool false, .str 0 0, .str 0 0, .slN, .slN, .slN, .slN]:: .box res [.int .i64 0, .int .i64 0, .str 0 0, .str 0 0, .str 0 0, .bool false, .str 0 0, .str 0 0, .slN, .slN, .slN, .slN]::fs) h:=stn
       replace hskip:Par.is [115,107,105,112] l=false:=hskip
       refine WO.nil (WP.cond (t:=false) rfl (WP.seq (WP.reg (WO.aU rfl (eF (s:=[105,102]) D st (XAt.ok hl)) ?_))))
       rintro _ h (⟨rfl,⟨lw24,hS24,_,_,hif,hl24⟩,stn⟩|⟨rfl,hif,stn⟩)
       ·cases hS24
        replace st:St ((p.bD (i+1) d 0 0)::p.toks:: .box s [.int .i64 0, .int .i64 (aL p i:Int), .str 0 0, .str 0 0, .str 0 0, .bool false, .str 0 0, .str 0 0, .slN, .slN, .slN, .slN]:: .box res [.int .i64 0, .int .i64 0, .str 0 0, .str 0 0, .str 0 0, .bool false, .str 0 0, .str 0 0, .slN, .slN, .slN, .slN]::fs) h:=stn
        have lt24:=hl24.lt
        refine WO.nil (WP.cond (t:=true) rfl (WP.seq (WP.reg (WO.val (v:= .ptr s 0) (L.aA rfl) (WO.aG (row':=[.int .i64 5, .int .i64 (aL p i:Int), .str 0 0, .str 0 0, .str 0 0, .bool false, .str 0 0, .str 0 0, .slN, .slN, .slN, .slN]) st 2 rfl rfl rfl rfl rfl rfl rfl (fun h st=> ?_))))))
        refine WO.nil (WP.seq (WP.reg (WO.aM rfl (pq D st (XAt.ok hl24) (fun _=>by omega) (by omega)) ?_)))
        rintro v25 h ⟨x25,S25,i25,e25,a25,q25,st⟩
        have ad25:=q25.adv
        have lt25:=q25.at_.lt
        have hc25:=(st.aJ 0 rfl).cells
        refine WO.val (v:= .ptr s 8) (L.aA rfl) (WO.aG (row':=[.int .i64 5, .int .i64 (aL p i:Int), .str 0 0, .str 0 0, .str 0 0, .bool false, .str 0 0, .str 0 0,v25, .slN, .slN, .slN]) st 3 rfl rfl hc25 rfl rfl rfl rfl (fun h st=> ?_))
        refine WO.nil (WP.seq (WP.reg (WO.aM rfl (hblk ((st.pick 2 rfl).pick 2 rfl) q25.at_ (fun h0=>by omega) (by omega)) ?_)))
        rintro v26 h ⟨x26,S26,i26,e26,a26,q26,st⟩
        have ad26:=q26.adv
        have lt26:=q26.at_.lt
        have hc26:=iD.FK (st.aJ 0 rfl)
        refine WO.val (v:= .ptr s 10) (L.aA rfl) (WO.aG (row':=[.int .i64 5, .int .i64 (aL p i:Int), .str 0 0, .str 0 0, .str 0 0, .bool false, .str 0 0, .str 0 0,v25, .slN,v26, .slN]) st 4 rfl rfl hc26 rfl rfl rfl rfl (fun h st=> ?_))
        refine WO.nil (WP.seq (WP.seq (WP.reg (WO.aU rfl (eF (s:=[101,108,115,101]) D ((st.pick 2 rfl).pick 2 rfl) q26.at_) ?_))))
        rintro _ h (⟨rfl,⟨l27,hS27,he27,ha27,hel,hl27⟩,stn⟩|⟨rfl,hel,stn⟩)
        ·subst hS27 he27 ha27
         replace st:St ((p.bD (i26+1) d 0 0)::p.toks:: .stb (fun h=>iD h v26 x26):: .stb (fun h=>Rows 7 h v25 (x25.map Nd.row)):: .box s [.int .i64 5, .int .i64 (aL p i:Int), .str 0 0, .str 0 0, .str 0 0, .bool false, .str 0 0, .str 0 0,v25, .slN,v26, .slN]:: .box res [.int .i64 0, .int .i64 0, .str 0 0, .str 0 0, .str 0 0, .bool false, .str 0 0, .str 0 0, .slN, .slN, .slN, .slN]::fs) h:=stn
         have lt27:=hl27.lt
         refine WO.nil (WP.cond (t:=true) rfl (WP.reg (WO.aM rfl (hblk st (XAt.ok hl27) (fun h0=>by omega) (by omega)) ?_)))
         rintro v28 h ⟨x28,S28,i28,e28,a28,q28,st⟩
         have ad28:=q28.adv
         have lt28:=q28.at_.lt
         have hc28:=iD.FK (st.aJ 0 rfl)
         refine WO.val (v:= .ptr s 11) (L.aA rfl) (WO.aG (row':=[.int .i64 5, .int .i64 (aL p i:Int), .str 0 0, .str 0 0, .str 0 0, .bool false, .str 0 0, .str 0 0,v25, .slN,v26,v28]) st 5 rfl rfl hc28 rfl rfl rfl rfl (fun h st=> ?_))
         refine WO.nil (WP.seq (WP.reg (WO.val (v:= .agg [.int .i64 5, .int .i64 (aL p i:Int), .str 0 0, .str 0 0, .str 0 0, .bool false, .str 0 0, .str 0 0,v25, .slN,v26,v28]) (L.aK rfl (st.aj 5 rfl) rfl rfl rfl) (WO.aG (row':=[.int .i64 5, .int .i64 (aL p i:Int), .str 0 0, .str 0 0, .str 0 0, .bool false, .str 0 0, .str 0 0,v25, .slN,v26,v28]) st 6 rfl rfl rfl rfl rfl rfl rfl (fun h st=> ?_)))))
         refine WO.nil (WP.ret ?_)
         exact ⟨_,(ak (aP (l:=[.int .i64 5, .int .i64 (aL p i:Int), .str 0 0, .str 0 0, .str 0 0, .bool false, .str 0 0, .str 0 0,v25, .slN,v26,v28]) rfl (L.aT (st.aj 6 rfl) rfl rfl rfl)) (aF _ _)), .mk 5 (aL p i) [] [] [] false [] [] x25 [] x26 x28,_,_,_,_,_,rfl,rfl,⟨q28.at_,(Par.Oe hif hl.here q25.res q26.res hel q28.res),by omega⟩,(((((((st.pick 5 rfl).tail.pick 5 rfl).tail.pick 3 rfl).pick 4 rfl)).and).and).iA fun h hx=>SmR.of hx.1.1 (lM.mq h) hx.1.2 hx.2⟩
        ·replace st:St ((p.bD i26 d e26 a26)::p.toks:: .stb (fun h=>iD h v26 x26):: .stb (fun h=>Rows 7 h v25 (x25.map Nd.row)):: .box s [.int .i64 5, .int .i64 (aL p i:Int), .str 0 0, .str 0 0, .str 0 0, .bool false, .str 0 0, .str 0 0,v25, .slN,v26, .slN]:: .box res [.int .i64 0, .int .i64 0, .str 0 0, .str 0 0, .str 0 0, .bool false, .str 0 0, .str 0 0, .slN, .slN, .slN, .slN]::fs) h:=stn
         refine WO.nil (WP.cond (t:=false) rfl (WP.skip (WP.seq (WP.reg (WO.val (v:= .agg [.int .i64 5, .int .i64 (aL p i:Int), .str 0 0, .str 0 0, .str 0 0, .bool false, .str 0 0, .str 0 0,v25, .slN,v26, .slN]) (L.aK rfl (st.aj 4 rfl) rfl rfl rfl) (WO.aG (row':=[.int .i64 5, .int .i64 (aL p i:Int), .str 0 0, .str 0 0, .str 0 0, .bool false, .str 0 0, .str 0 0,v25, .slN,v26, .slN]) st 5 rfl rfl rfl rfl rfl rfl rfl (fun h st=> ?_)))))))
         refine WO.nil (WP.ret ?_)
         exact ⟨_,(ak (aP (l:=[.int .i64 5, .int .i64 (aL p i:Int), .str 0 0, .str 0 0, .str 0 0, .bool false, .str 0 0, .str 0 0,v25, .slN,v26, .slN]) rfl (L.aT (st.aj 5 rfl) rfl rfl rfl)) (aF _ _)), .mk 5 (aL p i) [] [] [] false [] [] x25 [] x26 [],_,_,_,_,_,rfl,rfl,⟨q26.at_,(Par.stmt_if hif hl.here q25.res q26.res hel),by omega⟩,((((((st.pick 4 rfl).tail.pick 4 rfl).tail.pick 2 rfl).pick 3 rfl)).and).iA fun h hx=>SmR.of hx.1 (lM.mq h) hx.2 (iD.mq h)⟩
       ·replace st:St ((p.bD i d 0 0)::p.toks:: .box s [.int .i64 0, .int .i64 (aL p i:Int), .str 0 0, .str 0 0, .str 0 0, .bool false, .str 0 0, .str 0 0, .slN, .slN, .slN, .slN]:: .box res [.int .i64 0, .int .i64 0, .str 0 0, .str 0 0, .str 0 0, .bool false, .str 0 0, .str 0 0, .slN, .slN, .slN, .slN]::fs) h:=stn
        replace hif:Par.is [105,102] l=false:=hif
        refine WO.nil (WP.cond (t:=false) rfl (WP.seq (WP.reg (WO.aU rfl (eF (s:=[119,104,105,108,101]) D st (XAt.ok hl)) ?_))))
        rintro _ h (⟨rfl,⟨lw29,hS29,_,_,hwh,hl29⟩,stn⟩|⟨rfl,hwh,stn⟩)
        ·cases hS29
         replace st:St ((p.bD (i+1) d 0 0)::p.toks:: .box s [.int .i64 0, .int .i64 (aL p i:Int), .str 0 0, .str 0 0, .str 0 0, .bool false, .str 0 0, .str 0 0, .slN, .slN, .slN, .slN]:: .box res [.int .i64 0, .int .i64 0, .str 0 0, .str 0 0, .str 0 0, .bool false, .str 0 0, .str 0 0, .slN, .slN, .slN, .slN]::fs) h:=stn
         have lt29:=hl29.lt
         refine WO.nil (WP.cond (t:=true) rfl (WP.seq (WP.reg (WO.val (v:= .ptr s 0) (L.aA rfl) (WO.aG (row':=[.int .i64 6, .int .i64 (aL p i:Int), .str 0 0, .str 0 0, .str 0 0, .bool false, .str 0 0, .str 0 0, .slN, .slN, .slN, .slN]) st 2 rfl rfl rfl rfl rfl rfl rfl (fun h st=> ?_))))))
         refine WO.nil (WP.seq (WP.reg (WO.aM rfl (pq D st (XAt.ok hl29) (fun _=>by omega) (by omega)) ?_)))
         rintro v30 h ⟨x30,S30,i30,e30,a30,q30,st⟩
         have ad30:=q30.adv
         have lt30:=q30.at_.lt
         have hc30:=(st.aJ 0 rfl).cells
         refine WO.val (v:= .ptr s 8) (L.aA rfl) (WO.aG (row':=[.int .i64 6, .int .i64 (aL p i:Int), .str 0 0, .str 0 0, .str 0 0, .bool false, .str 0 0, .str 0 0,v30, .slN, .slN, .slN]) st 3 rfl rfl hc30 rfl rfl rfl rfl (fun h st=> ?_))
         refine WO.nil (WP.seq (WP.reg (WO.aM rfl (hblk ((st.pick 2 rfl).pick 2 rfl) q30.at_ (fun h0=>by omega) (by omega)) ?_)))
         rintro v31 h ⟨x31,S31,i31,e31,a31,q31,st⟩
         have ad31:=q31.adv
         have lt31:=q31.at_.lt
         have hc31:=iD.FK (st.aJ 0 rfl)
         refine WO.val (v:= .ptr s 10) (L.aA rfl) (WO.aG (row':=[.int .i64 6, .int .i64 (aL p i:Int), .str 0 0, .str 0 0, .str 0 0, .bool false, .str 0 0, .str 0 0,v30, .slN,v31, .slN]) st 4 rfl rfl hc31 rfl rfl rfl rfl (fun h st=> ?_))
         refine WO.nil (WP.seq (WP.reg (WO.val (v:= .agg [.int .i64 6, .int .i64 (aL p i:Int), .str 0 0, .str 0 0, .str 0 0, .bool false, .str 0 0, .str 0 0,v30, .slN,v31, .slN]) (L.aK rfl (st.aj 4 rfl) rfl rfl rfl) (WO.aG (row':=[.int .i64 6, .int .i64 (aL p i:Int), .str 0 0, .str 0 0, .str 0 0, .bool false, .str 0 0, .str 0 0,v30, .slN,v31, .slN]) st 5 rfl rfl rfl rfl rfl rfl rfl (fun h st=> ?_)))))
         refine WO.nil (WP.ret ?_)
         exact ⟨_,(ak (aP (l:=[.int .i64 6, .int .i64 (aL p i:Int), .str 0 0, .str 0 0, .str 0 0, .bool false, .str 0 0, .str 0 0,v30, .slN,v31, .slN]) rfl (L.aT (st.aj 5 rfl) rfl rfl rfl)) (aF _ _)), .mk 6 (aL p i) [] [] [] false [] [] x30 [] x31 [],_,_,_,_,_,rfl,rfl,⟨q31.at_,(Par.Ko hwh hl.here q30.res q31.res),by omega⟩,(((((st.pick 4 rfl).tail.pick 4 rfl).tail.pick 3 rfl)).and).iA fun h hx=>SmR.of hx.1 (lM.mq h) hx.2 (iD.mq h)⟩
        ·replace st:St ((p.bD i d 0 0)::p.toks:: .box s [.int .i64 0, .int .i64 (aL p i:Int), .str 0 0, .str 0 0, .str 0 0, .bool false, .str 0 0, .str 0 0, .slN, .slN, .slN, .slN]:: .box res [.int .i64 0, .int .i64 0, .str 0 0, .str 0 0, .str 0 0, .bool false, .str 0 0, .str 0 0, .slN, .slN, .slN, .slN]::fs) h:=stn
         replace hwh:Par.is [119,104,105,108,101] l=false:=hwh
         refine WO.nil (WP.cond (t:=false) rfl (WP.seq (WP.reg (WO.aM rfl (mY (k:=11) D st (XAt.ok hl) (by decide)) ?_))))
         rintro _ h ⟨rfl,ef,af,hef,hxf,st⟩
         refine WO.nil (WP.seq (WP.reg (WO.val (v:= .agg [.int .i64 0, .int .i64 (aL p i:Int), .str 0 0, .str 0 0, .str 0 0, .bool false, .str 0 0, .str 0 0, .slN, .slN, .slN, .slN]) (L.aK rfl (st.aj 2 rfl) rfl rfl rfl) (WO.aG (row':=[.int .i64 0, .int .i64 (aL p i:Int), .str 0 0, .str 0 0, .str 0 0, .bool false, .str 0 0, .str 0 0, .slN, .slN, .slN, .slN]) st 3 rfl rfl rfl rfl rfl rfl rfl (fun h st=> ?_)))))
         refine WO.nil (WP.ret ?_)
         have hb1:=hxf.bad hef
         exact ⟨_,(ak (aP (l:=[.int .i64 0, .int .i64 (aL p i:Int), .str 0 0, .str 0 0, .str 0 0, .bool false, .str 0 0, .str 0 0, .slN, .slN, .slN, .slN]) rfl (L.aT (st.aj 3 rfl) rfl rfl rfl)) (aF _ _)), .mk 0 (aL p i) [] [] [] false [] [] [] [] [] [],_,_,_,_,_,rfl,rfl,⟨hxf,(Par.stmt_no ck (by intro s hs;simp at hs;rcases hs with rfl|rfl|rfl|rfl|rfl|rfl|rfl<;>assumption)),by omega⟩,(((st.pick 2 rfl).tail.pick 2 rfl).tail).yA fun h=>SmR.of .nil (lM.mq h) (iD.mq h) (iD.mq h)⟩
theorem RX (D:ko c) (N:Nat):XStm c N (Par.stmt N):=by
 induction N with
 |zero=>
  intro fs h p i d l st hl hN hd
  have:=hl.lt;omega
 |succ N ih=>
  intro fs h p i d l st hl hN hd
  have hb:XBlk c N (Par.kQ (Par.stmt N)):=by
   intro fs h p i d e a S st hx hN hd
   obtain ⟨v,h1,hr,x,S',i',e',a',q,s⟩:=Ik D ih st hx hN hd
   exact ⟨v,h1,hr,x,S',i',e',a',q,s⟩
  exact xstmt_c D hb st hl hN hd
theorem RY (D:ko c) {fs:List Fact} {h:Heap} {p:RP} {i d e a:Nat} {S:Par.SQ} (st:St (p.bD i d e a::p.toks::fs) h) (hx:XAt p i e a S) (hd:d≤40):
 aV c 53 [.ptr p.rb 0] h fun v h1=>∃(x:List Sm) (S':Par.SQ) (i' e' a':Nat),Stp p S i (Par.block d) x S' i' e' a'∧St (.stb (fun h=>iD h v x)::p.bD i' d e' a'::p.toks::fs) h1:=by
 obtain ⟨v,h1,hr,x,S',i',e',a',q,s⟩:=Ik D (RX D S.len) st hx (fun h0=>hx.fuel h0) hd
 exact ⟨v,h1,hr,x,S',i',e',a',⟨q.at_,Par.Res.len (F:=fun n l=>Par.kQ (Par.stmt n) d l) q.res,q.adv⟩,s⟩
end
end Go.Eng.YtjobofnpmmjeoaaGreatDoor
