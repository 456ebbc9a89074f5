/- Part of a proof of a law: rules of an evaluator, contracts, plain laws. No condition of its own. -/
import Derived.Test.YtjobofnpmmjeoaaGreatDoorConC
import Derived.Test.YtjobofnpmmjeoaaGreatDoorSymD
import Derived.Test.YtjobofnpmmjeoaaGreatDoorSymA
import Derived.Test.YtjobofnpmmjeoaaGreatDoorSymC
import Derived.Test.YtjobofnpmmjeoaaGreatDoorCodeA
set_option linter.unusedVariables false
set_option linter.unusedSimpArgs false
namespace Go.Eng.YtjobofnpmmjeoaaGreatDoor
open Go.Eng
noncomputable section
variable {c:Ctx}
theorem xvar_c (D:ko c) {fs:List Fact} {h:Heap} {p:RP} {i d e a:Nat} {S:Par.SQ} (st:St (p.bD i d e a::p.toks::fs) h) (hx:XAt p i e a S):
 aV c 31 [.ptr p.rb 0] h fun v h1=>∃(x:Vr) (S':Par.SQ) (i' e' a':Nat),v= .agg [L.str x.name,L.str x.label, .int .i64 x.init, .int .i64 (x.at_:Int)]∧Stp p S i Par.pz x S' i' e' a'∧St (p.bD i' d e' a'::p.toks::fs) h1:=by
 have hsm:=hx.small
 have hlt:=hx.lt
 refine aV.dh D.f31 rfl (WP.seq (WP.reg (WO.bL st L.alloc (fun res h st=> ?_))))
 refine WO.nil (WP.seq (WP.reg (WO.aM rfl (lX D ((st.pick 2 rfl).pick 2 rfl) hx) ?_)))
 rintro _ h ⟨rfl,st⟩
 refine WO.aM rfl (jf D st hx) ?_
 rintro _ h ⟨x1,S1,i1,e1,a1,rfl,q1,st⟩
 have ad1:=q1.adv
 have lt1:=q1.at_.lt
 refine WO.val (v:= .agg [L.str x1, .str 0 0, .int .i64 0, .int .i64 (aL p i:Int)]) (L.build rfl) (WO.bL st L.alloc (fun s h st=> ?_))
 refine WO.aG (row':=[L.str x1, .str 0 0, .int .i64 0, .int .i64 (aL p i:Int)]) st 0 rfl rfl rfl rfl rfl rfl rfl (fun h st=> ?_)
 refine WO.nil (WP.seq (WP.reg (WO.aM rfl (cu (s:=[58]) D ((st.pick 2 rfl).pick 2 rfl) q1.at_) ?_)))
 rintro _ h ⟨x2,S2,i2,e2,a2,rfl,q2,st⟩
 have ad2:=q2.adv
 have lt2:=q2.at_.lt
 refine WO.nil (WP.seq (WP.reg (WO.aM rfl (jf D st q2.at_) ?_)))
 rintro _ h ⟨x3,S3,i3,e3,a3,rfl,q3,st⟩
 have ad3:=q3.adv
 have lt3:=q3.at_.lt
 refine WO.val (v:= .ptr s 1) (L.aA rfl) (WO.aG (row':=[L.str x1,L.str x3, .int .i64 0, .int .i64 (aL p i:Int)]) st 2 rfl rfl rfl rfl rfl rfl rfl (fun h st=> ?_))
 refine WO.nil (WP.seq (WP.reg (WO.aM rfl (cu (s:=[61]) D st q3.at_) ?_)))
 rintro _ h ⟨x4,S4,i4,e4,a4,rfl,q4,st⟩
 have ad4:=q4.adv
 have lt4:=q4.at_.lt
 refine WO.nil (WP.seq (WP.reg (WO.aU rfl (eF (s:=[45]) D st q4.at_) ?_)))
 rintro _ h (⟨rfl,⟨l5,hS5,he5,ha5,hm,hl5⟩,stn⟩|⟨rfl,hm,stn⟩)
 ·subst hS5 he5 ha5
  replace st:St ((p.bD (i4+1) d 0 0)::p.toks:: .box s [L.str x1,L.str x3, .int .i64 0, .int .i64 (aL p i:Int)]:: .box res [.str 0 0, .str 0 0, .int .i64 0, .int .i64 0]::fs) h:=stn
  have lt5:=hl5.lt
  refine WO.nil (WP.seq (WP.draw (WD.val (v:= .ptr p.rb 0) rfl (WD.val (v:= .ptr p.rb 0) rfl (WD.val (v:= .ptr p.rb 0) (L.aA rfl) (WD.val (v:= .sl p.tb p.to p.ts.length p.cap) (L.aC rfl (st.aj 0 rfl) rfl) (WD.val (v:= .ptr p.rb 0) rfl (WD.val (v:= .ptr p.rb 0) rfl (WD.val (v:= .ptr p.rb 1) (L.aA rfl) (WD.val (v:= .int .i64 ((i4+1:Nat):Int)) (L.aC rfl (st.aj 0 rfl) rfl) ?_))))))))))
  obtain ⟨t,ht,hrow⟩:=((XAt.ok hl5):XAt p (i4+1) _ _ _).row
  refine WD.val (v:= .ptr p.tb (p.to+(i4+1) * 3)) (L.bT rfl rfl (XAt.ok hl5).lt) (WD.val (v:= .agg [.int .i64 (t.kind:Int),L.str t.text, .int .i64 (t.at_:Int)]) (L.aY rfl ((st.aJ 1 rfl).aY hrow)) (WD.bL st L.alloc (fun tb h st=> ?_)))
  refine WD.aG (row':=[.int .i64 (t.kind:Int),L.str t.text, .int .i64 (t.at_:Int)]) st 0 rfl rfl rfl rfl rfl rfl rfl (fun h st=>rfl) (fun h st=> ?_)
  refine WD.nil (WP.seq (WP.seq (WP.reg (WO.val (v:= .ptr p.rb 0) rfl (WO.val (v:= .ptr p.rb 3) (L.aA rfl) (WO.val (v:= .int .i64 0) (L.aC rfl (st.aj 1 rfl) rfl) (WO.ifV (L.neq rfl rfl) (fun ce=>by exfalso;omega) (fun ce=> ?_))))))))
  refine WO.yes rfl (WO.val (v:= .ptr tb 0) (L.aA rfl) (WO.yes rfl (WO.val (v:= .int .i64 (t.kind:Int)) (L.aC rfl (st.aj 0 rfl) rfl) (WO.yes rfl ?_))))
  have hdt:=((XAt.ok hl5):XAt p (i4+1) 0 0 (.ok l5.tail)).hd ht
  refine WO.ifV (L.neq rfl rfl) (fun ck=> ?_) (fun ck=> ?_)
  ·replace ck:t.kind≠2:=by omega
   refine WO.aB (v:= .bool true) rfl (WO.nil (WP.cond (t:=true) rfl (WP.seq (WP.reg (WO.aM rfl (mY (k:=11) D ((st.pick 2 rfl).pick 2 rfl) (XAt.ok hl5) (by decide)) ?_)))))
   rintro _ h ⟨rfl,ef,af,hef,hxf,st⟩
   refine WO.nil (WP.seq (WP.reg (WO.val (v:= .agg [L.str x1,L.str x3, .int .i64 0, .int .i64 (aL p i:Int)]) (L.aK rfl (st.aj 3 rfl) rfl rfl rfl) (WO.aG (row':=[L.str x1,L.str x3, .int .i64 0, .int .i64 (aL p i:Int)]) st 4 rfl rfl rfl rfl rfl rfl rfl (fun h st=> ?_)))))
   refine WO.nil (WP.ret ?_)
   exact ⟨_,(ak (aP (l:=[L.str x1,L.str x3, .int .i64 0, .int .i64 (aL p i:Int)]) rfl (L.aT (st.aj 4 rfl) rfl rfl rfl)) (aF _ _)),⟨x1,x3,0,(aL p i)⟩,_,_,_,_,rfl,⟨hxf,Par.uK (fun l e=>hx.here e) q1.res q2.res q3.res q4.res (Par.LA hm (Par.FL (fun l2 e2=>by cases e2;rw [hdt];exact ck))),by omega⟩,(((st.pick 2 rfl).tail.pick 2 rfl).tail.pick 2 rfl).tail⟩
  ·replace ck:t.kind=2:=by omega
   refine WO.aB (v:= .bool false) rfl (WO.nil (WP.cond (t:=false) rfl (WP.skip (WP.seq (WP.reg (WO.val (v:= .ptr p.rb 0) rfl (WO.val (v:= .ptr p.rb 1) (L.aA rfl) (WO.val (v:= .int .i64 ((i4+1:Nat):Int)) (L.aC rfl (st.aj 1 rfl) rfl) (WO.val (v:= .int .i64 ((i4+1+1:Nat):Int)) (L.fQ rfl rfl (by omega) (And.intro (by omega) (by omega))) (WO.val (v:= .ptr p.rb 0) rfl (WO.val (v:= .ptr p.rb 1) (L.aA rfl) (WO.aG (row':=[.sl p.tb p.to p.ts.length p.cap, .int .i64 ((i4+1+1:Nat):Int), .int .i64 (d:Int), .int .i64 0, .int .i64 0]) st 1 rfl rfl rfl rfl rfl rfl rfl (fun h st=> ?_)))))))))))))
   have hl6:Left p (i4+1+1) (l5.tail).tail:=((XAt.ok hl5):XAt p _ 0 0 (.ok l5.tail)).ok0.2.2.tail (by rw [hdt];omega)
   have hS6:=(XAt.ok hl5)
   refine WO.nil (WP.seq (WP.reg (WO.val (v:= .ptr tb 1) (L.aA rfl) (WO.val (v:=L.str t.text) (L.aC rfl (st.aj 0 rfl) rfl) ?_))))
   have hdg:=((XAt.ok hl5):XAt p _ 0 0 (.ok l5.tail)).dig_ ht ck
   have hnb:=hdg.bound t.text.length
   rw [List.take_length] at hnb
   refine WO.aM rfl (Km D st hdg) ?_
   rintro _ h ⟨rfl,st⟩
   refine WO.val (v:= .ptr s 2) (L.aA rfl) (WO.aG (row':=[L.str x1,L.str x3, .int .i64 (num t.text:Int), .int .i64 (aL p i:Int)]) st 3 rfl rfl rfl rfl rfl rfl rfl (fun h st=> ?_))
   refine WO.nil (WP.seq (WP.seq (WP.reg (WO.aB (v:= .bool true) rfl (WO.nil (WP.cond (t:=true) rfl (WP.reg (WO.val (v:= .ptr s 2) (L.aA rfl) (WO.val (v:= .int .i64 (num t.text:Int)) (L.aC rfl (st.aj 3 rfl) rfl) (WO.val (v:= .int .i64 (-(num t.text:Int))) (L.neg64 rfl rfl (And.intro (by omega) (by omega))) (WO.val (v:= .ptr s 2) (L.aA rfl) (WO.aG (row':=[L.str x1,L.str x3, .int .i64 (-(num t.text:Int)), .int .i64 (aL p i:Int)]) st 3 rfl rfl rfl rfl rfl rfl rfl (fun h st=> ?_)))))))))))))
   refine WO.nil (WP.seq (WP.reg (WO.aM rfl (cu (s:=[59]) D ((st.pick 2 rfl).pick 2 rfl) (XAt.ok hl6)) ?_)))
   rintro _ h ⟨x7,S7,i7,e7,a7,rfl,q7,st⟩
   have ad7:=q7.adv
   have lt7:=q7.at_.lt
   refine WO.nil (WP.seq (WP.reg (WO.val (v:= .agg [L.str x1,L.str x3, .int .i64 (-(num t.text:Int)), .int .i64 (aL p i:Int)]) (L.aK rfl (st.aj 3 rfl) rfl rfl rfl) (WO.aG (row':=[L.str x1,L.str x3, .int .i64 (-(num t.text:Int)), .int .i64 (aL p i:Int)]) st 4 rfl rfl rfl rfl rfl rfl rfl (fun h st=> ?_)))))
   refine WO.nil (WP.ret ?_)
   exact ⟨_,(ak (aP (l:=[L.str x1,L.str x3, .int .i64 (-(num t.text:Int)), .int .i64 (aL p i:Int)]) rfl (L.aT (st.aj 4 rfl) rfl rfl rfl)) (aF _ _)),⟨x1,x3, -(num t.text:Int),(aL p i)⟩,_,_,_,_,rfl,⟨q7.at_,Par.uK (fun l e=>hx.here e) q1.res q2.res q3.res q4.res (Par.LA hm (Par.Lx (k:=num t.text) (neg:=true) (by rw [←hdt];exact Par.Ey (by rw [hdt];exact ck)) q7.res)),by omega⟩,(((st.pick 2 rfl).tail.pick 2 rfl).tail.pick 2 rfl).tail⟩
 ·replace st:St ((p.bD i4 d e4 a4)::p.toks:: .box s [L.str x1,L.str x3, .int .i64 0, .int .i64 (aL p i:Int)]:: .box res [.str 0 0, .str 0 0, .int .i64 0, .int .i64 0]::fs) h:=stn
  refine WO.nil (WP.seq (WP.draw (WD.val (v:= .ptr p.rb 0) rfl (WD.val (v:= .ptr p.rb 0) rfl (WD.val (v:= .ptr p.rb 0) (L.aA rfl) (WD.val (v:= .sl p.tb p.to p.ts.length p.cap) (L.aC rfl (st.aj 0 rfl) rfl) (WD.val (v:= .ptr p.rb 0) rfl (WD.val (v:= .ptr p.rb 0) rfl (WD.val (v:= .ptr p.rb 1) (L.aA rfl) (WD.val (v:= .int .i64 (i4:Int)) (L.aC rfl (st.aj 0 rfl) rfl) ?_))))))))))
  obtain ⟨t,ht,hrow⟩:=(q4.at_:XAt p i4 _ _ _).row
  refine WD.val (v:= .ptr p.tb (p.to+i4 * 3)) (L.bT rfl rfl q4.at_.lt) (WD.val (v:= .agg [.int .i64 (t.kind:Int),L.str t.text, .int .i64 (t.at_:Int)]) (L.aY rfl ((st.aJ 1 rfl).aY hrow)) (WD.bL st L.alloc (fun tb h st=> ?_)))
  refine WD.aG (row':=[.int .i64 (t.kind:Int),L.str t.text, .int .i64 (t.at_:Int)]) st 0 rfl rfl rfl rfl rfl rfl rfl (fun h st=>rfl) (fun h st=> ?_)
  refine WD.nil (WP.seq (WP.seq (WP.reg (WO.val (v:= .ptr p.rb 0) rfl (WO.val (v:= .ptr p.rb 3) (L.aA rfl) (WO.val (v:= .int .i64 (e4:Int)) (L.aC rfl (st.aj 1 rfl) rfl) (WO.ifV (L.neq rfl rfl) (fun ce=> ?_) (fun ce=> ?_))))))))
  ·replace ce:e4≠0:=by omega
   have hbad:=q4.at_.bad ce
   refine WO.no rfl (WO.no rfl (WO.no rfl (WO.aB (v:= .bool true) rfl (WO.nil (WP.cond (t:=true) rfl (WP.seq (WP.reg (WO.aM rfl (mY (k:=11) D ((st.pick 2 rfl).pick 2 rfl) q4.at_ (by decide)) ?_))))))))
   rintro _ h ⟨rfl,ef,af,hef,hxf,st⟩
   refine WO.nil (WP.seq (WP.reg (WO.val (v:= .agg [L.str x1,L.str x3, .int .i64 0, .int .i64 (aL p i:Int)]) (L.aK rfl (st.aj 3 rfl) rfl rfl rfl) (WO.aG (row':=[L.str x1,L.str x3, .int .i64 0, .int .i64 (aL p i:Int)]) st 4 rfl rfl rfl rfl rfl rfl rfl (fun h st=> ?_)))))
   refine WO.nil (WP.ret ?_)
   exact ⟨_,(ak (aP (l:=[L.str x1,L.str x3, .int .i64 0, .int .i64 (aL p i:Int)]) rfl (L.aT (st.aj 4 rfl) rfl rfl rfl)) (aF _ _)),⟨x1,x3,0,(aL p i)⟩,_,_,_,_,rfl,⟨hxf,Par.uK (fun l e=>hx.here e) q1.res q2.res q3.res q4.res (Par.FM hm (Par.FL (fun l2 e2=>by rw [hbad] at e2;cases e2))),by omega⟩,(((st.pick 2 rfl).tail.pick 2 rfl).tail.pick 2 rfl).tail⟩
  ·replace ce:e4=0:=by omega
   obtain ⟨l8,hS8,ha8,hl8⟩:=q4.at_.good ce
   subst hS8 ha8 ce
   refine WO.yes rfl (WO.val (v:= .ptr tb 0) (L.aA rfl) (WO.yes rfl (WO.val (v:= .int .i64 (t.kind:Int)) (L.aC rfl (st.aj 0 rfl) rfl) (WO.yes rfl ?_))))
   have hdt:=((XAt.ok hl8):XAt p i4 0 0 (.ok l8)).hd ht
   refine WO.ifV (L.neq rfl rfl) (fun ck=> ?_) (fun ck=> ?_)
   ·replace ck:t.kind≠2:=by omega
    refine WO.aB (v:= .bool true) rfl (WO.nil (WP.cond (t:=true) rfl (WP.seq (WP.reg (WO.aM rfl (mY (k:=11) D ((st.pick 2 rfl).pick 2 rfl) (XAt.ok hl8) (by decide)) ?_)))))
    rintro _ h ⟨rfl,ef,af,hef,hxf,st⟩
    refine WO.nil (WP.seq (WP.reg (WO.val (v:= .agg [L.str x1,L.str x3, .int .i64 0, .int .i64 (aL p i:Int)]) (L.aK rfl (st.aj 3 rfl) rfl rfl rfl) (WO.aG (row':=[L.str x1,L.str x3, .int .i64 0, .int .i64 (aL p i:Int)]) st 4 rfl rfl rfl rfl rfl rfl rfl (fun h st=> ?_)))))
    refine WO.nil (WP.ret ?_)
    exact ⟨_,(ak (aP (l:=[L.str x1,L.str x3, .int .i64 0, .int .i64 (aL p i:Int)]) rfl (L.aT (st.aj 4 rfl) rfl rfl rfl)) (aF _ _)),⟨x1,x3,0,(aL p i)⟩,_,_,_,_,rfl,⟨hxf,Par.uK (fun l e=>hx.here e) q1.res q2.res q3.res q4.res (Par.FM hm (Par.FL (fun l2 e2=>by cases e2;rw [hdt];exact ck))),by omega⟩,(((st.pick 2 rfl).tail.pick 2 rfl).tail.pick 2 rfl).tail⟩
   ·replace ck:t.kind=2:=by omega
    refine WO.aB (v:= .bool false) rfl (WO.nil (WP.cond (t:=false) rfl (WP.skip (WP.seq (WP.reg (WO.val (v:= .ptr p.rb 0) rfl (WO.val (v:= .ptr p.rb 1) (L.aA rfl) (WO.val (v:= .int .i64 (i4:Int)) (L.aC rfl (st.aj 1 rfl) rfl) (WO.val (v:= .int .i64 ((i4+1:Nat):Int)) (L.fQ rfl rfl (by omega) (And.intro (by omega) (by omega))) (WO.val (v:= .ptr p.rb 0) rfl (WO.val (v:= .ptr p.rb 1) (L.aA rfl) (WO.aG (row':=[.sl p.tb p.to p.ts.length p.cap, .int .i64 ((i4+1:Nat):Int), .int .i64 (d:Int), .int .i64 0, .int .i64 0]) st 1 rfl rfl rfl rfl rfl rfl rfl (fun h st=> ?_)))))))))))))
    have hl9:Left p (i4+1) (l8).tail:=((XAt.ok hl8):XAt p _ 0 0 (.ok l8)).ok0.2.2.tail (by rw [hdt];omega)
    have hS9:=(XAt.ok hl8)
    refine WO.nil (WP.seq (WP.reg (WO.val (v:= .ptr tb 1) (L.aA rfl) (WO.val (v:=L.str t.text) (L.aC rfl (st.aj 0 rfl) rfl) ?_))))
    have hdg:=((XAt.ok hl8):XAt p _ 0 0 (.ok l8)).dig_ ht ck
    have hnb:=hdg.bound t.text.length
    rw [List.take_length] at hnb
    refine WO.aM rfl (Km D st hdg) ?_
    rintro _ h ⟨rfl,st⟩
    refine WO.val (v:= .ptr s 2) (L.aA rfl) (WO.aG (row':=[L.str x1,L.str x3, .int .i64 (num t.text:Int), .int .i64 (aL p i:Int)]) st 3 rfl rfl rfl rfl rfl rfl rfl (fun h st=> ?_))
    refine WO.nil (WP.seq (WP.seq (WP.reg (WO.aB (v:= .bool false) rfl (WO.nil (WP.cond (t:=false) rfl (WP.skip (WP.seq (WP.reg (WO.aM rfl (cu (s:=[59]) D ((st.pick 2 rfl).pick 2 rfl) (XAt.ok hl9)) ?_))))))))))
    rintro _ h ⟨x10,S10,i10,e10,a10,rfl,q10,st⟩
    have ad10:=q10.adv
    have lt10:=q10.at_.lt
    refine WO.nil (WP.seq (WP.reg (WO.val (v:= .agg [L.str x1,L.str x3, .int .i64 (num t.text:Int), .int .i64 (aL p i:Int)]) (L.aK rfl (st.aj 3 rfl) rfl rfl rfl) (WO.aG (row':=[L.str x1,L.str x3, .int .i64 (num t.text:Int), .int .i64 (aL p i:Int)]) st 4 rfl rfl rfl rfl rfl rfl rfl (fun h st=> ?_)))))
    refine WO.nil (WP.ret ?_)
    exact ⟨_,(ak (aP (l:=[L.str x1,L.str x3, .int .i64 (num t.text:Int), .int .i64 (aL p i:Int)]) rfl (L.aT (st.aj 4 rfl) rfl rfl rfl)) (aF _ _)),⟨x1,x3,(num t.text:Int),(aL p i)⟩,_,_,_,_,rfl,⟨q10.at_,Par.uK (fun l e=>hx.here e) q1.res q2.res q3.res q4.res (Par.FM hm (Par.Lx (k:=num t.text) (neg:=false) (by rw [←hdt];exact Par.Ey (by rw [hdt];exact ck)) q10.res)),by omega⟩,(((st.pick 2 rfl).tail.pick 2 rfl).tail.pick 2 rfl).tail⟩
theorem xproc_c (D:ko c) {fs:List Fact} {h:Heap} {p:RP} {i d e a:Nat} {S:Par.SQ} (st:St (p.bD i d e a::p.toks::fs) h) (hx:XAt p i e a S) (hd:d≤40):
 aV c 32 [.ptr p.rb 0] h fun v h1=>∃(x:Pr) (S':Par.SQ) (i' e' a':Nat) (row:List V),v= .agg row∧row.length=8∧Stp p S i (Par.proc d) x S' i' e' a'∧St (.stb (fun h=>PrR h x row)::p.bD i' d e' a'::p.toks::fs) h1:=by
 have hsm:=hx.small
 have hlt:=hx.lt
 refine aV.dh D.f32 rfl (WP.seq (WP.reg (WO.bL st L.alloc (fun res h st=> ?_))))
 refine WO.nil (WP.seq (WP.reg (WO.aM rfl (lX D ((st.pick 2 rfl).pick 2 rfl) hx) ?_)))
 rintro _ h ⟨rfl,st⟩
 refine WO.aM rfl (jf D st hx) ?_
 rintro _ h ⟨x1,S1,i1,e1,a1,rfl,q1,st⟩
 have ad1:=q1.adv
 have lt1:=q1.at_.lt
 refine WO.val (v:= .agg [L.str x1, .slN, .bool false, .str 0 0, .str 0 0, .slN, .slN, .int .i64 (aL p i:Int)]) (L.build rfl) (WO.bL st L.alloc (fun s h st=> ?_))
 refine WO.aG (row':=[L.str x1, .slN, .bool false, .str 0 0, .str 0 0, .slN, .slN, .int .i64 (aL p i:Int)]) st 0 rfl rfl rfl rfl rfl rfl rfl (fun h st=> ?_)
 refine WO.nil (WP.seq (WP.reg (WO.aM rfl (cu (s:=[40]) D ((st.pick 2 rfl).pick 2 rfl) q1.at_) ?_)))
 rintro _ h ⟨x2,S2,i2,e2,a2,rfl,q2,st⟩
 have ad2:=q2.adv
 have lt2:=q2.at_.lt
 replace st:St (.acc 0 3 .slN (([]:List Pm).map Pm.row):: .acc 0 1 .slN (([]:List (List UInt8)).map bK)::(p.bD i2 d e2 a2)::p.toks:: .box s [L.str x1, .slN, .bool false, .str 0 0, .str 0 0, .slN, .slN, .int .i64 (aL p i:Int)]:: .box res [.str 0 0, .slN, .bool false, .str 0 0, .str 0 0, .slN, .slN, .int .i64 0]::fs) h:=(st.acc0 1).acc0 3
 refine WO.nil (WP.vY (fun env h=>∃Sp ip ep ap pj fpj vpj z2 z3 z4 z6,((∀z S3,Par.Res Sp (Par.must [41]) z S3→Par.Res S2 (fun l=>Par.several Par.qM [41] l []) pj S3)∧XAt p ip ep ap Sp∧i2+min e2 1≤ip+min ep 1)∧env=bG [.ptr p.rb 0, .ptr res 0,z2,z3,z4, .ptr s 0,z6] 0 Env.nil∧St (.box s [L.str x1,vpj, .bool false, .str 0 0, .str 0 0, .slN, .slN, .int .i64 (aL p i:Int)]:: .acc fpj 3 vpj (pj.map Pm.row):: .acc 0 1 .slN (([]:List (List UInt8)).map bK):: .box res [.str 0 0, .slN, .bool false, .str 0 0, .str 0 0, .slN, .slN, .int .i64 0]::(p.bD ip d ep ap)::p.toks::fs) h) ?_ ?_)
 ·refine WP.seq (WP.reg (WO.aM rfl (uI (s:=[41]) D ((st.pick 3 rfl).pick 3 rfl) q2.at_) ?_))
  rintro _ h ⟨rfl,st⟩
  cases hnop:Par.isS [41] S2
  ·refine WO.aB (v:= .bool true) rfl (WO.nil (WP.cond (t:=true) rfl (WP.block (WP.eO (α:=Nat) (fun g env h=>∃Sz iz ez az nz xz fz vz dz3 dz4 dz6,((∀y S',Par.Res Sz (Par.CP Par.qM [41] g nz xz) y S'→Par.Res S2 (fun l=>Par.several Par.qM [41] l []) y S')∧XAt p iz ez az Sz∧(ez=0→p.ts.length≤iz+g+1)∧xz.length≤iz+min ez 1∧i2+min e2 1≤iz+min ez 1)∧env=bG [.ptr p.rb 0, .ptr res 0, .bool true,dz3,dz4, .ptr s 0,dz6] 0 Env.nil∧St (.box s [L.str x1,vz, .bool false, .str 0 0, .str 0 0, .slN, .slN, .int .i64 (aL p i:Int)]:: .acc fz 3 vz (xz.map Pm.row):: .acc 0 1 .slN (([]:List (List UInt8)).map bK):: .box res [.str 0 0, .slN, .bool false, .str 0 0, .str 0 0, .slN, .slN, .int .i64 0]::(p.bD iz d ez az)::p.toks::fs) h) (fun g=>g) (Par.SQ.len S2 - 1) ?_ ?_))))
   ·exact ⟨S2,i2,e2,a2,0,[],0, .slN, .bot, .bot, .bot,⟨fun _ _ r=>Par.vw hnop (fun l e=>by have:=q2.at_;rw [e] at this;exact List.length_pos_iff.2 this.ok0.2.2.ne) r,q2.at_,(fun h0=>by have:=q2.at_.fuel h0;omega),Nat.zero_le _,Nat.le_refl _⟩,by kernel_rfl,((((st.pick 5 rfl).pick 4 rfl).pick 4 rfl).pick 5 rfl)⟩
   rintro g _ h ⟨Sz,iz,ez,az,nz,xz,fz,vz,dz3,dz4,dz6,⟨hsp,hz,hk,hxz,hadp⟩,rfl,st⟩
   have ltz:=hz.lt
   have smz:=hz.small
   refine WP.seq (WP.seq (WP.reg (WO.val (v:= .ptr p.rb 0) rfl (WO.val (v:= .ptr p.rb 3) (L.aA rfl) (WO.val (v:= .int .i64 (ez:Int)) (L.aC rfl (st.aj 4 rfl) rfl) (WO.ifS (L.eql rfl rfl) (fun ce=> ?_) (fun ce=> ?_)))))))
   ·replace ce:ez=0:=by omega
    obtain ⟨l3,hS3,ha3,hl3⟩:=hz.good ce
    subst hS3 ha3 ce
    refine WO.nil (WP.cond (t:=true) rfl (WP.skip (WP.block (WP.seq (WP.reg (WO.aM rfl (lX D ((st.pick 5 rfl).pick 5 rfl) (XAt.ok hl3)) ?_))))))
    rintro _ h ⟨rfl,st⟩
    refine WO.aM rfl (jf D st (XAt.ok hl3)) ?_
    rintro _ h ⟨x4,S4,i4,e4,a4,rfl,q4,st⟩
    have ad4:=q4.adv
    have lt4:=q4.at_.lt
    refine WO.val (v:= .agg [L.str x4, .str 0 0, .int .i64 (aL p iz:Int)]) (L.build rfl) (WO.bL st L.alloc (fun qb h st=> ?_))
    refine WO.aG (row':=[L.str x4, .str 0 0, .int .i64 (aL p iz:Int)]) st 0 rfl rfl rfl rfl rfl rfl rfl (fun h st=> ?_)
    refine WO.nil (WP.seq (WP.reg (WO.aM rfl (cu (s:=[58]) D ((st.pick 2 rfl).pick 2 rfl) q4.at_) ?_)))
    rintro _ h ⟨x5,S5,i5,e5,a5,rfl,q5,st⟩
    have ad5:=q5.adv
    have lt5:=q5.at_.lt
    refine WO.nil (WP.seq (WP.reg (WO.aM rfl (jf D st q5.at_) ?_)))
    rintro _ h ⟨x6,S6,i6,e6,a6,rfl,q6,st⟩
    have ad6:=q6.adv
    have lt6:=q6.at_.lt
    refine WO.val (v:= .ptr qb 1) (L.aA rfl) (WO.aG (row':=[L.str x4,L.str x6, .int .i64 (aL p iz:Int)]) st 2 rfl rfl rfl rfl rfl rfl rfl (fun h st=> ?_))
    refine WO.nil (WP.seq (WP.reg (WO.val (v:= .ptr s 1) (L.aA rfl) (WO.val (v:=vz) (L.aC rfl (st.aj 3 rfl) rfl) (WO.val (v:= .agg [L.str x4,L.str x6, .int .i64 (aL p iz:Int)]) (L.aK rfl (st.aj 2 rfl) rfl rfl rfl) (WO.iY (rows:=[[L.str x4,L.str x6, .int .i64 (aL p iz:Int)]]) st rfl (by decide) rfl (by simp) (fun bs1 h st=> ?_)))))))
    refine WO.rX st 5 rfl rfl rfl (st.aJ 0 rfl) (by decide) (by simp;omega) (fun f7 v7 h st=> ?_)
    rw [show (xz.map Pm.row)++[[L.str x4,L.str x6,V.int .i64 (aL p iz:Int)]]=(xz++[Pm.mk x4 x6 (aL p iz)]).map Pm.row from by simp [Pm.row]] at st
    obtain ⟨ab7,rfl⟩:=(st.bQ 5 rfl).ne (by simp)
    refine WO.val (v:= .ptr s 1) (L.aA rfl) (WO.aG (row':=[L.str x1, .sl ab7 0 (((xz++[Pm.mk x4 x6 (aL p iz)]).map Pm.row).length) none, .bool false, .str 0 0, .str 0 0, .slN, .slN, .int .i64 (aL p i:Int)]) st 4 rfl rfl rfl rfl rfl rfl rfl (fun h st=> ?_))
    refine WO.nil (WP.seq (WP.reg (WO.aM rfl (eF (s:=[44]) D ((st.pick 2 rfl).pick 2 rfl) q6.at_) ?_)))
    rintro _ h (⟨rfl,⟨l8,hS8,he8,ha8,hcmp,hl8⟩,stn⟩|⟨rfl,hcmp,stn⟩)
    ·subst hS8 he8 ha8
     replace st:St ((p.bD (i6+1) d 0 0)::p.toks:: .stb (fun h=>Rows 3 h (.sl bs1 0 1 (some 1)) [[L.str x4,L.str x6, .int .i64 (aL p iz:Int)]]):: .box qb [L.str x4,L.str x6, .int .i64 (aL p iz:Int)]:: .box s [L.str x1, .sl ab7 0 (((xz++[Pm.mk x4 x6 (aL p iz)]).map Pm.row).length) none, .bool false, .str 0 0, .str 0 0, .slN, .slN, .int .i64 (aL p i:Int)]:: .acc f7 3 (.sl ab7 0 ((xz++[Pm.mk x4 x6 (aL p iz)]).map Pm.row).length none) ((xz++[Pm.mk x4 x6 (aL p iz)]).map Pm.row):: .acc 0 1 .slN (([]:List (List UInt8)).map bK):: .box res [.str 0 0, .slN, .bool false, .str 0 0, .str 0 0, .slN, .slN, .int .i64 0]::fs) h:=stn
     have lt8:=hl8.lt
     obtain ⟨g,rfl⟩:∃m,g=m+1:=⟨g - 1,by omega⟩
     refine WO.aB (v:= .bool false) rfl (WO.nil (WP.cond (t:=false) rfl (WP.skip ?_)))
     exact ⟨g,(Nat.lt_succ_self _),(.ok l8.tail),i6+1,0,0,(nz+1),(xz++[Pm.mk x4 x6 (aL p iz)]),f7,(.sl ab7 0 ((xz++[Pm.mk x4 x6 (aL p iz)]).map Pm.row).length none),(.bool true),(.ptr qb 0),(.bool false),⟨fun y S' r=>hsp y S' (Par.yC (by decide) (Par.Il (fun l e=>hz.here e) q4.res q5.res q6.res) hcmp r), .ok hl8,(by omega),(by simp;omega),(by omega)⟩,by kernel_rfl,((((((st.pick 2 rfl).tail.pick 2 rfl).tail.pick 5 rfl).pick 5 rfl).pick 5 rfl).pick 5 rfl)⟩
    ·replace st:St ((p.bD i6 d e6 a6)::p.toks:: .stb (fun h=>Rows 3 h (.sl bs1 0 1 (some 1)) [[L.str x4,L.str x6, .int .i64 (aL p iz:Int)]]):: .box qb [L.str x4,L.str x6, .int .i64 (aL p iz:Int)]:: .box s [L.str x1, .sl ab7 0 (((xz++[Pm.mk x4 x6 (aL p iz)]).map Pm.row).length) none, .bool false, .str 0 0, .str 0 0, .slN, .slN, .int .i64 (aL p i:Int)]:: .acc f7 3 (.sl ab7 0 ((xz++[Pm.mk x4 x6 (aL p iz)]).map Pm.row).length none) ((xz++[Pm.mk x4 x6 (aL p iz)]).map Pm.row):: .acc 0 1 .slN (([]:List (List UInt8)).map bK):: .box res [.str 0 0, .slN, .bool false, .str 0 0, .str 0 0, .slN, .slN, .int .i64 0]::fs) h:=stn
     refine WO.aB (v:= .bool true) rfl (WO.nil (WP.cond (t:=true) rfl (WP.exit ?_)))
     exact ⟨S6,i6,e6,a6,(xz++[Pm.mk x4 x6 (aL p iz)]),f7,(.sl ab7 0 ((xz++[Pm.mk x4 x6 (aL p iz)]).map Pm.row).length none),(.bool true),(.bool true),(.ptr qb 0),(.bool true),⟨fun _ _ w=>hsp _ _ (Par.yD (Par.Il (fun l e=>hz.here e) q4.res q5.res q6.res) hcmp w (fun l e=>by have:=q6.at_;rw [e] at this;have h3:=this.ok0.1;have h4:=this.ok0.2.2.lt;omega)),q6.at_,(by omega)⟩,by kernel_rfl,((((((st.pick 2 rfl).tail.pick 2 rfl).tail.pick 5 rfl).pick 5 rfl).pick 5 rfl).pick 5 rfl)⟩
   ·replace ce:ez≠0:=by omega
    have hbad:=hz.bad ce
    refine WO.nil (WP.cond (t:=false) rfl (WP.exit ?_))
    exact ⟨Sz,iz,ez,az,xz,fz,vz,(.bool true),(.bool false),dz4,dz6,⟨fun _ _ w=>hsp _ _ (Par.Res.any hbad w),hz,hadp⟩,by kernel_rfl,st⟩
  ·refine WO.aB (v:= .bool false) rfl (WO.nil (WP.cond (t:=false) rfl (WP.skip ?_)))
   exact ⟨S2,i2,e2,a2,([]),0, .slN,(.bool false), .bot, .bot, .bot,⟨fun _ _ w=>Par.yB hnop w,q2.at_,Nat.le_refl _⟩,by kernel_rfl,((((st.pick 5 rfl).pick 4 rfl).pick 4 rfl).pick 5 rfl)⟩
 ·rintro _ h ⟨Sp,ip,ep,ap,pj,fpj,vpj,z2,z3,z4,z6,⟨hjp,hxp,hadp⟩,rfl,st⟩
  have ltp:=hxp.lt
  refine WP.seq (WP.reg (WO.aM rfl (cu (s:=[41]) D ((st.pick 5 rfl).pick 5 rfl) hxp) ?_))
  rintro _ h ⟨x9,S9,i9,e9,a9,rfl,q9,st⟩
  have ad9:=q9.adv
  have lt9:=q9.at_.lt
  refine WO.nil (WP.vY (fun env h=>∃Sr ir er ar hasj rj z7,((∀x S5,Par.Res Sr (Par.gN d ⟨x1,pj,hasj,rj,[],[],[],aL p i⟩) x S5→Par.Res S (Par.proc d) x S5)∧XAt p ir er ar Sr∧i9+min e9 1≤ir+min er 1)∧env=bG [.ptr p.rb 0, .ptr res 0,z2,z3,z4, .ptr s 0,z6,z7] 0 Env.nil∧St (.box s [L.str x1,vpj, .bool hasj,L.str rj, .str 0 0, .slN, .slN, .int .i64 (aL p i:Int)]:: .acc fpj 3 vpj (pj.map Pm.row):: .acc 0 1 .slN (([]:List (List UInt8)).map bK):: .box res [.str 0 0, .slN, .bool false, .str 0 0, .str 0 0, .slN, .slN, .int .i64 0]::(p.bD ir d er ar)::p.toks::fs) h) ?_ ?_)
  ·refine WP.seq (WP.reg (WO.aU rfl (eF (s:=[45,62]) D st q9.at_) ?_))
   rintro _ h (⟨rfl,⟨l10,hS10,he10,ha10,har,hl10⟩,stn⟩|⟨rfl,har,stn⟩)
   ·subst hS10 he10 ha10
    replace st:St ((p.bD (i9+1) d 0 0)::p.toks:: .box s [L.str x1,vpj, .bool false, .str 0 0, .str 0 0, .slN, .slN, .int .i64 (aL p i:Int)]:: .acc fpj 3 vpj (pj.map Pm.row):: .acc 0 1 .slN (([]:List (List UInt8)).map bK):: .box res [.str 0 0, .slN, .bool false, .str 0 0, .str 0 0, .slN, .slN, .int .i64 0]::fs) h:=stn
    have lt10:=hl10.lt
    refine WO.nil (WP.cond (t:=true) rfl (WP.seq (WP.reg (WO.val (v:= .ptr s 2) (L.aA rfl) (WO.aG (row':=[L.str x1,vpj, .bool true, .str 0 0, .str 0 0, .slN, .slN, .int .i64 (aL p i:Int)]) st 2 rfl rfl rfl rfl rfl rfl rfl (fun h st=> ?_))))))
    refine WO.nil (WP.reg (WO.aM rfl (jf D st (XAt.ok hl10)) ?_))
    rintro _ h ⟨x11,S11,i11,e11,a11,rfl,q11,st⟩
    have ad11:=q11.adv
    have lt11:=q11.at_.lt
    refine WO.val (v:= .ptr s 3) (L.aA rfl) (WO.aG (row':=[L.str x1,vpj, .bool true,L.str x11, .str 0 0, .slN, .slN, .int .i64 (aL p i:Int)]) st 2 rfl rfl rfl rfl rfl rfl rfl (fun h st=> ?_))
    refine WO.nil ?_
    exact ⟨S11,i11,e11,a11,true,x11,(.bool true),⟨fun _ _ v=>Par.Kr (fun l e=>hx.here e) q1.res q2.res (hjp _ _ q9.res) har q11.res v,q11.at_,(by omega)⟩,by kernel_rfl,((((st.pick 5 rfl).pick 5 rfl).pick 5 rfl).pick 5 rfl)⟩
   ·replace st:St ((p.bD i9 d e9 a9)::p.toks:: .box s [L.str x1,vpj, .bool false, .str 0 0, .str 0 0, .slN, .slN, .int .i64 (aL p i:Int)]:: .acc fpj 3 vpj (pj.map Pm.row):: .acc 0 1 .slN (([]:List (List UInt8)).map bK):: .box res [.str 0 0, .slN, .bool false, .str 0 0, .str 0 0, .slN, .slN, .int .i64 0]::fs) h:=stn
    refine WO.nil (WP.cond (t:=false) rfl (WP.skip ?_))
    exact ⟨S9,i9,e9,a9,false,([]),(.bool false),⟨fun _ _ v=>Par.Kt (fun l e=>hx.here e) q1.res q2.res (hjp _ _ q9.res) har v,q9.at_,(by omega)⟩,by kernel_rfl,((((st.pick 5 rfl).pick 5 rfl).pick 5 rfl).pick 5 rfl)⟩
  ·rintro _ h ⟨Sr,ir,er,ar,hasj,rj,z7,⟨hjr,hxr,hadr⟩,rfl,st⟩
   have ltr:=hxr.lt
   refine WP.seq (WP.reg (WO.aM rfl (cu (s:=[112,99]) D ((st.pick 5 rfl).pick 5 rfl) hxr) ?_))
   rintro _ h ⟨x12,S12,i12,e12,a12,rfl,q12,st⟩
   have ad12:=q12.adv
   have lt12:=q12.at_.lt
   refine WO.nil (WP.seq (WP.reg (WO.aM rfl (jf D st q12.at_) ?_)))
   rintro _ h ⟨x13,S13,i13,e13,a13,rfl,q13,st⟩
   have ad13:=q13.adv
   have lt13:=q13.at_.lt
   refine WO.val (v:= .ptr s 4) (L.aA rfl) (WO.aG (row':=[L.str x1,vpj, .bool hasj,L.str rj,L.str x13, .slN, .slN, .int .i64 (aL p i:Int)]) st 2 rfl rfl rfl rfl rfl rfl rfl (fun h st=> ?_))
   refine WO.nil (WP.seq (WP.reg (WO.aM rfl (cu (s:=[117,115,101,115]) D st q13.at_) ?_)))
   rintro _ h ⟨x14,S14,i14,e14,a14,rfl,q14,st⟩
   have ad14:=q14.adv
   have lt14:=q14.at_.lt
   refine WO.nil (WP.seq (WP.reg (WO.aM rfl (cu (s:=[123]) D st q14.at_) ?_)))
   rintro _ h ⟨x15,S15,i15,e15,a15,rfl,q15,st⟩
   have ad15:=q15.adv
   have lt15:=q15.at_.lt
   refine WO.nil (WP.vY (fun env h=>∃Su iu eu au uj fuj vuj z8 z9 z10,((∀z S3,Par.Res Su (Par.must [125]) z S3→Par.Res S15 (fun l=>Par.several Par.use [125] l []) uj S3)∧XAt p iu eu au Su∧i15+min e15 1≤iu+min eu 1)∧env=bG [.ptr p.rb 0, .ptr res 0,z2,z3,z4, .ptr s 0,z6,z7,z8,z9,z10] 0 Env.nil∧St (.box s [L.str x1,vpj, .bool hasj,L.str rj,L.str x13,vuj, .slN, .int .i64 (aL p i:Int)]:: .acc fpj 3 vpj (pj.map Pm.row):: .acc fuj 1 vuj (uj.map bK):: .box res [.str 0 0, .slN, .bool false, .str 0 0, .str 0 0, .slN, .slN, .int .i64 0]::(p.bD iu d eu au)::p.toks::fs) h) ?_ ?_)
   ·refine WP.seq (WP.reg (WO.aM rfl (uI (s:=[125]) D st q15.at_) ?_))
    rintro _ h ⟨rfl,st⟩
    cases hnou:Par.isS [125] S15
    ·refine WO.aB (v:= .bool true) rfl (WO.nil (WP.cond (t:=true) rfl (WP.block (WP.eO (α:=Nat) (fun g env h=>∃Sz iz ez az nz xz fz vz dz9 dz10,((∀y S',Par.Res Sz (Par.CP Par.use [125] g nz xz) y S'→Par.Res S15 (fun l=>Par.several Par.use [125] l []) y S')∧XAt p iz ez az Sz∧(ez=0→p.ts.length≤iz+g+1)∧xz.length≤iz+min ez 1∧i15+min e15 1≤iz+min ez 1)∧env=bG [.ptr p.rb 0, .ptr res 0,z2,z3,z4, .ptr s 0,z6,z7, .bool true,dz9,dz10] 0 Env.nil∧St (.box s [L.str x1,vpj, .bool hasj,L.str rj,L.str x13,vz, .slN, .int .i64 (aL p i:Int)]:: .acc fpj 3 vpj (pj.map Pm.row):: .acc fz 1 vz (xz.map bK):: .box res [.str 0 0, .slN, .bool false, .str 0 0, .str 0 0, .slN, .slN, .int .i64 0]::(p.bD iz d ez az)::p.toks::fs) h) (fun g=>g) (Par.SQ.len S15 - 1) ?_ ?_))))
     ·exact ⟨S15,i15,e15,a15,0,[],0, .slN, .bot, .bot,⟨fun _ _ r=>Par.vw hnou (fun l e=>by have:=q15.at_;rw [e] at this;exact List.length_pos_iff.2 this.ok0.2.2.ne) r,q15.at_,(fun h0=>by have:=q15.at_.fuel h0;omega),Nat.zero_le _,Nat.le_refl _⟩,by kernel_rfl,((((st.pick 5 rfl).pick 5 rfl).pick 5 rfl).pick 5 rfl)⟩
     rintro g _ h ⟨Sz,iz,ez,az,nz,xz,fz,vz,dz9,dz10,⟨hsu,hz,hk,hxz,hadu⟩,rfl,st⟩
     have ltz:=hz.lt
     have smz:=hz.small
     refine WP.seq (WP.seq (WP.reg (WO.val (v:= .ptr p.rb 0) rfl (WO.val (v:= .ptr p.rb 3) (L.aA rfl) (WO.val (v:= .int .i64 (ez:Int)) (L.aC rfl (st.aj 4 rfl) rfl) (WO.ifS (L.eql rfl rfl) (fun ce=> ?_) (fun ce=> ?_)))))))
     ·replace ce:ez=0:=by omega
      obtain ⟨l16,hS16,ha16,hl16⟩:=hz.good ce
      subst hS16 ha16 ce
      refine WO.nil (WP.cond (t:=true) rfl (WP.skip (WP.block (WP.seq (WP.draw (WD.val (v:= .ptr s 5) (L.aA rfl) (WD.val (v:=vz) (L.aC rfl (st.aj 0 rfl) rfl) (WD.val (v:= .ptr p.rb 0) rfl (WD.aM rfl (jf D ((st.pick 5 rfl).pick 5 rfl) (XAt.ok hl16)) (fun _ h hp=> ?_) ?_)))))))))
      ·obtain ⟨x17,S17,i17,e17,a17,rfl,q17,st⟩:=hp
       exact aR (by first|exact av (L.aC rfl (st.aj 0 rfl) rfl)|exact aH st 0 rfl|exact av (L.aK rfl (st.aj 0 rfl) rfl rfl rfl)|exact av (L.aC rfl (st.aj 2 rfl) rfl)|exact aH st 2 rfl|exact av (L.aK rfl (st.aj 2 rfl) rfl rfl rfl)|exact av (L.aC rfl (st.aj 5 rfl) rfl)|exact aH st 5 rfl|exact av (L.aK rfl (st.aj 5 rfl) rfl rfl rfl)) (bC _ _)
      rintro _ h ⟨x17,S17,i17,e17,a17,rfl,q17,st⟩
      have ad17:=q17.adv
      have lt17:=q17.at_.lt
      refine WD.iY (rows:=[[L.str x17]]) st rfl (by decide) rfl (by simp) (fun bs2 h _ st=> ?_)
      refine WD.rX st 5 rfl rfl rfl (st.aJ 0 rfl) (by decide) (by simp;omega) (fun _ _ h st=>rfl) (fun f18 v18 h st=> ?_)
      rw [show (xz.map bK)++[[L.str x17]]=(xz++[x17]).map bK from by simp [bK]] at st
      obtain ⟨ab18,rfl⟩:=(st.bQ 5 rfl).ne (by simp)
      refine WD.val (v:= .ptr s 5) (L.aA rfl) (WD.aG (row':=[L.str x1,vpj, .bool hasj,L.str rj,L.str x13, .sl ab18 0 (((xz++[x17]).map bK).length) none, .slN, .int .i64 (aL p i:Int)]) st 3 rfl rfl rfl rfl rfl rfl rfl (fun h st=>rfl) (fun h st=> ?_))
      refine WD.nil (WP.seq (WP.reg (WO.aM rfl (eF (s:=[44]) D ((st.pick 2 rfl).pick 2 rfl) q17.at_) ?_)))
      rintro _ h (⟨rfl,⟨l19,hS19,he19,ha19,hcmu,hl19⟩,stn⟩|⟨rfl,hcmu,stn⟩)
      ·subst hS19 he19 ha19
       replace st:St ((p.bD (i17+1) d 0 0)::p.toks:: .stb (fun h=>Rows 1 h (.sl bs2 0 1 (some 1)) [[L.str x17]]):: .box s [L.str x1,vpj, .bool hasj,L.str rj,L.str x13, .sl ab18 0 (((xz++[x17]).map bK).length) none, .slN, .int .i64 (aL p i:Int)]:: .acc fpj 3 vpj (pj.map Pm.row):: .acc f18 1 (.sl ab18 0 ((xz++[x17]).map bK).length none) ((xz++[x17]).map bK):: .box res [.str 0 0, .slN, .bool false, .str 0 0, .str 0 0, .slN, .slN, .int .i64 0]::fs) h:=stn
       have lt19:=hl19.lt
       obtain ⟨g,rfl⟩:∃m,g=m+1:=⟨g - 1,by omega⟩
       refine WO.aB (v:= .bool false) rfl (WO.nil (WP.cond (t:=false) rfl (WP.skip ?_)))
       exact ⟨g,(Nat.lt_succ_self _),(.ok l19.tail),i17+1,0,0,(nz+1),(xz++[x17]),f18,(.sl ab18 0 ((xz++[x17]).map bK).length none),(.bool true),(.bool false),⟨fun y S' r=>hsu y S' (Par.yC (by decide) (Par.LB q17.res) hcmu r), .ok hl19,(by omega),(by simp;omega),(by omega)⟩,by kernel_rfl,(((((st.pick 2 rfl).tail.pick 5 rfl).pick 5 rfl).pick 5 rfl).pick 5 rfl)⟩
      ·replace st:St ((p.bD i17 d e17 a17)::p.toks:: .stb (fun h=>Rows 1 h (.sl bs2 0 1 (some 1)) [[L.str x17]]):: .box s [L.str x1,vpj, .bool hasj,L.str rj,L.str x13, .sl ab18 0 (((xz++[x17]).map bK).length) none, .slN, .int .i64 (aL p i:Int)]:: .acc fpj 3 vpj (pj.map Pm.row):: .acc f18 1 (.sl ab18 0 ((xz++[x17]).map bK).length none) ((xz++[x17]).map bK):: .box res [.str 0 0, .slN, .bool false, .str 0 0, .str 0 0, .slN, .slN, .int .i64 0]::fs) h:=stn
       refine WO.aB (v:= .bool true) rfl (WO.nil (WP.cond (t:=true) rfl (WP.exit ?_)))
       exact ⟨S17,i17,e17,a17,(xz++[x17]),f18,(.sl ab18 0 ((xz++[x17]).map bK).length none),(.bool true),(.bool true),(.bool true),⟨fun _ _ w=>hsu _ _ (Par.yD (Par.LB q17.res) hcmu w (fun l e=>by have:=q17.at_;rw [e] at this;have h3:=this.ok0.1;have h4:=this.ok0.2.2.lt;omega)),q17.at_,(by omega)⟩,by kernel_rfl,(((((st.pick 2 rfl).tail.pick 5 rfl).pick 5 rfl).pick 5 rfl).pick 5 rfl)⟩
     ·replace ce:ez≠0:=by omega
      have hbad:=hz.bad ce
      refine WO.nil (WP.cond (t:=false) rfl (WP.exit ?_))
      exact ⟨Sz,iz,ez,az,xz,fz,vz,(.bool true),(.bool false),dz10,⟨fun _ _ w=>hsu _ _ (Par.Res.any hbad w),hz,hadu⟩,by kernel_rfl,st⟩
    ·refine WO.aB (v:= .bool false) rfl (WO.nil (WP.cond (t:=false) rfl (WP.skip ?_)))
     exact ⟨S15,i15,e15,a15,([]),0, .slN,(.bool false), .bot, .bot,⟨fun _ _ w=>Par.yB hnou w,q15.at_,Nat.le_refl _⟩,by kernel_rfl,((((st.pick 5 rfl).pick 5 rfl).pick 5 rfl).pick 5 rfl)⟩
   ·rintro _ h ⟨Su,iu,eu,au,uj,fuj,vuj,z8,z9,z10,⟨hju,hxu,hadu⟩,rfl,st⟩
    have ltu:=hxu.lt
    refine WP.seq (WP.reg (WO.aM rfl (cu (s:=[125]) D ((st.pick 5 rfl).pick 5 rfl) hxu) ?_))
    rintro _ h ⟨x20,S20,i20,e20,a20,rfl,q20,st⟩
    have ad20:=q20.adv
    have lt20:=q20.at_.lt
    refine WO.nil (WP.seq (WP.reg (WO.aM rfl (RY D st q20.at_ (by omega)) ?_)))
    rintro v21 h ⟨x21,S21,i21,e21,a21,q21,st⟩
    have ad21:=q21.adv
    have lt21:=q21.at_.lt
    have hc21:=iD.FK (st.aJ 0 rfl)
    refine WO.val (v:= .ptr s 6) (L.aA rfl) (WO.aG (row':=[L.str x1,vpj, .bool hasj,L.str rj,L.str x13,vuj,v21, .int .i64 (aL p i:Int)]) st 3 rfl rfl hc21 rfl rfl rfl rfl (fun h st=> ?_))
    refine WO.nil (WP.seq (WP.reg (WO.val (v:= .agg [L.str x1,vpj, .bool hasj,L.str rj,L.str x13,vuj,v21, .int .i64 (aL p i:Int)]) (L.aK rfl (st.aj 3 rfl) rfl rfl rfl) (WO.aG (row':=[L.str x1,vpj, .bool hasj,L.str rj,L.str x13,vuj,v21, .int .i64 (aL p i:Int)]) st 6 rfl rfl rfl rfl rfl rfl rfl (fun h st=> ?_)))))
    refine WO.nil (WP.ret ?_)
    have s1:=(((((st.pick 3 rfl).tail.pick 5 rfl).tail.pick 4 rfl).pick 4 rfl)).shut (by decide)
    have s2:=((s1.pick 1 rfl).shut (by decide)).and
    have s3:=((s2.pick 1 rfl)).and
    exact ⟨_,(ak (aP (l:=[L.str x1,vpj, .bool hasj,L.str rj,L.str x13,vuj,v21, .int .i64 (aL p i:Int)]) rfl (L.aT (st.aj 6 rfl) rfl rfl rfl)) (aF _ _)),⟨x1,pj,hasj,rj,x13,uj,x21,aL p i⟩,_,_,_,_,_,rfl,rfl,⟨q21.at_,(hjr _ _ (Par.Oi q12.res q13.res q14.res q15.res (hju _ _ q20.res) q21.res)),(sK (sK (Nat.le_trans (sK (sK (sK (sK (Nat.le_trans (sK (Nat.le_trans (sK ad1 ad2) hadp) ad9) hadr) ad12) ad13) ad14) ad15) hadu) ad20) ad21)⟩,s3.iA fun h hx=>PrR.of hx.2.2 hx.2.1 hx.1⟩
end
end Go.Eng.YtjobofnpmmjeoaaGreatDoor
namespace Go.Eng.YtjobofnpmmjeoaaGreatDoor
open Go.Eng
noncomputable section
variable {c:Ctx}
theorem Ou (D:ko c) {fs:List Fact} {h:Heap} {p:RP} {i d e a:Nat} {S:Par.SQ} (st:St (p.bD i d e a::p.toks::fs) h) (hx:XAt p i e a S) (hd:d≤40):
 aV c 15 [.ptr p.rb 0] h fun v h1=>∃(x:Md) (S':Par.SQ) (i' e' a':Nat) (row:List V),v= .agg row∧row.length=5∧Stp p S i (Par.kD d) x S' i' e' a'∧St (.stb (fun h=>MdR h x row)::p.bD i' d e' a'::p.toks::fs) h1:=by
 have hsm:=hx.small
 have hlt:=hx.lt
 refine aV.dh D.f15 rfl (WP.seq (WP.reg (WO.bL st L.alloc (fun res h st=> ?_))))
 refine WO.nil (WP.seq (WP.reg (WO.aM rfl (cu (s:=[109,111,100,117,108,101]) D ((st.pick 2 rfl).pick 2 rfl) hx) ?_)))
 rintro _ h ⟨x1,S1,i1,e1,a1,rfl,q1,st⟩
 have ad1:=q1.adv
 have lt1:=q1.at_.lt
 refine WO.nil (WP.seq (WP.reg (WO.aM rfl (lX D st q1.at_) ?_)))
 rintro _ h ⟨rfl,st⟩
 refine WO.aM rfl (jf D st q1.at_) ?_
 rintro _ h ⟨x2,S2,i2,e2,a2,rfl,q2,st⟩
 have ad2:=q2.adv
 have lt2:=q2.at_.lt
 refine WO.val (v:= .agg [L.str x2, .int .i64 (aL p i1:Int), .slN, .slN, .slN]) (L.build rfl) (WO.bL st L.alloc (fun s h st=> ?_))
 refine WO.aG (row':=[L.str x2, .int .i64 (aL p i1:Int), .slN, .slN, .slN]) st 0 rfl rfl rfl rfl rfl rfl rfl (fun h st=> ?_)
 refine WO.nil (WP.seq (WP.reg (WO.aM rfl (cu (s:=[59]) D ((st.pick 2 rfl).pick 2 rfl) q2.at_) ?_)))
 rintro _ h ⟨x3,S3,i3,e3,a3,rfl,q3,st⟩
 have ad3:=q3.adv
 have lt3:=q3.at_.lt
 replace st:St (.acc 0 2 .slN (([]:List Im).map Im.row)::(p.bD i3 d e3 a3)::p.toks:: .box s [L.str x2, .int .i64 (aL p i1:Int), .slN, .slN, .slN]:: .box res [.str 0 0, .int .i64 0, .slN, .slN, .slN]::fs) h:=st.acc0 2
 refine WO.nil (WP.seq (WP.block (WP.eO (α:=Nat) (fun g env h=>∃Sz iz ez az xz fz vz dz2,((∀y S',Par.Res Sz (fun l=>Par.iU g l xz) y S'→Par.Res S3 (fun l=>Par.iU l.length l []) y S')∧XAt p iz ez az Sz∧(ez=0→p.ts.length≤iz+g)∧xz.length≤iz+min ez 1∧i3+min e3 1≤iz+min ez 1)∧env=bG [.ptr p.rb 0, .ptr res 0,dz2, .ptr s 0] 0 Env.nil∧St (.box s [L.str x2, .int .i64 (aL p i1:Int),vz, .slN, .slN]:: .acc fz 2 vz (xz.map Im.row):: .box res [.str 0 0, .int .i64 0, .slN, .slN, .slN]::(p.bD iz d ez az)::p.toks::fs) h) (fun g=>g) (Par.SQ.len S3) ?_ ?_)))
 ·exact ⟨S3,i3,e3,a3,[],0, .slN, .bot,⟨fun _ _ r=>Par.Res.len (F:=fun n l=>Par.iU n l []) r,q3.at_,q3.at_.fuel,Nat.zero_le _,Nat.le_refl _⟩,by kernel_rfl,(((st.pick 4 rfl).pick 1 rfl).pick 4 rfl)⟩
 rintro g _ h ⟨Sz,iz,ez,az,xz,fz,vz,dz2,⟨hs,hz,hk,hxz,hadz⟩,rfl,st⟩
 have ltz:=hz.lt
 have smz:=hz.small
 refine WP.seq (WP.seq (WP.reg (WO.aU rfl (eF (s:=[105,109,112,111,114,116]) D ((st.pick 4 rfl).pick 4 rfl) hz) ?_)))
 rintro _ h (⟨rfl,⟨l4,hS4,he4,ha4,himp,hl4⟩,stn⟩|⟨rfl,himp,stn⟩)
 ·subst hS4 he4 ha4
  replace st:St ((p.bD (iz+1) d 0 0)::p.toks:: .box s [L.str x2, .int .i64 (aL p i1:Int),vz, .slN, .slN]:: .acc fz 2 vz (xz.map Im.row):: .box res [.str 0 0, .int .i64 0, .slN, .slN, .slN]::fs) h:=stn
  have lt4:=hl4.lt
  obtain ⟨g,rfl⟩:∃m,g=m+1:=⟨g - 1,by omega⟩
  refine WO.nil (WP.cond (t:=true) rfl (WP.skip (WP.block (WP.seq (WP.draw (WD.val (v:= .ptr s 2) (L.aA rfl) (WD.val (v:=vz) (L.aC rfl (st.aj 2 rfl) rfl) (WD.val (v:= .ptr p.rb 0) rfl (WD.val (v:= .ptr p.rb 0) rfl (WD.aM rfl (lX D st (XAt.ok hl4)) (fun _ h hp=> ?_) ?_))))))))))
  ·obtain ⟨rfl,st⟩:=hp
   exact aR (by first|exact av (L.aC rfl (st.aj 0 rfl) rfl)|exact aH st 0 rfl|exact av (L.aK rfl (st.aj 0 rfl) rfl rfl rfl)|exact av (L.aC rfl (st.aj 2 rfl) rfl)|exact aH st 2 rfl|exact av (L.aK rfl (st.aj 2 rfl) rfl rfl rfl)|exact av (L.aC rfl (st.aj 4 rfl) rfl)|exact aH st 4 rfl|exact av (L.aK rfl (st.aj 4 rfl) rfl rfl rfl)) (bC _ _)
  rintro _ h ⟨rfl,st⟩
  refine WD.aM rfl (jf D st (XAt.ok hl4)) (fun _ h hp=> ?_) ?_
  ·obtain ⟨x5,S5,i5,e5,a5,rfl,q5,st⟩:=hp
   exact aR (by first|exact av (L.aC rfl (st.aj 0 rfl) rfl)|exact aH st 0 rfl|exact av (L.aK rfl (st.aj 0 rfl) rfl rfl rfl)|exact av (L.aC rfl (st.aj 2 rfl) rfl)|exact aH st 2 rfl|exact av (L.aK rfl (st.aj 2 rfl) rfl rfl rfl)|exact av (L.aC rfl (st.aj 4 rfl) rfl)|exact aH st 4 rfl|exact av (L.aK rfl (st.aj 4 rfl) rfl rfl rfl)) (bC _ _)
  rintro _ h ⟨x5,S5,i5,e5,a5,rfl,q5,st⟩
  have ad5:=q5.adv
  have lt5:=q5.at_.lt
  refine WD.val (v:= .agg [L.str x5, .int .i64 (aL p (iz+1):Int)]) (L.build rfl) (WD.iY (rows:=[[L.str x5, .int .i64 (aL p (iz+1):Int)]]) st rfl (by decide) rfl (by simp) (fun bs1 h _ st=> ?_))
  refine WD.rX st 4 rfl rfl rfl (st.aJ 0 rfl) (by decide) (by simp;omega) (fun _ _ h st=>rfl) (fun f6 v6 h st=> ?_)
  rw [show (xz.map Im.row)++[[L.str x5,V.int .i64 (aL p (iz+1):Int)]]=(xz++[Im.mk x5 (aL p (iz+1))]).map Im.row from by simp [Im.row]] at st
  obtain ⟨ab6,rfl⟩:=(st.bQ 4 rfl).ne (by simp)
  refine WD.val (v:= .ptr s 2) (L.aA rfl) (WD.aG (row':=[L.str x2, .int .i64 (aL p i1:Int), .sl ab6 0 (((xz++[Im.mk x5 (aL p (iz+1))]).map Im.row).length) none, .slN, .slN]) st 3 rfl rfl rfl rfl rfl rfl rfl (fun h st=>rfl) (fun h st=> ?_))
  refine WD.nil (WP.reg (WO.aM rfl (cu (s:=[59]) D ((st.pick 2 rfl).pick 2 rfl) q5.at_) ?_))
  rintro _ h ⟨x7,S7,i7,e7,a7,rfl,q7,st⟩
  have ad7:=q7.adv
  have lt7:=q7.at_.lt
  refine WO.nil ?_
  exact ⟨g,(Nat.lt_succ_self _),S7,i7,e7,a7,(xz++[Im.mk x5 (aL p (iz+1))]),f6,(.sl ab6 0 ((xz++[Im.mk x5 (aL p (iz+1))]).map Im.row).length none),(.bool true),⟨fun y S' r=>hs y S' (Par.Oj himp hl4.here q5.res q7.res r),q7.at_,(by omega),(by simp;omega),(by omega)⟩,by kernel_rfl,((((st.pick 2 rfl).tail.pick 4 rfl).pick 4 rfl).pick 4 rfl)⟩
 ·replace st:St ((p.bD iz d ez az)::p.toks:: .box s [L.str x2, .int .i64 (aL p i1:Int),vz, .slN, .slN]:: .acc fz 2 vz (xz.map Im.row):: .box res [.str 0 0, .int .i64 0, .slN, .slN, .slN]::fs) h:=stn
  have hI:=hs _ _ (Par.Ol (x:=xz) himp (fun l e=>by subst e;have:=hz.ok0.1;omega))
  replace st:St (.acc 0 4 .slN (([]:List Vr).map Vr.row):: .acc 0 8 .slN ([]:List (List V)):: .stb (fun h=>bZ h ([]) ([]))::(p.bD iz d ez az)::p.toks:: .box s [L.str x2, .int .i64 (aL p i1:Int),vz, .slN, .slN]:: .acc fz 2 vz (xz.map Im.row):: .box res [.str 0 0, .int .i64 0, .slN, .slN, .slN]::fs) h:=(((St.pure st (Q:=True) trivial).iA (Q:=fun h=>bZ h [] []) (fun _ _=>bZ.nil)).acc0 8).acc0 4
  refine WO.nil (WP.cond (t:=false) rfl (WP.exit (WP.seq (WP.block (WP.eO (α:=Nat) (fun j env h=>∃Sy iy ey ay vsy psy rsy fv vv fp vp dz4 dz5 dz6,((∀y S',Par.Res Sy (fun l=>Par.dU d j l vsy psy) y S'→Par.Res Sz (fun l=>Par.dU d l.length l [] []) y S')∧XAt p iy ey ay Sy∧(ey=0→p.ts.length≤iy+j)∧vsy.length+rsy.length≤iy+min ey 1∧iz+min ez 1≤iy+min ey 1)∧env=bG [.ptr p.rb 0, .ptr res 0, .bool false, .ptr s 0,dz4,dz5,dz6] 0 Env.nil∧St (.box s [L.str x2, .int .i64 (aL p i1:Int),vz,vv,vp]:: .acc fz 2 vz (xz.map Im.row):: .acc fv 4 vv (vsy.map Vr.row):: .acc fp 8 vp rsy:: .stb (fun h=>bZ h psy rsy):: .box res [.str 0 0, .int .i64 0, .slN, .slN, .slN]::(p.bD iy d ey ay)::p.toks::fs) h) (fun j=>j) (Par.SQ.len Sz) ?_ ?_)))))
  ·exact ⟨Sz,iz,ez,az,[],[],[],0, .slN,0, .slN, .bot, .bot, .bot,⟨fun _ _ r=>Par.Res.len (F:=fun n l=>Par.dU d n l [] []) r,hz,hz.fuel,Nat.zero_le _,Nat.le_refl _⟩,by kernel_rfl,((((((st.pick 7 rfl).pick 3 rfl).pick 3 rfl).pick 3 rfl).pick 7 rfl).pick 7 rfl)⟩
  rintro j _ h ⟨Sy,iy,ey,ay,vsy,psy,rsy,fv,vv,fp,vp,dz4,dz5,dz6,⟨hsy,hy,hky,hvy,hady⟩,rfl,st⟩
  have lty:=hy.lt
  have smy:=hy.small
  refine WP.seq (WP.seq (WP.draw (WD.val (v:= .ptr p.rb 0) rfl (WD.val (v:= .ptr p.rb 0) rfl (WD.val (v:= .ptr p.rb 3) (L.aA rfl) (WD.val (v:= .int .i64 (ey:Int)) (L.aC rfl (st.aj 6 rfl) rfl) (WD.ifV (L.eql rfl rfl) (fun _ ce=> ?_) (fun _ ce=> ?_))))))))
  ·replace ce:ey=0:=by omega
   obtain ⟨l8,hS8,ha8,hl8⟩:=hy.good ce
   subst hS8 ha8 ce
   refine WD.val (v:= .bool true) rfl (WD.yes rfl (WD.val (v:= .ptr p.rb 0) rfl (WD.yes rfl (WD.val (v:= .ptr p.rb 0) rfl (WD.yes rfl (WD.val (v:= .ptr p.rb 0) (L.aA rfl) (WD.yes rfl (WD.val (v:= .sl p.tb p.to p.ts.length p.cap) (L.aC rfl (st.aj 6 rfl) rfl) (WD.yes rfl (WD.val (v:= .ptr p.rb 0) rfl (WD.yes rfl (WD.val (v:= .ptr p.rb 0) rfl (WD.yes rfl (WD.val (v:= .ptr p.rb 1) (L.aA rfl) (WD.yes rfl (WD.val (v:= .int .i64 (iy:Int)) (L.aC rfl (st.aj 6 rfl) rfl) (WD.yes rfl (WD.val (v:= .ptr p.tb (p.to+iy * 3)) (L.bT rfl rfl (XAt.ok hl8).lt) (WD.yes rfl (WD.val (v:= .ptr p.tb (p.to+iy * 3+0)) (L.aA rfl) (WD.yes rfl ?_)))))))))))))))))))))
   obtain ⟨t,ht,hrow⟩:=(XAt.ok hl8).row
   have hdt:=(XAt.ok hl8).hd ht
   refine WD.val (v:= .int .i64 ((Par.hd l8).kind:Int)) (by rw [hdt];exact L.load rfl ((st.aJ 7 rfl).yV hrow (show _=some _ from rfl))) (WD.yes rfl (WD.ifV (L.neq rfl rfl) (fun _ ckd=> ?_) (fun _ ckd=> ?_)))
   ·replace ckd:(Par.hd l8).kind≠0:=by omega
    obtain ⟨j,rfl⟩:∃m,j=m+1:=⟨j - 1,by omega⟩
    refine WD.aB (v:= .bool true) rfl (WD.nil (WP.cond (t:=true) rfl (WP.skip (WP.block (WP.seq (WP.reg (WO.aU rfl (eF (s:=[118,97,114]) D ((st.pick 7 rfl).pick 7 rfl) (XAt.ok hl8)) ?_)))))))
    rintro _ h (⟨rfl,⟨lw9,hS9,_,_,hvar,hl9⟩,stn⟩|⟨rfl,hvar,stn⟩)
    ·cases hS9
     replace st:St ((p.bD (iy+1) d 0 0)::p.toks:: .box s [L.str x2, .int .i64 (aL p i1:Int),vz,vv,vp]:: .acc fz 2 vz (xz.map Im.row):: .acc fv 4 vv (vsy.map Vr.row):: .acc fp 8 vp rsy:: .stb (fun h=>bZ h psy rsy):: .box res [.str 0 0, .int .i64 0, .slN, .slN, .slN]::fs) h:=stn
     have lt9:=hl9.lt
     refine WO.nil (WP.cond (t:=true) rfl (WP.draw (WD.val (v:= .ptr s 3) (L.aA rfl) (WD.val (v:=vv) (L.aC rfl (st.aj 2 rfl) rfl) (WD.val (v:= .ptr p.rb 0) rfl (WD.aM rfl (xvar_c D st (XAt.ok hl9)) (fun _ h hp=> ?_) ?_))))))
     ·obtain ⟨x10,S10,i10,e10,a10,rfl,q10,st⟩:=hp
      exact aR (by first|exact av (L.aC rfl (st.aj 0 rfl) rfl)|exact aH st 0 rfl|exact av (L.aK rfl (st.aj 0 rfl) rfl rfl rfl)|exact av (L.aC rfl (st.aj 2 rfl) rfl)|exact aH st 2 rfl|exact av (L.aK rfl (st.aj 2 rfl) rfl rfl rfl)|exact av (L.aC rfl (st.aj 7 rfl) rfl)|exact aH st 7 rfl|exact av (L.aK rfl (st.aj 7 rfl) rfl rfl rfl)) (bC _ _)
     rintro _ h ⟨x10,S10,i10,e10,a10,rfl,q10,st⟩
     have ad10:=q10.adv
     have lt10:=q10.at_.lt
     refine WD.iY (rows:=[[L.str x10.name,L.str x10.label, .int .i64 x10.init, .int .i64 (x10.at_:Int)]]) st rfl (by decide) rfl (by simp) (fun bs2 h _ st=> ?_)
     refine WD.rX st 5 rfl rfl rfl (st.aJ 0 rfl) (by decide) (by simp;omega) (fun _ _ h st=>rfl) (fun f11 v11 h st=> ?_)
     rw [show (vsy.map Vr.row)++[[L.str x10.name,L.str x10.label,V.int .i64 x10.init,V.int .i64 (x10.at_:Int)]]=(vsy++[x10]).map Vr.row from by simp [Vr.row]] at st
     obtain ⟨ab11,rfl⟩:=(st.bQ 5 rfl).ne (by simp)
     refine WD.val (v:= .ptr s 3) (L.aA rfl) (WD.aG (row':=[L.str x2, .int .i64 (aL p i1:Int),vz, .sl ab11 0 (((vsy++[x10]).map Vr.row).length) none,vp]) st 3 rfl rfl rfl rfl rfl rfl rfl (fun h st=>rfl) (fun h st=> ?_))
     refine WD.nil ?_
     exact ⟨j,(Nat.lt_succ_self _),S10,i10,e10,a10,(vsy++[x10]),psy,rsy,f11,(.sl ab11 0 ((vsy++[x10]).map Vr.row).length none),fp,vp,(.bool true),(.bool true),dz6,⟨fun y S' r=>hsy y S' (Par.Om ckd hvar q10.res r),q10.at_,(by omega),(by first|omega|(simp;omega)),(by omega)⟩,by kernel_rfl,((((((st.tail.pick 7 rfl).pick 7 rfl).pick 7 rfl).pick 7 rfl).pick 7 rfl).pick 7 rfl)⟩
    ·replace st:St ((p.bD iy d 0 0)::p.toks:: .box s [L.str x2, .int .i64 (aL p i1:Int),vz,vv,vp]:: .acc fz 2 vz (xz.map Im.row):: .acc fv 4 vv (vsy.map Vr.row):: .acc fp 8 vp rsy:: .stb (fun h=>bZ h psy rsy):: .box res [.str 0 0, .int .i64 0, .slN, .slN, .slN]::fs) h:=stn
     replace hvar:Par.is [118,97,114] l8=false:=hvar
     refine WO.nil (WP.cond (t:=false) rfl (WP.seq (WP.reg (WO.aU rfl (eF (s:=[112,114,111,99]) D st (XAt.ok hl8)) ?_))))
     rintro _ h (⟨rfl,⟨lw12,hS12,_,_,hproc,hl12⟩,stn⟩|⟨rfl,hproc,stn⟩)
     ·cases hS12
      replace st:St ((p.bD (iy+1) d 0 0)::p.toks:: .box s [L.str x2, .int .i64 (aL p i1:Int),vz,vv,vp]:: .acc fz 2 vz (xz.map Im.row):: .acc fv 4 vv (vsy.map Vr.row):: .acc fp 8 vp rsy:: .stb (fun h=>bZ h psy rsy):: .box res [.str 0 0, .int .i64 0, .slN, .slN, .slN]::fs) h:=stn
      have lt12:=hl12.lt
      refine WO.nil (WP.cond (t:=true) rfl (WP.draw (WD.val (v:= .ptr s 4) (L.aA rfl) (WD.val (v:=vp) (L.aC rfl (st.aj 2 rfl) rfl) (WD.val (v:= .ptr p.rb 0) rfl (WD.aM rfl (xproc_c D st (XAt.ok hl12) (by omega)) (fun _ h hp=> ?_) ?_))))))
      ·obtain ⟨x13,S13,i13,e13,a13,row13,rfl,hr13,q13,st⟩:=hp
       exact aR (by first|exact av (L.aC rfl (st.aj 1 rfl) rfl)|exact aH st 1 rfl|exact av (L.aK rfl (st.aj 1 rfl) rfl rfl rfl)|exact av (L.aC rfl (st.aj 3 rfl) rfl)|exact aH st 3 rfl|exact av (L.aK rfl (st.aj 3 rfl) rfl rfl rfl)|exact av (L.aC rfl (st.aj 8 rfl) rfl)|exact aH st 8 rfl|exact av (L.aK rfl (st.aj 8 rfl) rfl rfl rfl)) (bC _ _)
      rintro _ h ⟨x13,S13,i13,e13,a13,row13,rfl,hr13,q13,st⟩
      have ad13:=q13.adv
      have lt13:=q13.at_.lt
      refine WD.iY (rows:=[row13]) st (yc rfl hr13) (by decide) rfl (by simpa using hr13) (fun bs3 h _ st=> ?_)
      refine WD.rX st 7 rfl rfl rfl (st.aJ 0 rfl) (by decide) (by simp;omega) (fun _ _ h st=>rfl) (fun f14 v14 h st=> ?_)
      obtain ⟨ab14,rfl⟩:=(st.bQ 7 rfl).ne (by simp)
      replace st:=((((st.pick 8 rfl).pick 2 rfl)).and).iA (fun h hx=>hx.2.snoc hx.1)
      refine WD.val (v:= .ptr s 4) (L.aA rfl) (WD.aG (row':=[L.str x2, .int .i64 (aL p i1:Int),vz,vv, .sl ab14 0 ((rsy++[row13]).length) none]) st 4 rfl rfl rfl rfl rfl rfl rfl (fun h st=>rfl) (fun h st=> ?_))
      refine WD.nil ?_
      exact ⟨j,(Nat.lt_succ_self _),S13,i13,e13,a13,vsy,(psy++[x13]),(rsy++[row13]),fv,vv,f14,(.sl ab14 0 (rsy++[row13]).length none),(.bool true),(.bool false),(.bool true),⟨fun y S' r=>hsy y S' (Par.Ku ckd hvar hproc q13.res r),q13.at_,(by omega),(by first|omega|(simp;omega)),(by omega)⟩,by kernel_rfl,(((((((st.pick 1 rfl).tail.pick 7 rfl).pick 1 rfl).pick 7 rfl).pick 7 rfl).pick 7 rfl).pick 7 rfl)⟩
     ·replace st:St ((p.bD iy d 0 0)::p.toks:: .box s [L.str x2, .int .i64 (aL p i1:Int),vz,vv,vp]:: .acc fz 2 vz (xz.map Im.row):: .acc fv 4 vv (vsy.map Vr.row):: .acc fp 8 vp rsy:: .stb (fun h=>bZ h psy rsy):: .box res [.str 0 0, .int .i64 0, .slN, .slN, .slN]::fs) h:=stn
      replace hproc:Par.is [112,114,111,99] l8=false:=hproc
      refine WO.nil (WP.cond (t:=false) rfl (WP.reg (WO.aM rfl (mY (k:=11) D st (XAt.ok hl8) (by decide)) ?_)))
      rintro _ h ⟨rfl,ef,af,hef,hxf,st⟩
      refine WO.nil ?_
      exact ⟨j,(Nat.lt_succ_self _),(Par.yh 11 (.ok l8)),iy,ef,af,vsy,psy,rsy,fv,vv,fp,vp,(.bool true),(.bool false),(.bool false),⟨fun y S' r=>hsy y S' (Par.R3 ckd hvar hproc r),hxf,(fun h0=>absurd h0 hef),(by first|omega|(simp;omega)),(by omega)⟩,by kernel_rfl,((((((st.pick 7 rfl).pick 7 rfl).pick 7 rfl).pick 7 rfl).pick 7 rfl).pick 7 rfl)⟩
   ·replace ckd:(Par.hd l8).kind=0:=by omega
    obtain ⟨j,rfl⟩:∃m,j=m+1:=⟨j - 1,by omega⟩
    refine WD.aB (v:= .bool false) rfl (WD.nil (WP.cond (t:=false) rfl (WP.exit (WP.seq (WP.reg (WO.val (v:= .agg [L.str x2, .int .i64 (aL p i1:Int),vz,vv,vp]) (L.aK rfl (st.aj 0 rfl) rfl rfl rfl) (WO.aG (row':=[L.str x2, .int .i64 (aL p i1:Int),vz,vv,vp]) st 5 rfl rfl rfl rfl rfl rfl rfl (fun h st=> ?_))))))))
    refine WO.nil (WP.ret ?_)
    have s0:St (.acc fz 2 vz (xz.map Im.row):: .acc fv 4 vv (vsy.map Vr.row):: .acc fp 8 vp rsy:: .stb (fun h=>bZ h psy rsy)::p.bD iy d 0 0::p.toks::fs) _:=(st.tail.pick 4 rfl).tail
    have s1:=s0.shut (by decide)
    have s2:=(s1.pick 1 rfl).shut (by decide)
    have s3:=(s2.pick 2 rfl).shut (by decide)
    have s4:=(s3.pick 3 rfl).and
    have s5:=(s4.pick 1 rfl).and
    have s6:=(s5.pick 1 rfl).and
    exact ⟨_,(ak (aP (l:=[L.str x2, .int .i64 (aL p i1:Int),vz,vv,vp]) rfl (L.aT (st.aj 5 rfl) rfl rfl rfl)) (aF _ _)),⟨x2,aL p i1,xz,vsy,psy⟩,_,_,_,_,_,rfl,rfl,⟨(XAt.ok hl8),(Par.Ez q1.res (fun l e=>q1.at_.here e) q2.res q3.res hI (hsy (vsy,psy) _ (Par.Ot ckd))),(Nat.le_trans (Nat.le_trans (sK (sK ad1 ad2) ad3) hadz) hady)⟩,s6.iA fun h hx=>⟨vz,vv,vp,rfl,hx.1,hx.2.1,rsy,hx.2.2.2,hx.2.2.1⟩⟩
  ·replace ce:ey≠0:=by omega
   have hbad:=hy.bad ce
   refine WD.val (v:= .bool false) rfl (WD.no rfl (WD.no rfl (WD.no rfl (WD.no rfl (WD.no rfl (WD.no rfl (WD.no rfl (WD.no rfl (WD.no rfl (WD.no rfl (WD.no rfl (WD.no rfl (WD.aB (v:= .bool false) rfl (WD.nil (WP.cond (t:=false) rfl (WP.exit (WP.seq (WP.reg (WO.val (v:= .agg [L.str x2, .int .i64 (aL p i1:Int),vz,vv,vp]) (L.aK rfl (st.aj 0 rfl) rfl rfl rfl) (WO.aG (row':=[L.str x2, .int .i64 (aL p i1:Int),vz,vv,vp]) st 5 rfl rfl rfl rfl rfl rfl rfl (fun h st=> ?_)))))))))))))))))))))
   refine WO.nil (WP.ret ?_)
   have s0:St (.acc fz 2 vz (xz.map Im.row):: .acc fv 4 vv (vsy.map Vr.row):: .acc fp 8 vp rsy:: .stb (fun h=>bZ h psy rsy)::p.bD iy d ey ay::p.toks::fs) _:=(st.tail.pick 4 rfl).tail
   have s1:=s0.shut (by decide)
   have s2:=(s1.pick 1 rfl).shut (by decide)
   have s3:=(s2.pick 2 rfl).shut (by decide)
   have s4:=(s3.pick 3 rfl).and
   have s5:=(s4.pick 1 rfl).and
   have s6:=(s5.pick 1 rfl).and
   exact ⟨_,(ak (aP (l:=[L.str x2, .int .i64 (aL p i1:Int),vz,vv,vp]) rfl (L.aT (st.aj 5 rfl) rfl rfl rfl)) (aF _ _)),⟨x2,aL p i1,xz,vsy,psy⟩,_,_,_,_,_,rfl,rfl,⟨hy,(Par.Ez q1.res (fun l e=>q1.at_.here e) q2.res q3.res hI (hsy (vsy,psy) _ (by rw [hbad];rfl))),(Nat.le_trans (Nat.le_trans (sK (sK ad1 ad2) ad3) hadz) hady)⟩,s6.iA fun h hx=>⟨vz,vv,vp,rfl,hx.1,hx.2.1,rsy,hx.2.2.2,hx.2.2.1⟩⟩
end
end Go.Eng.YtjobofnpmmjeoaaGreatDoor
namespace Go.Eng.YtjobofnpmmjeoaaGreatDoor
open Go.Eng
noncomputable section
variable {c:Ctx}
theorem R5 (D:ko c) {fs:List Fact} {h:Heap} {s:List UInt8} (st:St fs h):
 aV c 6 [L.str s] h fun v h1=>match Par.text s with
  | .ok m=>∃row,v= .tup [.agg row, .int .i64 0, .int .i64 0]∧row.length=5∧St (.stb (fun h=>MdR h m row)::fs) h1
  | .error (e,a)=>e≠0∧v= .tup [.agg [.str 0 0, .int .i64 0, .slN, .slN, .slN], .int .i64 (e:Int), .int .i64 (a:Int)]∧St fs h1:=by
 refine aV.dh D.f6 rfl (WP.seq (WP.reg (WO.bL st L.alloc (fun res h st=> ?_))))
 refine WO.aB (v:= .int .i64 0) rfl (WO.aB (v:= .int .i64 0) rfl (WO.nil (WP.seq (WP.reg ?_))))
 have hc:=RF (s:=s) D st
 cases hsp:Lex.lex s with
 |error z=>
  obtain ⟨ex,ax⟩:=z
  rw [hsp] at hc
  refine WO.aM rfl hc ?_
  rintro _ h ⟨rfl,st⟩
  have hex:=Ap hsp
  refine WO.val (v:= .slN) rfl (WO.val (v:= .int .i64 (ex:Int)) rfl (WO.val (v:= .int .i64 (ax:Int)) rfl (WO.aB (v:= .slN) rfl (WO.aB (v:= .int .i64 (ex:Int)) rfl (WO.aB (v:= .int .i64 (ax:Int)) rfl (WO.nil (WP.seq (WP.seq (WP.reg (WO.ifS (L.neq rfl rfl) (fun c_=> ?_) (fun c_=>by exfalso;omega)))))))))))
  refine WO.nil (WP.cond (t:=true) rfl (WP.seq (WP.reg (WO.val (v:= .agg [.str 0 0, .int .i64 0, .slN, .slN, .slN]) (L.build rfl) (WO.aG (row':=[.str 0 0, .int .i64 0, .slN, .slN, .slN]) st 0 rfl rfl rfl rfl rfl rfl rfl (fun h st=> ?_))))))
  refine WO.aB (v:= .int .i64 (ex:Int)) rfl (WO.aB (v:= .int .i64 (ax:Int)) rfl (WO.nil (WP.ret ?_)))
  have hE:Par.text s= .error (ex,ax):=by unfold Par.text;rw [hsp]
  rw [hE]
  exact ⟨_,(ak (aP (l:=[.str 0 0, .int .i64 0, .slN, .slN, .slN]) rfl (L.aT (st.aj 0 rfl) rfl rfl rfl)) (ak (aD (v:= .int .i64 (ex:Int)) rfl) (ak (aD (v:= .int .i64 (ax:Int)) rfl) (aF _ _)))),hex,rfl,st.tail⟩
 |ok ts=>
  rw [hsp] at hc
  refine WO.aM rfl hc ?_
  rintro _ h ⟨y,rfl,st⟩
  obtain ⟨p0,rfl,rfl⟩:=Ao st (uH hsp ⟨0,0,0,none,ts⟩ rfl).2
  replace st:St (.stb (fun h=>Rows 3 h (.sl p0.tb p0.to p0.ts.length p0.cap) (p0.ts.map Tok.row)):: .box res [.str 0 0, .int .i64 0, .slN, .slN, .slN]::fs) h:=st
  refine WO.val (v:= .sl p0.tb p0.to p0.ts.length p0.cap) rfl (WO.val (v:= .int .i64 0) rfl (WO.val (v:= .int .i64 0) rfl (WO.aB (v:= .sl p0.tb p0.to p0.ts.length p0.cap) rfl (WO.aB (v:= .int .i64 0) rfl (WO.aB (v:= .int .i64 0) rfl (WO.nil (WP.seq (WP.seq (WP.reg (WO.ifS (L.neq rfl rfl) (fun c_=>by exfalso;omega) (fun c_=> ?_)))))))))))
  refine WO.nil (WP.cond (t:=false) rfl (WP.skip (WP.seq (WP.reg (WO.val (v:= .agg [.sl p0.tb p0.to p0.ts.length p0.cap, .int .i64 0, .int .i64 0, .int .i64 0, .int .i64 0]) (L.build rfl) (WO.bL st (L.box (l:=[.sl p0.tb p0.to p0.ts.length p0.cap, .int .i64 0, .int .i64 0, .int .i64 0, .int .i64 0]) rfl rfl) (fun rb h st=> ?_)))))))
  obtain ⟨p,hp,hpr,hpt,hpo,hpc,hlf⟩:∃p:RP,p.ts=p0.ts∧p.rb=rb∧p.tb=p0.tb∧p.to=p0.to∧p.cap=p0.cap∧Left p 0 p.ts:=⟨{p0 with rb:=rb},rfl,rfl,rfl,rfl,rfl,(uH hsp {p0 with rb:=rb} rfl).1⟩
  rw [←hp] at hsp
  rw [←hp,←hpr,←hpt,←hpo,←hpc] at st
  rw [←hp,←hpr,←hpt,←hpo,←hpc]
  replace st:St ((p.bD 0 0 0 0)::p.toks:: .box res [.str 0 0, .int .i64 0, .slN, .slN, .slN]::fs) h:=st
  refine WO.nil (WP.seq (WP.reg (WO.aM rfl (Ou D st (XAt.ok hlf) (by omega)) ?_)))
  rintro _ h ⟨x1,S1,i1,e1,a1,row1,rfl,hr1,q1,st⟩
  refine WO.bL st L.alloc (fun m2 h st=> ?_)
  refine WO.aG (row':=row1) st 0 rfl rfl rfl (by rw [dB];exact hr1) rfl rfl (kJ hr1) (fun h st=> ?_)
  refine WO.nil (WP.seq (WP.seq (WP.reg (WO.val (v:= .ptr p.rb 0) rfl (WO.val (v:= .ptr p.rb 3) (L.aA rfl) (WO.val (v:= .int .i64 (e1:Int)) (L.aC rfl (st.aj 2 rfl) rfl) (WO.ifS (L.neq rfl rfl) (fun ce=> ?_) (fun ce=> ?_))))))))
  ·replace ce:e1≠0:=by omega
   have hbad:=q1.at_.bad ce
   refine WO.nil (WP.cond (t:=true) rfl (WP.seq (WP.draw (WD.val (v:= .agg [.str 0 0, .int .i64 0, .slN, .slN, .slN]) (L.build rfl) (WD.val (v:= .ptr p.rb 0) rfl (WD.val (v:= .ptr p.rb 0) rfl (WD.val (v:= .ptr p.rb 3) (L.aA rfl) (WD.val (v:= .int .i64 (e1:Int)) (L.aC rfl (st.aj 2 rfl) rfl) (WD.val (v:= .ptr p.rb 0) rfl (WD.val (v:= .ptr p.rb 0) rfl (WD.val (v:= .ptr p.rb 4) (L.aA rfl) (WD.val (v:= .int .i64 (a1:Int)) (L.aC rfl (st.aj 2 rfl) rfl) (WD.aG (row':=[.str 0 0, .int .i64 0, .slN, .slN, .slN]) st 4 rfl rfl rfl rfl rfl rfl rfl (fun h st=>aR (by first|exact av (L.aC rfl (st.aj 2 rfl) rfl)|exact aH st 2 rfl|exact av (L.aK rfl (st.aj 2 rfl) rfl rfl rfl)|exact av (L.aC rfl (st.aj 4 rfl) rfl)|exact aH st 4 rfl|exact av (L.aK rfl (st.aj 4 rfl) rfl rfl rfl)) (aR (by first|exact av (L.aC rfl (st.aj 2 rfl) rfl)|exact aH st 2 rfl|exact av (L.aK rfl (st.aj 2 rfl) rfl rfl rfl)|exact av (L.aC rfl (st.aj 4 rfl) rfl)|exact aH st 4 rfl|exact av (L.aK rfl (st.aj 4 rfl) rfl rfl rfl)) (bC _ _))) (fun h st=> ?_))))))))))))))
   refine WD.aB (v:= .int .i64 (e1:Int)) rfl (WD.aB (v:= .int .i64 (a1:Int)) rfl (WD.nil (WP.ret ?_)))
   have hr2:=q1.res
   rw [hbad] at hr2
   have hF:=Par.Res.out hr2
   have hE:Par.text s= .error (e1,a1):=by unfold Par.text;rw [hsp];simp only [hF]
   rw [hE]
   exact ⟨_,(ak (aP (l:=[.str 0 0, .int .i64 0, .slN, .slN, .slN]) rfl (L.aT (st.aj 4 rfl) rfl rfl rfl)) (ak (aD (v:= .int .i64 (e1:Int)) rfl) (ak (aD (v:= .int .i64 (a1:Int)) rfl) (aF _ _)))),(by omega),rfl,st.tail.tail.tail.tail.tail⟩
  ·replace ce:e1=0:=by omega
   obtain ⟨l2,hS2,ha2,hl2⟩:=q1.at_.good ce
   subst hS2 ha2 ce
   refine WO.nil (WP.cond (t:=false) rfl (WP.skip (WP.seq (WP.reg (WO.val (v:= .agg row1) (L.aK rfl (st.aj 0 rfl) rfl (by rw [dB,hr1];rfl) (jy hr1)) (WO.aG (row':=row1) st 4 rfl rfl rfl (by rw [dB];exact hr1) rfl rfl (kJ hr1) (fun h st=> ?_)))))))
   refine WO.aB (v:= .int .i64 0) rfl (WO.aB (v:= .int .i64 0) rfl (WO.nil (WP.ret ?_)))
   have hF:=Par.Res.out q1.res
   have hE:Par.text s= .ok x1:=by unfold Par.text;rw [hsp];simp only [hF]
   rw [hE]
   exact ⟨_,(ak (aP (l:=row1) rfl (L.aT (st.aj 4 rfl) rfl (by rw [dB,hr1];rfl) (jy hr1))) (ak (aD (v:= .int .i64 0) rfl) (ak (aD (v:= .int .i64 0) rfl) (aF _ _)))),row1,rfl,hr1,(((st.tail.pick 1 rfl).tail.pick 1 rfl).tail.pick 1 rfl).tail⟩
end
end Go.Eng.YtjobofnpmmjeoaaGreatDoor
namespace Go.Eng.YtjobofnpmmjeoaaGreatDoor.Pq
open Go.Eng
noncomputable section
variable {c:Ctx}
structure gq (c:Ctx):Prop where
 f5:T.get 5 c.bf=some i5
 f7:T.get 7 c.bf=some i7
 f10:T.get 10 c.bf=some i10
 f12:T.get 12 c.bf=some i12
 f13:T.get 13 c.bf=some i13
 f17:T.get 17 c.bf=some i17
 f24:T.get 24 c.bf=some i24
 f26:T.get 26 c.bf=some i26
 f35:T.get 35 c.bf=some i35
 f36:T.get 36 c.bf=some i36
 f37:T.get 37 c.bf=some i37
 f38:T.get 38 c.bf=some i38
 f41:T.get 41 c.bf=some i41
 f42:T.get 42 c.bf=some i42
 f43:T.get 43 c.bf=some i43
 f44:T.get 44 c.bf=some i44
 f45:T.get 45 c.bf=some i45
 f46:T.get 46 c.bf=some i46
 f47:T.get 47 c.bf=some i47
 f48:T.get 48 c.bf=some i48
 f50:T.get 50 c.bf=some i50
 f51:T.get 51 c.bf=some i51
 f54:T.get 54 c.bf=some i54
 f55:T.get 55 c.bf=some i55
 f56:T.get 56 c.bf=some i56
 f58:T.get 58 c.bf=some i58
 f59:T.get 59 c.bf=some i59
 f60:T.get 60 c.bf=some i60
 f61:T.get 61 c.bf=some i61
 f62:T.get 62 c.bf=some i62
 f63:T.get 63 c.bf=some i63
 f64:T.get 64 c.bf=some i64
 f65:T.get 65 c.bf=some i65
 f69:T.get 69 c.bf=some i69
 f70:T.get 70 c.bf=some i70
 f72:T.get 72 c.bf=some i72
 f73:T.get 73 c.bf=some i73
 f74:T.get 74 c.bf=some i74
 f78:T.get 78 c.bf=some i78
 f80:T.get 80 c.bf=some i80
 f82:T.get 82 c.bf=some i82
 f83:T.get 83 c.bf=some i83
 f84:T.get 84 c.bf=some i84
 f92:T.get 92 c.bf=some i92
 f98:T.get 98 c.bf=some i98
 f99:T.get 99 c.bf=some i99
 f100:T.get 100 c.bf=some i100
 f105:T.get 105 c.bf=some i105
 f106:T.get 106 c.bf=some i106
 f108:T.get 108 c.bf=some i108
theorem zU (D:gq c) {fs:List Fact} {h:Heap} {p:RP} {i d:Nat} {t:Tok} {l:List Tok} (st:St (p.box i d::p.toks::fs) h) (hl:Left p i (t::l)):
 aV c 36 [.ptr p.rb 0] h fun v h1=>v= .agg t.row∧St (p.box i d::p.toks::fs) h1:=by
 refine aV.dh D.f36 rfl (WP.seq (WP.reg (WO.bL st L.alloc (fun b1 h st=> ?_))))
 refine WO.nil (WP.seq (WP.draw (WD.val (v:= .ptr p.rb 0) rfl (WD.val (v:= .ptr p.rb 0) rfl (WD.val (v:= .ptr p.rb 0) (L.aA rfl) (WD.val (v:= .sl p.tb p.to p.ts.length p.cap) (L.aC rfl (st.aj 1 rfl) rfl) (WD.val (v:= .ptr p.rb 0) rfl (WD.val (v:= .ptr p.rb 0) rfl (WD.val (v:= .ptr p.rb 1) (L.aA rfl) (WD.val (v:= .int .i64 (i:Int)) (L.aC rfl (st.aj 1 rfl) rfl) (WD.val (L.bT rfl rfl hl.get.2) (WD.val (v:= .agg [.int .i64 (t.kind:Int),L.str t.text, .int .i64 (t.at_:Int)]) (L.aY rfl ((st.aJ 2 rfl).aY hl.row)) (WD.aG (row':=[.int .i64 (t.kind:Int),L.str t.text, .int .i64 (t.at_:Int)]) st 0 rfl rfl rfl rfl rfl rfl rfl (fun h st=>rfl) (fun h st=> ?_))))))))))))))
 refine WD.nil (WP.ret ?_)
 exact ⟨_,(ak (aP (l:=[.int .i64 (t.kind:Int),L.str t.text, .int .i64 (t.at_:Int)]) rfl (L.aT (st.aj 0 rfl) rfl rfl rfl)) (aF _ _)),(rfl),st.tail⟩
theorem is_c (D:gq c) {fs:List Fact} {h:Heap} {p:RP} {i d:Nat} {l:List Tok} {s:List UInt8} (st:St (p.box i d::p.toks::fs) h) (hl:Left p i l):
 aV c 56 [.ptr p.rb 0,L.str s] h fun v h1=>v= .bool (Par.is s l)∧St (p.box i d::p.toks::fs) h1:=by
 obtain ⟨t,l,rfl⟩:=hl.cons
 refine aV.dh D.f56 rfl (WP.seq (WP.reg (WO.aB (v:= .bool false) rfl (WO.nil (WP.seq (WP.reg (WO.aM rfl (zU D st hl) ?_)))))))
 rintro _ h ⟨rfl,st⟩
 refine WO.bL st L.alloc (fun b1 h st=> ?_)
 refine WO.aG (row':=[.int .i64 (t.kind:Int),L.str t.text, .int .i64 (t.at_:Int)]) st 0 rfl rfl rfl rfl rfl rfl rfl (fun h st=> ?_)
 refine WO.nil (WP.seq (WP.reg (WO.val (v:= .ptr b1 1) (L.aA rfl) (WO.val (v:=L.str t.text) (L.aC rfl (st.aj 0 rfl) rfl) (WO.ifV (L.seq rfl rfl) (fun c1=> ?_) (fun c1=> ?_))))))
 ·refine WO.yes rfl (WO.val (v:= .ptr b1 0) (L.aA rfl) (WO.yes rfl (WO.val (v:= .int .i64 (t.kind:Int)) (L.aC rfl (st.aj 0 rfl) rfl) (WO.yes rfl (WO.ifV (L.eql rfl rfl) (fun c2=> ?_) (fun c2=> ?_))))))
  ·replace c2:t.kind=4:=by omega
   refine WO.yes rfl (WO.val (v:= .bool true) rfl (WO.no rfl (WO.no rfl (WO.no rfl (WO.yes rfl (WO.val (v:= .bool true) rfl (WO.aB (v:= .bool true) rfl (WO.nil (WP.ret ?_)))))))))
   exact ⟨_,(ak (aD (v:= .bool true) rfl) (aF _ _)),(by simp [Par.is,Par.hd,one, *]<;>omega),st.tail⟩
  ·replace c2:¬(t.kind=4):=by omega
   refine WO.yes rfl (WO.val (v:= .bool false) rfl (WO.yes rfl (WO.val (v:= .ptr b1 0) (L.aA rfl) (WO.yes rfl (WO.val (v:= .int .i64 (t.kind:Int)) (L.aC rfl (st.aj 0 rfl) rfl) (WO.yes rfl (WO.ifV (L.eql rfl rfl) (fun c3=> ?_) (fun c3=> ?_))))))))
   ·replace c3:t.kind=3:=by omega
    refine WO.yes rfl (WO.val (v:= .bool true) rfl (WO.aB (v:= .bool true) rfl (WO.nil (WP.ret ?_))))
    exact ⟨_,(ak (aD (v:= .bool true) rfl) (aF _ _)),(by simp [Par.is,Par.hd,one, *]<;>omega),st.tail⟩
   ·replace c3:¬(t.kind=3):=by omega
    refine WO.yes rfl (WO.val (v:= .bool false) rfl (WO.aB (v:= .bool false) rfl (WO.nil (WP.ret ?_))))
    exact ⟨_,(ak (aD (v:= .bool false) rfl) (aF _ _)),(by simp [Par.is,Par.hd,one, *]<;>omega),st.tail⟩
 ·refine WO.no rfl (WO.no rfl (WO.no rfl (WO.no rfl (WO.no rfl (WO.no rfl (WO.no rfl (WO.no rfl (WO.aB (v:= .bool false) rfl (WO.nil (WP.ret ?_))))))))))
  exact ⟨_,(ak (aD (v:= .bool false) rfl) (aF _ _)),(by simp [Par.is,Par.hd,one, *]<;>omega),st.tail⟩
theorem kY (D:gq c) {fs:List Fact} {h:Heap} {p:RP} {i d:Nat} {l:List Tok} {s:List UInt8} (st:St (p.box i d::p.toks::fs) h) (hl:Left p i l):
 aV c 38 [.ptr p.rb 0,L.str s] h fun v h1=>(v= .bool true∧Par.is s l=true∧Left p (i+1) l.tail∧St (p.box (i+1) d::p.toks::fs) h1)∨(v= .bool false∧Par.is s l=false∧St (p.box i d::p.toks::fs) h1):=by
 refine aV.dh D.f38 rfl (WP.seq (WP.reg (WO.aB (v:= .bool false) rfl (WO.nil (WP.seq (WP.reg (WO.aU rfl (is_c D st hl) ?_)))))))
 rintro _ h ⟨rfl,st⟩
 cases his:Par.is s l
 ·refine WO.nil (WP.seq (WP.seq (WP.reg (WO.aB (v:= .bool false) rfl (WO.nil (WP.cond (t:=false) rfl (WP.skip (WP.seq (WP.reg (WO.aB (v:= .bool false) rfl (WO.nil (WP.ret ?_))))))))))))
  exact ⟨_,(ak (aD (v:= .bool false) rfl) (aF _ _)),Or.inr ⟨rfl,rfl,st⟩⟩
 ·refine WO.nil (WP.seq (WP.seq (WP.reg (WO.aB (v:= .bool true) rfl (WO.nil (WP.cond (t:=true) rfl (WP.reg (WO.val (v:= .ptr p.rb 0) rfl (WO.val (v:= .ptr p.rb 1) (L.aA rfl) (WO.val (v:= .int .i64 (i:Int)) (L.aC rfl (st.aj 0 rfl) rfl) (WO.val (v:= .int .i64 ((i+1:Nat):Int)) (L.fQ rfl rfl (by omega) (And.intro (by omega) (by have:=hl.lt;have:=hl.small;omega))) (WO.val (v:= .ptr p.rb 0) rfl (WO.val (v:= .ptr p.rb 1) (L.aA rfl) (WO.aG (row':=[.sl p.tb p.to p.ts.length p.cap, .int .i64 ((i+1:Nat):Int), .int .i64 (d:Int)]) st 0 rfl rfl rfl rfl rfl rfl rfl (fun h st=> ?_)))))))))))))))
  refine WO.nil (WP.seq (WP.reg (WO.aB (v:= .bool true) rfl (WO.nil (WP.ret ?_)))))
  exact ⟨_,(ak (aD (v:= .bool true) rfl) (aF _ _)),Or.inl ⟨rfl,rfl,hl.is his,st⟩⟩
theorem FN (D:gq c) {fs:List Fact} {h:Heap} {p:RP} {i d:Nat} {l:List Tok} {e:Nat} (st:St (p.box i d::p.toks::fs) h) (hl:Left p i l):
 wM c 54 [.ptr p.rb 0, .int .i64 (e:Int)] h (xZ 80 e (Par.here l)) (St fs):=by
 obtain ⟨t,l,rfl⟩:=hl.cons
 refine wM.dh D.f54 rfl (WP.reg (WO.aM rfl (zU D st hl) ?_))
 rintro _ h ⟨rfl,st⟩
 refine WO.val (v:= .int .i64 (t.at_:Int)) rfl (WO.val (v:= .agg [.int .i64 (e:Int), .int .i64 (t.at_:Int)]) (L.build rfl) (WO.val (v:= .ifc 80 (.agg [.int .i64 (e:Int), .int .i64 (t.at_:Int)])) rfl (WO.pan rfl ?_)))
 exact ⟨rfl,st.tail.tail⟩
theorem eT (D:gq c) {fs:List Fact} {h:Heap} {p:RP} {i d:Nat} {l:List Tok} {s:List UInt8} (st:St (p.box i d::p.toks::fs) h) (hl:Left p i l):
 gV c 35 [.ptr p.rb 0,L.str s] h (aS p 80 (Par.must s l) (fun a i v h1=>v= .int .i64 (a:Int)∧St (p.box i d::p.toks::fs) h1) (St fs)):=by
 refine gV.dh D.f35 rfl (WP.seq (WP.reg (WO.aB (v:= .int .i64 0) rfl (WO.nil (WP.seq (WP.reg ?_))))))
 obtain ⟨t,l',rfl⟩:=hl.cons
 refine WO.aM rfl (zU D st hl) ?_
 rintro _ h ⟨rfl,st⟩
 refine WO.aB (v:= .int .i64 (t.at_:Int)) rfl (WO.nil (WP.seq (WP.seq (WP.reg (WO.aM rfl (kY D st hl) ?_)))))
 rintro _ h (⟨rfl,hi1,hl1,st⟩|⟨rfl,hi1,st⟩)
 ·replace st:St ((p.box (i+1:Nat) d)::p.toks::fs) h:=st
  refine WO.aB (v:= .bool false) rfl (WO.nil (WP.cond (t:=false) rfl (WP.skip (WP.seq (WP.reg (WO.aB (v:= .int .i64 (t.at_:Int)) rfl (WO.nil (WP.ret ?_))))))))
  exact ⟨_,(ak (aD (v:= .int .i64 (t.at_:Int)) rfl) (aF _ _)),aS.ok (by simp [Par.must,hi1]<;>rfl) hl1 ⟨rfl,st⟩⟩
 ·replace st:St ((p.box i d)::p.toks::fs) h:=st
  refine WO.aB (v:= .bool true) rfl (WO.nil (WP.cond (t:=true) rfl (WP.reg (WO.o6 rfl (FN D st hl) (fun h st=> ?_)))))
  exact aS.pan (by simp [Par.must,Par.fail,hi1]) st
theorem of_c (D:gq c) {fs:List Fact} {h:Heap} {p:RP} {i d:Nat} {l:List Tok} {k:Nat} (st:St (p.box i d::p.toks::fs) h) (hl:Left p i l) (hk:k≠0):
 gV c 55 [.ptr p.rb 0, .int .i64 (k:Int)] h (aS p 80 (Par.of k l) (fun t i v h1=>v= .agg t.row∧St (p.box i d::p.toks::fs) h1) (St fs)):=by
 obtain ⟨t,l,rfl⟩:=hl.cons
 refine gV.dh D.f55 rfl (WP.seq (WP.reg (WO.bL st L.alloc (fun b1 h st=> ?_))))
 refine WO.nil (WP.seq (WP.reg (WO.aM rfl (zU D ((st.pick 2 rfl).pick 2 rfl) hl) ?_)))
 rintro _ h ⟨rfl,st⟩
 refine WO.bL st L.alloc (fun b2 h st=> ?_)
 refine WO.aG (row':=[.int .i64 (t.kind:Int),L.str t.text, .int .i64 (t.at_:Int)]) st 0 rfl rfl rfl rfl rfl rfl rfl (fun h st=> ?_)
 refine WO.nil (WP.seq (WP.seq (WP.reg (WO.val (v:= .ptr b2 0) (L.aA rfl) (WO.val (v:= .int .i64 (t.kind:Int)) (L.aC rfl (st.aj 0 rfl) rfl) (WO.ifS (L.neq rfl rfl) (fun c1=> ?_) (fun c1=> ?_)))))))
 ·replace c1:t.kind≠k:=by omega
  refine WO.nil (WP.cond (t:=true) rfl (WP.reg (WO.o6 rfl (FN D ((st.pick 2 rfl).pick 2 rfl) hl) (fun h st=> ?_))))
  exact aS.pan (by simp [Par.of,Par.fail,Par.hd,c1]) st.tail.tail
 ·replace c1:¬(t.kind≠k):=by omega
  refine WO.nil (WP.cond (t:=false) rfl (WP.skip (WP.seq (WP.reg (WO.val (v:= .ptr p.rb 0) rfl (WO.val (v:= .ptr p.rb 1) (L.aA rfl) (WO.val (v:= .int .i64 (i:Int)) (L.aC rfl (st.aj 1 rfl) rfl) (WO.val (v:= .int .i64 ((i+1:Nat):Int)) (L.fQ rfl rfl (by omega) (And.intro (by omega) (by have:=hl.lt;have:=hl.small;omega))) (WO.val (v:= .ptr p.rb 0) rfl (WO.val (v:= .ptr p.rb 1) (L.aA rfl) (WO.aG (row':=[.sl p.tb p.to p.ts.length p.cap, .int .i64 ((i+1:Nat):Int), .int .i64 (d:Int)]) st 1 rfl rfl rfl rfl rfl rfl rfl (fun h st=> ?_))))))))))))
  refine WO.nil (WP.seq (WP.reg (WO.val (v:= .agg [.int .i64 (t.kind:Int),L.str t.text, .int .i64 (t.at_:Int)]) (L.aK rfl (st.aj 0 rfl) rfl rfl rfl) (WO.aG (row':=[.int .i64 (t.kind:Int),L.str t.text, .int .i64 (t.at_:Int)]) st 3 rfl rfl rfl rfl rfl rfl rfl (fun h st=> ?_)))))
  refine WO.nil (WP.ret ?_)
  have hk1:t.kind=k:=by omega
  exact ⟨_,(ak (aP (l:=[.int .i64 (t.kind:Int),L.str t.text, .int .i64 (t.at_:Int)]) rfl (L.aT (st.aj 3 rfl) rfl rfl rfl)) (aF _ _)),aS.ok (x:=t) (l:=l) (by simp [Par.of,Par.hd,hk1]) (hl.next (by omega)) ⟨rfl,(st.tail.pick 2 rfl).tail⟩⟩
theorem jZ (D:gq c) {fs:List Fact} {h:Heap} {p:RP} {i d:Nat} {l:List Tok} (st:St (p.box i d::p.toks::fs) h) (hl:Left p i l):
 gV c 37 [.ptr p.rb 0] h (aS p 80 (Par.name l) (fun a i v h1=>v=L.str a∧St (p.box i d::p.toks::fs) h1) (St fs)):=by
 refine gV.dh D.f37 rfl (WP.seq (WP.reg (WO.aB (v:= .str 0 0) rfl (WO.nil (WP.seq (WP.reg (WO.bE rfl (of_c (k:=1) D st hl (by decide)) (fun e a h hm st=> ?_) ?_)))))))
 ·exact aS.pan (by simp [Par.name,hm]) (st)
 rintro t1 l1 _ h i1 m1 hl1 ⟨rfl,st⟩
 refine WO.aB (v:=L.str t1.text) rfl (WO.nil (WP.ret ?_))
 exact ⟨_,(ak (aD (v:=L.str t1.text) rfl) (aF _ _)),aS.ok (by simp [Par.name,m1]<;>rfl) hl1 ⟨rfl,st⟩⟩
theorem Au (D:gq c) {fs:List Fact} {h:Heap} {p:RP} {i d:Nat} {l:List Tok} (st:St (p.box i d::p.toks::fs) h) (hl:Left p i l):
 gV c 84 [.ptr p.rb 0] h (aS p 80 (Par.gB l) (fun a i v h1=>v= .tup [L.str a.1,L.str a.2]∧St (p.box i d::p.toks::fs) h1) (St fs)):=by
 refine gV.dh D.f84 rfl (WP.seq (WP.reg (WO.aB (v:= .str 0 0) rfl (WO.aB (v:= .str 0 0) rfl (WO.nil (WP.seq (WP.reg (WO.wL rfl (jZ D st hl) (fun e a h hm st=> ?_) ?_))))))))
 ·exact aS.pan (by simp [Par.gB,hm]) (st)
 rintro a1 l1 _ h i1 m1 hl1 ⟨rfl,st⟩
 refine WO.nil (WP.seq (WP.seq (WP.reg (WO.aU rfl (kY (s:=[46]) D st hl1) ?_))))
 rintro _ h (⟨rfl,hi2,hl2,st⟩|⟨rfl,hi2,st⟩)
 ·replace st:St ((p.box (i1+1:Nat) d)::p.toks::fs) h:=st
  refine WO.nil (WP.cond (t:=true) rfl (WP.reg (WO.bE rfl (jZ D st hl2) (fun e a h hm st=> ?_) ?_)))
  ·exact aS.pan (by simp [Par.gB,hm,m1,hi2]) (st)
  rintro a3 l3 _ h i3 m3 hl3 ⟨rfl,st⟩
  refine WO.aB (v:=L.str a1) rfl (WO.aB (v:=L.str a3) rfl (WO.nil (WP.seq (WP.reg (WO.nil (WP.ret ?_))))))
  exact ⟨_,(ak (aD (v:=L.str a1) rfl) (ak (aD (v:=L.str a3) rfl) (aF _ _))),aS.ok (by simp [Par.gB,m1,hi2,m3]<;>rfl) hl3 ⟨rfl,st⟩⟩
 ·replace st:St ((p.box i1 d)::p.toks::fs) h:=st
  refine WO.nil (WP.cond (t:=false) rfl (WP.skip (WP.seq (WP.reg (WO.nil (WP.ret ?_))))))
  exact ⟨_,(ak (aD (v:= .str 0 0) rfl) (ak (aD (v:=L.str a1) rfl) (aF _ _))),aS.ok (by simp [Par.gB,m1,hi2]<;>rfl) hl1 ⟨rfl,st⟩⟩
theorem yw (D:gq c) {fs:List Fact} {h:Heap} {p:RP} {i d:Nat} {l:List Tok} (st:St (p.box i d::p.toks::fs) h) (hl:Left p i l) (hd:¬40≤d):
 aV c 73 [.ptr p.rb 0] h fun v h1=>v= .tup []∧St (p.box i (d+1)::p.toks::fs) h1:=by
 refine aV.dh D.f73 rfl (WP.seq (WP.seq (WP.reg (WO.val (v:= .ptr p.rb 0) rfl (WO.val (v:= .ptr p.rb 2) (L.aA rfl) (WO.val (v:= .int .i64 (d:Int)) (L.aC rfl (st.aj 0 rfl) rfl) (WO.ifS (L.geq rfl rfl) (fun c1=>by exfalso;omega) (fun c1=> ?_))))))))
 refine WO.nil (WP.cond (t:=false) rfl (WP.skip (WP.reg (WO.val (v:= .ptr p.rb 0) rfl (WO.val (v:= .ptr p.rb 2) (L.aA rfl) (WO.val (v:= .int .i64 (d:Int)) (L.aC rfl (st.aj 0 rfl) rfl) (WO.val (v:= .int .i64 ((d+1:Nat):Int)) (L.fQ rfl rfl (by omega) (And.intro (by omega) (by omega))) (WO.val (v:= .ptr p.rb 0) rfl (WO.val (v:= .ptr p.rb 2) (L.aA rfl) (WO.aG (row':=[.sl p.tb p.to p.ts.length p.cap, .int .i64 (i:Int), .int .i64 ((d+1:Nat):Int)]) st 0 rfl rfl rfl rfl rfl rfl rfl (fun h st=> ?_)))))))))))
 refine WO.nil ?_
 exact ⟨_,(aF _ _),(rfl),st⟩
theorem CY (D:gq c) {fs:List Fact} {h:Heap} {p:RP} {i d:Nat} {l:List Tok} (st:St (p.box i d::p.toks::fs) h) (hl:Left p i l) (hd:40≤d):
 wM c 73 [.ptr p.rb 0] h (xZ 80 12 (Par.here l)) (St fs):=by
 refine wM.dh D.f73 rfl (WP.seq (WP.seq (WP.reg (WO.val (v:= .ptr p.rb 0) rfl (WO.val (v:= .ptr p.rb 2) (L.aA rfl) (WO.val (v:= .int .i64 (d:Int)) (L.aC rfl (st.aj 0 rfl) rfl) (WO.ifS (L.geq rfl rfl) (fun c1=> ?_) (fun c1=>by exfalso;omega))))))))
 refine WO.nil (WP.cond (t:=true) rfl (WP.reg (WO.o6 rfl (FN D st hl) (fun h st=> ?_))))
 exact ⟨rfl,st⟩
theorem atoi1_c (D:gq c) {fs:List Fact} {h:Heap} {s:List UInt8} (st:St fs h) (hd:o5 s):
 aV c 80 [L.str s] h fun v h1=>v= .tup [.int .i64 (num s:Int), .ifcN]∧St fs h1:=by
 obtain ⟨b0,hb0⟩:∃b,s[0]? =some b:=⟨_,List.getElem?_eq_getElem (List.length_pos_iff.2 hd.ne)⟩
 have hr0:=hd.dig b0 (List.mem_of_getElem? hb0)
 have hs9:=hd.len
 have hs0:0<s.length:=List.length_pos_iff.2 hd.ne
 refine aV.dh D.f80 rfl (WP.seq (WP.reg (WO.aB (v:= .int .i64 0) rfl (WO.aB (v:= .ifcN) rfl (WO.nil (WP.seq (WP.reg (WO.aB (v:= .int .i64 (s.length:Int)) (L.nT rfl) (WO.nil (WP.seq (WP.seq (WP.reg (WO.no rfl (WO.no rfl (WO.no rfl (WO.no rfl (WO.no rfl (WO.no rfl (WO.val (v:= .bool false) rfl (WO.yes rfl (WO.val (v:= .bool true) rfl (WO.yes rfl (WO.val (v:= .int .i64 (s.length:Int)) rfl (WO.yes rfl (WO.ifV (L.lss rfl rfl) (fun c1=> ?_) (fun c1=>by exfalso;omega))))))))))))))))))))))))))
 refine WO.yes rfl (WO.val (v:= .bool true) rfl (WO.yes rfl (WO.val (v:= .int .i64 (s.length:Int)) rfl (WO.yes rfl (WO.ifV (L.lss rfl rfl) (fun c2=> ?_) (fun c2=>by exfalso;omega))))))
 refine WO.yes rfl (WO.val (v:= .bool true) rfl (WO.yes rfl (WO.val (v:= .bool true) rfl (WO.aB (v:= .bool true) rfl (WO.nil (WP.cond (t:=true) rfl (WP.seq (WP.reg (WO.aB (v:=L.str s) rfl (WO.nil (WP.seq (WP.seq (WP.reg (WO.val (v:= .int .u8 (b0.toNat:Int)) (L.qm rfl rfl hb0) (WO.ifV (L.eql rfl rfl) (fun c3=>by exfalso;omega) (fun c3=> ?_))))))))))))))))
 refine WO.yes rfl (WO.val (v:=L.str s) rfl (WO.yes rfl (WO.val (v:= .int .u8 (b0.toNat:Int)) (L.qm rfl rfl hb0) (WO.yes rfl (WO.ifV (L.eql rfl rfl) (fun c4=>by exfalso;omega) (fun c4=> ?_))))))
 refine WO.aB (v:= .bool false) rfl (WO.nil (WP.cond (t:=false) rfl (WP.skip (WP.seq (WP.reg (WO.aB (v:= .int .i64 0) rfl (WO.nil (WP.seq (WP.seq (WP.reg (WO.QS st rfl (fun bs1 h st=> ?_))))))))))))
 refine WO.aB (v:= .int .i64 (s.length:Int)) (L.llen rfl) (WO.aB (v:= .int .i64 0) rfl (WO.nil (WP.block (WP.eO (α:=Nat) (fun k env h=>∃x1 x2 x9 x11 x12,(k≤s.length)∧env=bG [L.str s,x1,x2, .int .i64 (s.length:Int), .bool true, .bool false, .bot, .int .i64 (k:Int), .int .i64 (s.length:Int),x9, .sl bs1 0 s.length none,x11,x12, .int .i64 (num (s.take k):Int),L.str s] 0 Env.nil∧St (.stb (fun h=>Rows 1 h (.sl bs1 0 s.length none) (jv s))::fs) h) (fun k=>s.length - k) 0 ?_ ?_))))
 ·exact ⟨(.int .i64 0), .ifcN, .bot, .bot, .bot,(Nat.zero_le _),by kernel_rfl,st⟩
 rintro k _ h ⟨x1,x2,x9,x11,x12,hk,rfl,st⟩
 have hbd:=hd.bound k
 refine WP.seq (WP.reg (WO.ifS (L.lss rfl rfl) (fun c5=> ?_) (fun c5=> ?_)))
 ·replace c5:k<s.length:=by omega
  refine WO.nil (WP.seq (WP.cond (t:=true) rfl (WP.skip (WP.seq (WP.block (WP.seq (WP.reg ?_)))))))
  obtain ⟨b,hb⟩:∃b,s[k]? =some b:=⟨_,List.getElem?_eq_getElem c5⟩
  have hrb:=hd.dig b (List.mem_of_getElem? hb)
  refine WO.val (v:= .ptr bs1 (0+k * 1)) (L.bT rfl rfl c5) (WO.aB (v:= .int .u8 (b.toNat:Int)) (L.load rfl ((st.aJ 0 rfl).jG (by unfold jv;rw [List.getElem?_map,hb];rfl))) ?_)
  refine WO.nil (WP.seq (WP.reg (WO.aB (v:= .int .u8 ((b.toNat - 48:Nat):Int)) (L.subU8 (a:=b.toNat) (b:=48) rfl rfl rfl (by omega) (by omega)) (WO.nil (WP.seq (WP.seq (WP.reg (WO.ifS (L.gtr rfl rfl) (fun c6=>by exfalso;omega) (fun c6=> ?_)))))))))
  refine WO.nil (WP.cond (t:=false) rfl (WP.skip (WP.reg (WO.val (v:= .int .i64 ((num (s.take k) * 10:Nat):Int)) (L.mulE rfl rfl (by omega) (And.intro (by omega) (by omega))) (WO.val (v:= .int .i64 ((b.toNat - 48:Nat):Int)) (L.QU rfl (And.intro (by omega) (by omega))) (WO.aB (v:= .int .i64 (num (s.take (k+1)):Int)) (L.fQ rfl rfl (by rw [uG hb];omega) (by rw [uG hb];exact And.intro (by omega) (by omega))) (WO.nil (WP.reg (WO.aB (v:= .int .i64 ((k+1:Nat):Int)) (L.fQ rfl rfl (by omega) (And.intro (by omega) (by omega))) (WO.nil ?_))))))))))
  have _:=trivial
  exact ⟨k+1,(by omega),x1,x2,(.bool true),(.int .u8 ((b.toNat - 48:Nat):Int)),(.bool false),by omega,by kernel_rfl,st⟩
 ·replace c5:¬(k<s.length):=by omega
  refine WO.nil (WP.seq (WP.cond (t:=false) rfl (WP.exit (WP.seq (WP.seq (WP.reg (WO.val (v:= .int .u8 (b0.toNat:Int)) (L.qm rfl rfl hb0) (WO.ifS (L.eql rfl rfl) (fun c7=>by exfalso;omega) (fun c7=> ?_)))))))))
  refine WO.nil (WP.cond (t:=false) rfl (WP.skip (WP.seq (WP.reg (WO.aB (v:= .int .i64 (num (s.take k):Int)) rfl (WO.aB (v:= .ifcN) rfl (WO.nil (WP.ret ?_))))))))
  exact ⟨_,(ak (aD (v:= .int .i64 (num (s.take k):Int)) rfl) (ak (aD (v:= .ifcN) rfl) (aF _ _))),(by rw [List.take_of_length_le (by omega)];rfl),st.tail⟩
theorem atoi_c (D:gq c) {fs:List Fact} {h:Heap} {s:List UInt8} (st:St fs h) (hd:o5 s):
 aV c 72 [L.str s] h fun v h1=>v= .tup [.int .i64 (num s:Int), .ifcN]∧St fs h1:=by
 refine aV.dh D.f72 rfl (WP.seq (WP.reg (WO.aB (v:= .int .i64 0) rfl (WO.aB (v:= .ifcN) rfl (WO.nil (WP.seq (WP.reg (WO.aM rfl (atoi1_c D st hd) ?_))))))))
 rintro _ h ⟨rfl,st⟩
 refine WO.val (v:= .int .i64 (num s:Int)) rfl (WO.val (v:= .ifcN) rfl (WO.aB (v:= .int .i64 (num s:Int)) rfl (WO.aB (v:= .ifcN) rfl (WO.nil (WP.seq (WP.seq (WP.reg (WO.aB (v:= .bool false) rfl (WO.nil (WP.cond (t:=false) rfl (WP.skip (WP.seq (WP.reg (WO.aB (v:= .int .i64 (num s:Int)) rfl (WO.aB (v:= .ifcN) rfl (WO.nil (WP.ret ?_)))))))))))))))))
 exact ⟨_,(ak (aD (v:= .int .i64 (num s:Int)) rfl) (ak (aD (v:= .ifcN) rfl) (aF _ _))),rfl,st⟩
theorem C8 (D:gq c) {fs:List Fact} {h:Heap} {p:RP} {i d:Nat} {l:List Tok} (st:St (p.box i d::p.toks::fs) h) (hl:Left p i l):
 gV c 61 [.ptr p.rb 0] h (aS p 80 (Par.number l) (fun a i v h1=>v= .int .i64 (a:Int)∧St (p.box i d::p.toks::fs) h1) (St fs)):=by
 refine gV.dh D.f61 rfl (WP.seq (WP.reg (WO.aB (v:= .int .i64 0) rfl (WO.nil (WP.seq (WP.reg (WO.bE rfl (of_c (k:=2) D st hl (by decide)) (fun e a h hm st=> ?_) ?_)))))))
 ·exact aS.pan (by simp [Par.number,hm]) (st)
 rintro t1 l1 _ h i1 m1 hl1 ⟨rfl,st⟩
 refine WO.val (v:=L.str t1.text) rfl (WO.aM rfl (atoi_c D st (Par.QY hl m1)) ?_)
 rintro _ h ⟨rfl,st⟩
 refine WO.val (v:= .int .i64 (num t1.text:Int)) rfl (WO.val (v:= .ifcN) rfl (WO.aB (v:= .int .i64 (num t1.text:Int)) rfl (WO.nil (WP.seq (WP.reg (WO.aB (v:= .int .i64 (num t1.text:Int)) rfl (WO.nil (WP.ret ?_))))))))
 exact ⟨_,(ak (aD (v:= .int .i64 (num t1.text:Int)) rfl) (aF _ _)),aS.ok (by simp [Par.number,m1]<;>rfl) hl1 ⟨rfl,st⟩⟩
end
end Go.Eng.YtjobofnpmmjeoaaGreatDoor.Pq
namespace Go.Eng.YtjobofnpmmjeoaaGreatDoor.Pq
open Go.Eng
noncomputable section
variable {c:Ctx}
theorem Ip (D:gq c) {fs:List Fact} {h:Heap} {p:RP} {xb fam:Nat} {lv:V} {ns:List Nd} {n:Nd} (st:St (.box xb [.ptr p.rb 0,lv]:: .acc fam 7 lv (ns.map Nd.row)::fs) h) (hfit:ns.length<4294967296):
 aV c 100 [.ptr xb 0, .agg n.row] h fun v h1=>v= .int .i64 (ns.length:Int)∧∃fam lv,St (.box xb [.ptr p.rb 0,lv]:: .acc fam 7 lv ((ns++[n]).map Nd.row)::fs) h1:=by
 refine aV.dh D.f100 rfl (WP.seq (WP.reg (WO.bL st (L.box (l:=[.int .i64 (n.kind:Int), .int .i64 n.num,L.str n.mod,L.str n.name, .int .i64 n.a, .int .i64 n.b, .int .i64 (n.at_:Int)]) rfl rfl) (fun b1 h st=> ?_))))
 refine WO.aB (v:= .int .i64 0) rfl (WO.nil (WP.seq (WP.draw (WD.val (v:= .ptr xb 0) rfl (WD.val (v:= .ptr xb 0) rfl (WD.val (v:= .ptr xb 0) rfl (WD.val (v:= .ptr xb 1) (L.aA rfl) (WD.val (v:=lv) (L.aC rfl (st.aj 1 rfl) rfl) (WD.val (v:= .agg [.int .i64 (n.kind:Int), .int .i64 n.num,L.str n.mod,L.str n.name, .int .i64 n.a, .int .i64 n.b, .int .i64 (n.at_:Int)]) (L.aK rfl (st.aj 0 rfl) rfl rfl rfl) (WD.iY (rows:=[[.int .i64 (n.kind:Int), .int .i64 n.num,L.str n.mod,L.str n.name, .int .i64 n.a, .int .i64 n.b, .int .i64 (n.at_:Int)]]) st rfl (by decide) rfl (by simp) (fun bs1 h _ st=> ?_)))))))))))
 refine WD.rX st 3 rfl rfl rfl (st.aJ 0 rfl) (by decide) (by simp;omega) (fun _ _ h st=>rfl) (fun f1 v1 h st=> ?_)
 rw [show (ns.map Nd.row)++[[V.int .i64 (n.kind:Int),V.int .i64 n.num,L.str n.mod,L.str n.name,V.int .i64 n.a,V.int .i64 n.b,V.int .i64 (n.at_:Int)]]=(ns++[n]).map Nd.row from by simp [Nd.row]] at st
 obtain ⟨ab1,rfl⟩:=(st.bQ 3 rfl).ne (by simp)
 refine WD.val (v:= .ptr xb 0) rfl (WD.val (v:= .ptr xb 1) (L.aA rfl) (WD.aG (row':=[.ptr p.rb 0, .sl ab1 0 (((ns++[n]).map Nd.row).length) none]) st 2 rfl rfl rfl rfl rfl rfl rfl (fun h st=>rfl) (fun h st=> ?_)))
 refine WD.nil (WP.seq (WP.reg (WO.val (v:= .ptr xb 0) rfl (WO.val (v:= .ptr xb 1) (L.aA rfl) (WO.val (v:= .sl ab1 0 (((ns++[n]).map Nd.row).length) none) (L.aC rfl (st.aj 2 rfl) rfl) (WO.val (v:= .int .i64 ((ns.length+1:Nat):Int)) ((L.QO rfl (st.bQ 3 rfl)).trans (by simp)) (WO.aB (v:= .int .i64 (ns.length:Int)) (L.rV rfl rfl (by omega) (And.intro (by omega) (by omega))) (WO.nil (WP.ret ?_)))))))))
 exact ⟨_,(ak (aD (v:= .int .i64 (ns.length:Int)) rfl) (aF _ _)),rfl,_,_,st.tail.tail⟩
theorem R6 (D:gq c) {fs:List Fact} {h:Heap} {p:RP} {i d xb:Nat} {lv:V} {ob oo:Nat} {oc:Option Nat} {ops:List Opn} {l:List Tok} (st:St (.box xb [.ptr p.rb 0,lv]:: .stb (fun h=>Rows 2 h (.sl ob oo ops.length oc) (ops.map Opn.row))::p.box i d::p.toks::fs) h) (hl:Left p i l) (hsm:ops.length<4294967296):
 aV c 99 [.ptr xb 0, .sl ob oo ops.length oc] h fun v h1=>(∃o,v= .tup [.agg (Opn.row o), .int .i64 (Par.here l:Int), .bool true]∧Par.find ops l=some o∧Left p (i+1) l.tail∧St (.box xb [.ptr p.rb 0,lv]:: .stb (fun h=>Rows 2 h (.sl ob oo ops.length oc) (ops.map Opn.row))::p.box (i+1) d::p.toks::fs) h1)∨(∃o1 o2,v= .tup [.agg [o1,o2], .int .i64 (Par.here l:Int), .bool false]∧Par.find ops l=none∧St (.box xb [.ptr p.rb 0,lv]:: .stb (fun h=>Rows 2 h (.sl ob oo ops.length oc) (ops.map Opn.row))::p.box i d::p.toks::fs) h1):=by
 obtain ⟨t,l',rfl⟩:=hl.cons
 refine aV.dh D.f99 rfl (WP.seq (WP.reg (WO.bL st L.alloc (fun b1 h st=> ?_))))
 refine WO.aB (v:= .int .i64 0) rfl (WO.aB (v:= .bool false) rfl (WO.nil (WP.seq (WP.reg (WO.val (v:= .ptr xb 0) rfl (WO.val (v:= .ptr xb 0) (L.aA rfl) (WO.val (v:= .ptr p.rb 0) (L.aC rfl (st.aj 1 rfl) rfl) (WO.aM rfl (zU D ((st.pick 4 rfl).pick 4 rfl) hl) ?_))))))))
 rintro _ h ⟨rfl,st⟩
 refine WO.aB (v:= .int .i64 (t.at_:Int)) rfl (WO.nil (WP.seq (WP.skip (WP.seq (WP.seq (WP.reg (WO.aB (v:= .sl ob oo ops.length oc) rfl (WO.aB (v:= .int .i64 (ops.length:Int)) (L.llen rfl) (WO.aB (v:= .int .i64 0) rfl (WO.nil (WP.block (WP.eO (α:=Nat) (fun k env h=>∃o1 o2 x7 x9,(k≤ops.length∧∀j o,ops[j]? =some o→j<k→Par.is o.1 (t::l')=false)∧env=bG [.ptr xb 0, .sl ob oo ops.length oc, .ptr b1 0, .int .i64 (t.at_:Int), .bool false, .int .i64 (k:Int), .int .i64 (ops.length:Int),x7, .sl ob oo ops.length oc,x9] 0 Env.nil∧St (.box b1 [o1,o2]:: .box xb [.ptr p.rb 0,lv]:: .stb (fun h=>Rows 2 h (.sl ob oo ops.length oc) (ops.map Opn.row))::(p.box i d)::p.toks::fs) h) (fun k=>ops.length - k) 0 ?_ ?_))))))))))))
 ·exact ⟨(.str 0 0),(.int .i64 0), .bot, .bot,⟨Nat.zero_le _,fun _ _ _ h=>absurd h (Nat.not_lt_zero _)⟩,by kernel_rfl,(((st.pick 4 rfl).pick 4 rfl).pick 4 rfl)⟩
 rintro k _ h ⟨o1,o2,x7,x9,⟨hk,hno⟩,rfl,st⟩
 refine WP.seq (WP.reg (WO.ifS (L.lss rfl rfl) (fun c1=> ?_) (fun c1=> ?_)))
 ·replace c1:k<ops.length:=by omega
  refine WO.nil (WP.seq (WP.cond (t:=true) rfl (WP.skip (WP.seq (WP.block (WP.seq (WP.reg ?_)))))))
  obtain ⟨o,ho⟩:∃o,ops[k]? =some o:=⟨_,List.getElem?_eq_getElem c1⟩
  refine WO.val (L.bT rfl rfl c1) (WO.val (v:= .agg [L.str o.1, .int .i64 (o.2:Int)]) (L.aY rfl ((st.aJ 2 rfl).aY (by rw [List.getElem?_map,ho];rfl))) ?_)
  refine WO.aG (row':=[L.str o.1, .int .i64 (o.2:Int)]) st 0 rfl rfl rfl rfl rfl rfl rfl (fun h st=> ?_)
  refine WO.nil (WP.seq (WP.draw (WD.val (v:= .ptr xb 0) rfl (WD.val (v:= .ptr xb 0) rfl (WD.val (v:= .ptr xb 0) (L.aA rfl) (WD.val (v:= .ptr p.rb 0) (L.aC rfl (st.aj 1 rfl) rfl) (WD.val (v:= .ptr b1 0) (L.aA rfl) (WD.val (v:=L.str o.1) (L.aC rfl (st.aj 0 rfl) rfl) (WD.aU rfl (kY D ((st.pick 4 rfl).pick 4 rfl) hl) (fun _ h hp=> ?_) ?_)))))))))
  ·rfl
  rintro _ h (⟨rfl,hi1,hl1,st⟩|⟨rfl,hi1,st⟩)
  ·replace st:St ((p.box (i+1:Nat) d)::p.toks:: .box b1 [L.str o.1, .int .i64 (o.2:Int)]:: .box xb [.ptr p.rb 0,lv]:: .stb (fun h=>Rows 2 h (.sl ob oo ops.length oc) (ops.map Opn.row))::fs) h:=st
   refine WD.nil (WP.cond (t:=true) rfl (WP.seq (WP.reg (WO.aB (v:= .bool true) rfl (WO.nil (WP.exit (WP.seq (WP.reg (WO.val (v:= .agg [L.str o.1, .int .i64 (o.2:Int)]) (L.aK rfl (st.aj 2 rfl) rfl rfl rfl) (WO.aG (row':=[L.str o.1, .int .i64 (o.2:Int)]) st 2 rfl rfl rfl rfl rfl rfl rfl (fun h st=> ?_)))))))))))
   refine WO.nil (WP.ret ?_)
   exact ⟨_,(ak (aP (l:=[L.str o.1, .int .i64 (o.2:Int)]) rfl (L.aT (st.aj 2 rfl) rfl rfl rfl)) (ak (aD (v:= .int .i64 (t.at_:Int)) rfl) (ak (aD (v:= .bool true) rfl) (aF _ _)))),Or.inl ⟨o,rfl,yZ ho hno hi1,hl1,(((st.pick 2 rfl).tail.pick 3 rfl).pick 3 rfl)⟩⟩
  ·replace st:St ((p.box i d)::p.toks:: .box b1 [L.str o.1, .int .i64 (o.2:Int)]:: .box xb [.ptr p.rb 0,lv]:: .stb (fun h=>Rows 2 h (.sl ob oo ops.length oc) (ops.map Opn.row))::fs) h:=st
   refine WD.nil (WP.cond (t:=false) rfl (WP.skip (WP.reg (WO.aB (v:= .int .i64 ((k+1:Nat):Int)) (L.fQ rfl rfl (by omega) (And.intro (by omega) (by have:=hsm;omega))) (WO.nil ?_)))))
   have hno':∀j o',ops[j]? =some o'→j<k+1→Par.is o'.1 (t::l')=false:=by
    intro j o' hj hlt
    rcases Nat.lt_succ_iff_lt_or_eq.1 hlt with hlt|rfl
    ·exact hno j o' hj hlt
    ·rw [ho] at hj;cases hj;exact hi1
   exact ⟨k+1,(by omega),(L.str o.1),(.int .i64 (o.2:Int)),(.bool true),(.bool false),⟨by omega,hno'⟩,by kernel_rfl,(((st.pick 4 rfl).pick 4 rfl).pick 4 rfl)⟩
 ·replace c1:¬(k<ops.length):=by omega
  refine WO.nil (WP.seq (WP.cond (t:=false) rfl (WP.exit (WP.seq (WP.reg (WO.val (v:= .agg [o1,o2]) (L.aK rfl (st.aj 0 rfl) rfl rfl rfl) (WO.aG (row':=[o1,o2]) st 0 rfl rfl rfl rfl rfl rfl rfl (fun h st=> ?_))))))))
  refine WO.nil (WP.ret ?_)
  exact ⟨_,(ak (aP (l:=[o1,o2]) rfl (L.aT (st.aj 0 rfl) rfl rfl rfl)) (ak (aD (v:= .int .i64 (t.at_:Int)) rfl) (ak (aD (v:= .bool false) rfl) (aF _ _)))),Or.inr ⟨o1,o2,rfl,Ej fun j o hj hlt=>hno j o hj (by omega),st.tail⟩⟩
def Reads (c:Ctx) (p:RP) (xb N:Nat) (g:Nat) (un:Par.E):Prop:=∀{fs:List Fact} {h:Heap} {i d fam:Nat} {lv:V} {ns:List Nd} {l:List Tok},
 St (.box xb [.ptr p.rb 0,lv]:: .acc fam 7 lv (ns.map Nd.row)::p.box i d::p.toks::fs) h→Left p i l→d≤40→l.length≤N→ns.length+l.length<4294967296→
 gV c g [.ptr xb 0] h (aS p 80 (un d l ns) (fun a i v h1=>v= .int .i64 (a.1:Int)∧∃fam lv,St (.box xb [.ptr p.rb 0,lv]:: .acc fam 7 lv (a.2.map Nd.row)::p.box i d::p.toks::fs) h1) (St fs))
theorem LD (D:gq c) {p:RP} {xb N g:Nat} {un:Par.E} {ob oo:Nat} {oc:Option Nat} {ops:List Opn} (hun:Reads c p xb N g un) (hgood:Par.Good un N) (hops:ops.length<4294967296) {fs:List Fact} {h:Heap} {i d fam:Nat} {lv:V} {ns:List Nd} {l:List Tok} (st:St (.box xb [.ptr p.rb 0,lv]:: .acc fam 7 lv (ns.map Nd.row):: .stb (fun h=>Rows 2 h (.sl ob oo ops.length oc) (ops.map Opn.row))::p.box i d::p.toks::fs) h) (hl:Left p i l) (hd:d≤40) (hN:l.length≤N) (hb:ns.length+l.length<4294967296):
 gV c 105 [.ptr xb 0, .fn g [.ptr xb 0] [], .sl ob oo ops.length oc] h (aS p 80 (Par.chain un ops d l ns) (fun a i v h1=>v= .int .i64 (a.1:Int)∧∃fam lv,St (.box xb [.ptr p.rb 0,lv]:: .acc fam 7 lv (a.2.map Nd.row)::p.box i d::p.toks::fs) h1) (St fs)):=by
 refine gV.dh D.f105 rfl (WP.seq (WP.reg (WO.aB (v:= .int .i64 0) rfl (WO.nil (WP.seq (WP.reg (WO.Lh rfl rfl (hun ((((st.pick 4 rfl).pick 4 rfl).pick 3 rfl).pick 3 rfl) hl (by omega) hN (by omega)) (fun e a h hm st=> ?_) ?_)))))))
 ·exact aS.pan (by simp [Par.chain,hm]) (st.tail)
 rintro ⟨a1,ns1⟩ l1 _ h i1 m1 hl1 ⟨rfl,fam1,lv1,st⟩
 obtain ⟨g1,w1⟩:=hgood hN m1
 refine WO.nil (WP.block (WP.eO (α:=Nat) (fun k env h=>∃l2 i2 a ns2 fam2 lv2 x3 x4 x5 x7 x8 x9,(Par.chain un ops d l ns=Par.gQ un ops k d l2 a ns2∧l2.length≤k∧Left p i2 l2∧l2.length≤N∧ns2.length+l2.length<4294967296)∧env=bG [.ptr xb 0, .fn g [.ptr xb 0] [], .sl ob oo ops.length oc,x3,x4,x5, .int .i64 (a:Int),x7,x8,x9] 0 Env.nil∧St (.box xb [.ptr p.rb 0,lv2]:: .acc fam2 7 lv2 (ns2.map Nd.row):: .stb (fun h=>Rows 2 h (.sl ob oo ops.length oc) (ops.map Opn.row))::(p.box i2 d)::p.toks::fs) h) (fun k=>k) l1.length ?_ ?_))
 ·exact ⟨l1,i1,a1,ns1,fam1,lv1,(.int .i64 0), .bot, .bot, .bot, .bot, .bot,⟨by simp [Par.chain,m1],Nat.le_refl _,hl1,by omega,by omega⟩,by kernel_rfl,(((st.pick 4 rfl).pick 2 rfl).pick 2 rfl)⟩
 rintro k _ h ⟨l2,i2,a,ns2,fam2,lv2,x3,x4,x5,x7,x8,x9,⟨hs,hk,hl2,hN2,hb2⟩,rfl,st⟩
 obtain ⟨t,l',rfl⟩:=hl2.cons
 simp only [List.length_cons] at hk hN2 hb2
 obtain ⟨k,rfl⟩:∃m,k=m+1:=⟨k - 1,by omega⟩
 refine WP.block (WP.seq (WP.reg (WO.aM rfl (R6 D ((((st.pick 4 rfl).pick 4 rfl).pick 4 rfl).pick 3 rfl) hl2 hops) ?_)))
 rintro _ h (⟨o2,rfl,q2,hl2,st⟩|⟨y2,z2,rfl,q2,st⟩)
 ·replace hl2:Left p (i2+1) l':=hl2
  refine WO.val (v:= .agg [L.str o2.1, .int .i64 (o2.2:Int)]) rfl (WO.val (v:= .int .i64 (Par.here (t::l'):Int)) rfl (WO.val (v:= .bool true) rfl (WO.bL st L.alloc (fun b1 h st=> ?_))))
  refine WO.aG (row':=[L.str o2.1, .int .i64 (o2.2:Int)]) st 0 rfl rfl rfl rfl rfl rfl rfl (fun h st=> ?_)
  refine WO.aB (v:= .int .i64 (Par.here (t::l'):Int)) rfl (WO.aB (v:= .bool true) rfl (WO.nil (WP.seq (WP.seq (WP.reg (WO.aB (v:= .bool false) rfl (WO.nil (WP.cond (t:=false) rfl (WP.skip (WP.seq (WP.reg (WO.Lh rfl rfl (hun (((((st.pick 4 rfl).pick 4 rfl).pick 5 rfl).pick 4 rfl):St (.box xb [.ptr p.rb 0,lv2]:: .acc fam2 7 lv2 (ns2.map Nd.row)::(p.box (i2+1:Nat) d)::p.toks:: .box b1 [L.str o2.1, .int .i64 (o2.2:Int)]:: .stb (fun h=>Rows 2 h (.sl ob oo ops.length oc) (ops.map Opn.row))::fs) _) hl2 (by omega) (by omega) (by omega)) (fun e a h hm st=> ?_) ?_))))))))))))
  ·exact aS.pan (by simp [Par.gQ,hm,hs,q2]) (st.tail.tail)
  rintro ⟨a3,ns3⟩ l3 _ h i3 m3 hl3 ⟨rfl,fam3,lv3,st⟩
  obtain ⟨g3,w3⟩:=hgood (by omega) m3
  replace st:St (.box xb [.ptr p.rb 0,lv3]:: .acc fam3 7 lv3 (ns3.map Nd.row)::(p.box i3 d)::p.toks:: .box b1 [L.str o2.1, .int .i64 (o2.2:Int)]:: .stb (fun h=>Rows 2 h (.sl ob oo ops.length oc) (ops.map Opn.row))::fs) h:=st
  refine WO.nil (WP.reg (WO.val (v:= .ptr b1 1) (L.aA rfl) (WO.val (v:= .int .i64 (o2.2:Int)) (L.aC rfl (st.aj 4 rfl) rfl) (WO.val (v:= .agg [.int .i64 (o2.2:Int), .int .i64 0, .str 0 0, .str 0 0, .int .i64 (a:Int), .int .i64 (a3:Int), .int .i64 (Par.here (t::l'):Int)]) (L.build rfl) (WO.aU rfl (Ip (n:=(Nd.mk o2.2 0 [] [] (a:Int) (a3:Int) (Par.here (t::l')))) D st (by omega)) ?_)))))
  rintro _ h ⟨rfl,fam4,lv4,st⟩
  refine WO.nil ?_
  exact ⟨k,(Nat.lt_succ_self _),l3,i3,ns3.length,(ns3++[(Nd.mk o2.2 0 [] [] (a:Int) (a3:Int) (Par.here (t::l')))]),fam4,lv4,x3,(.bool true),(.bool false),(.ptr b1 0),(.int .i64 (a3:Int)),(.int .i64 (Par.here (t::l'):Int)),⟨by rw [hs];simp [Par.gQ,q2,m3],by omega,hl3,by omega,by simp;omega⟩,by kernel_rfl,((((st.pick 4 rfl).tail.pick 4 rfl).pick 2 rfl).pick 2 rfl)⟩
 ·replace st:St (.box xb [.ptr p.rb 0,lv2]:: .stb (fun h=>Rows 2 h (.sl ob oo ops.length oc) (ops.map Opn.row))::(p.box i2 d)::p.toks:: .acc fam2 7 lv2 (ns2.map Nd.row)::fs) h:=st
  refine WO.val (v:= .agg [y2,z2]) rfl (WO.val (v:= .int .i64 (Par.here (t::l'):Int)) rfl (WO.val (v:= .bool false) rfl (WO.bL st L.alloc (fun b2 h st=> ?_))))
  refine WO.aG (row':=[y2,z2]) st 0 rfl rfl rfl rfl rfl rfl rfl (fun h st=> ?_)
  refine WO.aB (v:= .int .i64 (Par.here (t::l'):Int)) rfl (WO.aB (v:= .bool false) rfl (WO.nil (WP.seq (WP.seq (WP.reg (WO.aB (v:= .bool true) rfl (WO.nil (WP.cond (t:=true) rfl (WP.seq (WP.reg (WO.aB (v:= .int .i64 (a:Int)) rfl (WO.nil (WP.ret ?_)))))))))))))
  exact ⟨_,(ak (aD (v:= .int .i64 (a:Int)) rfl) (aF _ _)),aS.ok (x:=(a,ns2)) (l:=(t::l')) (by rw [hs];simp [Par.gQ,q2]) hl2 ⟨rfl,_,_,(((st.tail.pick 1 rfl).tail.pick 3 rfl).pick 1 rfl)⟩⟩
theorem term_c (D:gq c) {p:RP} {xb N:Nat} {un:Par.E} (hun:Reads c p xb N 108 un) (hgood:Par.Good un N) {fs:List Fact} {h:Heap} {i d fam:Nat} {lv:V} {ns:List Nd} {l:List Tok} (st:St (.box xb [.ptr p.rb 0,lv]:: .acc fam 7 lv (ns.map Nd.row)::p.box i d::p.toks::fs) h) (hl:Left p i l) (hd:d≤40) (hN:l.length≤N) (hb:ns.length+l.length<4294967296):
 gV c 106 [.ptr xb 0] h (aS p 80 (Par.term un d l ns) (fun a i v h1=>v= .int .i64 (a.1:Int)∧∃fam lv,St (.box xb [.ptr p.rb 0,lv]:: .acc fam 7 lv (a.2.map Nd.row)::p.box i d::p.toks::fs) h1) (St fs)):=by
 refine gV.dh D.f106 rfl (WP.seq (WP.reg (WO.aB (v:= .int .i64 0) rfl (WO.nil (WP.seq (WP.reg (WO.val (v:= .fn 108 [.ptr xb 0] []) rfl (WO.val (v:= .agg [.str 1 42, .int .i64 7]) (L.build rfl) (WO.val (v:= .agg [.str 1 47, .int .i64 8]) (L.build rfl) (WO.val (v:= .agg [.str 1 37, .int .i64 9]) (L.build rfl) (WO.iY (rows:=Par.o7.map Opn.row) st rfl (by decide) rfl (Am _) (fun o1 h st=> ?_))))))))))))
 refine WO.wL rfl (LD (ops:=Par.o7) D hun hgood (by decide) ((st.pick 2 rfl).pick 2 rfl) hl (by omega) (by first|exact hN|(simp only [List.length_cons] at hN;omega)|omega) (by first|exact hb|(simp only [List.length_cons] at hb;omega)|omega)) (fun e a h hm st=> ?_) ?_
 ·exact aS.pan (by simp [Par.term,hm]) (st)
 rintro ⟨a1,ns1⟩ l1 _ h i1 m1 hl1 ⟨rfl,fam1,lv1,st⟩
 refine WO.nil (WP.ret ?_)
 exact ⟨_,(ak (aD (v:= .int .i64 (a1:Int)) rfl) (aF _ _)),aS.ok (x:=(a1,ns1)) (l:=l1) (by simp [Par.term,m1]) hl1 ⟨rfl,_,_,st⟩⟩
theorem Kv (D:gq c) {p:RP} {xb N:Nat} {un:Par.E} (hun:Reads c p xb N 108 un) (hgood:Par.Good un N):Reads c p xb N 106 (Par.term un):=fun st hl hd hN hb=>term_c D hun hgood st hl hd hN hb
theorem sum_c (D:gq c) {p:RP} {xb N:Nat} {un:Par.E} (hun:Reads c p xb N 108 un) (hgood:Par.Good un N) {fs:List Fact} {h:Heap} {i d fam:Nat} {lv:V} {ns:List Nd} {l:List Tok} (st:St (.box xb [.ptr p.rb 0,lv]:: .acc fam 7 lv (ns.map Nd.row)::p.box i d::p.toks::fs) h) (hl:Left p i l) (hd:d≤40) (hN:l.length≤N) (hb:ns.length+l.length<4294967296):
 gV c 98 [.ptr xb 0] h (aS p 80 (Par.sum un d l ns) (fun a i v h1=>v= .int .i64 (a.1:Int)∧∃fam lv,St (.box xb [.ptr p.rb 0,lv]:: .acc fam 7 lv (a.2.map Nd.row)::p.box i d::p.toks::fs) h1) (St fs)):=by
 refine gV.dh D.f98 rfl (WP.seq (WP.reg (WO.aB (v:= .int .i64 0) rfl (WO.nil (WP.seq (WP.reg (WO.val (v:= .fn 106 [.ptr xb 0] []) rfl (WO.val (v:= .agg [.str 1 43, .int .i64 5]) (L.build rfl) (WO.val (v:= .agg [.str 1 45, .int .i64 6]) (L.build rfl) (WO.iY (rows:=Par.qo.map Opn.row) st rfl (by decide) rfl (Am _) (fun o1 h st=> ?_)))))))))))
 refine WO.wL rfl (LD (ops:=Par.qo) D (Kv D hun hgood) (wN hgood) (by decide) ((st.pick 2 rfl).pick 2 rfl) hl (by omega) (by first|exact hN|(simp only [List.length_cons] at hN;omega)|omega) (by first|exact hb|(simp only [List.length_cons] at hb;omega)|omega)) (fun e a h hm st=> ?_) ?_
 ·exact aS.pan (by simp [Par.sum,hm]) (st)
 rintro ⟨a1,ns1⟩ l1 _ h i1 m1 hl1 ⟨rfl,fam1,lv1,st⟩
 refine WO.nil (WP.ret ?_)
 exact ⟨_,(ak (aD (v:= .int .i64 (a1:Int)) rfl) (aF _ _)),aS.ok (x:=(a1,ns1)) (l:=l1) (by simp [Par.sum,m1]) hl1 ⟨rfl,_,_,st⟩⟩
theorem LF (D:gq c) {p:RP} {xb N:Nat} {un:Par.E} (hun:Reads c p xb N 108 un) (hgood:Par.Good un N) {fs:List Fact} {h:Heap} {i d fam:Nat} {lv:V} {ns:List Nd} {l:List Tok} (st:St (.box xb [.ptr p.rb 0,lv]:: .acc fam 7 lv (ns.map Nd.row)::p.box i d::p.toks::fs) h) (hl:Left p i l) (hd:d≤40) (hN:l.length≤N) (hb:ns.length+l.length<4294967296):
 gV c 92 [.ptr xb 0] h (aS p 80 (Par.whole un d l ns) (fun a i v h1=>v= .int .i64 (a.1:Int)∧∃fam lv,St (.box xb [.ptr p.rb 0,lv]:: .acc fam 7 lv (a.2.map Nd.row)::p.box i d::p.toks::fs) h1) (St fs)):=by
 have hsg:Par.Good (Par.sum un) N:=BZ hgood
 refine gV.dh D.f92 rfl (WP.seq (WP.reg (WO.aB (v:= .int .i64 0) rfl (WO.nil (WP.seq (WP.reg (WO.wL rfl (sum_c D hun hgood st hl (by omega) (by first|exact hN|(simp only [List.length_cons] at hN;omega)|omega) (by first|exact hb|(simp only [List.length_cons] at hb;omega)|omega)) (fun e a h hm st=> ?_) ?_)))))))
 ·exact aS.pan (by simp [Par.whole,hm]) (st)
 rintro ⟨a1,ns1⟩ l1 _ h i1 m1 hl1 ⟨rfl,fam1,lv1,st⟩
 obtain ⟨g1,w1⟩:=hsg (by first|exact hN|(simp only [List.length_cons] at hN;omega)|omega) m1
 refine WO.nil (WP.seq (WP.reg (WO.val (v:= .agg [.str 2 15677, .int .i64 10]) (L.build rfl) (WO.val (v:= .agg [.str 2 15676, .int .i64 12]) (L.build rfl) (WO.val (v:= .agg [.str 1 60, .int .i64 11]) (L.build rfl) (WO.iY (rows:=Par.jJ.map Opn.row) st rfl (by decide) rfl (Am _) (fun o1 h st=> ?_)))))))
 refine WO.aM rfl (R6 (ops:=Par.jJ) D ((((st.pick 4 rfl).pick 4 rfl).pick 2 rfl).pick 3 rfl) hl1 (by decide)) ?_
 rintro _ h (⟨o2,rfl,q2,hl2,st⟩|⟨y2,z2,rfl,q2,st⟩)
 ·replace st:St (.box xb [.ptr p.rb 0,lv1]:: .stb (fun h=>Rows 2 h (.sl o1 0 3 (some 3)) (Par.jJ.map Opn.row))::(p.box (i1+1:Nat) d)::p.toks:: .acc fam1 7 lv1 (ns1.map Nd.row)::fs) h:=st
  refine WO.val (v:= .agg [L.str o2.1, .int .i64 (o2.2:Int)]) rfl (WO.val (v:= .int .i64 (Par.here l1:Int)) rfl (WO.val (v:= .bool true) rfl (WO.bL st L.alloc (fun b1 h st=> ?_))))
  refine WO.aG (row':=[L.str o2.1, .int .i64 (o2.2:Int)]) st 0 rfl rfl rfl rfl rfl rfl rfl (fun h st=> ?_)
  refine WO.aB (v:= .int .i64 (Par.here l1:Int)) rfl (WO.aB (v:= .bool true) rfl (WO.nil (WP.seq (WP.seq (WP.reg (WO.aB (v:= .bool false) rfl (WO.nil (WP.cond (t:=false) rfl (WP.skip (WP.seq (WP.reg ?_)))))))))))
  have htl:=List.length_tail (l:=l1)
  refine WO.wL rfl (sum_c D hun hgood (((((st.pick 4 rfl).pick 4 rfl).pick 5 rfl).pick 4 rfl):St (.box xb [.ptr p.rb 0,lv1]:: .acc fam1 7 lv1 (ns1.map Nd.row)::(p.box (i1+1:Nat) d)::p.toks:: .box b1 [L.str o2.1, .int .i64 (o2.2:Int)]:: .stb (fun h=>Rows 2 h (.sl o1 0 3 (some 3)) (Par.jJ.map Opn.row))::fs) _) hl2 (by omega) (by first|exact hN|(simp only [List.length_cons] at hN;omega)|omega) (by first|exact hb|(simp only [List.length_cons] at hb;omega)|omega)) (fun e a h hm st=> ?_) ?_
  ·exact aS.pan (by simp [Par.whole,hm,m1,q2]) (st.tail.tail)
  rintro ⟨a3,ns3⟩ l3 _ h i3 m3 hl3 ⟨rfl,fam3,lv3,st⟩
  obtain ⟨g3,w3⟩:=hsg (by first|exact hN|(simp only [List.length_cons] at hN;omega)|omega) m3
  replace st:St (.box xb [.ptr p.rb 0,lv3]:: .acc fam3 7 lv3 (ns3.map Nd.row)::(p.box i3 d)::p.toks:: .box b1 [L.str o2.1, .int .i64 (o2.2:Int)]:: .stb (fun h=>Rows 2 h (.sl o1 0 3 (some 3)) (Par.jJ.map Opn.row))::fs) h:=st
  refine WO.nil (WP.seq (WP.reg (WO.val (v:= .ptr b1 1) (L.aA rfl) (WO.val (v:= .int .i64 (o2.2:Int)) (L.aC rfl (st.aj 4 rfl) rfl) (WO.val (v:= .agg [.int .i64 (o2.2:Int), .int .i64 0, .str 0 0, .str 0 0, .int .i64 (a1:Int), .int .i64 (a3:Int), .int .i64 (Par.here l1:Int)]) (L.build rfl) (WO.aU rfl (Ip (n:=(Nd.mk o2.2 0 [] [] (a1:Int) (a3:Int) (Par.here l1))) D st (by omega)) ?_))))))
  rintro _ h ⟨rfl,fam4,lv4,st⟩
  refine WO.nil (WP.ret ?_)
  exact ⟨_,(ak (aD (v:= .int .i64 (ns3.length:Int)) rfl) (aF _ _)),aS.ok (x:=(ns3.length,(ns3++[(Nd.mk o2.2 0 [] [] (a1:Int) (a3:Int) (Par.here l1))]))) (l:=l3) (by simp [Par.whole,m1,q2,m3]) hl3 ⟨rfl,_,_,((st.pick 4 rfl).tail.pick 4 rfl).tail⟩⟩
 ·replace st:St (.box xb [.ptr p.rb 0,lv1]:: .stb (fun h=>Rows 2 h (.sl o1 0 3 (some 3)) (Par.jJ.map Opn.row))::(p.box i1 d)::p.toks:: .acc fam1 7 lv1 (ns1.map Nd.row)::fs) h:=st
  refine WO.val (v:= .agg [y2,z2]) rfl (WO.val (v:= .int .i64 (Par.here l1:Int)) rfl (WO.val (v:= .bool false) rfl (WO.bL st L.alloc (fun b2 h st=> ?_))))
  refine WO.aG (row':=[y2,z2]) st 0 rfl rfl rfl rfl rfl rfl rfl (fun h st=> ?_)
  refine WO.aB (v:= .int .i64 (Par.here l1:Int)) rfl (WO.aB (v:= .bool false) rfl (WO.nil (WP.seq (WP.seq (WP.reg (WO.aB (v:= .bool true) rfl (WO.nil (WP.cond (t:=true) rfl (WP.seq (WP.reg (WO.aB (v:= .int .i64 (a1:Int)) rfl (WO.nil (WP.ret ?_)))))))))))))
  exact ⟨_,(ak (aD (v:= .int .i64 (a1:Int)) rfl) (aF _ _)),aS.ok (x:=(a1,ns1)) (l:=l1) (by simp [Par.whole,m1,q2]) hl1 ⟨rfl,_,_,(((st.tail.pick 1 rfl).tail.pick 3 rfl).pick 1 rfl)⟩⟩
theorem unary_c (D:gq c) {p:RP} {xb N:Nat} {un:Par.E} (hun:Reads c p xb N 108 un) (hgood:Par.Good un N) {fs:List Fact} {h:Heap} {i d fam:Nat} {lv:V} {ns:List Nd} {l:List Tok} (st:St (.box xb [.ptr p.rb 0,lv]:: .acc fam 7 lv (ns.map Nd.row)::p.box i d::p.toks::fs) h) (hl:Left p i l) (hd:d≤40) (hN:l.length≤N+1) (hb:ns.length+l.length<4294967296):
 gV c 108 [.ptr xb 0] h (aS p 80 (Par.gT un d l ns) (fun a i v h1=>v= .int .i64 (a.1:Int)∧∃fam lv,St (.box xb [.ptr p.rb 0,lv]:: .acc fam 7 lv (a.2.map Nd.row)::p.box i d::p.toks::fs) h1) (St fs)):=by
 obtain ⟨t,l',rfl⟩:=hl.cons
 simp only [List.length_cons] at hN hb
 have hwg:Par.Good (Par.whole un) N:=wO hgood
 refine gV.dh D.f108 rfl (WP.seq (WP.reg (WO.aB (v:= .int .i64 0) rfl (WO.nil (WP.seq (WP.reg (WO.val (v:= .ptr xb 0) rfl (WO.val (v:= .ptr xb 0) (L.aA rfl) (WO.val (v:= .ptr p.rb 0) (L.aC rfl (st.aj 0 rfl) rfl) (WO.aM rfl (zU D ((st.pick 3 rfl).pick 3 rfl) hl) ?_))))))))))
 rintro _ h ⟨rfl,st⟩
 refine WO.aB (v:= .int .i64 (t.at_:Int)) rfl (WO.nil (WP.seq (WP.seq (WP.reg (WO.val (v:= .agg [.str 1 45, .int .i64 3]) (L.build rfl) (WO.val (v:= .agg [.str 1 33, .int .i64 4]) (L.build rfl) (WO.QI (rows:=Par.iB.map Opn.row) st rfl (by decide) rfl (Am _) (fun o1 h st=> ?_))))))))
 refine WO.aB (v:= .int .i64 ((2:Nat):Int)) (L.llen rfl) (WO.aB (v:= .int .i64 0) rfl (WO.nil (WP.block (WP.eO (α:=Nat) (fun k env h=>∃x1 x4 x6 x7 x8,(k≤2∧∀j o,Par.iB[j]? =some o→j<k→Par.is o.1 (t::l')=false)∧env=bG [.ptr xb 0,x1, .int .i64 (k:Int), .int .i64 ((2:Nat):Int),x4, .sl o1 0 2 (some 2),x6,x7,x8, .int .i64 (t.at_:Int)] 0 Env.nil∧St (.box xb [.ptr p.rb 0,lv]:: .acc fam 7 lv (ns.map Nd.row):: .stb (fun h=>Rows 2 h (.sl o1 0 2 (some 2)) (Par.iB.map Opn.row))::(p.box i d)::p.toks::fs) h) (fun k=>2 - k) 0 ?_ ?_))))
 ·exact ⟨(.int .i64 0), .bot, .bot, .bot, .bot,⟨Nat.zero_le _,fun _ _ _ h=>absurd h (Nat.not_lt_zero _)⟩,by kernel_rfl,((st.pick 4 rfl).pick 4 rfl)⟩
 rintro k _ h ⟨x1,x4,x6,x7,x8,⟨hk,hno⟩,rfl,st⟩
 refine WP.seq (WP.reg (WO.ifS (L.lss rfl rfl) (fun c1=> ?_) (fun c1=> ?_)))
 ·replace c1:k<2:=by omega
  refine WO.nil (WP.seq (WP.cond (t:=true) rfl (WP.skip (WP.seq (WP.block (WP.seq (WP.reg ?_)))))))
  obtain ⟨o,ho⟩:∃o,Par.iB[k]? =some o:=⟨_,List.getElem?_eq_getElem (show k<Par.iB.length from c1)⟩
  refine WO.val (L.bT rfl rfl c1) (WO.val (v:= .agg [L.str o.1, .int .i64 (o.2:Int)]) (L.aY rfl ((st.aJ 2 rfl).aY (by rw [List.getElem?_map,ho];rfl))) ?_)
  refine WO.bL st L.alloc (fun b1 h st=> ?_)
  refine WO.aG (row':=[L.str o.1, .int .i64 (o.2:Int)]) st 0 rfl rfl rfl rfl rfl rfl rfl (fun h st=> ?_)
  refine WO.nil (WP.seq (WP.draw (WD.val (v:= .ptr xb 0) rfl (WD.val (v:= .ptr xb 0) rfl (WD.val (v:= .ptr xb 0) (L.aA rfl) (WD.val (v:= .ptr p.rb 0) (L.aC rfl (st.aj 1 rfl) rfl) (WD.val (v:= .ptr b1 0) (L.aA rfl) (WD.val (v:=L.str o.1) (L.aC rfl (st.aj 0 rfl) rfl) (WD.aU rfl (is_c D ((st.pick 5 rfl).pick 5 rfl) hl) (fun _ _ _=>rfl) ?_)))))))))
  rintro _ h ⟨rfl,st⟩
  cases his1:Par.is o.1 (t::l')
  ·refine WD.nil (WP.cond (t:=false) rfl (WP.skip (WP.reg (WO.aB (v:= .int .i64 ((k+1:Nat):Int)) (L.fQ rfl rfl (by omega) (And.intro (by omega) (by omega))) (WO.nil ?_)))))
   have hno':∀j o',Par.iB[j]? =some o'→j<k+1→Par.is o'.1 (t::l')=false:=by
    intro j o' hj hlt
    rcases Nat.lt_succ_iff_lt_or_eq.1 hlt with hlt|rfl
    ·exact hno j o' hj hlt
    ·rw [ho] at hj;cases hj;exact his1
   exact ⟨k+1,(by omega),x1,(.bool true),(.ptr b1 0),(.bool false),x8,⟨by omega,hno'⟩,by kernel_rfl,((((st.pick 2 rfl).tail.pick 4 rfl).pick 4 rfl).pick 4 rfl)⟩
  ·refine WD.nil (WP.cond (t:=true) rfl (WP.seq (WP.reg (WO.val (v:= .ptr xb 0) rfl (WO.val (v:= .ptr xb 0) (L.aA rfl) (WO.val (v:= .ptr p.rb 0) (L.aC rfl (st.aj 3 rfl) rfl) ?_))))))
   by_cases hd40:40≤d
   ·refine WO.o6 rfl (CY D st hl hd40) (fun h st=> ?_)
    exact aS.pan (by simp [Par.gT,Par.fail,(show Par.find Par.iB (t::l')=some o from yZ ho hno his1),hd40]) (st.tail.tail.tail.tail)
   refine WO.aM rfl (yw D st hl hd40) ?_
   rintro _ h ⟨rfl,st⟩
   refine WO.nil (WP.seq (WP.reg (WO.val (v:= .ptr xb 0) rfl (WO.val (v:= .ptr xb 0) (L.aA rfl) (WO.val (v:= .ptr p.rb 0) (L.aC rfl (st.aj 3 rfl) rfl) (WO.val (v:= .ptr p.rb 0) rfl (WO.val (v:= .ptr p.rb 1) (L.aA rfl) (WO.val (v:= .int .i64 (i:Int)) (L.aC rfl (st.aj 0 rfl) rfl) ?_))))))))
   have hl0:Left p (i+1) l':=hl.is his1
   have hq:Par.find Par.iB (t::l')=some o:=yZ ho hno his1
   refine WO.val (v:= .int .i64 ((i+1:Nat):Int)) (L.fQ rfl rfl (by omega) (And.intro (by omega) (by have:=hl.lt;have:=hl.small;omega))) (WO.val (v:= .ptr p.rb 0) rfl (WO.val (v:= .ptr p.rb 1) (L.aA rfl) (WO.aG (row':=[.sl p.tb p.to p.ts.length p.cap, .int .i64 ((i+1:Nat):Int), .int .i64 ((d+1:Nat):Int)]) st 0 rfl rfl rfl rfl rfl rfl rfl (fun h st=> ?_))))
   refine WO.nil (WP.seq (WP.reg (WO.wL rfl (hun ((st.pick 4 rfl).pick 4 rfl) hl0 (by omega) (by first|exact hN|(simp only [List.length_cons] at hN;omega)|omega) (by first|exact hb|(simp only [List.length_cons] at hb;omega)|omega)) (fun e a h hm st=> ?_) ?_)))
   ·exact aS.pan (by simp [Par.gT,hm,hq,hd40]) (st.tail.tail)
   rintro ⟨a1,ns1⟩ l1 _ h i1 m1 hl1 ⟨rfl,fam1,lv1,st⟩
   obtain ⟨g1,w1⟩:=hgood (by first|exact hN|(simp only [List.length_cons] at hN;omega)|omega) m1
   replace st:St (.box xb [.ptr p.rb 0,lv1]:: .acc fam1 7 lv1 (ns1.map Nd.row)::(p.box i1 (d+1:Nat))::p.toks:: .box b1 [L.str o.1, .int .i64 (o.2:Int)]:: .stb (fun h=>Rows 2 h (.sl o1 0 2 (some 2)) (Par.iB.map Opn.row))::fs) h:=st
   refine WO.nil (WP.seq (WP.reg (WO.val (v:= .ptr xb 0) rfl (WO.val (v:= .ptr xb 0) (L.aA rfl) (WO.val (v:= .ptr p.rb 0) (L.aC rfl (st.aj 0 rfl) rfl) (WO.val (v:= .ptr p.rb 0) rfl (WO.val (v:= .ptr p.rb 2) (L.aA rfl) (WO.val (v:= .int .i64 ((d+1:Nat):Int)) (L.aC rfl (st.aj 2 rfl) rfl) (WO.val (v:= .int .i64 (d:Int)) (L.rV rfl rfl (by omega) (And.intro (by omega) (by omega))) (WO.val (v:= .ptr p.rb 0) rfl (WO.val (v:= .ptr p.rb 2) (L.aA rfl) (WO.aG (row':=[.sl p.tb p.to p.ts.length p.cap, .int .i64 (i1:Int), .int .i64 (d:Int)]) st 2 rfl rfl rfl rfl rfl rfl rfl (fun h (st:St (.box xb [.ptr p.rb 0,lv1]:: .acc fam1 7 lv1 (ns1.map Nd.row)::(p.box i1 d)::p.toks:: .box b1 [L.str o.1, .int .i64 (o.2:Int)]:: .stb (fun h=>Rows 2 h (.sl o1 0 2 (some 2)) (Par.iB.map Opn.row))::fs) h)=> ?_)))))))))))))
   refine WO.nil (WP.seq (WP.reg (WO.val (v:= .ptr b1 1) (L.aA rfl) (WO.val (v:= .int .i64 (o.2:Int)) (L.aC rfl (st.aj 4 rfl) rfl) (WO.val (v:= .agg [.int .i64 (o.2:Int), .int .i64 0, .str 0 0, .str 0 0, .int .i64 (a1:Int), .int .i64 (-1), .int .i64 (t.at_:Int)]) (L.build rfl) (WO.aU rfl (Ip (n:=(Nd.mk o.2 0 [] [] (a1:Int) (-1) (Par.here (t::l')))) D st (by omega)) ?_))))))
   rintro _ h ⟨rfl,fam2,lv2,st⟩
   refine WO.nil (WP.ret ?_)
   exact ⟨_,(ak (aD (v:= .int .i64 (ns1.length:Int)) rfl) (aF _ _)),aS.ok (x:=(ns1.length,(ns1++[(Nd.mk o.2 0 [] [] (a1:Int) (-1) (Par.here (t::l')))]))) (l:=l1) (by simp [Par.gT,Par.hd,hq,hd40,m1]) hl1 ⟨rfl,_,_,((st.pick 4 rfl).tail.pick 4 rfl).tail⟩⟩
 ·replace c1:¬(k<2):=by omega
  refine WO.nil (WP.seq (WP.cond (t:=false) rfl (WP.exit (WP.seq (WP.seq (WP.reg (WO.val (v:= .ptr xb 0) rfl (WO.val (v:= .ptr xb 0) (L.aA rfl) (WO.val (v:= .ptr p.rb 0) (L.aC rfl (st.aj 0 rfl) rfl) ?_)))))))))
  have hq:Par.find Par.iB (t::l')=none:=Ej fun j o hj hlt=>hno j o hj (Nat.lt_of_lt_of_le hlt (by show 2≤k;omega))
  refine WO.aU rfl (is_c (s:=[40]) D ((st.pick 4 rfl).pick 4 rfl) hl) ?_
  rintro _ h ⟨rfl,st⟩
  cases his2:Par.is [40] (t::l')
  ·refine WO.nil (WP.cond (t:=false) rfl (WP.skip (WP.seq (WP.seq (WP.reg (WO.val (v:= .ptr xb 0) rfl (WO.val (v:= .ptr xb 0) (L.aA rfl) (WO.val (v:= .ptr p.rb 0) (L.aC rfl (st.aj 2 rfl) rfl) (WO.aM rfl (zU D st hl) ?_)))))))))
   rintro _ h ⟨rfl,st⟩
   refine WO.val (v:= .int .i64 (t.kind:Int)) rfl (WO.ifS (L.eql rfl rfl) (fun c2=> ?_) (fun c2=> ?_))
   ·replace c2:t.kind=2:=by omega
    refine WO.nil (WP.cond (t:=true) rfl (WP.seq (WP.reg (WO.val (v:= .ptr xb 0) rfl (WO.val (v:= .ptr xb 0) (L.aA rfl) (WO.val (v:= .ptr p.rb 0) (L.aC rfl (st.aj 2 rfl) rfl) (WO.bE rfl (C8 D st hl) (fun e a h hm st=> ?_) ?_)))))))
    ·exact aS.pan (by simp [Par.gT,Par.hd,hm,hq,his2,c2]) (st.tail.tail.tail)
    rintro n3 l3 _ h i3 m3 hl3 ⟨rfl,st⟩
    refine WO.val (v:= .agg [.int .i64 1, .int .i64 (n3:Int), .str 0 0, .str 0 0, .int .i64 (-1), .int .i64 (-1), .int .i64 (t.at_:Int)]) (L.build rfl) (WO.aU rfl (Ip (n:=(Nd.mk 1 (n3:Int) [] [] (-1) (-1) (Par.here (t::l')))) D ((st.pick 3 rfl).pick 3 rfl) (by omega)) ?_)
    rintro _ h ⟨rfl,fam4,lv4,st⟩
    refine WO.nil (WP.ret ?_)
    exact ⟨_,(ak (aD (v:= .int .i64 (ns.length:Int)) rfl) (aF _ _)),aS.ok (x:=(ns.length,(ns++[(Nd.mk 1 (n3:Int) [] [] (-1) (-1) (Par.here (t::l')))]))) (l:=l3) (by simp [Par.gT,Par.hd,hq,his2,c2,m3]) hl3 ⟨rfl,_,_,(st.pick 4 rfl).tail⟩⟩
   ·replace c2:¬(t.kind=2):=by omega
    refine WO.nil (WP.cond (t:=false) rfl (WP.skip (WP.seq (WP.reg (WO.val (v:= .ptr xb 0) rfl (WO.val (v:= .ptr xb 0) (L.aA rfl) (WO.val (v:= .ptr p.rb 0) (L.aC rfl (st.aj 2 rfl) rfl) (WO.bE rfl (Au D st hl) (fun e a h hm st=> ?_) ?_))))))))
    ·exact aS.pan (by simp [Par.gT,Par.hd,hm,hq,his2,c2]) (st.tail.tail.tail)
    rintro ⟨q5,r5⟩ l5 _ h i5 m5 hl5 ⟨rfl,st⟩
    refine WO.val (v:=L.str q5) rfl (WO.val (v:=L.str r5) rfl (WO.aB (v:=L.str q5) rfl (WO.aB (v:=L.str r5) rfl (WO.nil (WP.seq (WP.reg (WO.val (v:= .agg [.int .i64 2, .int .i64 0,L.str q5,L.str r5, .int .i64 (-1), .int .i64 (-1), .int .i64 (t.at_:Int)]) (L.build rfl) (WO.aU rfl (Ip (n:=(Nd.mk 2 0 q5 r5 (-1) (-1) (Par.here (t::l')))) D ((st.pick 3 rfl).pick 3 rfl) (by omega)) ?_))))))))
    rintro _ h ⟨rfl,fam6,lv6,st⟩
    refine WO.nil (WP.ret ?_)
    exact ⟨_,(ak (aD (v:= .int .i64 (ns.length:Int)) rfl) (aF _ _)),aS.ok (x:=(ns.length,(ns++[(Nd.mk 2 0 q5 r5 (-1) (-1) (Par.here (t::l')))]))) (l:=l5) (by simp [Par.gT,Par.hd,hq,his2,c2,m5]) hl5 ⟨rfl,_,_,(st.pick 4 rfl).tail⟩⟩
  ·refine WO.nil (WP.cond (t:=true) rfl (WP.seq (WP.reg (WO.val (v:= .ptr xb 0) rfl (WO.val (v:= .ptr xb 0) (L.aA rfl) (WO.val (v:= .ptr p.rb 0) (L.aC rfl (st.aj 2 rfl) rfl) ?_))))))
   by_cases hd40:40≤d
   ·refine WO.o6 rfl (CY D st hl hd40) (fun h st=> ?_)
    exact aS.pan (by simp [Par.gT,Par.fail,hq,his2,hd40]) (st.tail.tail.tail)
   refine WO.aM rfl (yw D st hl hd40) ?_
   rintro _ h ⟨rfl,st⟩
   refine WO.nil (WP.seq (WP.reg (WO.val (v:= .ptr xb 0) rfl (WO.val (v:= .ptr xb 0) (L.aA rfl) (WO.val (v:= .ptr p.rb 0) (L.aC rfl (st.aj 2 rfl) rfl) (WO.val (v:= .ptr p.rb 0) rfl (WO.val (v:= .ptr p.rb 1) (L.aA rfl) (WO.val (v:= .int .i64 (i:Int)) (L.aC rfl (st.aj 0 rfl) rfl) ?_))))))))
   have hl0:Left p (i+1) l':=hl.is his2
   refine WO.val (v:= .int .i64 ((i+1:Nat):Int)) (L.fQ rfl rfl (by omega) (And.intro (by omega) (by have:=hl.lt;have:=hl.small;omega))) (WO.val (v:= .ptr p.rb 0) rfl (WO.val (v:= .ptr p.rb 1) (L.aA rfl) (WO.aG (row':=[.sl p.tb p.to p.ts.length p.cap, .int .i64 ((i+1:Nat):Int), .int .i64 ((d+1:Nat):Int)]) st 0 rfl rfl rfl rfl rfl rfl rfl (fun h st=> ?_))))
   refine WO.nil (WP.seq (WP.reg (WO.wL rfl (LF D hun hgood ((st.pick 3 rfl).pick 3 rfl) hl0 (by omega) (by first|exact hN|(simp only [List.length_cons] at hN;omega)|omega) (by first|exact hb|(simp only [List.length_cons] at hb;omega)|omega)) (fun e a h hm st=> ?_) ?_)))
   ·exact aS.pan (by simp [Par.gT,hm,hq,his2,hd40]) (st.tail)
   rintro ⟨a7,ns7⟩ l7 _ h i7 m7 hl7 ⟨rfl,fam7,lv7,st⟩
   obtain ⟨g7,w7⟩:=hwg (by first|exact hN|(simp only [List.length_cons] at hN;omega)|omega) m7
   refine WO.nil (WP.seq (WP.reg (WO.val (v:= .ptr xb 0) rfl (WO.val (v:= .ptr xb 0) (L.aA rfl) (WO.val (v:= .ptr p.rb 0) (L.aC rfl (st.aj 0 rfl) rfl) (WO.bE rfl (eT (s:=[41]) D ((st.pick 3 rfl).pick 3 rfl) hl7) (fun e a h hm st=> ?_) ?_))))))
   ·exact aS.pan (by simp [Par.gT,hm,hq,his2,hd40,m7]) (st.tail.tail.tail)
   rintro b8 l8 _ h i8 m8 hl8 ⟨rfl,st⟩
   refine WO.nil (WP.seq (WP.reg (WO.val (v:= .ptr xb 0) rfl (WO.val (v:= .ptr xb 0) (L.aA rfl) (WO.val (v:= .ptr p.rb 0) (L.aC rfl (st.aj 2 rfl) rfl) (WO.val (v:= .ptr p.rb 0) rfl (WO.val (v:= .ptr p.rb 2) (L.aA rfl) (WO.val (v:= .int .i64 ((d+1:Nat):Int)) (L.aC rfl (st.aj 0 rfl) rfl) (WO.val (v:= .int .i64 (d:Int)) (L.rV rfl rfl (by omega) (And.intro (by omega) (by omega))) (WO.val (v:= .ptr p.rb 0) rfl (WO.val (v:= .ptr p.rb 2) (L.aA rfl) (WO.aG (row':=[.sl p.tb p.to p.ts.length p.cap, .int .i64 (i8:Int), .int .i64 (d:Int)]) st 0 rfl rfl rfl rfl rfl rfl rfl (fun h st=> ?_)))))))))))))
   refine WO.nil (WP.seq (WP.reg (WO.aB (v:= .int .i64 (a7:Int)) rfl (WO.nil (WP.ret ?_)))))
   exact ⟨_,(ak (aD (v:= .int .i64 (a7:Int)) rfl) (aF _ _)),aS.ok (x:=(a7,ns7)) (l:=l8) (by simp [Par.gT,Par.hd,hq,his2,hd40,m7,m8]) hl8 ⟨rfl,_,_,(((st.pick 4 rfl).tail.pick 3 rfl).pick 3 rfl)⟩⟩
theorem zi (D:gq c) {p:RP} {xb:Nat}:∀f,Reads c p xb f 108 (Par.unary f)∧Par.Good (Par.unary f) f
 |0=>⟨fun st hl hd hN hb=>absurd (List.length_eq_zero_iff.1 (Nat.le_zero.1 hN)) hl.ne,fun hl hr=>by cases hr⟩
 |f+1=>by
  obtain ⟨h1,h2⟩:=zi D (p:=p) (xb:=xb) f
  exact ⟨fun st hl hd hN hb=>unary_c D h1 h2 st hl hd hN hb,zQ h2⟩
theorem sj (D:gq c) {fs:List Fact} {h:Heap} {p:RP} {i d:Nat} {l:List Tok} (st:St (p.box i d::p.toks::fs) h) (hl:Left p i l) (hd:d≤40):
 gV c 82 [.ptr p.rb 0] h (aS p 80 (Par.expr d l) (fun a i v h1=>v.bM=some [v]∧St (.stb (fun h=>Rows 7 h v (a.map Nd.row))::p.box i d::p.toks::fs) h1) (St fs)):=by
 have hlen:=hl.len
 have hsm:=hl.small
 have hN:=Nat.le_refl l.length
 have hb:([]:List Nd).length+l.length<4294967296:=by simp;omega
 refine gV.dh D.f82 rfl (WP.seq (WP.reg (WO.aB (v:= .slN) rfl (WO.nil (WP.seq (WP.reg (WO.val (v:= .agg [.ptr p.rb 0, .slN]) (L.build rfl) (WO.bL st (L.box (l:=[.ptr p.rb 0, .slN]) rfl rfl) (fun b1 h st=> ?_)))))))))
 replace st:St (.box b1 [.ptr p.rb 0, .slN]:: .acc 0 7 .slN (([]:List Nd).map Nd.row)::(p.box i d)::p.toks::fs) h:=(st.acc0 7).pick 1 rfl
 refine WO.nil (WP.seq (WP.reg (WO.bE rfl (LF D (zi D l.length).1 (zi D (p:=p) (xb:=b1) l.length).2 st hl (by omega) (by first|exact hN|(simp only [List.length_cons] at hN;omega)|omega) (by first|exact hb|(simp only [List.length_cons] at hb;omega)|omega)) (fun e a h hm st=> ?_) ?_)))
 ·exact aS.pan (by simp [Par.expr,hm]) (st)
 rintro ⟨a1,ns1⟩ l1 _ h i1 m1 hl1 ⟨rfl,fam1,lv1,st⟩
 refine WO.nil (WP.seq (WP.reg (WO.val (v:= .ptr b1 0) rfl (WO.val (v:= .ptr b1 1) (L.aA rfl) (WO.aB (v:=lv1) (L.aC rfl (st.aj 0 rfl) rfl) (WO.nil (WP.ret ?_)))))))
 exact ⟨_,(ak (aD (v:=lv1) rfl) (aF _ _)),aS.ok (x:=ns1) (l:=l1) (by simp [Par.expr,m1]) hl1 ⟨(st.bQ 1 rfl).cells,(st.tail).shut (by decide)⟩⟩
end
end Go.Eng.YtjobofnpmmjeoaaGreatDoor.Pq
namespace Go.Eng.YtjobofnpmmjeoaaGreatDoor.Pq
open Go.Eng
noncomputable section
variable {c:Ctx}
theorem call_c (D:gq c) {fs:List Fact} {h:Heap} {p:RP} {i d sb at_:Nat} {l:List Tok} (st:St (.box sb [.int .i64 4, .int .i64 (at_:Int),L.str [],L.str [],L.str [], .bool false,L.str [],L.str [], .slN, .slN, .slN, .slN]::p.box i d::p.toks::fs) h) (hl:Left p i l) (hd:d≤40):
 gV c 83 [.ptr p.rb 0, .ptr sb 0] h (aS p 80 (Par.call d l) (fun a i v h1=>∃va,va.bM=some [va]∧St (.stb (fun h=>lM h va a.args):: .box sb [.int .i64 4, .int .i64 (at_:Int),L.str a.mod,L.str a.name,L.str [], .bool a.has,L.str a.tomod,L.str a.to, .slN,va, .slN, .slN]::p.box i d::p.toks::fs) h1) (St fs)):=by
 refine gV.dh D.f83 rfl (WP.seq (WP.reg (WO.bE rfl (Au D ((st.pick 2 rfl).pick 2 rfl) hl) (fun e a h hm st=> ?_) ?_)))
 ·exact aS.pan (by simp [Par.call,hm]) (st.tail)
 rintro a1 l1 _ h i1 m1 hl1 ⟨rfl,st⟩
 refine WO.val (v:=L.str a1.1) rfl (WO.val (v:=L.str a1.2) rfl (WO.val (v:= .ptr sb 0) rfl (WO.val (v:= .ptr sb 6) (L.aA rfl) (WO.aG (row':=[.int .i64 4, .int .i64 (at_:Int),L.str [],L.str [],L.str [], .bool false,L.str a1.1,L.str [], .slN, .slN, .slN, .slN]) st 2 rfl rfl rfl rfl rfl rfl rfl (fun h st=> ?_)))))
 refine WO.val (v:= .ptr sb 0) rfl (WO.val (v:= .ptr sb 7) (L.aA rfl) (WO.aG (row':=[.int .i64 4, .int .i64 (at_:Int),L.str [],L.str [],L.str [], .bool false,L.str a1.1,L.str a1.2, .slN, .slN, .slN, .slN]) st 2 rfl rfl rfl rfl rfl rfl rfl (fun h st=> ?_)))
 refine WO.nil (WP.seq (WP.seq (WP.reg (WO.aU rfl (kY (s:=[61]) D st hl1) ?_))))
 rintro _ h (⟨rfl,hi2,hl2,st⟩|⟨rfl,hi2,st⟩)
 ·replace st:St ((p.box (i1+1:Nat) d)::p.toks:: .box sb [.int .i64 4, .int .i64 (at_:Int),L.str [],L.str [],L.str [], .bool false,L.str a1.1,L.str a1.2, .slN, .slN, .slN, .slN]::fs) h:=st
  refine WO.nil (WP.cond (t:=true) rfl (WP.seq (WP.draw (WD.val (v:= .ptr sb 0) rfl (WD.val (v:= .ptr sb 0) rfl (WD.val (v:= .ptr sb 0) rfl (WD.val (v:= .ptr sb 0) rfl (WD.val (v:= .ptr sb 0) rfl (WD.val (v:= .ptr sb 6) (L.aA rfl) (WD.val (v:=L.str a1.1) (L.aC rfl (st.aj 2 rfl) rfl) (WD.val (v:= .ptr sb 0) rfl (WD.val (v:= .ptr sb 0) rfl (WD.val (v:= .ptr sb 7) (L.aA rfl) (WD.val (v:=L.str a1.2) (L.aC rfl (st.aj 2 rfl) rfl) (WD.val (v:= .ptr sb 0) rfl (WD.val (v:= .ptr sb 5) (L.aA rfl) (WD.aG (row':=[.int .i64 4, .int .i64 (at_:Int),L.str [],L.str [],L.str [], .bool true,L.str a1.1,L.str a1.2, .slN, .slN, .slN, .slN]) st 2 rfl rfl rfl rfl rfl rfl rfl (fun h st=>rfl) (fun h st=> ?_))))))))))))))))))
  refine WD.val (v:= .ptr sb 0) rfl (WD.val (v:= .ptr sb 2) (L.aA rfl) (WD.aG (row':=[.int .i64 4, .int .i64 (at_:Int),L.str a1.1,L.str [],L.str [], .bool true,L.str a1.1,L.str a1.2, .slN, .slN, .slN, .slN]) st 2 rfl rfl rfl rfl rfl rfl rfl (fun h st=>rfl) (fun h st=> ?_)))
  refine WD.val (v:= .ptr sb 0) rfl (WD.val (v:= .ptr sb 3) (L.aA rfl) (WD.aG (row':=[.int .i64 4, .int .i64 (at_:Int),L.str a1.1,L.str a1.2,L.str [], .bool true,L.str a1.1,L.str a1.2, .slN, .slN, .slN, .slN]) st 2 rfl rfl rfl rfl rfl rfl rfl (fun h st=>rfl) (fun h st=> ?_)))
  refine WD.nil (WP.reg (WO.bE rfl (Au D st hl2) (fun e a h hm st=> ?_) ?_))
  ·exact aS.pan (by simp [Par.call,hm,m1,hi2]) (st.tail)
  rintro a3 l3 _ h i3 m3 hl3 ⟨rfl,st⟩
  refine WO.val (v:=L.str a3.1) rfl (WO.val (v:=L.str a3.2) rfl (WO.val (v:= .ptr sb 0) rfl (WO.val (v:= .ptr sb 6) (L.aA rfl) (WO.aG (row':=[.int .i64 4, .int .i64 (at_:Int),L.str a1.1,L.str a1.2,L.str [], .bool true,L.str a3.1,L.str a1.2, .slN, .slN, .slN, .slN]) st 2 rfl rfl rfl rfl rfl rfl rfl (fun h st=> ?_)))))
  refine WO.val (v:= .ptr sb 0) rfl (WO.val (v:= .ptr sb 7) (L.aA rfl) (WO.aG (row':=[.int .i64 4, .int .i64 (at_:Int),L.str a1.1,L.str a1.2,L.str [], .bool true,L.str a3.1,L.str a3.2, .slN, .slN, .slN, .slN]) st 2 rfl rfl rfl rfl rfl rfl rfl (fun h st=> ?_)))
  refine WO.nil (WP.seq (WP.reg (WO.bE rfl (eT (s:=[40]) D st hl3) (fun e a h hm st=> ?_) ?_)))
  ·exact aS.pan (by simp [Par.call,Par.jR,hm,m1,hi2,m3]) (st.tail)
  rintro a4 l4 _ h i4 m4 hl4 ⟨rfl,st⟩
  refine WO.nil (WP.block ?_)
  replace st:St (.acc 0 1 .slN (([]:List V).map fun x=>[x]):: .stb (fun h=>bH h ([]) ([]))::(p.box i4 d)::p.toks:: .box sb [.int .i64 4, .int .i64 (at_:Int),L.str a1.1,L.str a1.2,L.str [], .bool true,L.str a3.1,L.str a3.2, .slN, .slN, .slN, .slN]::fs) h:=((st.acc0 1).pick 0 rfl |> fun st=>((St.pure st (Q:=True) trivial).iA (Q:=fun h=>bH h [] []) (fun _ _=>trivial)).pick 1 rfl)
  refine WP.eO (α:=Nat) (fun k env h=>∃l2 i2 as2 vs2 f2 va2 x3 x4,(Par.iC d l4.length l4 []=Par.iC d k l2 as2∧l2.length≤k∧Left p i2 l2∧as2.length+l2.length≤l4.length)∧env=bG [.ptr p.rb 0, .ptr sb 0, .bool true,x3,x4] 0 Env.nil∧St (.box sb [.int .i64 4, .int .i64 (at_:Int),L.str a1.1,L.str a1.2,L.str [], .bool true,L.str a3.1,L.str a3.2, .slN,va2, .slN, .slN]:: .acc f2 1 va2 (vs2.map fun x=>[x]):: .stb (fun h=>bH h as2 vs2)::(p.box i2 d)::p.toks::fs) h) (fun k=>k) l4.length ?_ ?_
  ·exact ⟨l4,i4,[],[],0, .slN, .bot, .bot,⟨rfl,Nat.le_refl _,hl4,by simp⟩,by kernel_rfl,(st.pick 4 rfl)⟩
  rintro k _ h ⟨l2,i2,as2,vs2,f2,va2,x3,x4,⟨hs,hk,hl2,hal⟩,rfl,st⟩
  have hlp:=List.length_pos_iff.2 hl2.ne
  have hl0n:=hl4.len
  obtain ⟨k,rfl⟩:∃m,k=m+1:=⟨k - 1,by omega⟩
  refine WP.seq (WP.seq (WP.reg (WO.aM rfl (kY (s:=[41]) D ((st.pick 4 rfl).pick 4 rfl) hl2) ?_)))
  rintro _ h (⟨rfl,hi5,hl5,st⟩|⟨rfl,hi5,st⟩)
  ·replace st:St ((p.box (i2+1:Nat) d)::p.toks:: .box sb [.int .i64 4, .int .i64 (at_:Int),L.str a1.1,L.str a1.2,L.str [], .bool true,L.str a3.1,L.str a3.2, .slN,va2, .slN, .slN]:: .acc f2 1 va2 (vs2.map fun x=>[x]):: .stb (fun h=>bH h as2 vs2)::fs) h:=st
   refine WO.aB (v:= .bool false) rfl (WO.nil (WP.cond (t:=false) rfl (WP.exit ?_)))
   have hsh:St (.stb (fun h=>Rows 1 h va2 (vs2.map fun x=>[x])):: .stb (fun h=>bH h as2 vs2):: .box sb [.int .i64 4, .int .i64 (at_:Int),L.str a1.1,L.str a1.2,L.str [], .bool true,L.str a3.1,L.str a3.2, .slN,va2, .slN, .slN]::p.box (i2+1) d::p.toks::fs) h:=((((st.pick 2 rfl).pick 4 rfl).pick 4 rfl)).shut (by decide)
   exact ⟨_,(aF _ _),aS.ok (x:=⟨true,a1.1,a1.2,a3.1,a3.2,as2⟩) (l:=l2.tail) (by simp [Par.call,Par.jR,Par.iC,m1,hi2,m3,m4,hs,hi5]) (hl2.is hi5) ⟨va2,(st.bQ 3 rfl).cells,hsh.and.iA (fun h hx=>⟨_,hx.1,hx.2⟩)⟩⟩
  ·replace st:St ((p.box i2 d)::p.toks:: .box sb [.int .i64 4, .int .i64 (at_:Int),L.str a1.1,L.str a1.2,L.str [], .bool true,L.str a3.1,L.str a3.2, .slN,va2, .slN, .slN]:: .acc f2 1 va2 (vs2.map fun x=>[x]):: .stb (fun h=>bH h as2 vs2)::fs) h:=st
   refine WO.aB (v:= .bool true) rfl (WO.nil (WP.cond (t:=true) rfl (WP.skip (WP.block (WP.seq (WP.seq (WP.reg (WO.val (v:= .ptr sb 0) rfl (WO.val (v:= .ptr sb 9) (L.aA rfl) (WO.val (v:=va2) (L.aC rfl (st.aj 2 rfl) rfl) ?_))))))))))
   have hvl:=(st.aJ 4 rfl:bH h as2 vs2).len
   refine WO.val (v:= .int .i64 (vs2.length:Int)) ((L.QO rfl (st.bQ 3 rfl)).trans (by simp)) (WO.ifS (L.gtr rfl rfl) (fun c1=> ?_) (fun c1=> ?_))
   ·replace c1:0<vs2.length:=by omega
    obtain ⟨a0,as',has⟩:∃a0 as',as2=a0::as':=List.exists_cons_of_length_pos (by omega)
    refine WO.nil (WP.cond (t:=true) rfl (WP.reg (WO.bE rfl (eT (s:=[44]) D st hl2) (fun e a h hm st=> ?_) ?_)))
    ·exact aS.pan (by simp [Par.call,Par.jR,Par.iC,has,hm,m1,hi2,m3,m4,hs,hi5,c1]) (st.tail.tail.tail)
    rintro a6 l6 _ h i6 m6 hl6 ⟨rfl,st⟩
    refine WO.nil (WP.draw (WD.val (v:= .ptr sb 0) rfl (WD.val (v:= .ptr sb 0) rfl (WD.val (v:= .ptr sb 0) rfl (WD.val (v:= .ptr sb 9) (L.aA rfl) (WD.val (v:=va2) (L.aC rfl (st.aj 2 rfl) rfl) (WD.val (v:= .ptr p.rb 0) rfl (WD.bE rfl (sj D st hl6 (by omega)) (fun e a h hm st=> ?_) (fun _ _ h _ hp=> ?_) ?_))))))))
    ·exact aS.pan (by simp [Par.call,Par.jR,Par.iC,has,hm,m1,hi2,m3,m4,hs,hi5,c1,m6]) (st.tail.tail.tail)
    ·obtain ⟨hc7,st⟩:=hp
     exact aR (by first|exact av (L.aC rfl (st.aj 1 rfl) rfl)|exact aH st 1 rfl|exact av (L.aK rfl (st.aj 1 rfl) rfl rfl rfl)|exact av (L.aC rfl (st.aj 3 rfl) rfl)|exact aH st 3 rfl|exact av (L.aK rfl (st.aj 3 rfl) rfl rfl rfl)) (bC _ _)
    rintro a7 l7 v7 h i7 m7 hl7 ⟨hc7,st⟩
    refine WD.iY (rows:=[[v7]]) st (qL hc7) (by decide) rfl (by simp) (fun bs1 h _ st=> ?_)
    refine WD.rX st 5 rfl rfl rfl (st.aJ 0 rfl) (by decide) (by have:=hl2.small;simp;omega) (fun _ _ h st=>rfl) (fun f8 v8 h st=> ?_)
    rw [show (vs2.map fun x=>[x])++[[v7]]=(vs2++[v7]).map fun x=>[x] from by simp] at st
    obtain ⟨ab8,rfl⟩:=(st.bQ 5 rfl).ne (by simp)
    refine WD.val (v:= .ptr sb 0) rfl (WD.val (v:= .ptr sb 9) (L.aA rfl) (WD.aG (row':=[.int .i64 4, .int .i64 (at_:Int),L.str a1.1,L.str a1.2,L.str [], .bool true,L.str a3.1,L.str a3.2, .slN, .sl ab8 0 (((vs2++[v7]).map fun x=>[x]).length) none, .slN, .slN]) st 4 rfl rfl rfl rfl rfl rfl rfl (fun h st=>rfl) (fun h st=> ?_)))
    replace st:=((((st.pick 6 rfl).pick 2 rfl)).and).iA (fun h hx=>hx.2.snoc hx.1)
    refine WD.nil ?_
    exact ⟨k,(Nat.lt_succ_self _),l7,i7,(as2++[a7]),(vs2++[v7]),f8,(.sl ab8 0 ((vs2++[v7]).map fun x=>[x]).length none),(.bool true),(.bool true),⟨by rw [hs];simp [Par.iC,has,hi5,m6,m7],(by have _:=Par.aW m6;have _:=hl6.len;have _:=fZ m7;have _:=hl7.len;omega),hl7,(by have _:=Par.aW m6;have _:=hl6.len;have _:=fZ m7;have _:=hl7.len;simp;omega)⟩,by kernel_rfl,(((st.pick 1 rfl).tail.pick 4 rfl).pick 4 rfl)⟩
   ·replace c1:vs2.length=0:=by omega
    have has:as2=[]:=List.length_eq_zero_iff.1 (by omega)
    refine WO.nil (WP.cond (t:=false) rfl (WP.skip (WP.draw (WD.val (v:= .ptr sb 0) rfl (WD.val (v:= .ptr sb 0) rfl (WD.val (v:= .ptr sb 0) rfl (WD.val (v:= .ptr sb 9) (L.aA rfl) (WD.val (v:=va2) (L.aC rfl (st.aj 2 rfl) rfl) (WD.val (v:= .ptr p.rb 0) rfl (WD.bE rfl (sj D st hl2 (by omega)) (fun e a h hm st=> ?_) (fun _ _ h _ hp=> ?_) ?_))))))))))
    ·exact aS.pan (by simp [Par.call,Par.jR,Par.iC,has,hm,m1,hi2,m3,m4,hs,hi5,c1]) (st.tail.tail.tail)
    ·obtain ⟨hc9,st⟩:=hp
     exact aR (by first|exact av (L.aC rfl (st.aj 1 rfl) rfl)|exact aH st 1 rfl|exact av (L.aK rfl (st.aj 1 rfl) rfl rfl rfl)|exact av (L.aC rfl (st.aj 3 rfl) rfl)|exact aH st 3 rfl|exact av (L.aK rfl (st.aj 3 rfl) rfl rfl rfl)) (bC _ _)
    rintro a9 l9 v9 h i9 m9 hl9 ⟨hc9,st⟩
    refine WD.iY (rows:=[[v9]]) st (qL hc9) (by decide) rfl (by simp) (fun bs2 h _ st=> ?_)
    refine WD.rX st 5 rfl rfl rfl (st.aJ 0 rfl) (by decide) (by have:=hl2.small;simp;omega) (fun _ _ h st=>rfl) (fun f10 v10 h st=> ?_)
    rw [show (vs2.map fun x=>[x])++[[v9]]=(vs2++[v9]).map fun x=>[x] from by simp] at st
    obtain ⟨ab10,rfl⟩:=(st.bQ 5 rfl).ne (by simp)
    refine WD.val (v:= .ptr sb 0) rfl (WD.val (v:= .ptr sb 9) (L.aA rfl) (WD.aG (row':=[.int .i64 4, .int .i64 (at_:Int),L.str a1.1,L.str a1.2,L.str [], .bool true,L.str a3.1,L.str a3.2, .slN, .sl ab10 0 (((vs2++[v9]).map fun x=>[x]).length) none, .slN, .slN]) st 4 rfl rfl rfl rfl rfl rfl rfl (fun h st=>rfl) (fun h st=> ?_)))
    replace st:=((((st.pick 6 rfl).pick 2 rfl)).and).iA (fun h hx=>hx.2.snoc hx.1)
    refine WD.nil ?_
    exact ⟨k,(Nat.lt_succ_self _),l9,i9,(as2++[a9]),(vs2++[v9]),f10,(.sl ab10 0 ((vs2++[v9]).map fun x=>[x]).length none),(.bool true),(.bool false),⟨by rw [hs];simp [Par.iC,has,hi5,m9],(by have _:=fZ m9;have _:=hl9.len;omega),hl9,(by have _:=fZ m9;have _:=hl9.len;simp;omega)⟩,by kernel_rfl,(((st.pick 1 rfl).tail.pick 4 rfl).pick 4 rfl)⟩
 ·replace st:St ((p.box i1 d)::p.toks:: .box sb [.int .i64 4, .int .i64 (at_:Int),L.str [],L.str [],L.str [], .bool false,L.str a1.1,L.str a1.2, .slN, .slN, .slN, .slN]::fs) h:=st
  refine WO.nil (WP.cond (t:=false) rfl (WP.skip (WP.seq (WP.reg (WO.bE rfl (eT (s:=[40]) D st hl1) (fun e a h hm st=> ?_) ?_)))))
  ·exact aS.pan (by simp [Par.call,Par.jR,hm,m1,hi2]) (st.tail)
  rintro a11 l11 _ h i11 m11 hl11 ⟨rfl,st⟩
  refine WO.nil (WP.block ?_)
  replace st:St (.acc 0 1 .slN (([]:List V).map fun x=>[x]):: .stb (fun h=>bH h ([]) ([]))::(p.box i11 d)::p.toks:: .box sb [.int .i64 4, .int .i64 (at_:Int),L.str [],L.str [],L.str [], .bool false,L.str a1.1,L.str a1.2, .slN, .slN, .slN, .slN]::fs) h:=((st.acc0 1).pick 0 rfl |> fun st=>((St.pure st (Q:=True) trivial).iA (Q:=fun h=>bH h [] []) (fun _ _=>trivial)).pick 1 rfl)
  refine WP.eO (α:=Nat) (fun k env h=>∃l2 i2 as2 vs2 f2 va2 x3 x4,(Par.iC d l11.length l11 []=Par.iC d k l2 as2∧l2.length≤k∧Left p i2 l2∧as2.length+l2.length≤l11.length)∧env=bG [.ptr p.rb 0, .ptr sb 0, .bool false,x3,x4] 0 Env.nil∧St (.box sb [.int .i64 4, .int .i64 (at_:Int),L.str [],L.str [],L.str [], .bool false,L.str a1.1,L.str a1.2, .slN,va2, .slN, .slN]:: .acc f2 1 va2 (vs2.map fun x=>[x]):: .stb (fun h=>bH h as2 vs2)::(p.box i2 d)::p.toks::fs) h) (fun k=>k) l11.length ?_ ?_
  ·exact ⟨l11,i11,[],[],0, .slN, .bot, .bot,⟨rfl,Nat.le_refl _,hl11,by simp⟩,by kernel_rfl,(st.pick 4 rfl)⟩
  rintro k _ h ⟨l2,i2,as2,vs2,f2,va2,x3,x4,⟨hs,hk,hl2,hal⟩,rfl,st⟩
  have hlp:=List.length_pos_iff.2 hl2.ne
  have hl0n:=hl11.len
  obtain ⟨k,rfl⟩:∃m,k=m+1:=⟨k - 1,by omega⟩
  refine WP.seq (WP.seq (WP.reg (WO.aM rfl (kY (s:=[41]) D ((st.pick 4 rfl).pick 4 rfl) hl2) ?_)))
  rintro _ h (⟨rfl,hi12,hl12,st⟩|⟨rfl,hi12,st⟩)
  ·replace st:St ((p.box (i2+1:Nat) d)::p.toks:: .box sb [.int .i64 4, .int .i64 (at_:Int),L.str [],L.str [],L.str [], .bool false,L.str a1.1,L.str a1.2, .slN,va2, .slN, .slN]:: .acc f2 1 va2 (vs2.map fun x=>[x]):: .stb (fun h=>bH h as2 vs2)::fs) h:=st
   refine WO.aB (v:= .bool false) rfl (WO.nil (WP.cond (t:=false) rfl (WP.exit ?_)))
   have hsh:St (.stb (fun h=>Rows 1 h va2 (vs2.map fun x=>[x])):: .stb (fun h=>bH h as2 vs2):: .box sb [.int .i64 4, .int .i64 (at_:Int),L.str [],L.str [],L.str [], .bool false,L.str a1.1,L.str a1.2, .slN,va2, .slN, .slN]::p.box (i2+1) d::p.toks::fs) h:=((((st.pick 2 rfl).pick 4 rfl).pick 4 rfl)).shut (by decide)
   exact ⟨_,(aF _ _),aS.ok (x:=⟨false,[],[],a1.1,a1.2,as2⟩) (l:=l2.tail) (by simp [Par.call,Par.jR,Par.iC,m1,hi2,m11,hs,hi12]) (hl2.is hi12) ⟨va2,(st.bQ 3 rfl).cells,hsh.and.iA (fun h hx=>⟨_,hx.1,hx.2⟩)⟩⟩
  ·replace st:St ((p.box i2 d)::p.toks:: .box sb [.int .i64 4, .int .i64 (at_:Int),L.str [],L.str [],L.str [], .bool false,L.str a1.1,L.str a1.2, .slN,va2, .slN, .slN]:: .acc f2 1 va2 (vs2.map fun x=>[x]):: .stb (fun h=>bH h as2 vs2)::fs) h:=st
   refine WO.aB (v:= .bool true) rfl (WO.nil (WP.cond (t:=true) rfl (WP.skip (WP.block (WP.seq (WP.seq (WP.reg (WO.val (v:= .ptr sb 0) rfl (WO.val (v:= .ptr sb 9) (L.aA rfl) (WO.val (v:=va2) (L.aC rfl (st.aj 2 rfl) rfl) ?_))))))))))
   have hvl:=(st.aJ 4 rfl:bH h as2 vs2).len
   refine WO.val (v:= .int .i64 (vs2.length:Int)) ((L.QO rfl (st.bQ 3 rfl)).trans (by simp)) (WO.ifS (L.gtr rfl rfl) (fun c2=> ?_) (fun c2=> ?_))
   ·replace c2:0<vs2.length:=by omega
    obtain ⟨a0,as',has⟩:∃a0 as',as2=a0::as':=List.exists_cons_of_length_pos (by omega)
    refine WO.nil (WP.cond (t:=true) rfl (WP.reg (WO.bE rfl (eT (s:=[44]) D st hl2) (fun e a h hm st=> ?_) ?_)))
    ·exact aS.pan (by simp [Par.call,Par.jR,Par.iC,has,hm,m1,hi2,m11,hs,hi12,c2]) (st.tail.tail.tail)
    rintro a13 l13 _ h i13 m13 hl13 ⟨rfl,st⟩
    refine WO.nil (WP.draw (WD.val (v:= .ptr sb 0) rfl (WD.val (v:= .ptr sb 0) rfl (WD.val (v:= .ptr sb 0) rfl (WD.val (v:= .ptr sb 9) (L.aA rfl) (WD.val (v:=va2) (L.aC rfl (st.aj 2 rfl) rfl) (WD.val (v:= .ptr p.rb 0) rfl (WD.bE rfl (sj D st hl13 (by omega)) (fun e a h hm st=> ?_) (fun _ _ h _ hp=> ?_) ?_))))))))
    ·exact aS.pan (by simp [Par.call,Par.jR,Par.iC,has,hm,m1,hi2,m11,hs,hi12,c2,m13]) (st.tail.tail.tail)
    ·obtain ⟨hc14,st⟩:=hp
     exact aR (by first|exact av (L.aC rfl (st.aj 1 rfl) rfl)|exact aH st 1 rfl|exact av (L.aK rfl (st.aj 1 rfl) rfl rfl rfl)|exact av (L.aC rfl (st.aj 3 rfl) rfl)|exact aH st 3 rfl|exact av (L.aK rfl (st.aj 3 rfl) rfl rfl rfl)) (bC _ _)
    rintro a14 l14 v14 h i14 m14 hl14 ⟨hc14,st⟩
    refine WD.iY (rows:=[[v14]]) st (qL hc14) (by decide) rfl (by simp) (fun bs3 h _ st=> ?_)
    refine WD.rX st 5 rfl rfl rfl (st.aJ 0 rfl) (by decide) (by have:=hl2.small;simp;omega) (fun _ _ h st=>rfl) (fun f15 v15 h st=> ?_)
    rw [show (vs2.map fun x=>[x])++[[v14]]=(vs2++[v14]).map fun x=>[x] from by simp] at st
    obtain ⟨ab15,rfl⟩:=(st.bQ 5 rfl).ne (by simp)
    refine WD.val (v:= .ptr sb 0) rfl (WD.val (v:= .ptr sb 9) (L.aA rfl) (WD.aG (row':=[.int .i64 4, .int .i64 (at_:Int),L.str [],L.str [],L.str [], .bool false,L.str a1.1,L.str a1.2, .slN, .sl ab15 0 (((vs2++[v14]).map fun x=>[x]).length) none, .slN, .slN]) st 4 rfl rfl rfl rfl rfl rfl rfl (fun h st=>rfl) (fun h st=> ?_)))
    replace st:=((((st.pick 6 rfl).pick 2 rfl)).and).iA (fun h hx=>hx.2.snoc hx.1)
    refine WD.nil ?_
    exact ⟨k,(Nat.lt_succ_self _),l14,i14,(as2++[a14]),(vs2++[v14]),f15,(.sl ab15 0 ((vs2++[v14]).map fun x=>[x]).length none),(.bool true),(.bool true),⟨by rw [hs];simp [Par.iC,has,hi12,m13,m14],(by have _:=Par.aW m13;have _:=hl13.len;have _:=fZ m14;have _:=hl14.len;omega),hl14,(by have _:=Par.aW m13;have _:=hl13.len;have _:=fZ m14;have _:=hl14.len;simp;omega)⟩,by kernel_rfl,(((st.pick 1 rfl).tail.pick 4 rfl).pick 4 rfl)⟩
   ·replace c2:vs2.length=0:=by omega
    have has:as2=[]:=List.length_eq_zero_iff.1 (by omega)
    refine WO.nil (WP.cond (t:=false) rfl (WP.skip (WP.draw (WD.val (v:= .ptr sb 0) rfl (WD.val (v:= .ptr sb 0) rfl (WD.val (v:= .ptr sb 0) rfl (WD.val (v:= .ptr sb 9) (L.aA rfl) (WD.val (v:=va2) (L.aC rfl (st.aj 2 rfl) rfl) (WD.val (v:= .ptr p.rb 0) rfl (WD.bE rfl (sj D st hl2 (by omega)) (fun e a h hm st=> ?_) (fun _ _ h _ hp=> ?_) ?_))))))))))
    ·exact aS.pan (by simp [Par.call,Par.jR,Par.iC,has,hm,m1,hi2,m11,hs,hi12,c2]) (st.tail.tail.tail)
    ·obtain ⟨hc16,st⟩:=hp
     exact aR (by first|exact av (L.aC rfl (st.aj 1 rfl) rfl)|exact aH st 1 rfl|exact av (L.aK rfl (st.aj 1 rfl) rfl rfl rfl)|exact av (L.aC rfl (st.aj 3 rfl) rfl)|exact aH st 3 rfl|exact av (L.aK rfl (st.aj 3 rfl) rfl rfl rfl)) (bC _ _)
    rintro a16 l16 v16 h i16 m16 hl16 ⟨hc16,st⟩
    refine WD.iY (rows:=[[v16]]) st (qL hc16) (by decide) rfl (by simp) (fun bs4 h _ st=> ?_)
    refine WD.rX st 5 rfl rfl rfl (st.aJ 0 rfl) (by decide) (by have:=hl2.small;simp;omega) (fun _ _ h st=>rfl) (fun f17 v17 h st=> ?_)
    rw [show (vs2.map fun x=>[x])++[[v16]]=(vs2++[v16]).map fun x=>[x] from by simp] at st
    obtain ⟨ab17,rfl⟩:=(st.bQ 5 rfl).ne (by simp)
    refine WD.val (v:= .ptr sb 0) rfl (WD.val (v:= .ptr sb 9) (L.aA rfl) (WD.aG (row':=[.int .i64 4, .int .i64 (at_:Int),L.str [],L.str [],L.str [], .bool false,L.str a1.1,L.str a1.2, .slN, .sl ab17 0 (((vs2++[v16]).map fun x=>[x]).length) none, .slN, .slN]) st 4 rfl rfl rfl rfl rfl rfl rfl (fun h st=>rfl) (fun h st=> ?_)))
    replace st:=((((st.pick 6 rfl).pick 2 rfl)).and).iA (fun h hx=>hx.2.snoc hx.1)
    refine WD.nil ?_
    exact ⟨k,(Nat.lt_succ_self _),l16,i16,(as2++[a16]),(vs2++[v16]),f17,(.sl ab17 0 ((vs2++[v16]).map fun x=>[x]).length none),(.bool true),(.bool false),⟨by rw [hs];simp [Par.iC,has,hi12,m16],(by have _:=fZ m16;have _:=hl16.len;omega),hl16,(by have _:=fZ m16;have _:=hl16.len;simp;omega)⟩,by kernel_rfl,(((st.pick 1 rfl).tail.pick 4 rfl).pick 4 rfl)⟩
def BlkOk (c:Ctx) (p:RP) (blk:Par.Bk) (N:Nat):Prop:=∀{fs:List Fact} {h:Heap} {i d:Nat} {l:List Tok},St (p.box i d::p.toks::fs) h→Left p i l→d≤40→l.length≤N→
 gV c 65 [.ptr p.rb 0] h (aS p 80 (blk d l) (fun a i1 v h1=>i<i1∧v.bM=some [v]∧St (.stb (fun h=>iD h v a)::p.box i1 d::p.toks::fs) h1) (St fs))
def StmOk (c:Ctx) (p:RP) (stm:Nat→List Tok→Par.R Sm) (N:Nat):Prop:=∀{fs:List Fact} {h:Heap} {i d:Nat} {l:List Tok},St (p.box i d::p.toks::fs) h→Left p i l→d≤40→l.length≤N→
 gV c 74 [.ptr p.rb 0] h (aS p 80 (stm d l) (fun a i1 v h1=>∃row,v= .agg row∧row.length=12∧i<i1∧St (.stb (fun h=>SmR h a row)::p.box i1 d::p.toks::fs) h1) (St fs))
theorem LG (D:gq c) {p:RP} {N:Nat} {stm:Nat→List Tok→Par.R Sm} (hstm:StmOk c p stm N) {fs:List Fact} {h:Heap} {i d:Nat} {l:List Tok} (st:St (p.box i d::p.toks::fs) h) (hl:Left p i l) (hd:d≤40) (hN:l.length≤N+1):
 gV c 65 [.ptr p.rb 0] h (aS p 80 (Par.kQ stm d l) (fun a i1 v h1=>i<i1∧v.bM=some [v]∧St (.stb (fun h=>iD h v a)::p.box i1 d::p.toks::fs) h1) (St fs)):=by
 refine gV.dh D.f65 rfl (WP.seq (WP.reg (WO.aB (v:= .slN) rfl (WO.nil (WP.seq (WP.seq (WP.reg (WO.aM rfl (is_c (s:=[123]) D st hl) ?_))))))))
 rintro _ h ⟨rfl,st⟩
 cases hb:Par.is [123] l
 ·refine WO.aB (v:= .bool true) rfl (WO.nil (WP.cond (t:=true) rfl (WP.reg (WO.o6 rfl (FN D st hl) (fun h st=> ?_)))))
  exact aS.pan (by simp [Par.kQ,Par.fail,hb]) st
 ·refine WO.aB (v:= .bool false) rfl (WO.nil (WP.cond (t:=false) rfl (WP.skip (WP.seq (WP.reg ?_)))))
  by_cases hd40:40≤d
  ·refine WO.o6 rfl (CY D st hl hd40) (fun h st=> ?_)
   exact aS.pan (by simp [Par.kQ,Par.fail,hb,hd40]) st
  refine WO.aM rfl (yw D st hl hd40) ?_
  rintro _ h ⟨rfl,st⟩
  refine WO.nil (WP.seq (WP.reg (WO.val (v:= .ptr p.rb 0) rfl (WO.val (v:= .ptr p.rb 1) (L.aA rfl) (WO.val (v:= .int .i64 (i:Int)) (L.aC rfl (st.aj 0 rfl) rfl) ?_)))))
  have hl0:Left p (i+1) l.tail:=hl.is hb
  refine WO.val (v:= .int .i64 ((i+1:Nat):Int)) (L.fQ rfl rfl (by omega) (And.intro (by omega) (by have:=hl.lt;have:=hl.small;omega))) (WO.val (v:= .ptr p.rb 0) rfl (WO.val (v:= .ptr p.rb 1) (L.aA rfl) (WO.aG (row':=[.sl p.tb p.to p.ts.length p.cap, .int .i64 ((i+1:Nat):Int), .int .i64 ((d+1:Nat):Int)]) st 0 rfl rfl rfl rfl rfl rfl rfl (fun h st=> ?_))))
  refine WO.nil (WP.seq (WP.reg (WO.aB (v:= .slN) rfl (WO.nil (WP.seq (WP.block ?_))))))
  replace st:St (.acc 0 12 .slN ([]):: .stb (fun h=>bF h ([]) ([]))::(p.box (i+1:Nat) (d+1:Nat))::p.toks::fs) h:=((st.acc0 12) |> fun st=>((St.pure st (Q:=True) trivial).iA (Q:=fun h=>bF h [] []) (fun _ _=>bF.nil)).pick 1 rfl)
  refine WP.eO (α:=Nat) (fun k env h=>∃lz iz ssz rsz fz vaz x3,(Par.jg stm (d+1) l.tail.length l.tail []=Par.jg stm (d+1) k lz ssz∧lz.length≤k∧Left p iz lz∧rsz.length+lz.length≤l.tail.length∧i<iz)∧env=bG [.ptr p.rb 0, .slN, .bool false,x3,vaz] 0 Env.nil∧St (.acc fz 12 vaz rsz:: .stb (fun h=>bF h ssz rsz)::(p.box iz (d+1:Nat))::p.toks::fs) h) (fun k=>k) l.tail.length ?_ ?_
  ·exact ⟨l.tail,(i+1),[],[],0, .slN, .bot,⟨rfl,Nat.le_refl _,hl0,(by show 0+l.tail.length≤l.tail.length;omega),Nat.lt_succ_self _⟩,by kernel_rfl,st⟩
  rintro k _ h ⟨lz,iz,ssz,rsz,fz,vaz,x3,⟨hs,hk,hlz,hal,hii⟩,rfl,st⟩
  have hlp:=List.length_pos_iff.2 hlz.ne
  have hl0n:=hl.len
  have htl:=List.length_tail (l:=l)
  have hbp:=Par.gK hb
  obtain ⟨k,rfl⟩:∃m,k=m+1:=⟨k - 1,by omega⟩
  refine WP.seq (WP.seq (WP.reg (WO.aM rfl (kY (s:=[125]) D ((st.pick 3 rfl).pick 3 rfl) hlz) ?_)))
  rintro _ h (⟨rfl,hi1,hl1,st⟩|⟨rfl,hi1,st⟩)
  ·replace st:St ((p.box (iz+1:Nat) (d+1:Nat))::p.toks:: .acc fz 12 vaz rsz:: .stb (fun h=>bF h ssz rsz)::fs) h:=st
   refine WO.aB (v:= .bool false) rfl (WO.nil (WP.cond (t:=false) rfl (WP.exit (WP.seq (WP.reg (WO.val (v:= .ptr p.rb 0) rfl (WO.val (v:= .ptr p.rb 2) (L.aA rfl) (WO.val (v:= .int .i64 ((d+1:Nat):Int)) (L.aC rfl (st.aj 0 rfl) rfl) (WO.val (v:= .int .i64 (d:Int)) (L.rV rfl rfl (by omega) (And.intro (by omega) (by omega))) (WO.val (v:= .ptr p.rb 0) rfl (WO.val (v:= .ptr p.rb 2) (L.aA rfl) (WO.aG (row':=[.sl p.tb p.to p.ts.length p.cap, .int .i64 ((iz+1:Nat):Int), .int .i64 (d:Int)]) st 0 rfl rfl rfl rfl rfl rfl rfl (fun h st=> ?_)))))))))))))
   refine WO.nil (WP.seq (WP.reg (WO.aB (v:=vaz) rfl (WO.nil (WP.ret ?_)))))
   have hac:=(st.bQ 2 rfl).cells
   exact ⟨_,(ak (aD (v:=vaz) rfl) (aF _ _)),aS.ok (x:=ssz) (l:=lz.tail) (by simp [Par.kQ,Par.jg,hb,hd40,hs,hi1, -List.length_tail]) (hlz.is hi1) ⟨by omega,hac,((((st.pick 3 rfl).pick 3 rfl)).shut (by decide)).and.iA (fun h hx=>⟨_,hx.1,hx.2⟩)⟩⟩
  ·replace st:St ((p.box iz (d+1:Nat))::p.toks:: .acc fz 12 vaz rsz:: .stb (fun h=>bF h ssz rsz)::fs) h:=st
   refine WO.aB (v:= .bool true) rfl (WO.nil (WP.cond (t:=true) rfl (WP.skip (WP.block (WP.reg (WO.bE rfl (hstm st hlz (by omega) (by omega)) (fun e a h hm st=> ?_) ?_))))))
   ·exact aS.pan (by simp [Par.kQ,Par.jg, -List.length_tail,hm,hb,hd40,hs,hi1]) (st.tail.tail)
   rintro a2 l2 _ h i2 m2 hl2 ⟨row2,rfl,hr2,hlt2,st⟩
   refine WO.iY (rows:=[row2]) st (yc rfl hr2) (by decide) rfl (by simpa using hr2) (fun bs1 h st=> ?_)
   refine WO.kN st 4 rfl rfl rfl (st.aJ 0 rfl) (by decide) (by have:=hlz.small;have:=hl.small;simp;omega) (fun f3 v3 h st=> ?_)
   obtain ⟨ab3,rfl⟩:=(st.bQ 4 rfl).ne (by simp)
   replace st:=((((st.pick 5 rfl).pick 2 rfl)).and).iA (fun h hx=>hx.2.snoc hx.1)
   refine WO.nil ?_
   exact ⟨k,(Nat.lt_succ_self _),l2,i2,(ssz++[a2]),(rsz++[row2]),f3,(.sl ab3 0 (rsz++[row2]).length none),(.bool true),⟨by rw [hs];simp [Par.jg,hi1,m2],(by have _:=hlz.len;have _:=hlz.lt;have _:=hl2.len;omega),hl2,(by have _:=hlz.len;have _:=hlz.lt;have _:=hl2.len;simp;omega),by omega⟩,by kernel_rfl,((st.pick 1 rfl).tail.pick 3 rfl)⟩
theorem vK (D:gq c) {fs:List Fact} {h:Heap} {p:RP} {i d:Nat} {l:List Tok} (st:St (p.box i d::p.toks::fs) h) (hl:Left p i l):aV c 36 [.ptr p.rb 0] h fun v h1=>v= .agg (Par.hd l).row∧St (p.box i d::p.toks::fs) h1:=by
 obtain ⟨t,l,rfl⟩:=hl.cons
 exact zU D st hl
theorem stmt_c (D:gq c) {p:RP} {N:Nat} {blk:Par.Bk} (hblk:BlkOk c p blk N) {fs:List Fact} {h:Heap} {i d:Nat} {l:List Tok} (st:St (p.box i d::p.toks::fs) h) (hl:Left p i l) (hd:d≤40) (hN:l.length≤N+1):
 gV c 74 [.ptr p.rb 0] h (aS p 80 (Par.dG blk d l) (fun a i1 v h1=>∃row,v= .agg row∧row.length=12∧i<i1∧St (.stb (fun h=>SmR h a row)::p.box i1 d::p.toks::fs) h1) (St fs)):=by
 refine gV.dh D.f74 rfl (WP.seq (WP.reg (WO.bL st L.alloc (fun rb_ h st=> ?_))))
 refine WO.nil (WP.seq (WP.reg (WO.aM rfl (vK D ((st.pick 2 rfl).pick 2 rfl) hl) ?_)))
 rintro _ h ⟨rfl,st⟩
 refine WO.val (v:= .int .i64 (Par.here l:Int)) rfl (WO.val (v:= .agg [.int .i64 0, .int .i64 (Par.here l:Int), .str 0 0, .str 0 0, .str 0 0, .bool false, .str 0 0, .str 0 0, .slN, .slN, .slN, .slN]) (L.build rfl) (WO.bL st L.alloc (fun sb h st=> ?_)))
 refine WO.aG (row':=[.int .i64 0, .int .i64 (Par.here l:Int), .str 0 0, .str 0 0, .str 0 0, .bool false, .str 0 0, .str 0 0, .slN, .slN, .slN, .slN]) st 0 rfl rfl rfl rfl rfl rfl rfl (fun h st=> ?_)
 refine WO.nil (WP.seq (WP.block (WP.seq (WP.reg (WO.aU rfl (kY (s:=[105,102]) D ((st.pick 2 rfl).pick 2 rfl) hl) ?_)))))
 rintro _ h (⟨rfl,hi1,hl1,st⟩|⟨rfl,hi1,st⟩)
 ·replace st:St ((p.box (i+1:Nat) d)::p.toks:: .box sb [.int .i64 0, .int .i64 (Par.here l:Int), .str 0 0, .str 0 0, .str 0 0, .bool false, .str 0 0, .str 0 0, .slN, .slN, .slN, .slN]:: .box rb_ [.int .i64 0, .int .i64 0, .str 0 0, .str 0 0, .str 0 0, .bool false, .str 0 0, .str 0 0, .slN, .slN, .slN, .slN]::fs) h:=st
  refine WO.nil (WP.cond (t:=true) rfl (WP.seq (WP.reg (WO.bE rfl (sj D st hl1 (by omega)) (fun e a h hm st=> ?_) ?_))))
  ·exact aS.pan (by simp [Par.dG,Par.jD,Par.cZ,Par.gF,Par.bI,Par.dR,Par.dS,Par.eB,Par.gM,Par.fin,hm,hi1]) (st.tail.tail)
  rintro a2 l2 v2 h i2 m2 hl2 ⟨hc2,st⟩
  refine WO.val (v:= .ptr sb 0) (L.aA rfl) (WO.aG (row':=[.int .i64 5, .int .i64 (Par.here l:Int), .str 0 0, .str 0 0, .str 0 0, .bool false, .str 0 0, .str 0 0, .slN, .slN, .slN, .slN]) st 3 rfl rfl rfl rfl rfl rfl rfl (fun h st=> ?_))
  refine WO.val (v:= .ptr sb 8) (L.aA rfl) (WO.aG (row':=[.int .i64 5, .int .i64 (Par.here l:Int), .str 0 0, .str 0 0, .str 0 0, .bool false, .str 0 0, .str 0 0,v2, .slN, .slN, .slN]) st 3 rfl rfl hc2 rfl rfl rfl rfl (fun h st=> ?_))
  refine WO.nil (WP.seq (WP.reg (WO.bE rfl (hblk ((st.pick 2 rfl).pick 2 rfl) hl2 (by omega) (by have _:=hl.len;have _:=hl.lt;have _:=Par.gK hi1;have _:=List.length_tail (l:=l);have _:=hl1.len;have _:=fZ m2;have _:=hl2.len;omega)) (fun e a h hm st=> ?_) ?_)))
  ·exact aS.pan (by simp [Par.dG,Par.jD,Par.cZ,Par.gF,Par.bI,Par.dR,Par.dS,Par.eB,Par.gM,Par.fin,hm,hi1,m2]) (st.tail.tail.tail)
  rintro a3 l3 v3 h i3 m3 hl3 ⟨hlt3,hc3,st⟩
  refine WO.val (v:= .ptr sb 10) (L.aA rfl) (WO.aG (row':=[.int .i64 5, .int .i64 (Par.here l:Int), .str 0 0, .str 0 0, .str 0 0, .bool false, .str 0 0, .str 0 0,v2, .slN,v3, .slN]) st 4 rfl rfl hc3 rfl rfl rfl rfl (fun h st=> ?_))
  refine WO.nil (WP.seq (WP.seq (WP.reg (WO.aU rfl (kY (s:=[101,108,115,101]) D ((st.pick 2 rfl).pick 2 rfl) hl3) ?_))))
  rintro _ h (⟨rfl,hi4,hl4,st⟩|⟨rfl,hi4,st⟩)
  ·replace st:St ((p.box (i3+1:Nat) d)::p.toks:: .stb (fun h=>iD h v3 a3):: .stb (fun h=>Rows 7 h v2 (a2.map Nd.row)):: .box sb [.int .i64 5, .int .i64 (Par.here l:Int), .str 0 0, .str 0 0, .str 0 0, .bool false, .str 0 0, .str 0 0,v2, .slN,v3, .slN]:: .box rb_ [.int .i64 0, .int .i64 0, .str 0 0, .str 0 0, .str 0 0, .bool false, .str 0 0, .str 0 0, .slN, .slN, .slN, .slN]::fs) h:=st
   refine WO.nil (WP.cond (t:=true) rfl (WP.reg (WO.bE rfl (hblk st hl4 (by omega) (by have _:=hl.len;have _:=hl.lt;have _:=Par.gK hi1;have _:=List.length_tail (l:=l);have _:=hl1.len;have _:=fZ m2;have _:=hl2.len;have _:=hl3.len;have _:=Par.gK hi4;have _:=List.length_tail (l:=l3);have _:=hl4.len;omega)) (fun e a h hm st=> ?_) ?_)))
   ·exact aS.pan (by simp [Par.dG,Par.jD,Par.cZ,Par.gF,Par.bI,Par.dR,Par.dS,Par.eB,Par.gM,Par.fin,hm,hi1,m2,m3,hi4]) (st.tail.tail.tail.tail)
   rintro a5 l5 v5 h i5 m5 hl5 ⟨hlt5,hc5,st⟩
   refine WO.val (v:= .ptr sb 11) (L.aA rfl) (WO.aG (row':=[.int .i64 5, .int .i64 (Par.here l:Int), .str 0 0, .str 0 0, .str 0 0, .bool false, .str 0 0, .str 0 0,v2, .slN,v3,v5]) st 5 rfl rfl hc5 rfl rfl rfl rfl (fun h st=> ?_))
   refine WO.nil (WP.seq (WP.reg (WO.val (v:= .agg [.int .i64 5, .int .i64 (Par.here l:Int), .str 0 0, .str 0 0, .str 0 0, .bool false, .str 0 0, .str 0 0,v2, .slN,v3,v5]) (L.aK rfl (st.aj 5 rfl) rfl rfl rfl) (WO.aG (row':=[.int .i64 5, .int .i64 (Par.here l:Int), .str 0 0, .str 0 0, .str 0 0, .bool false, .str 0 0, .str 0 0,v2, .slN,v3,v5]) st 6 rfl rfl rfl rfl rfl rfl rfl (fun h st=> ?_)))))
   refine WO.nil (WP.ret ?_)
   exact ⟨_,(ak (aP (l:=[.int .i64 5, .int .i64 (Par.here l:Int), .str 0 0, .str 0 0, .str 0 0, .bool false, .str 0 0, .str 0 0,v2, .slN,v3,v5]) rfl (L.aT (st.aj 6 rfl) rfl rfl rfl)) (aF _ _)),aS.ok (x:=(Sm.mk 5 (Par.here l) ([]) ([]) ([]) false ([]) ([]) a2 [] a3 a5)) (l:=l5) (by simp [Par.dG,Par.jD,Par.cZ,Par.gF,Par.bI,Par.dR,Par.dS,Par.eB,Par.gM,Par.fin,hi1,m2,m3,hi4,m5]) hl5 ⟨[.int .i64 5, .int .i64 (Par.here l:Int), .str 0 0, .str 0 0, .str 0 0, .bool false, .str 0 0, .str 0 0,v2, .slN,v3,v5],rfl,rfl,(by have _:=hl.len;have _:=hl.lt;have _:=Par.gK hi1;have _:=List.length_tail (l:=l);have _:=hl1.len;have _:=fZ m2;have _:=hl2.len;have _:=hl3.len;have _:=Par.gK hi4;have _:=List.length_tail (l:=l3);have _:=hl4.len;have _:=hl5.len;have _:=hl.len;have _:=hl.lt;omega),(((((st.pick 5 rfl).tail.pick 5 rfl).tail.pick 3 rfl).pick 4 rfl)).and.and.iA (Q:=fun h=>SmR h (Sm.mk 5 (Par.here l) ([]) ([]) ([]) false ([]) ([]) a2 [] a3 a5) [.int .i64 5, .int .i64 (Par.here l:Int), .str 0 0, .str 0 0, .str 0 0, .bool false, .str 0 0, .str 0 0,v2, .slN,v3,v5]) (fun h hx=>by simp only [SmR];exact ⟨_,_,_,_,rfl,hx.1.1,⟨[],Rows.nil,trivial⟩,hx.1.2,hx.2⟩)⟩⟩
  ·replace st:St ((p.box i3 d)::p.toks:: .stb (fun h=>iD h v3 a3):: .stb (fun h=>Rows 7 h v2 (a2.map Nd.row)):: .box sb [.int .i64 5, .int .i64 (Par.here l:Int), .str 0 0, .str 0 0, .str 0 0, .bool false, .str 0 0, .str 0 0,v2, .slN,v3, .slN]:: .box rb_ [.int .i64 0, .int .i64 0, .str 0 0, .str 0 0, .str 0 0, .bool false, .str 0 0, .str 0 0, .slN, .slN, .slN, .slN]::fs) h:=st
   refine WO.nil (WP.cond (t:=false) rfl (WP.skip (WP.seq (WP.reg (WO.val (v:= .agg [.int .i64 5, .int .i64 (Par.here l:Int), .str 0 0, .str 0 0, .str 0 0, .bool false, .str 0 0, .str 0 0,v2, .slN,v3, .slN]) (L.aK rfl (st.aj 4 rfl) rfl rfl rfl) (WO.aG (row':=[.int .i64 5, .int .i64 (Par.here l:Int), .str 0 0, .str 0 0, .str 0 0, .bool false, .str 0 0, .str 0 0,v2, .slN,v3, .slN]) st 5 rfl rfl rfl rfl rfl rfl rfl (fun h st=> ?_)))))))
   refine WO.nil (WP.ret ?_)
   exact ⟨_,(ak (aP (l:=[.int .i64 5, .int .i64 (Par.here l:Int), .str 0 0, .str 0 0, .str 0 0, .bool false, .str 0 0, .str 0 0,v2, .slN,v3, .slN]) rfl (L.aT (st.aj 5 rfl) rfl rfl rfl)) (aF _ _)),aS.ok (x:=(Sm.mk 5 (Par.here l) ([]) ([]) ([]) false ([]) ([]) a2 [] a3 [])) (l:=l3) (by simp [Par.dG,Par.jD,Par.cZ,Par.gF,Par.bI,Par.dR,Par.dS,Par.eB,Par.gM,Par.fin,hi1,m2,m3,hi4]) hl3 ⟨[.int .i64 5, .int .i64 (Par.here l:Int), .str 0 0, .str 0 0, .str 0 0, .bool false, .str 0 0, .str 0 0,v2, .slN,v3, .slN],rfl,rfl,(by have _:=hl.len;have _:=hl.lt;have _:=Par.gK hi1;have _:=List.length_tail (l:=l);have _:=hl1.len;have _:=fZ m2;have _:=hl2.len;have _:=hl3.len;have _:=hl.len;have _:=hl.lt;omega),(((((st.pick 4 rfl).tail.pick 4 rfl).tail.pick 2 rfl).pick 3 rfl)).and.iA (Q:=fun h=>SmR h (Sm.mk 5 (Par.here l) ([]) ([]) ([]) false ([]) ([]) a2 [] a3 []) [.int .i64 5, .int .i64 (Par.here l:Int), .str 0 0, .str 0 0, .str 0 0, .bool false, .str 0 0, .str 0 0,v2, .slN,v3, .slN]) (fun h hx=>by simp only [SmR];exact ⟨_,_,_,_,rfl,hx.1,⟨[],Rows.nil,trivial⟩,hx.2,⟨[],Rows.nil,bF.nil⟩⟩)⟩⟩
 ·replace st:St ((p.box i d)::p.toks:: .box sb [.int .i64 0, .int .i64 (Par.here l:Int), .str 0 0, .str 0 0, .str 0 0, .bool false, .str 0 0, .str 0 0, .slN, .slN, .slN, .slN]:: .box rb_ [.int .i64 0, .int .i64 0, .str 0 0, .str 0 0, .str 0 0, .bool false, .str 0 0, .str 0 0, .slN, .slN, .slN, .slN]::fs) h:=st
  refine WO.nil (WP.cond (t:=false) rfl (WP.seq (WP.reg (WO.aU rfl (kY (s:=[119,104,105,108,101]) D st hl) ?_))))
  rintro _ h (⟨rfl,hi6,hl6,st⟩|⟨rfl,hi6,st⟩)
  ·replace st:St ((p.box (i+1:Nat) d)::p.toks:: .box sb [.int .i64 0, .int .i64 (Par.here l:Int), .str 0 0, .str 0 0, .str 0 0, .bool false, .str 0 0, .str 0 0, .slN, .slN, .slN, .slN]:: .box rb_ [.int .i64 0, .int .i64 0, .str 0 0, .str 0 0, .str 0 0, .bool false, .str 0 0, .str 0 0, .slN, .slN, .slN, .slN]::fs) h:=st
   refine WO.nil (WP.cond (t:=true) rfl (WP.seq (WP.reg (WO.bE rfl (sj D st hl6 (by omega)) (fun e a h hm st=> ?_) ?_))))
   ·exact aS.pan (by simp [Par.dG,Par.jD,Par.cZ,Par.gF,Par.bI,Par.dR,Par.dS,Par.eB,Par.gM,Par.fin,hm,hi1,hi6]) (st.tail.tail)
   rintro a7 l7 v7 h i7 m7 hl7 ⟨hc7,st⟩
   refine WO.val (v:= .ptr sb 0) (L.aA rfl) (WO.aG (row':=[.int .i64 6, .int .i64 (Par.here l:Int), .str 0 0, .str 0 0, .str 0 0, .bool false, .str 0 0, .str 0 0, .slN, .slN, .slN, .slN]) st 3 rfl rfl rfl rfl rfl rfl rfl (fun h st=> ?_))
   refine WO.val (v:= .ptr sb 8) (L.aA rfl) (WO.aG (row':=[.int .i64 6, .int .i64 (Par.here l:Int), .str 0 0, .str 0 0, .str 0 0, .bool false, .str 0 0, .str 0 0,v7, .slN, .slN, .slN]) st 3 rfl rfl hc7 rfl rfl rfl rfl (fun h st=> ?_))
   refine WO.nil (WP.seq (WP.reg (WO.bE rfl (hblk ((st.pick 2 rfl).pick 2 rfl) hl7 (by omega) (by have _:=hl.len;have _:=hl.lt;have _:=Par.gK hi6;have _:=List.length_tail (l:=l);have _:=hl6.len;have _:=fZ m7;have _:=hl7.len;omega)) (fun e a h hm st=> ?_) ?_)))
   ·exact aS.pan (by simp [Par.dG,Par.jD,Par.cZ,Par.gF,Par.bI,Par.dR,Par.dS,Par.eB,Par.gM,Par.fin,hm,hi1,hi6,m7]) (st.tail.tail.tail)
   rintro a8 l8 v8 h i8 m8 hl8 ⟨hlt8,hc8,st⟩
   refine WO.val (v:= .ptr sb 10) (L.aA rfl) (WO.aG (row':=[.int .i64 6, .int .i64 (Par.here l:Int), .str 0 0, .str 0 0, .str 0 0, .bool false, .str 0 0, .str 0 0,v7, .slN,v8, .slN]) st 4 rfl rfl hc8 rfl rfl rfl rfl (fun h st=> ?_))
   refine WO.nil (WP.seq (WP.reg (WO.val (v:= .agg [.int .i64 6, .int .i64 (Par.here l:Int), .str 0 0, .str 0 0, .str 0 0, .bool false, .str 0 0, .str 0 0,v7, .slN,v8, .slN]) (L.aK rfl (st.aj 4 rfl) rfl rfl rfl) (WO.aG (row':=[.int .i64 6, .int .i64 (Par.here l:Int), .str 0 0, .str 0 0, .str 0 0, .bool false, .str 0 0, .str 0 0,v7, .slN,v8, .slN]) st 5 rfl rfl rfl rfl rfl rfl rfl (fun h st=> ?_)))))
   refine WO.nil (WP.ret ?_)
   exact ⟨_,(ak (aP (l:=[.int .i64 6, .int .i64 (Par.here l:Int), .str 0 0, .str 0 0, .str 0 0, .bool false, .str 0 0, .str 0 0,v7, .slN,v8, .slN]) rfl (L.aT (st.aj 5 rfl) rfl rfl rfl)) (aF _ _)),aS.ok (x:=(Sm.mk 6 (Par.here l) ([]) ([]) ([]) false ([]) ([]) a7 [] a8 [])) (l:=l8) (by simp [Par.dG,Par.jD,Par.cZ,Par.gF,Par.bI,Par.dR,Par.dS,Par.eB,Par.gM,Par.fin,hi1,hi6,m7,m8]) hl8 ⟨[.int .i64 6, .int .i64 (Par.here l:Int), .str 0 0, .str 0 0, .str 0 0, .bool false, .str 0 0, .str 0 0,v7, .slN,v8, .slN],rfl,rfl,(by have _:=hl.len;have _:=hl.lt;have _:=Par.gK hi6;have _:=List.length_tail (l:=l);have _:=hl6.len;have _:=fZ m7;have _:=hl7.len;have _:=hl8.len;have _:=hl.len;have _:=hl.lt;omega),((((st.pick 4 rfl).tail.pick 4 rfl).tail.pick 3 rfl)).and.iA (Q:=fun h=>SmR h (Sm.mk 6 (Par.here l) ([]) ([]) ([]) false ([]) ([]) a7 [] a8 []) [.int .i64 6, .int .i64 (Par.here l:Int), .str 0 0, .str 0 0, .str 0 0, .bool false, .str 0 0, .str 0 0,v7, .slN,v8, .slN]) (fun h hx=>by simp only [SmR];exact ⟨_,_,_,_,rfl,hx.1,⟨[],Rows.nil,trivial⟩,hx.2,⟨[],Rows.nil,bF.nil⟩⟩)⟩⟩
  ·replace st:St ((p.box i d)::p.toks:: .box sb [.int .i64 0, .int .i64 (Par.here l:Int), .str 0 0, .str 0 0, .str 0 0, .bool false, .str 0 0, .str 0 0, .slN, .slN, .slN, .slN]:: .box rb_ [.int .i64 0, .int .i64 0, .str 0 0, .str 0 0, .str 0 0, .bool false, .str 0 0, .str 0 0, .slN, .slN, .slN, .slN]::fs) h:=st
   refine WO.nil (WP.cond (t:=false) rfl (WP.seq (WP.reg (WO.aU rfl (kY (s:=[108,101,116]) D st hl) ?_))))
   rintro _ h (⟨rfl,hi9,hl9,st⟩|⟨rfl,hi9,st⟩)
   ·replace st:St ((p.box (i+1:Nat) d)::p.toks:: .box sb [.int .i64 0, .int .i64 (Par.here l:Int), .str 0 0, .str 0 0, .str 0 0, .bool false, .str 0 0, .str 0 0, .slN, .slN, .slN, .slN]:: .box rb_ [.int .i64 0, .int .i64 0, .str 0 0, .str 0 0, .str 0 0, .bool false, .str 0 0, .str 0 0, .slN, .slN, .slN, .slN]::fs) h:=st
    refine WO.nil (WP.cond (t:=true) rfl (WP.seq (WP.reg (WO.bE rfl (jZ D st hl9) (fun e a h hm st=> ?_) ?_))))
    ·exact aS.pan (by simp [Par.dG,Par.jD,Par.cZ,Par.gF,Par.bI,Par.dR,Par.dS,Par.eB,Par.gM,Par.fin,hm,hi1,hi6,hi9]) (st.tail.tail)
    rintro a10 l10 _ h i10 m10 hl10 ⟨rfl,st⟩
    refine WO.val (v:= .ptr sb 0) (L.aA rfl) (WO.aG (row':=[.int .i64 1, .int .i64 (Par.here l:Int), .str 0 0, .str 0 0, .str 0 0, .bool false, .str 0 0, .str 0 0, .slN, .slN, .slN, .slN]) st 2 rfl rfl rfl rfl rfl rfl rfl (fun h st=> ?_))
    refine WO.val (v:= .ptr sb 3) (L.aA rfl) (WO.aG (row':=[.int .i64 1, .int .i64 (Par.here l:Int), .str 0 0,L.str a10, .str 0 0, .bool false, .str 0 0, .str 0 0, .slN, .slN, .slN, .slN]) st 2 rfl rfl rfl rfl rfl rfl rfl (fun h st=> ?_))
    refine WO.nil (WP.seq (WP.reg (WO.bE rfl (eT (s:=[58]) D st hl10) (fun e a h hm st=> ?_) ?_)))
    ·exact aS.pan (by simp [Par.dG,Par.jD,Par.cZ,Par.gF,Par.bI,Par.dR,Par.dS,Par.eB,Par.gM,Par.fin,hm,hi1,hi6,hi9,m10]) (st.tail.tail)
    rintro a11 l11 _ h i11 m11 hl11 ⟨rfl,st⟩
    refine WO.nil (WP.seq (WP.reg (WO.bE rfl (jZ D st hl11) (fun e a h hm st=> ?_) ?_)))
    ·exact aS.pan (by simp [Par.dG,Par.jD,Par.cZ,Par.gF,Par.bI,Par.dR,Par.dS,Par.eB,Par.gM,Par.fin,hm,hi1,hi6,hi9,m10,m11]) (st.tail.tail)
    rintro a12 l12 _ h i12 m12 hl12 ⟨rfl,st⟩
    refine WO.val (v:= .ptr sb 4) (L.aA rfl) (WO.aG (row':=[.int .i64 1, .int .i64 (Par.here l:Int), .str 0 0,L.str a10,L.str a12, .bool false, .str 0 0, .str 0 0, .slN, .slN, .slN, .slN]) st 2 rfl rfl rfl rfl rfl rfl rfl (fun h st=> ?_))
    refine WO.nil (WP.seq (WP.reg (WO.bE rfl (eT (s:=[61]) D st hl12) (fun e a h hm st=> ?_) ?_)))
    ·exact aS.pan (by simp [Par.dG,Par.jD,Par.cZ,Par.gF,Par.bI,Par.dR,Par.dS,Par.eB,Par.gM,Par.fin,hm,hi1,hi6,hi9,m10,m11,m12]) (st.tail.tail)
    rintro a13 l13 _ h i13 m13 hl13 ⟨rfl,st⟩
    refine WO.nil (WP.reg (WO.bE rfl (sj D st hl13 (by omega)) (fun e a h hm st=> ?_) ?_))
    ·exact aS.pan (by simp [Par.dG,Par.jD,Par.cZ,Par.gF,Par.bI,Par.dR,Par.dS,Par.eB,Par.gM,Par.fin,hm,hi1,hi6,hi9,m10,m11,m12,m13]) (st.tail.tail)
    rintro a14 l14 v14 h i14 m14 hl14 ⟨hc14,st⟩
    refine WO.val (v:= .ptr sb 8) (L.aA rfl) (WO.aG (row':=[.int .i64 1, .int .i64 (Par.here l:Int), .str 0 0,L.str a10,L.str a12, .bool false, .str 0 0, .str 0 0,v14, .slN, .slN, .slN]) st 3 rfl rfl hc14 rfl rfl rfl rfl (fun h st=> ?_))
    refine WO.nil (WP.seq (WP.reg (WO.bE rfl (eT (s:=[59]) D ((st.pick 2 rfl).pick 2 rfl) hl14) (fun e a h hm st=> ?_) ?_)))
    ·exact aS.pan (by simp [Par.dG,Par.jD,Par.cZ,Par.gF,Par.bI,Par.dR,Par.dS,Par.eB,Par.gM,Par.fin,hm,hi1,hi6,hi9,m10,m11,m12,m13,m14]) (st.tail.tail.tail)
    rintro a15 l15 _ h i15 m15 hl15 ⟨rfl,st⟩
    refine WO.nil (WP.seq (WP.reg (WO.val (v:= .agg [.int .i64 1, .int .i64 (Par.here l:Int), .str 0 0,L.str a10,L.str a12, .bool false, .str 0 0, .str 0 0,v14, .slN, .slN, .slN]) (L.aK rfl (st.aj 3 rfl) rfl rfl rfl) (WO.aG (row':=[.int .i64 1, .int .i64 (Par.here l:Int), .str 0 0,L.str a10,L.str a12, .bool false, .str 0 0, .str 0 0,v14, .slN, .slN, .slN]) st 4 rfl rfl rfl rfl rfl rfl rfl (fun h st=> ?_)))))
    refine WO.nil (WP.ret ?_)
    exact ⟨_,(ak (aP (l:=[.int .i64 1, .int .i64 (Par.here l:Int), .str 0 0,L.str a10,L.str a12, .bool false, .str 0 0, .str 0 0,v14, .slN, .slN, .slN]) rfl (L.aT (st.aj 4 rfl) rfl rfl rfl)) (aF _ _)),aS.ok (x:=(Sm.mk 1 (Par.here l) ([]) a10 a12 false ([]) ([]) a14 [] [] [])) (l:=l15) (by simp [Par.dG,Par.jD,Par.cZ,Par.gF,Par.bI,Par.dR,Par.dS,Par.eB,Par.gM,Par.fin,hi1,hi6,hi9,m10,m11,m12,m13,m14,m15]) hl15 ⟨[.int .i64 1, .int .i64 (Par.here l:Int), .str 0 0,L.str a10,L.str a12, .bool false, .str 0 0, .str 0 0,v14, .slN, .slN, .slN],rfl,rfl,(by have _:=hl.len;have _:=hl.lt;have _:=Par.gK hi9;have _:=List.length_tail (l:=l);have _:=hl9.len;have _:=Par.dF m10;have _:=hl10.len;have _:=Par.aW m11;have _:=hl11.len;have _:=Par.dF m12;have _:=hl12.len;have _:=Par.aW m13;have _:=hl13.len;have _:=fZ m14;have _:=hl14.len;have _:=Par.aW m15;have _:=hl15.len;have _:=hl.len;have _:=hl.lt;omega),((((st.pick 3 rfl).tail.pick 3 rfl).tail.pick 2 rfl)).iA (Q:=fun h=>SmR h (Sm.mk 1 (Par.here l) ([]) a10 a12 false ([]) ([]) a14 [] [] []) [.int .i64 1, .int .i64 (Par.here l:Int), .str 0 0,L.str a10,L.str a12, .bool false, .str 0 0, .str 0 0,v14, .slN, .slN, .slN]) (fun h hx=>by simp only [SmR];exact ⟨_,_,_,_,rfl,hx,⟨[],Rows.nil,trivial⟩,⟨[],Rows.nil,bF.nil⟩,⟨[],Rows.nil,bF.nil⟩⟩)⟩⟩
   ·replace st:St ((p.box i d)::p.toks:: .box sb [.int .i64 0, .int .i64 (Par.here l:Int), .str 0 0, .str 0 0, .str 0 0, .bool false, .str 0 0, .str 0 0, .slN, .slN, .slN, .slN]:: .box rb_ [.int .i64 0, .int .i64 0, .str 0 0, .str 0 0, .str 0 0, .bool false, .str 0 0, .str 0 0, .slN, .slN, .slN, .slN]::fs) h:=st
    refine WO.nil (WP.cond (t:=false) rfl (WP.seq (WP.reg (WO.aU rfl (kY (s:=[114,101,115,117,108,116]) D st hl) ?_))))
    rintro _ h (⟨rfl,hi16,hl16,st⟩|⟨rfl,hi16,st⟩)
    ·replace st:St ((p.box (i+1:Nat) d)::p.toks:: .box sb [.int .i64 0, .int .i64 (Par.here l:Int), .str 0 0, .str 0 0, .str 0 0, .bool false, .str 0 0, .str 0 0, .slN, .slN, .slN, .slN]:: .box rb_ [.int .i64 0, .int .i64 0, .str 0 0, .str 0 0, .str 0 0, .bool false, .str 0 0, .str 0 0, .slN, .slN, .slN, .slN]::fs) h:=st
     refine WO.nil (WP.cond (t:=true) rfl (WP.seq (WP.reg (WO.val (v:= .ptr sb 0) (L.aA rfl) (WO.aG (row':=[.int .i64 3, .int .i64 (Par.here l:Int), .str 0 0, .str 0 0, .str 0 0, .bool false, .str 0 0, .str 0 0, .slN, .slN, .slN, .slN]) st 2 rfl rfl rfl rfl rfl rfl rfl (fun h st=> ?_))))))
     refine WO.nil (WP.seq (WP.reg (WO.bE rfl (eT (s:=[61]) D st hl16) (fun e a h hm st=> ?_) ?_)))
     ·exact aS.pan (by simp [Par.dG,Par.jD,Par.cZ,Par.gF,Par.bI,Par.dR,Par.dS,Par.eB,Par.gM,Par.fin,hm,hi1,hi6,hi9,hi16]) (st.tail.tail)
     rintro a17 l17 _ h i17 m17 hl17 ⟨rfl,st⟩
     refine WO.nil (WP.reg (WO.bE rfl (sj D st hl17 (by omega)) (fun e a h hm st=> ?_) ?_))
     ·exact aS.pan (by simp [Par.dG,Par.jD,Par.cZ,Par.gF,Par.bI,Par.dR,Par.dS,Par.eB,Par.gM,Par.fin,hm,hi1,hi6,hi9,hi16,m17]) (st.tail.tail)
     rintro a18 l18 v18 h i18 m18 hl18 ⟨hc18,st⟩
     refine WO.val (v:= .ptr sb 8) (L.aA rfl) (WO.aG (row':=[.int .i64 3, .int .i64 (Par.here l:Int), .str 0 0, .str 0 0, .str 0 0, .bool false, .str 0 0, .str 0 0,v18, .slN, .slN, .slN]) st 3 rfl rfl hc18 rfl rfl rfl rfl (fun h st=> ?_))
     refine WO.nil (WP.seq (WP.reg (WO.bE rfl (eT (s:=[59]) D ((st.pick 2 rfl).pick 2 rfl) hl18) (fun e a h hm st=> ?_) ?_)))
     ·exact aS.pan (by simp [Par.dG,Par.jD,Par.cZ,Par.gF,Par.bI,Par.dR,Par.dS,Par.eB,Par.gM,Par.fin,hm,hi1,hi6,hi9,hi16,m17,m18]) (st.tail.tail.tail)
     rintro a19 l19 _ h i19 m19 hl19 ⟨rfl,st⟩
     refine WO.nil (WP.seq (WP.reg (WO.val (v:= .agg [.int .i64 3, .int .i64 (Par.here l:Int), .str 0 0, .str 0 0, .str 0 0, .bool false, .str 0 0, .str 0 0,v18, .slN, .slN, .slN]) (L.aK rfl (st.aj 3 rfl) rfl rfl rfl) (WO.aG (row':=[.int .i64 3, .int .i64 (Par.here l:Int), .str 0 0, .str 0 0, .str 0 0, .bool false, .str 0 0, .str 0 0,v18, .slN, .slN, .slN]) st 4 rfl rfl rfl rfl rfl rfl rfl (fun h st=> ?_)))))
     refine WO.nil (WP.ret ?_)
     exact ⟨_,(ak (aP (l:=[.int .i64 3, .int .i64 (Par.here l:Int), .str 0 0, .str 0 0, .str 0 0, .bool false, .str 0 0, .str 0 0,v18, .slN, .slN, .slN]) rfl (L.aT (st.aj 4 rfl) rfl rfl rfl)) (aF _ _)),aS.ok (x:=(Sm.mk 3 (Par.here l) ([]) ([]) ([]) false ([]) ([]) a18 [] [] [])) (l:=l19) (by simp [Par.dG,Par.jD,Par.cZ,Par.gF,Par.bI,Par.dR,Par.dS,Par.eB,Par.gM,Par.fin,hi1,hi6,hi9,hi16,m17,m18,m19]) hl19 ⟨[.int .i64 3, .int .i64 (Par.here l:Int), .str 0 0, .str 0 0, .str 0 0, .bool false, .str 0 0, .str 0 0,v18, .slN, .slN, .slN],rfl,rfl,(by have _:=hl.len;have _:=hl.lt;have _:=Par.gK hi16;have _:=List.length_tail (l:=l);have _:=hl16.len;have _:=Par.aW m17;have _:=hl17.len;have _:=fZ m18;have _:=hl18.len;have _:=Par.aW m19;have _:=hl19.len;have _:=hl.len;have _:=hl.lt;omega),((((st.pick 3 rfl).tail.pick 3 rfl).tail.pick 2 rfl)).iA (Q:=fun h=>SmR h (Sm.mk 3 (Par.here l) ([]) ([]) ([]) false ([]) ([]) a18 [] [] []) [.int .i64 3, .int .i64 (Par.here l:Int), .str 0 0, .str 0 0, .str 0 0, .bool false, .str 0 0, .str 0 0,v18, .slN, .slN, .slN]) (fun h hx=>by simp only [SmR];exact ⟨_,_,_,_,rfl,hx,⟨[],Rows.nil,trivial⟩,⟨[],Rows.nil,bF.nil⟩,⟨[],Rows.nil,bF.nil⟩⟩)⟩⟩
    ·replace st:St ((p.box i d)::p.toks:: .box sb [.int .i64 0, .int .i64 (Par.here l:Int), .str 0 0, .str 0 0, .str 0 0, .bool false, .str 0 0, .str 0 0, .slN, .slN, .slN, .slN]:: .box rb_ [.int .i64 0, .int .i64 0, .str 0 0, .str 0 0, .str 0 0, .bool false, .str 0 0, .str 0 0, .slN, .slN, .slN, .slN]::fs) h:=st
     refine WO.nil (WP.cond (t:=false) rfl (WP.seq (WP.reg (WO.aU rfl (kY (s:=[99,97,108,108]) D st hl) ?_))))
     rintro _ h (⟨rfl,hi20,hl20,st⟩|⟨rfl,hi20,st⟩)
     ·replace st:St ((p.box (i+1:Nat) d)::p.toks:: .box sb [.int .i64 0, .int .i64 (Par.here l:Int), .str 0 0, .str 0 0, .str 0 0, .bool false, .str 0 0, .str 0 0, .slN, .slN, .slN, .slN]:: .box rb_ [.int .i64 0, .int .i64 0, .str 0 0, .str 0 0, .str 0 0, .bool false, .str 0 0, .str 0 0, .slN, .slN, .slN, .slN]::fs) h:=st
      refine WO.nil (WP.cond (t:=true) rfl (WP.seq (WP.reg (WO.val (v:= .ptr sb 0) (L.aA rfl) (WO.aG (row':=[.int .i64 4, .int .i64 (Par.here l:Int), .str 0 0, .str 0 0, .str 0 0, .bool false, .str 0 0, .str 0 0, .slN, .slN, .slN, .slN]) st 2 rfl rfl rfl rfl rfl rfl rfl (fun h st=> ?_))))))
      refine WO.nil (WP.reg (WO.bE rfl (call_c D (st.pick 2 rfl) hl20 (by omega)) (fun e a h hm st=> ?_) ?_))
      ·exact aS.pan (by simp [Par.dG,Par.jD,Par.cZ,Par.gF,Par.bI,Par.dR,Par.dS,Par.eB,Par.gM,Par.fin,hm,hi1,hi6,hi9,hi16,hi20]) (st.tail)
      rintro a21 l21 _ h i21 m21 hl21 ⟨va21,hv21,st⟩
      refine WO.nil (WP.seq (WP.reg (WO.bE rfl (eT (s:=[59]) D ((st.pick 3 rfl).pick 3 rfl) hl21) (fun e a h hm st=> ?_) ?_)))
      ·exact aS.pan (by simp [Par.dG,Par.jD,Par.cZ,Par.gF,Par.bI,Par.dR,Par.dS,Par.eB,Par.gM,Par.fin,hm,hi1,hi6,hi9,hi16,hi20,m21]) (st.tail.tail.tail)
      rintro a22 l22 _ h i22 m22 hl22 ⟨rfl,st⟩
      refine WO.nil (WP.seq (WP.reg (WO.val (v:= .agg [.int .i64 4, .int .i64 (Par.here l:Int),L.str a21.mod,L.str a21.name,L.str [], .bool a21.has,L.str a21.tomod,L.str a21.to, .slN,va21, .slN, .slN]) (L.aK rfl (st.aj 3 rfl) rfl rfl rfl) (WO.aG (row':=[.int .i64 4, .int .i64 (Par.here l:Int),L.str a21.mod,L.str a21.name,L.str [], .bool a21.has,L.str a21.tomod,L.str a21.to, .slN,va21, .slN, .slN]) st 4 rfl rfl rfl rfl rfl rfl rfl (fun h st=> ?_)))))
      refine WO.nil (WP.ret ?_)
      exact ⟨_,(ak (aP (l:=[.int .i64 4, .int .i64 (Par.here l:Int),L.str a21.mod,L.str a21.name,L.str [], .bool a21.has,L.str a21.tomod,L.str a21.to, .slN,va21, .slN, .slN]) rfl (L.aT (st.aj 4 rfl) rfl rfl rfl)) (aF _ _)),aS.ok (x:=(Sm.mk 4 (Par.here l) a21.mod a21.name ([]) a21.has a21.tomod a21.to [] a21.args [] [])) (l:=l22) (by simp [Par.dG,Par.jD,Par.cZ,Par.gF,Par.bI,Par.dR,Par.dS,Par.eB,Par.gM,Par.fin,hi1,hi6,hi9,hi16,hi20,m21,m22]) hl22 ⟨[.int .i64 4, .int .i64 (Par.here l:Int),L.str a21.mod,L.str a21.name,L.str [], .bool a21.has,L.str a21.tomod,L.str a21.to, .slN,va21, .slN, .slN],rfl,rfl,(by have _:=hl.len;have _:=hl.lt;have _:=Par.gK hi20;have _:=List.length_tail (l:=l);have _:=hl20.len;have _:=Q0 m21;have _:=hl21.len;have _:=Par.aW m22;have _:=hl22.len;have _:=hl.len;have _:=hl.lt;omega),((((st.pick 3 rfl).tail.pick 3 rfl).tail.pick 2 rfl)).iA (Q:=fun h=>SmR h (Sm.mk 4 (Par.here l) a21.mod a21.name ([]) a21.has a21.tomod a21.to [] a21.args [] []) [.int .i64 4, .int .i64 (Par.here l:Int),L.str a21.mod,L.str a21.name,L.str [], .bool a21.has,L.str a21.tomod,L.str a21.to, .slN,va21, .slN, .slN]) (fun h hx=>by simp only [SmR];exact ⟨_,_,_,_,rfl,Rows.nil,hx,⟨[],Rows.nil,bF.nil⟩,⟨[],Rows.nil,bF.nil⟩⟩)⟩⟩
     ·replace st:St ((p.box i d)::p.toks:: .box sb [.int .i64 0, .int .i64 (Par.here l:Int), .str 0 0, .str 0 0, .str 0 0, .bool false, .str 0 0, .str 0 0, .slN, .slN, .slN, .slN]:: .box rb_ [.int .i64 0, .int .i64 0, .str 0 0, .str 0 0, .str 0 0, .bool false, .str 0 0, .str 0 0, .slN, .slN, .slN, .slN]::fs) h:=st
      refine WO.nil (WP.cond (t:=false) rfl (WP.seq (WP.reg (WO.aU rfl (kY (s:=[101,109,105,116]) D st hl) ?_))))
      rintro _ h (⟨rfl,hi23,hl23,st⟩|⟨rfl,hi23,st⟩)
      ·replace st:St ((p.box (i+1:Nat) d)::p.toks:: .box sb [.int .i64 0, .int .i64 (Par.here l:Int), .str 0 0, .str 0 0, .str 0 0, .bool false, .str 0 0, .str 0 0, .slN, .slN, .slN, .slN]:: .box rb_ [.int .i64 0, .int .i64 0, .str 0 0, .str 0 0, .str 0 0, .bool false, .str 0 0, .str 0 0, .slN, .slN, .slN, .slN]::fs) h:=st
       refine WO.nil (WP.cond (t:=true) rfl (WP.reg (WO.bE rfl (jZ D st hl23) (fun e a h hm st=> ?_) ?_)))
       ·exact aS.pan (by simp [Par.dG,Par.jD,Par.cZ,Par.gF,Par.bI,Par.dR,Par.dS,Par.eB,Par.gM,Par.fin,hm,hi1,hi6,hi9,hi16,hi20,hi23]) (st.tail.tail)
       rintro a24 l24 _ h i24 m24 hl24 ⟨rfl,st⟩
       refine WO.val (v:= .ptr sb 0) (L.aA rfl) (WO.aG (row':=[.int .i64 7, .int .i64 (Par.here l:Int), .str 0 0, .str 0 0, .str 0 0, .bool false, .str 0 0, .str 0 0, .slN, .slN, .slN, .slN]) st 2 rfl rfl rfl rfl rfl rfl rfl (fun h st=> ?_))
       refine WO.val (v:= .ptr sb 3) (L.aA rfl) (WO.aG (row':=[.int .i64 7, .int .i64 (Par.here l:Int), .str 0 0,L.str a24, .str 0 0, .bool false, .str 0 0, .str 0 0, .slN, .slN, .slN, .slN]) st 2 rfl rfl rfl rfl rfl rfl rfl (fun h st=> ?_))
       refine WO.nil (WP.seq (WP.reg (WO.bE rfl (eT (s:=[59]) D st hl24) (fun e a h hm st=> ?_) ?_)))
       ·exact aS.pan (by simp [Par.dG,Par.jD,Par.cZ,Par.gF,Par.bI,Par.dR,Par.dS,Par.eB,Par.gM,Par.fin,hm,hi1,hi6,hi9,hi16,hi20,hi23,m24]) (st.tail.tail)
       rintro a25 l25 _ h i25 m25 hl25 ⟨rfl,st⟩
       refine WO.nil (WP.seq (WP.reg (WO.val (v:= .agg [.int .i64 7, .int .i64 (Par.here l:Int), .str 0 0,L.str a24, .str 0 0, .bool false, .str 0 0, .str 0 0, .slN, .slN, .slN, .slN]) (L.aK rfl (st.aj 2 rfl) rfl rfl rfl) (WO.aG (row':=[.int .i64 7, .int .i64 (Par.here l:Int), .str 0 0,L.str a24, .str 0 0, .bool false, .str 0 0, .str 0 0, .slN, .slN, .slN, .slN]) st 3 rfl rfl rfl rfl rfl rfl rfl (fun h st=> ?_)))))
       refine WO.nil (WP.ret ?_)
       exact ⟨_,(ak (aP (l:=[.int .i64 7, .int .i64 (Par.here l:Int), .str 0 0,L.str a24, .str 0 0, .bool false, .str 0 0, .str 0 0, .slN, .slN, .slN, .slN]) rfl (L.aT (st.aj 3 rfl) rfl rfl rfl)) (aF _ _)),aS.ok (x:=(Sm.mk 7 (Par.here l) ([]) a24 ([]) false ([]) ([]) [] [] [] [])) (l:=l25) (by simp [Par.dG,Par.jD,Par.cZ,Par.gF,Par.bI,Par.dR,Par.dS,Par.eB,Par.gM,Par.fin,hi1,hi6,hi9,hi16,hi20,hi23,m24,m25]) hl25 ⟨[.int .i64 7, .int .i64 (Par.here l:Int), .str 0 0,L.str a24, .str 0 0, .bool false, .str 0 0, .str 0 0, .slN, .slN, .slN, .slN],rfl,rfl,(by have _:=hl.len;have _:=hl.lt;have _:=Par.gK hi23;have _:=List.length_tail (l:=l);have _:=hl23.len;have _:=Par.dF m24;have _:=hl24.len;have _:=Par.aW m25;have _:=hl25.len;have _:=hl.len;have _:=hl.lt;omega),(St.pure (((st.pick 2 rfl).tail.pick 2 rfl).tail) (Q:=True) trivial).iA (Q:=fun h=>SmR h (Sm.mk 7 (Par.here l) ([]) a24 ([]) false ([]) ([]) [] [] [] []) [.int .i64 7, .int .i64 (Par.here l:Int), .str 0 0,L.str a24, .str 0 0, .bool false, .str 0 0, .str 0 0, .slN, .slN, .slN, .slN]) (fun h hx=>by simp only [SmR];exact ⟨_,_,_,_,rfl,Rows.nil,⟨[],Rows.nil,trivial⟩,⟨[],Rows.nil,bF.nil⟩,⟨[],Rows.nil,bF.nil⟩⟩)⟩⟩
      ·replace st:St ((p.box i d)::p.toks:: .box sb [.int .i64 0, .int .i64 (Par.here l:Int), .str 0 0, .str 0 0, .str 0 0, .bool false, .str 0 0, .str 0 0, .slN, .slN, .slN, .slN]:: .box rb_ [.int .i64 0, .int .i64 0, .str 0 0, .str 0 0, .str 0 0, .bool false, .str 0 0, .str 0 0, .slN, .slN, .slN, .slN]::fs) h:=st
       refine WO.nil (WP.cond (t:=false) rfl (WP.seq (WP.reg (WO.aU rfl (kY (s:=[115,107,105,112]) D st hl) ?_))))
       rintro _ h (⟨rfl,hi26,hl26,st⟩|⟨rfl,hi26,st⟩)
       ·replace st:St ((p.box (i+1:Nat) d)::p.toks:: .box sb [.int .i64 0, .int .i64 (Par.here l:Int), .str 0 0, .str 0 0, .str 0 0, .bool false, .str 0 0, .str 0 0, .slN, .slN, .slN, .slN]:: .box rb_ [.int .i64 0, .int .i64 0, .str 0 0, .str 0 0, .str 0 0, .bool false, .str 0 0, .str 0 0, .slN, .slN, .slN, .slN]::fs) h:=st
        refine WO.nil (WP.cond (t:=true) rfl (WP.reg (WO.val (v:= .ptr sb 0) (L.aA rfl) (WO.aG (row':=[.int .i64 8, .int .i64 (Par.here l:Int), .str 0 0, .str 0 0, .str 0 0, .bool false, .str 0 0, .str 0 0, .slN, .slN, .slN, .slN]) st 2 rfl rfl rfl rfl rfl rfl rfl (fun h st=> ?_)))))
        refine WO.nil (WP.seq (WP.reg (WO.bE rfl (eT (s:=[59]) D st hl26) (fun e a h hm st=> ?_) ?_)))
        ·exact aS.pan (by simp [Par.dG,Par.jD,Par.cZ,Par.gF,Par.bI,Par.dR,Par.dS,Par.eB,Par.gM,Par.fin,hm,hi1,hi6,hi9,hi16,hi20,hi23,hi26]) (st.tail.tail)
        rintro a27 l27 _ h i27 m27 hl27 ⟨rfl,st⟩
        refine WO.nil (WP.seq (WP.reg (WO.val (v:= .agg [.int .i64 8, .int .i64 (Par.here l:Int), .str 0 0, .str 0 0, .str 0 0, .bool false, .str 0 0, .str 0 0, .slN, .slN, .slN, .slN]) (L.aK rfl (st.aj 2 rfl) rfl rfl rfl) (WO.aG (row':=[.int .i64 8, .int .i64 (Par.here l:Int), .str 0 0, .str 0 0, .str 0 0, .bool false, .str 0 0, .str 0 0, .slN, .slN, .slN, .slN]) st 3 rfl rfl rfl rfl rfl rfl rfl (fun h st=> ?_)))))
        refine WO.nil (WP.ret ?_)
        exact ⟨_,(ak (aP (l:=[.int .i64 8, .int .i64 (Par.here l:Int), .str 0 0, .str 0 0, .str 0 0, .bool false, .str 0 0, .str 0 0, .slN, .slN, .slN, .slN]) rfl (L.aT (st.aj 3 rfl) rfl rfl rfl)) (aF _ _)),aS.ok (x:=(Sm.mk 8 (Par.here l) ([]) ([]) ([]) false ([]) ([]) [] [] [] [])) (l:=l27) (by simp [Par.dG,Par.jD,Par.cZ,Par.gF,Par.bI,Par.dR,Par.dS,Par.eB,Par.gM,Par.fin,hi1,hi6,hi9,hi16,hi20,hi23,hi26,m27]) hl27 ⟨[.int .i64 8, .int .i64 (Par.here l:Int), .str 0 0, .str 0 0, .str 0 0, .bool false, .str 0 0, .str 0 0, .slN, .slN, .slN, .slN],rfl,rfl,(by have _:=hl.len;have _:=hl.lt;have _:=Par.gK hi26;have _:=List.length_tail (l:=l);have _:=hl26.len;have _:=Par.aW m27;have _:=hl27.len;have _:=hl.len;have _:=hl.lt;omega),(St.pure (((st.pick 2 rfl).tail.pick 2 rfl).tail) (Q:=True) trivial).iA (Q:=fun h=>SmR h (Sm.mk 8 (Par.here l) ([]) ([]) ([]) false ([]) ([]) [] [] [] []) [.int .i64 8, .int .i64 (Par.here l:Int), .str 0 0, .str 0 0, .str 0 0, .bool false, .str 0 0, .str 0 0, .slN, .slN, .slN, .slN]) (fun h hx=>by simp only [SmR];exact ⟨_,_,_,_,rfl,Rows.nil,⟨[],Rows.nil,trivial⟩,⟨[],Rows.nil,bF.nil⟩,⟨[],Rows.nil,bF.nil⟩⟩)⟩⟩
       ·replace st:St ((p.box i d)::p.toks:: .box sb [.int .i64 0, .int .i64 (Par.here l:Int), .str 0 0, .str 0 0, .str 0 0, .bool false, .str 0 0, .str 0 0, .slN, .slN, .slN, .slN]:: .box rb_ [.int .i64 0, .int .i64 0, .str 0 0, .str 0 0, .str 0 0, .bool false, .str 0 0, .str 0 0, .slN, .slN, .slN, .slN]::fs) h:=st
        refine WO.nil (WP.cond (t:=false) rfl (WP.seq (WP.reg (WO.val (v:= .ptr sb 0) (L.aA rfl) (WO.aG (row':=[.int .i64 2, .int .i64 (Par.here l:Int), .str 0 0, .str 0 0, .str 0 0, .bool false, .str 0 0, .str 0 0, .slN, .slN, .slN, .slN]) st 2 rfl rfl rfl rfl rfl rfl rfl (fun h st=> ?_))))))
        refine WO.nil (WP.seq (WP.reg (WO.bE rfl (Au D st hl) (fun e a h hm st=> ?_) ?_)))
        ·exact aS.pan (by simp [Par.dG,Par.jD,Par.cZ,Par.gF,Par.bI,Par.dR,Par.dS,Par.eB,Par.gM,Par.fin,hm,hi1,hi6,hi9,hi16,hi20,hi23,hi26]) (st.tail.tail)
        rintro a28 l28 _ h i28 m28 hl28 ⟨rfl,st⟩
        refine WO.val (v:=L.str a28.1) rfl (WO.val (v:=L.str a28.2) rfl (WO.val (v:= .ptr sb 2) (L.aA rfl) (WO.aG (row':=[.int .i64 2, .int .i64 (Par.here l:Int),L.str a28.1, .str 0 0, .str 0 0, .bool false, .str 0 0, .str 0 0, .slN, .slN, .slN, .slN]) st 2 rfl rfl rfl rfl rfl rfl rfl (fun h st=> ?_))))
        refine WO.val (v:= .ptr sb 3) (L.aA rfl) (WO.aG (row':=[.int .i64 2, .int .i64 (Par.here l:Int),L.str a28.1,L.str a28.2, .str 0 0, .bool false, .str 0 0, .str 0 0, .slN, .slN, .slN, .slN]) st 2 rfl rfl rfl rfl rfl rfl rfl (fun h st=> ?_))
        refine WO.nil (WP.seq (WP.reg (WO.bE rfl (eT (s:=[61]) D st hl28) (fun e a h hm st=> ?_) ?_)))
        ·exact aS.pan (by simp [Par.dG,Par.jD,Par.cZ,Par.gF,Par.bI,Par.dR,Par.dS,Par.eB,Par.gM,Par.fin,hm,hi1,hi6,hi9,hi16,hi20,hi23,hi26,m28]) (st.tail.tail)
        rintro a29 l29 _ h i29 m29 hl29 ⟨rfl,st⟩
        refine WO.nil (WP.reg (WO.bE rfl (sj D st hl29 (by omega)) (fun e a h hm st=> ?_) ?_))
        ·exact aS.pan (by simp [Par.dG,Par.jD,Par.cZ,Par.gF,Par.bI,Par.dR,Par.dS,Par.eB,Par.gM,Par.fin,hm,hi1,hi6,hi9,hi16,hi20,hi23,hi26,m28,m29]) (st.tail.tail)
        rintro a30 l30 v30 h i30 m30 hl30 ⟨hc30,st⟩
        refine WO.val (v:= .ptr sb 8) (L.aA rfl) (WO.aG (row':=[.int .i64 2, .int .i64 (Par.here l:Int),L.str a28.1,L.str a28.2, .str 0 0, .bool false, .str 0 0, .str 0 0,v30, .slN, .slN, .slN]) st 3 rfl rfl hc30 rfl rfl rfl rfl (fun h st=> ?_))
        refine WO.nil (WP.seq (WP.reg (WO.bE rfl (eT (s:=[59]) D ((st.pick 2 rfl).pick 2 rfl) hl30) (fun e a h hm st=> ?_) ?_)))
        ·exact aS.pan (by simp [Par.dG,Par.jD,Par.cZ,Par.gF,Par.bI,Par.dR,Par.dS,Par.eB,Par.gM,Par.fin,hm,hi1,hi6,hi9,hi16,hi20,hi23,hi26,m28,m29,m30]) (st.tail.tail.tail)
        rintro a31 l31 _ h i31 m31 hl31 ⟨rfl,st⟩
        refine WO.nil (WP.seq (WP.reg (WO.val (v:= .agg [.int .i64 2, .int .i64 (Par.here l:Int),L.str a28.1,L.str a28.2, .str 0 0, .bool false, .str 0 0, .str 0 0,v30, .slN, .slN, .slN]) (L.aK rfl (st.aj 3 rfl) rfl rfl rfl) (WO.aG (row':=[.int .i64 2, .int .i64 (Par.here l:Int),L.str a28.1,L.str a28.2, .str 0 0, .bool false, .str 0 0, .str 0 0,v30, .slN, .slN, .slN]) st 4 rfl rfl rfl rfl rfl rfl rfl (fun h st=> ?_)))))
        refine WO.nil (WP.ret ?_)
        exact ⟨_,(ak (aP (l:=[.int .i64 2, .int .i64 (Par.here l:Int),L.str a28.1,L.str a28.2, .str 0 0, .bool false, .str 0 0, .str 0 0,v30, .slN, .slN, .slN]) rfl (L.aT (st.aj 4 rfl) rfl rfl rfl)) (aF _ _)),aS.ok (x:=(Sm.mk 2 (Par.here l) a28.1 a28.2 ([]) false ([]) ([]) a30 [] [] [])) (l:=l31) (by simp [Par.dG,Par.jD,Par.cZ,Par.gF,Par.bI,Par.dR,Par.dS,Par.eB,Par.gM,Par.fin,hi1,hi6,hi9,hi16,hi20,hi23,hi26,m28,m29,m30,m31]) hl31 ⟨[.int .i64 2, .int .i64 (Par.here l:Int),L.str a28.1,L.str a28.2, .str 0 0, .bool false, .str 0 0, .str 0 0,v30, .slN, .slN, .slN],rfl,rfl,(by have _:=hl.len;have _:=hl.lt;have _:=Par.vg m28;have _:=hl28.len;have _:=Par.aW m29;have _:=hl29.len;have _:=fZ m30;have _:=hl30.len;have _:=Par.aW m31;have _:=hl31.len;have _:=hl.len;have _:=hl.lt;omega),((((st.pick 3 rfl).tail.pick 3 rfl).tail.pick 2 rfl)).iA (Q:=fun h=>SmR h (Sm.mk 2 (Par.here l) a28.1 a28.2 ([]) false ([]) ([]) a30 [] [] []) [.int .i64 2, .int .i64 (Par.here l:Int),L.str a28.1,L.str a28.2, .str 0 0, .bool false, .str 0 0, .str 0 0,v30, .slN, .slN, .slN]) (fun h hx=>by simp only [SmR];exact ⟨_,_,_,_,rfl,hx,⟨[],Rows.nil,trivial⟩,⟨[],Rows.nil,bF.nil⟩,⟨[],Rows.nil,bF.nil⟩⟩)⟩⟩
theorem Iq (D:gq c) {p:RP}:∀f,StmOk c p (Par.stmt f) f
 |0=>fun st hl hd hN=>absurd (List.length_eq_zero_iff.1 (Nat.le_zero.1 hN)) hl.ne
 |f+1=>fun st hl hd hN=>stmt_c D (fun st hl hd hN=>LG D (Iq D f) st hl hd (Nat.le_succ_of_le hN)) st hl hd hN
theorem blk_c (D:gq c) {p:RP} {fs:List Fact} {h:Heap} {i d:Nat} {l:List Tok} (st:St (p.box i d::p.toks::fs) h) (hl:Left p i l) (hd:d≤40):
 gV c 65 [.ptr p.rb 0] h (aS p 80 (Par.block d l) (fun a i1 v h1=>i<i1∧v.bM=some [v]∧St (.stb (fun h=>iD h v a)::p.box i1 d::p.toks::fs) h1) (St fs)):=LG D (Iq D l.length) st hl hd (Nat.le_succ _)
end
end Go.Eng.YtjobofnpmmjeoaaGreatDoor.Pq
namespace Go.Eng.YtjobofnpmmjeoaaGreatDoor.Pq
open Go.Eng
noncomputable section
variable {c:Ctx}
def OneOk (c:Ctx) (p:RP) (d g:Nat) (caps:List V) {α β:Type} (one:α→List Tok→Par.R α) (I:α→β→List Fact) (sz:α→Nat):Prop:=∀{fs:List Fact} {h:Heap} {i:Nat} {l:List Tok} (x:α) (w:β),St (p.box i d::p.toks::(I x w++fs)) h→Left p i l→sz x≤i→
 gV c g caps h (aS p 80 (one x l) (fun y i1 v h1=>i<i1∧sz y≤i1∧∃w,St (p.box i1 d::p.toks::(I y w++fs)) h1) (St fs))
theorem zk (D:gq c) {α β:Type} {p:RP} {d g:Nat} {caps:List V} {one:α→List Tok→Par.R α} {I:α→β→List Fact} {sz:α→Nat} (hone:OneOk c p d g caps one I sz) {e:List UInt8} {fs:List Fact} {h:Heap} {i:Nat} {l:List Tok} (x:α) (w:β) (st:St (p.box i d::p.toks::(I x w++fs)) h) (hl:Left p i l) (hsz:sz x≤i):
 gV c 62 [.ptr p.rb 0,L.str e, .fn g [] caps] h (aS p 80 (Par.several one e l x) (fun y i1 v h1=>i<i1∧sz y≤i1∧∃w,St (p.box i1 d::p.toks::(I y w++fs)) h1) (St fs)):=by
 have hdrop:∀(x:α) (w:β) (h:Heap),St (I x w++fs) h→St fs h:=fun x w h s=>s.sub (List.sublist_append_right _ _)
 refine gV.dh D.f62 rfl (WP.seq (WP.reg (WO.aB (v:= .int .i64 0) rfl (WO.nil (WP.block (WP.eO (α:=Nat) (fun k env h=>∃lz iz xz wz nz x3 x5,(Par.several one e l x=Par.dx one e k nz lz xz∧lz.length≤k∧Left p iz lz∧i≤iz∧nz+lz.length≤l.length∧sz xz≤iz)∧env=bG [.ptr p.rb 0,L.str e, .fn g [] caps,x3, .int .i64 (nz:Int),x5] 0 Env.nil∧St ((p.box iz d)::p.toks::(I xz wz++fs)) h) (fun k=>k) l.length ?_ ?_))))))
 ·exact ⟨l,i,x,w,0, .bot, .bot,⟨rfl,Nat.le_refl _,hl,Nat.le_refl _,by omega,hsz⟩,by kernel_rfl,st⟩
 rintro k _ h ⟨lz,iz,xz,wz,nz,x3,x5,⟨hs,hk,hlz,hii,hnz,hszz⟩,rfl,st⟩
 have hlp:=List.length_pos_iff.2 hlz.ne
 obtain ⟨k,rfl⟩:∃m,k=m+1:=⟨k - 1,by omega⟩
 refine WP.seq (WP.seq (WP.reg (WO.aM rfl (kY D st hlz) ?_)))
 rintro _ h (⟨rfl,hi,hl0,st⟩|⟨rfl,hi,st⟩)
 ·replace st:St ((p.box (iz+1:Nat) d)::p.toks::(I xz wz++fs)) h:=st
  refine WO.aB (v:= .bool false) rfl (WO.nil (WP.cond (t:=false) rfl (WP.exit ?_)))
  exact ⟨_,(aF _ _),aS.ok (x:=xz) (l:=lz.tail) (by rw [hs];simp [Par.dx,hi]) hl0 ⟨(by have:=hlz.len;omega),(by omega),wz,st⟩⟩
 ·replace st:St ((p.box iz d)::p.toks::(I xz wz++fs)) h:=st
  refine WO.aB (v:= .bool true) rfl (WO.nil (WP.cond (t:=true) rfl (WP.skip (WP.seq (WP.block (WP.seq (WP.seq (WP.reg (WO.ifS (L.gtr rfl rfl) (fun c1=> ?_) (fun c1=> ?_))))))))))
  ·replace c1:nz≠0:=by omega
   refine WO.nil (WP.cond (t:=true) rfl (WP.reg (WO.bE rfl (eT (s:=[44]) D st hlz) (fun e a h hm st=> ?_) ?_)))
   ·exact aS.pan (by rw [hs];simp [Par.dx,hm,hi,c1]) (hdrop _ _ _ st)
   rintro a1 l1 _ h i1 m1 hl1 ⟨rfl,st⟩
   refine WO.nil (WP.reg ?_)
   replace hszz:sz xz≤i1:=(by have _:=hlz.len;have _:=hlz.lt;have _:=hl.len;have _:=hl.small;have _:=hl1.len;have _:=hl1.lt;have _:=Par.aW m1;omega)
   refine WO.yY rfl rfl (hone xz wz st hl1 hszz) (fun e a h hm st=> ?_) ?_
   ·exact aS.pan (by rw [hs];simp [Par.dx,hm,hi,c1,m1]) st
   rintro y2 l2 _ h i2 m2 hl2 ⟨hlt2,hsz2,w2,st⟩
   refine WO.nil (WP.reg (WO.aB (v:= .int .i64 ((nz+1:Nat):Int)) (L.fQ rfl rfl (by omega) (by have _:=hlz.len;have _:=hlz.lt;have _:=hl.len;have _:=hl.small;have _:=hl1.len;have _:=hl1.lt;have _:=Par.aW m1;have _:=hl2.len;have _:=hl2.lt;exact And.intro (by omega) (by omega))) (WO.nil ?_)))
   exact ⟨k,(Nat.lt_succ_self _),l2,i2,y2,w2,(nz+1),(.bool true),(.bool true),⟨by rw [hs];simp [Par.dx,hi,c1,m1,m2],(by have _:=hlz.len;have _:=hlz.lt;have _:=hl.len;have _:=hl.small;have _:=hl1.len;have _:=hl1.lt;have _:=Par.aW m1;have _:=hl2.len;have _:=hl2.lt;omega),hl2,(by have _:=hlz.len;have _:=hlz.lt;have _:=hl.len;have _:=hl.small;have _:=hl1.len;have _:=hl1.lt;have _:=Par.aW m1;have _:=hl2.len;have _:=hl2.lt;omega),(by have _:=hlz.len;have _:=hlz.lt;have _:=hl.len;have _:=hl.small;have _:=hl1.len;have _:=hl1.lt;have _:=Par.aW m1;have _:=hl2.len;have _:=hl2.lt;omega),hsz2⟩,by kernel_rfl,st⟩
  ·replace c1:nz=0:=by omega
   refine WO.nil (WP.cond (t:=false) rfl (WP.skip (WP.reg (WO.yY rfl rfl (hone xz wz st hlz hszz) (fun e a h hm st=> ?_) ?_))))
   ·exact aS.pan (by rw [hs];simp [Par.dx,hm,hi,c1]) st
   rintro y3 l3 _ h i3 m3 hl3 ⟨hlt3,hsz3,w3,st⟩
   refine WO.nil (WP.reg (WO.aB (v:= .int .i64 ((nz+1:Nat):Int)) (L.fQ rfl rfl (by omega) (by have _:=hlz.len;have _:=hlz.lt;have _:=hl.len;have _:=hl.small;have _:=hl3.len;have _:=hl3.lt;exact And.intro (by omega) (by omega))) (WO.nil ?_)))
   exact ⟨k,(Nat.lt_succ_self _),l3,i3,y3,w3,(nz+1),(.bool true),(.bool false),⟨by rw [hs];simp [Par.dx,hi,c1,m3],(by have _:=hlz.len;have _:=hlz.lt;have _:=hl.len;have _:=hl.small;have _:=hl3.len;have _:=hl3.lt;omega),hl3,(by have _:=hlz.len;have _:=hlz.lt;have _:=hl.len;have _:=hl.small;have _:=hl3.len;have _:=hl3.lt;omega),(by have _:=hlz.len;have _:=hlz.lt;have _:=hl.len;have _:=hl.small;have _:=hl3.len;have _:=hl3.lt;omega),hsz3⟩,by kernel_rfl,st⟩
def C9 (p:RP) (rv pb:Nat) (row:V→List V) (r:Nat) {α:Type} (rows:α→List (List V)) (x:α) (w:Nat×V):List Fact:=[.box rv [.ptr p.rb 0], .box pb (row w.2), .acc w.1 r w.2 (rows x)]
theorem parm_c (D:gq c) {p:RP} {d rv pb at_:Nat} {nm:List UInt8} {fs:List Fact} {h:Heap} {i:Nat} {l:List Tok} (x:List Pm) (w:Nat×V) (st:St (p.box i d::p.toks::(C9 p rv pb (fun v=>[L.str nm,v, .bool false,L.str [],L.str [], .slN, .slN, .int .i64 (at_:Int)]) 3 (fun x:List Pm=>x.map Pm.row) x w++fs)) h) (hl:Left p i l) (hx:x.length≤i):
 gV c 63 [.ptr rv 0, .ptr pb 0] h (aS p 80 (Par.qM x l) (fun y i1 v h1=>i<i1∧y.length≤i1∧∃w,St (p.box i1 d::p.toks::(C9 p rv pb (fun v=>[L.str nm,v, .bool false,L.str [],L.str [], .slN, .slN, .int .i64 (at_:Int)]) 3 (fun x:List Pm=>x.map Pm.row) y w++fs)) h1) (St fs)):=by
 refine gV.dh D.f63 rfl (WP.seq (WP.draw (WD.val (v:= .ptr p.rb 0) (L.aC rfl (st.aj 2 rfl) rfl) (WD.val (v:= .ptr p.rb 0) (L.aC rfl (st.aj 2 rfl) rfl) (WD.bL st L.alloc (fun qb h st=> ?_))))))
 refine WD.aM rfl (vK D ((st.pick 2 rfl).pick 2 rfl) hl) (fun _ h hp=> ?_) ?_
 ·obtain ⟨rfl,st⟩:=hp
  exact aR (by first|exact av (L.aC rfl (st.aj 0 rfl) rfl)|exact aH st 0 rfl|exact av (L.aK rfl (st.aj 0 rfl) rfl rfl rfl)|exact av (L.aC rfl (st.aj 2 rfl) rfl)|exact aH st 2 rfl|exact av (L.aK rfl (st.aj 2 rfl) rfl rfl rfl)|exact av (L.aC rfl (st.aj 3 rfl) rfl)|exact aH st 3 rfl|exact av (L.aK rfl (st.aj 3 rfl) rfl rfl rfl)|exact av (L.aC rfl (st.aj 4 rfl) rfl)|exact aH st 4 rfl|exact av (L.aK rfl (st.aj 4 rfl) rfl rfl rfl)) (aR (by first|exact av (L.aC rfl (st.aj 0 rfl) rfl)|exact aH st 0 rfl|exact av (L.aK rfl (st.aj 0 rfl) rfl rfl rfl)|exact av (L.aC rfl (st.aj 2 rfl) rfl)|exact aH st 2 rfl|exact av (L.aK rfl (st.aj 2 rfl) rfl rfl rfl)|exact av (L.aC rfl (st.aj 3 rfl) rfl)|exact aH st 3 rfl|exact av (L.aK rfl (st.aj 3 rfl) rfl rfl rfl)|exact av (L.aC rfl (st.aj 4 rfl) rfl)|exact aH st 4 rfl|exact av (L.aK rfl (st.aj 4 rfl) rfl rfl rfl)) (bC _ _))
 rintro _ h ⟨rfl,st⟩
 refine WD.val (v:= .int .i64 (Par.here l:Int)) rfl (WD.bE rfl (jZ D st hl) (fun e a h hm st=> ?_) (fun _ _ h _ hp=> ?_) ?_)
 ·exact aS.pan (by simp [Par.qM,hm]) (st.tail.tail.tail.tail)
 ·obtain ⟨rfl,st⟩:=hp
  exact aR (by first|exact av (L.aC rfl (st.aj 0 rfl) rfl)|exact aH st 0 rfl|exact av (L.aK rfl (st.aj 0 rfl) rfl rfl rfl)|exact av (L.aC rfl (st.aj 2 rfl) rfl)|exact aH st 2 rfl|exact av (L.aK rfl (st.aj 2 rfl) rfl rfl rfl)|exact av (L.aC rfl (st.aj 3 rfl) rfl)|exact aH st 3 rfl|exact av (L.aK rfl (st.aj 3 rfl) rfl rfl rfl)|exact av (L.aC rfl (st.aj 4 rfl) rfl)|exact aH st 4 rfl|exact av (L.aK rfl (st.aj 4 rfl) rfl rfl rfl)) (bC _ _)
 rintro a1 l1 _ h i1 m1 hl1 ⟨rfl,st⟩
 refine WD.val (v:= .agg [L.str a1, .str 0 0, .int .i64 (Par.here l:Int)]) (L.build rfl) (WD.aG (row':=[L.str a1, .str 0 0, .int .i64 (Par.here l:Int)]) st 2 rfl rfl rfl rfl rfl rfl rfl (fun h st=>rfl) (fun h st=> ?_))
 refine WD.nil (WP.seq (WP.reg (WO.val (v:= .ptr p.rb 0) (L.aC rfl (st.aj 3 rfl) rfl) (WO.bE rfl (eT (s:=[58]) D st hl1) (fun e a h hm st=> ?_) ?_))))
 ·exact aS.pan (by simp [Par.qM,hm,m1]) (st.tail.tail.tail.tail)
 rintro a2 l2 _ h i2 m2 hl2 ⟨rfl,st⟩
 refine WO.nil (WP.seq (WP.reg (WO.val (v:= .ptr p.rb 0) (L.aC rfl (st.aj 3 rfl) rfl) (WO.bE rfl (jZ D st hl2) (fun e a h hm st=> ?_) ?_))))
 ·exact aS.pan (by simp [Par.qM,hm,m1,m2]) (st.tail.tail.tail.tail)
 rintro a3 l3 _ h i3 m3 hl3 ⟨rfl,st⟩
 refine WO.val (v:= .ptr qb 1) (L.aA rfl) (WO.aG (row':=[L.str a1,L.str a3, .int .i64 (Par.here l:Int)]) st 2 rfl rfl rfl rfl rfl rfl rfl (fun h st=> ?_))
 refine WO.nil (WP.reg (WO.val (v:= .ptr pb 1) (L.aA rfl) (WO.val (v:=w.2) (L.aC rfl (st.aj 4 rfl) rfl) (WO.val (v:= .agg [L.str a1,L.str a3, .int .i64 (Par.here l:Int)]) (L.aK rfl (st.aj 2 rfl) rfl rfl rfl) (WO.iY (rows:=[[L.str a1,L.str a3, .int .i64 (Par.here l:Int)]]) st rfl (by decide) rfl (by simp) (fun bs1 h st=> ?_))))))
 refine WO.rX st 6 rfl rfl rfl (st.aJ 0 rfl) (by decide) (by have:=hl.lt;have:=hl.small;simp;omega) (fun f4 v4 h st=> ?_)
 rw [show (x.map Pm.row)++[[L.str a1,L.str a3,V.int .i64 (Par.here l:Int)]]=(x++[Pm.mk a1 a3 (Par.here l)]).map Pm.row from by simp [Pm.row]] at st
 obtain ⟨ab4,rfl⟩:=(st.bQ 6 rfl).ne (by simp)
 refine WO.val (v:= .ptr pb 1) (L.aA rfl) (WO.aG (row':=[L.str nm, .sl ab4 0 (((x++[Pm.mk a1 a3 (Par.here l)]).map Pm.row).length) none, .bool false,L.str [],L.str [], .slN, .slN, .int .i64 (at_:Int)]) st 5 rfl rfl rfl rfl rfl rfl rfl (fun h st=> ?_))
 refine WO.nil ?_
 exact ⟨_,(aF _ _),aS.ok (x:=x++[Pm.mk a1 a3 (Par.here l)]) (l:=l3) (by simp [Par.qM,m1,m2,m3]) hl3 ⟨(by have _:=hl.len;have _:=hl.lt;have _:=Par.dF m1;have _:=hl1.len;have _:=Par.aW m2;have _:=hl2.len;have _:=Par.dF m3;have _:=hl3.len;omega),(by have _:=hl.len;have _:=hl.lt;have _:=Par.dF m1;have _:=hl1.len;have _:=Par.aW m2;have _:=hl2.len;have _:=Par.dF m3;have _:=hl3.len;simp;omega),(f4, .sl ab4 0 ((x++[Pm.mk a1 a3 (Par.here l)]).map Pm.row).length none),(st.tail.pick 2 rfl).tail⟩⟩
theorem use_c (D:gq c) {p:RP} {d rv pb at_:Nat} {nm rs pc:List UInt8} {vp:V} {has:Bool} {fs:List Fact} {h:Heap} {i:Nat} {l:List Tok} (x:List (List UInt8)) (w:Nat×V) (st:St (p.box i d::p.toks::(C9 p rv pb (fun v=>[L.str nm,vp, .bool has,L.str rs,L.str pc,v, .slN, .int .i64 (at_:Int)]) 1 (fun x:List (List UInt8)=>x.map bK) x w++fs)) h) (hl:Left p i l) (hx:x.length≤i):
 gV c 64 [.ptr pb 0, .ptr rv 0] h (aS p 80 (Par.use x l) (fun y i1 v h1=>i<i1∧y.length≤i1∧∃w,St (p.box i1 d::p.toks::(C9 p rv pb (fun v=>[L.str nm,vp, .bool has,L.str rs,L.str pc,v, .slN, .int .i64 (at_:Int)]) 1 (fun x:List (List UInt8)=>x.map bK) y w++fs)) h1) (St fs)):=by
 refine gV.dh D.f64 rfl (WP.draw (WD.val (v:= .ptr pb 5) (L.aA rfl) (WD.val (v:=w.2) (L.aC rfl (st.aj 3 rfl) rfl) (WD.val (v:= .ptr p.rb 0) (L.aC rfl (st.aj 2 rfl) rfl) (WD.bE rfl (jZ D st hl) (fun e a h hm st=> ?_) (fun _ _ h _ hp=> ?_) ?_)))))
 ·exact aS.pan (by simp [Par.use,hm]) (st.tail.tail.tail)
 ·obtain ⟨rfl,st⟩:=hp
  exact aR (by first|exact av (L.aC rfl (st.aj 0 rfl) rfl)|exact aH st 0 rfl|exact av (L.aK rfl (st.aj 0 rfl) rfl rfl rfl)|exact av (L.aC rfl (st.aj 2 rfl) rfl)|exact aH st 2 rfl|exact av (L.aK rfl (st.aj 2 rfl) rfl rfl rfl)|exact av (L.aC rfl (st.aj 3 rfl) rfl)|exact aH st 3 rfl|exact av (L.aK rfl (st.aj 3 rfl) rfl rfl rfl)) (bC _ _)
 rintro a1 l1 _ h i1 m1 hl1 ⟨rfl,st⟩
 refine WD.iY (rows:=[[L.str a1]]) st rfl (by decide) rfl (by simp) (fun bs1 h _ st=> ?_)
 refine WD.rX st 5 rfl rfl rfl (st.aJ 0 rfl) (by decide) (by have:=hl.lt;have:=hl.small;simp;omega) (fun _ _ h st=>rfl) (fun f2 v2 h st=> ?_)
 rw [show (x.map bK)++[[L.str a1]]=(x++[a1]).map bK from by simp [bK]] at st
 obtain ⟨ab2,rfl⟩:=(st.bQ 5 rfl).ne (by simp)
 refine WD.val (v:= .ptr pb 5) (L.aA rfl) (WD.aG (row':=[L.str nm,vp, .bool has,L.str rs,L.str pc, .sl ab2 0 (((x++[a1]).map bK).length) none, .slN, .int .i64 (at_:Int)]) st 4 rfl rfl rfl rfl rfl rfl rfl (fun h st=>rfl) (fun h st=> ?_))
 refine WD.nil ?_
 exact ⟨_,(aF _ _),aS.ok (x:=x++[a1]) (l:=l1) (by simp [Par.use,m1]) hl1 ⟨(by have _:=hl.len;have _:=hl.lt;have _:=Par.dF m1;have _:=hl1.len;omega),(by have _:=hl.len;have _:=hl.lt;have _:=Par.dF m1;have _:=hl1.len;simp;omega),(f2, .sl ab2 0 ((x++[a1]).map bK).length none),st.tail⟩⟩
theorem proc_c (D:gq c) {fs:List Fact} {h:Heap} {p:RP} {i d:Nat} {l:List Tok} (st:St (p.box i d::p.toks::fs) h) (hl:Left p i l) (hd:d≤40):
 gV c 51 [.ptr p.rb 0] h (aS p 80 (Par.proc d l) (fun a i1 v h1=>∃row,v= .agg row∧row.length=8∧i<i1∧St (.stb (fun h=>PrR h a row)::p.box i1 d::p.toks::fs) h1) (St fs)):=by
 refine gV.dh D.f51 rfl (WP.seq (WP.reg (WO.bL st (L.box (l:=[.ptr p.rb 0]) rfl rfl) (fun rv h st=> ?_))))
 refine WO.bL st L.alloc (fun rb_ h st=> ?_)
 refine WO.nil (WP.seq (WP.draw (WD.val (v:= .ptr p.rb 0) (L.aC rfl (st.aj 1 rfl) rfl) (WD.val (v:= .ptr p.rb 0) (L.aC rfl (st.aj 1 rfl) rfl) (WD.bL st L.alloc (fun pb h st=> ?_))))))
 refine WD.aM rfl (vK D ((st.pick 4 rfl).pick 4 rfl) hl) (fun _ h hp=> ?_) ?_
 ·obtain ⟨rfl,st⟩:=hp
  exact aR (by first|exact av (L.aC rfl (st.aj 0 rfl) rfl)|exact aH st 0 rfl|exact av (L.aK rfl (st.aj 0 rfl) rfl rfl rfl)|exact av (L.aC rfl (st.aj 2 rfl) rfl)|exact aH st 2 rfl|exact av (L.aK rfl (st.aj 2 rfl) rfl rfl rfl)|exact av (L.aC rfl (st.aj 3 rfl) rfl)|exact aH st 3 rfl|exact av (L.aK rfl (st.aj 3 rfl) rfl rfl rfl)|exact av (L.aC rfl (st.aj 4 rfl) rfl)|exact aH st 4 rfl|exact av (L.aK rfl (st.aj 4 rfl) rfl rfl rfl)) (aR (by first|exact av (L.aC rfl (st.aj 0 rfl) rfl)|exact aH st 0 rfl|exact av (L.aK rfl (st.aj 0 rfl) rfl rfl rfl)|exact av (L.aC rfl (st.aj 2 rfl) rfl)|exact aH st 2 rfl|exact av (L.aK rfl (st.aj 2 rfl) rfl rfl rfl)|exact av (L.aC rfl (st.aj 3 rfl) rfl)|exact aH st 3 rfl|exact av (L.aK rfl (st.aj 3 rfl) rfl rfl rfl)|exact av (L.aC rfl (st.aj 4 rfl) rfl)|exact aH st 4 rfl|exact av (L.aK rfl (st.aj 4 rfl) rfl rfl rfl)) (bC _ _))
 rintro _ h ⟨rfl,st⟩
 refine WD.val (v:= .int .i64 (Par.here l:Int)) rfl (WD.bE rfl (jZ D st hl) (fun e a h hm st=> ?_) (fun _ _ h _ hp=> ?_) ?_)
 ·exact aS.pan (by simp [Par.proc,Par.gN,hm]) (st.tail.tail.tail)
 ·obtain ⟨rfl,st⟩:=hp
  exact aR (by first|exact av (L.aC rfl (st.aj 0 rfl) rfl)|exact aH st 0 rfl|exact av (L.aK rfl (st.aj 0 rfl) rfl rfl rfl)|exact av (L.aC rfl (st.aj 2 rfl) rfl)|exact aH st 2 rfl|exact av (L.aK rfl (st.aj 2 rfl) rfl rfl rfl)|exact av (L.aC rfl (st.aj 3 rfl) rfl)|exact aH st 3 rfl|exact av (L.aK rfl (st.aj 3 rfl) rfl rfl rfl)|exact av (L.aC rfl (st.aj 4 rfl) rfl)|exact aH st 4 rfl|exact av (L.aK rfl (st.aj 4 rfl) rfl rfl rfl)) (bC _ _)
 rintro a1 l1 _ h i1 m1 hl1 ⟨rfl,st⟩
 refine WD.val (v:= .agg [L.str a1, .slN, .bool false, .str 0 0, .str 0 0, .slN, .slN, .int .i64 (Par.here l:Int)]) (L.build rfl) (WD.aG (row':=[L.str a1, .slN, .bool false, .str 0 0, .str 0 0, .slN, .slN, .int .i64 (Par.here l:Int)]) st 2 rfl rfl rfl rfl rfl rfl rfl (fun h st=>rfl) (fun h st=> ?_))
 refine WD.nil (WP.seq (WP.reg (WO.val (v:= .ptr p.rb 0) (L.aC rfl (st.aj 4 rfl) rfl) (WO.bE rfl (eT (s:=[40]) D st hl1) (fun e a h hm st=> ?_) ?_))))
 ·exact aS.pan (by simp [Par.proc,Par.gN,hm,m1]) (st.tail.tail.tail)
 rintro a2 l2 _ h i2 m2 hl2 ⟨rfl,st⟩
 refine WO.nil (WP.seq (WP.reg (WO.val (v:= .ptr p.rb 0) (L.aC rfl (st.aj 4 rfl) rfl) (WO.val (v:= .fn 63 [] [.ptr rv 0, .ptr pb 0]) rfl ?_))))
 replace st:St (.acc 0 3 .slN (([]:List Pm).map Pm.row)::(p.box i2 d)::p.toks:: .box pb [L.str a1, .slN, .bool false, .str 0 0, .str 0 0, .slN, .slN, .int .i64 (Par.here l:Int)]:: .box rb_ [.str 0 0, .slN, .bool false, .str 0 0, .str 0 0, .slN, .slN, .int .i64 0]:: .box rv [.ptr p.rb 0]::fs) h:=st.acc0 3
 refine WO.bE rfl (zk (I:=C9 p rv pb (fun v=>[L.str a1,v, .bool false, .str 0 0, .str 0 0, .slN, .slN, .int .i64 (Par.here l:Int)]) 3 (fun x:List Pm=>x.map Pm.row)) (one:=Par.qM) (sz:=List.length) (fs:= .box rb_ [.str 0 0, .slN, .bool false, .str 0 0, .str 0 0, .slN, .slN, .int .i64 0]::fs) (e:=[41]) D (fun x w st hl hx=>parm_c (nm:=a1) (at_:=Par.here l) D x w st hl hx) ([]:List Pm) (0, .slN) ((((st.pick 3 rfl).pick 5 rfl).pick 4 rfl).pick 4 rfl) hl2 (Nat.zero_le _)) (fun e a h hm st=> ?_) ?_
 ·exact aS.pan (by simp [Par.proc,Par.gN,hm,m1,m2]) (st.tail)
 rintro a3 l3 _ h i3 m3 hl3 ⟨hlt3,hsz3,⟨f3,v3⟩,st⟩
 refine WO.nil (WP.seq (WP.seq (WP.reg (WO.val (v:= .ptr p.rb 0) (L.aC rfl (st.aj 2 rfl) rfl) (WO.aU rfl (kY (s:=[45,62]) D st hl3) ?_)))))
 rintro _ h (⟨rfl,hi4,hl4,st⟩|⟨rfl,hi4,st⟩)
 ·replace st:St ((p.box (i3+1:Nat) d)::p.toks:: .box rv [.ptr p.rb 0]:: .box pb [L.str a1,v3, .bool false, .str 0 0, .str 0 0, .slN, .slN, .int .i64 (Par.here l:Int)]:: .acc f3 3 v3 (a3.map Pm.row):: .box rb_ [.str 0 0, .slN, .bool false, .str 0 0, .str 0 0, .slN, .slN, .int .i64 0]::fs) h:=st
  refine WO.nil (WP.cond (t:=true) rfl (WP.reg (WO.val (v:= .ptr p.rb 0) (L.aC rfl (st.aj 2 rfl) rfl) (WO.bE rfl (jZ D st hl4) (fun e a h hm st=> ?_) ?_))))
  ·exact aS.pan (by simp [Par.proc,Par.gN,hm,m1,m2,m3,hi4]) (st.tail.tail.tail.tail)
  rintro a5 l5 _ h i5 m5 hl5 ⟨rfl,st⟩
  refine WO.val (v:= .ptr pb 2) (L.aA rfl) (WO.aG (row':=[L.str a1,v3, .bool true, .str 0 0, .str 0 0, .slN, .slN, .int .i64 (Par.here l:Int)]) st 3 rfl rfl rfl rfl rfl rfl rfl (fun h st=> ?_))
  refine WO.val (v:= .ptr pb 3) (L.aA rfl) (WO.aG (row':=[L.str a1,v3, .bool true,L.str a5, .str 0 0, .slN, .slN, .int .i64 (Par.here l:Int)]) st 3 rfl rfl rfl rfl rfl rfl rfl (fun h st=> ?_))
  refine WO.nil (WP.seq (WP.reg (WO.val (v:= .ptr p.rb 0) (L.aC rfl (st.aj 2 rfl) rfl) (WO.bE rfl (eT (s:=[112,99]) D st hl5) (fun e a h hm st=> ?_) ?_))))
  ·exact aS.pan (by simp [Par.proc,Par.gN,hm,m1,m2,m3,hi4,m5]) (st.tail.tail.tail.tail)
  rintro a6 l6 _ h i6 m6 hl6 ⟨rfl,st⟩
  refine WO.nil (WP.seq (WP.reg (WO.val (v:= .ptr p.rb 0) (L.aC rfl (st.aj 2 rfl) rfl) (WO.bE rfl (jZ D st hl6) (fun e a h hm st=> ?_) ?_))))
  ·exact aS.pan (by simp [Par.proc,Par.gN,hm,m1,m2,m3,hi4,m5,m6]) (st.tail.tail.tail.tail)
  rintro a7 l7 _ h i7 m7 hl7 ⟨rfl,st⟩
  refine WO.val (v:= .ptr pb 4) (L.aA rfl) (WO.aG (row':=[L.str a1,v3, .bool true,L.str a5,L.str a7, .slN, .slN, .int .i64 (Par.here l:Int)]) st 3 rfl rfl rfl rfl rfl rfl rfl (fun h st=> ?_))
  refine WO.nil (WP.seq (WP.reg (WO.val (v:= .ptr p.rb 0) (L.aC rfl (st.aj 2 rfl) rfl) (WO.bE rfl (eT (s:=[117,115,101,115]) D st hl7) (fun e a h hm st=> ?_) ?_))))
  ·exact aS.pan (by simp [Par.proc,Par.gN,hm,m1,m2,m3,hi4,m5,m6,m7]) (st.tail.tail.tail.tail)
  rintro a8 l8 _ h i8 m8 hl8 ⟨rfl,st⟩
  refine WO.nil (WP.seq (WP.reg (WO.val (v:= .ptr p.rb 0) (L.aC rfl (st.aj 2 rfl) rfl) (WO.bE rfl (eT (s:=[123]) D st hl8) (fun e a h hm st=> ?_) ?_))))
  ·exact aS.pan (by simp [Par.proc,Par.gN,hm,m1,m2,m3,hi4,m5,m6,m7,m8]) (st.tail.tail.tail.tail)
  rintro a9 l9 _ h i9 m9 hl9 ⟨rfl,st⟩
  refine WO.nil (WP.seq (WP.reg (WO.val (v:= .ptr p.rb 0) (L.aC rfl (st.aj 2 rfl) rfl) (WO.val (v:= .fn 64 [] [.ptr pb 0, .ptr rv 0]) rfl ?_))))
  replace st:St (.acc 0 1 .slN (([]:List (List UInt8)).map bK)::(p.box i9 d)::p.toks:: .box rv [.ptr p.rb 0]:: .box pb [L.str a1,v3, .bool true,L.str a5,L.str a7, .slN, .slN, .int .i64 (Par.here l:Int)]:: .acc f3 3 v3 (a3.map Pm.row):: .box rb_ [.str 0 0, .slN, .bool false, .str 0 0, .str 0 0, .slN, .slN, .int .i64 0]::fs) h:=st.acc0 1
  refine WO.bE rfl (zk (I:=C9 p rv pb (fun v=>[L.str a1,v3, .bool true,L.str a5,L.str a7,v, .slN, .int .i64 (Par.here l:Int)]) 1 (fun x:List (List UInt8)=>x.map bK)) (one:=Par.use) (sz:=List.length) (fs:= .acc f3 3 v3 (a3.map Pm.row):: .box rb_ [.str 0 0, .slN, .bool false, .str 0 0, .str 0 0, .slN, .slN, .int .i64 0]::fs) (e:=[125]) D (fun x w st hl hx=>use_c (nm:=a1) (at_:=Par.here l) (vp:=v3) (has:=true) (rs:=a5) (pc:=a7) D x w st hl hx) ([]:List (List UInt8)) (0, .slN) ((((st.pick 4 rfl).pick 4 rfl).pick 4 rfl).pick 4 rfl) hl9 (Nat.zero_le _)) (fun e a h hm st=> ?_) ?_
  ·exact aS.pan (by simp [Par.proc,Par.gN,hm,m1,m2,m3,hi4,m5,m6,m7,m8,m9]) (st.tail.tail)
  rintro a10 l10 _ h i10 m10 hl10 ⟨hlt10,hsz10,⟨f10,v10⟩,st⟩
  refine WO.nil (WP.seq (WP.reg (WO.val (v:= .ptr p.rb 0) (L.aC rfl (st.aj 2 rfl) rfl) (WO.bE rfl (blk_c D st hl10 (by omega)) (fun e a h hm st=> ?_) ?_))))
  ·exact aS.pan (by simp [Par.proc,Par.gN,hm,m1,m2,m3,hi4,m5,m6,m7,m8,m9,m10]) (st.tail.tail.tail.tail.tail)
  rintro a11 l11 v11 h i11 m11 hl11 ⟨hlt11,hc11,st⟩
  refine WO.val (v:= .ptr pb 6) (L.aA rfl) (WO.aG (row':=[L.str a1,v3, .bool true,L.str a5,L.str a7,v10,v11, .int .i64 (Par.here l:Int)]) st 4 rfl rfl hc11 rfl rfl rfl rfl (fun h st=> ?_))
  refine WO.nil (WP.seq (WP.reg (WO.val (v:= .agg [L.str a1,v3, .bool true,L.str a5,L.str a7,v10,v11, .int .i64 (Par.here l:Int)]) (L.aK rfl (st.aj 4 rfl) rfl rfl rfl) (WO.aG (row':=[L.str a1,v3, .bool true,L.str a5,L.str a7,v10,v11, .int .i64 (Par.here l:Int)]) st 7 rfl rfl rfl rfl rfl rfl rfl (fun h st=> ?_)))))
  refine WO.nil (WP.ret ?_)
  have s1:St (.stb (fun h=>Rows 3 h v3 (a3.map Pm.row)):: .acc f10 1 v10 (a10.map bK):: .stb (fun h=>iD h v11 a11)::p.box i11 d::p.toks::fs) h:=((((((st.pick 3 rfl).tail.pick 3 rfl).tail.pick 5 rfl).tail.pick 3 rfl).pick 4 rfl)).shut (by decide)
  have s2:St (.stb (fun h=>Rows 1 h v10 (a10.map bK)):: .stb (fun h=>Rows 3 h v3 (a3.map Pm.row)):: .stb (fun h=>iD h v11 a11)::p.box i11 d::p.toks::fs) h:=(s1.pick 1 rfl).shut (by decide)
  exact ⟨_,(ak (aP (l:=[L.str a1,v3, .bool true,L.str a5,L.str a7,v10,v11, .int .i64 (Par.here l:Int)]) rfl (L.aT (st.aj 7 rfl) rfl rfl rfl)) (aF _ _)),aS.ok (x:=(Pr.mk a1 a3 true a5 a7 a10 a11 (Par.here l))) (l:=l11) (by simp [Par.proc,Par.gN,m1,m2,m3,hi4,m5,m6,m7,m8,m9,m10,m11]) hl11 ⟨[L.str a1,v3, .bool true,L.str a5,L.str a7,v10,v11, .int .i64 (Par.here l:Int)],rfl,rfl,(by have _:=hl.len;have _:=hl.lt;have _:=hl.len;have _:=hl.lt;have _:=Par.dF m1;have _:=hl1.len;have _:=Par.aW m2;have _:=hl2.len;have _:=hlt3;have _:=hl3.len;have _:=hl3.lt;have _:=Par.gK hi4;have _:=List.length_tail (l:=l3);have _:=hl4.len;have _:=Par.dF m5;have _:=hl5.len;have _:=Par.aW m6;have _:=hl6.len;have _:=Par.dF m7;have _:=hl7.len;have _:=Par.aW m8;have _:=hl8.len;have _:=Par.aW m9;have _:=hl9.len;have _:=hlt10;have _:=hl10.len;have _:=hl10.lt;have _:=hl11.len;have _:=hlt11;omega),s2.and.and.iA (fun h hx=>⟨_,_,_,rfl,hx.1.2,hx.1.1,hx.2⟩)⟩⟩
 ·replace st:St ((p.box i3 d)::p.toks:: .box rv [.ptr p.rb 0]:: .box pb [L.str a1,v3, .bool false, .str 0 0, .str 0 0, .slN, .slN, .int .i64 (Par.here l:Int)]:: .acc f3 3 v3 (a3.map Pm.row):: .box rb_ [.str 0 0, .slN, .bool false, .str 0 0, .str 0 0, .slN, .slN, .int .i64 0]::fs) h:=st
  refine WO.nil (WP.cond (t:=false) rfl (WP.skip (WP.seq (WP.reg (WO.val (v:= .ptr p.rb 0) (L.aC rfl (st.aj 2 rfl) rfl) (WO.bE rfl (eT (s:=[112,99]) D st hl3) (fun e a h hm st=> ?_) ?_))))))
  ·exact aS.pan (by simp [Par.proc,Par.gN,hm,m1,m2,m3,hi4]) (st.tail.tail.tail.tail)
  rintro a12 l12 _ h i12 m12 hl12 ⟨rfl,st⟩
  refine WO.nil (WP.seq (WP.reg (WO.val (v:= .ptr p.rb 0) (L.aC rfl (st.aj 2 rfl) rfl) (WO.bE rfl (jZ D st hl12) (fun e a h hm st=> ?_) ?_))))
  ·exact aS.pan (by simp [Par.proc,Par.gN,hm,m1,m2,m3,hi4,m12]) (st.tail.tail.tail.tail)
  rintro a13 l13 _ h i13 m13 hl13 ⟨rfl,st⟩
  refine WO.val (v:= .ptr pb 4) (L.aA rfl) (WO.aG (row':=[L.str a1,v3, .bool false, .str 0 0,L.str a13, .slN, .slN, .int .i64 (Par.here l:Int)]) st 3 rfl rfl rfl rfl rfl rfl rfl (fun h st=> ?_))
  refine WO.nil (WP.seq (WP.reg (WO.val (v:= .ptr p.rb 0) (L.aC rfl (st.aj 2 rfl) rfl) (WO.bE rfl (eT (s:=[117,115,101,115]) D st hl13) (fun e a h hm st=> ?_) ?_))))
  ·exact aS.pan (by simp [Par.proc,Par.gN,hm,m1,m2,m3,hi4,m12,m13]) (st.tail.tail.tail.tail)
  rintro a14 l14 _ h i14 m14 hl14 ⟨rfl,st⟩
  refine WO.nil (WP.seq (WP.reg (WO.val (v:= .ptr p.rb 0) (L.aC rfl (st.aj 2 rfl) rfl) (WO.bE rfl (eT (s:=[123]) D st hl14) (fun e a h hm st=> ?_) ?_))))
  ·exact aS.pan (by simp [Par.proc,Par.gN,hm,m1,m2,m3,hi4,m12,m13,m14]) (st.tail.tail.tail.tail)
  rintro a15 l15 _ h i15 m15 hl15 ⟨rfl,st⟩
  refine WO.nil (WP.seq (WP.reg (WO.val (v:= .ptr p.rb 0) (L.aC rfl (st.aj 2 rfl) rfl) (WO.val (v:= .fn 64 [] [.ptr pb 0, .ptr rv 0]) rfl ?_))))
  replace st:St (.acc 0 1 .slN (([]:List (List UInt8)).map bK)::(p.box i15 d)::p.toks:: .box rv [.ptr p.rb 0]:: .box pb [L.str a1,v3, .bool false, .str 0 0,L.str a13, .slN, .slN, .int .i64 (Par.here l:Int)]:: .acc f3 3 v3 (a3.map Pm.row):: .box rb_ [.str 0 0, .slN, .bool false, .str 0 0, .str 0 0, .slN, .slN, .int .i64 0]::fs) h:=st.acc0 1
  refine WO.bE rfl (zk (I:=C9 p rv pb (fun v=>[L.str a1,v3, .bool false, .str 0 0,L.str a13,v, .slN, .int .i64 (Par.here l:Int)]) 1 (fun x:List (List UInt8)=>x.map bK)) (one:=Par.use) (sz:=List.length) (fs:= .acc f3 3 v3 (a3.map Pm.row):: .box rb_ [.str 0 0, .slN, .bool false, .str 0 0, .str 0 0, .slN, .slN, .int .i64 0]::fs) (e:=[125]) D (fun x w st hl hx=>use_c (nm:=a1) (at_:=Par.here l) (vp:=v3) (has:=false) (rs:=[]) (pc:=a13) D x w st hl hx) ([]:List (List UInt8)) (0, .slN) ((((st.pick 4 rfl).pick 4 rfl).pick 4 rfl).pick 4 rfl) hl15 (Nat.zero_le _)) (fun e a h hm st=> ?_) ?_
  ·exact aS.pan (by simp [Par.proc,Par.gN,hm,m1,m2,m3,hi4,m12,m13,m14,m15]) (st.tail.tail)
  rintro a16 l16 _ h i16 m16 hl16 ⟨hlt16,hsz16,⟨f16,v16⟩,st⟩
  refine WO.nil (WP.seq (WP.reg (WO.val (v:= .ptr p.rb 0) (L.aC rfl (st.aj 2 rfl) rfl) (WO.bE rfl (blk_c D st hl16 (by omega)) (fun e a h hm st=> ?_) ?_))))
  ·exact aS.pan (by simp [Par.proc,Par.gN,hm,m1,m2,m3,hi4,m12,m13,m14,m15,m16]) (st.tail.tail.tail.tail.tail)
  rintro a17 l17 v17 h i17 m17 hl17 ⟨hlt17,hc17,st⟩
  refine WO.val (v:= .ptr pb 6) (L.aA rfl) (WO.aG (row':=[L.str a1,v3, .bool false, .str 0 0,L.str a13,v16,v17, .int .i64 (Par.here l:Int)]) st 4 rfl rfl hc17 rfl rfl rfl rfl (fun h st=> ?_))
  refine WO.nil (WP.seq (WP.reg (WO.val (v:= .agg [L.str a1,v3, .bool false, .str 0 0,L.str a13,v16,v17, .int .i64 (Par.here l:Int)]) (L.aK rfl (st.aj 4 rfl) rfl rfl rfl) (WO.aG (row':=[L.str a1,v3, .bool false, .str 0 0,L.str a13,v16,v17, .int .i64 (Par.here l:Int)]) st 7 rfl rfl rfl rfl rfl rfl rfl (fun h st=> ?_)))))
  refine WO.nil (WP.ret ?_)
  have s1:St (.stb (fun h=>Rows 3 h v3 (a3.map Pm.row)):: .acc f16 1 v16 (a16.map bK):: .stb (fun h=>iD h v17 a17)::p.box i17 d::p.toks::fs) h:=((((((st.pick 3 rfl).tail.pick 3 rfl).tail.pick 5 rfl).tail.pick 3 rfl).pick 4 rfl)).shut (by decide)
  have s2:St (.stb (fun h=>Rows 1 h v16 (a16.map bK)):: .stb (fun h=>Rows 3 h v3 (a3.map Pm.row)):: .stb (fun h=>iD h v17 a17)::p.box i17 d::p.toks::fs) h:=(s1.pick 1 rfl).shut (by decide)
  exact ⟨_,(ak (aP (l:=[L.str a1,v3, .bool false, .str 0 0,L.str a13,v16,v17, .int .i64 (Par.here l:Int)]) rfl (L.aT (st.aj 7 rfl) rfl rfl rfl)) (aF _ _)),aS.ok (x:=(Pr.mk a1 a3 false ([]) a13 a16 a17 (Par.here l))) (l:=l17) (by simp [Par.proc,Par.gN,m1,m2,m3,hi4,m12,m13,m14,m15,m16,m17]) hl17 ⟨[L.str a1,v3, .bool false, .str 0 0,L.str a13,v16,v17, .int .i64 (Par.here l:Int)],rfl,rfl,(by have _:=hl.len;have _:=hl.lt;have _:=hl.len;have _:=hl.lt;have _:=Par.dF m1;have _:=hl1.len;have _:=Par.aW m2;have _:=hl2.len;have _:=hlt3;have _:=hl3.len;have _:=hl3.lt;have _:=Par.aW m12;have _:=hl12.len;have _:=Par.dF m13;have _:=hl13.len;have _:=Par.aW m14;have _:=hl14.len;have _:=Par.aW m15;have _:=hl15.len;have _:=hlt16;have _:=hl16.len;have _:=hl16.lt;have _:=hl17.len;have _:=hlt17;omega),s2.and.and.iA (fun h hx=>⟨_,_,_,rfl,hx.1.2,hx.1.1,hx.2⟩)⟩⟩
theorem Kw (D:gq c) {fs:List Fact} {h:Heap} {p:RP} {i d:Nat} {l:List Tok} (st:St (p.box i d::p.toks::fs) h) (hl:Left p i l):
 gV c 50 [.ptr p.rb 0] h (aS p 80 (Par.pz l) (fun a i1 v h1=>v= .agg (Vr.row a)∧i<i1∧St (p.box i1 d::p.toks::fs) h1) (St fs)):=by
 refine gV.dh D.f50 rfl (WP.seq (WP.reg (WO.bL st L.alloc (fun rb_ h st=> ?_))))
 refine WO.nil (WP.seq (WP.reg (WO.aM rfl (vK D ((st.pick 2 rfl).pick 2 rfl) hl) ?_)))
 rintro _ h ⟨rfl,st⟩
 refine WO.val (v:= .int .i64 (Par.here l:Int)) rfl (WO.bE rfl (jZ D st hl) (fun e a h hm st=> ?_) ?_)
 ·exact aS.pan (by simp [Par.pz,Par.kX,hm]) (st.tail)
 rintro a1 l1 _ h i1 m1 hl1 ⟨rfl,st⟩
 refine WO.val (v:= .agg [L.str a1, .str 0 0, .int .i64 0, .int .i64 (Par.here l:Int)]) (L.build rfl) (WO.bL st L.alloc (fun vb h st=> ?_))
 refine WO.aG (row':=[L.str a1, .str 0 0, .int .i64 0, .int .i64 (Par.here l:Int)]) st 0 rfl rfl rfl rfl rfl rfl rfl (fun h st=> ?_)
 refine WO.nil (WP.seq (WP.reg (WO.bE rfl (eT (s:=[58]) D ((st.pick 2 rfl).pick 2 rfl) hl1) (fun e a h hm st=> ?_) ?_)))
 ·exact aS.pan (by simp [Par.pz,Par.kX,hm,m1]) (st.tail.tail)
 rintro a2 l2 _ h i2 m2 hl2 ⟨rfl,st⟩
 refine WO.nil (WP.seq (WP.reg (WO.bE rfl (jZ D st hl2) (fun e a h hm st=> ?_) ?_)))
 ·exact aS.pan (by simp [Par.pz,Par.kX,hm,m1,m2]) (st.tail.tail)
 rintro a3 l3 _ h i3 m3 hl3 ⟨rfl,st⟩
 refine WO.val (v:= .ptr vb 1) (L.aA rfl) (WO.aG (row':=[L.str a1,L.str a3, .int .i64 0, .int .i64 (Par.here l:Int)]) st 2 rfl rfl rfl rfl rfl rfl rfl (fun h st=> ?_))
 refine WO.nil (WP.seq (WP.reg (WO.bE rfl (eT (s:=[61]) D st hl3) (fun e a h hm st=> ?_) ?_)))
 ·exact aS.pan (by simp [Par.pz,Par.kX,hm,m1,m2,m3]) (st.tail.tail)
 rintro a4 l4 _ h i4 m4 hl4 ⟨rfl,st⟩
 refine WO.nil (WP.seq (WP.reg (WO.aU rfl (kY (s:=[45]) D st hl4) ?_)))
 rintro _ h (⟨rfl,hi5,hl5,st⟩|⟨rfl,hi5,st⟩)
 ·replace st:St ((p.box (i4+1:Nat) d)::p.toks:: .box vb [L.str a1,L.str a3, .int .i64 0, .int .i64 (Par.here l:Int)]:: .box rb_ [.str 0 0, .str 0 0, .int .i64 0, .int .i64 0]::fs) h:=st
  refine WO.nil (WP.seq (WP.reg (WO.bE rfl (C8 D st hl5) (fun e a h hm st=> ?_) ?_)))
  ·exact aS.pan (by simp [Par.pz,Par.kX,hm,m1,m2,m3,m4,hi5]) (st.tail.tail)
  rintro a6 l6 _ h i6 m6 hl6 ⟨rfl,st⟩
  refine WO.val (v:= .ptr vb 2) (L.aA rfl) (WO.aG (row':=[L.str a1,L.str a3, .int .i64 (a6:Int), .int .i64 (Par.here l:Int)]) st 2 rfl rfl rfl rfl rfl rfl rfl (fun h st=> ?_))
  refine WO.nil (WP.seq (WP.seq (WP.reg (WO.aB (v:= .bool true) rfl (WO.nil (WP.cond (t:=true) rfl (WP.reg (WO.val (v:= .ptr vb 2) (L.aA rfl) (WO.val (v:= .int .i64 (a6:Int)) (L.aC rfl (st.aj 2 rfl) rfl) ?_)))))))))
  have hnb:=Par.Ns hl5 m6
  refine WO.val (v:= .int .i64 (-(a6:Int))) (L.neg64 rfl rfl (And.intro (by omega) (by omega))) (WO.val (v:= .ptr vb 2) (L.aA rfl) (WO.aG (row':=[L.str a1,L.str a3, .int .i64 (-(a6:Int)), .int .i64 (Par.here l:Int)]) st 2 rfl rfl rfl rfl rfl rfl rfl (fun h st=> ?_)))
  refine WO.nil (WP.seq (WP.reg (WO.bE rfl (eT (s:=[59]) D st hl6) (fun e a h hm st=> ?_) ?_)))
  ·exact aS.pan (by simp [Par.pz,Par.kX,hm,m1,m2,m3,m4,hi5,m6]) (st.tail.tail)
  rintro a7 l7 _ h i7 m7 hl7 ⟨rfl,st⟩
  refine WO.nil (WP.seq (WP.reg (WO.val (v:= .agg [L.str a1,L.str a3, .int .i64 (-(a6:Int)), .int .i64 (Par.here l:Int)]) (L.aK rfl (st.aj 2 rfl) rfl rfl rfl) (WO.aG (row':=[L.str a1,L.str a3, .int .i64 (-(a6:Int)), .int .i64 (Par.here l:Int)]) st 3 rfl rfl rfl rfl rfl rfl rfl (fun h st=> ?_)))))
  refine WO.nil (WP.ret ?_)
  exact ⟨_,(ak (aP (l:=[L.str a1,L.str a3, .int .i64 (-(a6:Int)), .int .i64 (Par.here l:Int)]) rfl (L.aT (st.aj 3 rfl) rfl rfl rfl)) (aF _ _)),aS.ok (x:=Vr.mk a1 a3 (-(a6:Int)) (Par.here l)) (l:=l7) (by simp [Par.pz,Par.kX,m1,m2,m3,m4,hi5,m6,m7]) hl7 ⟨rfl,(by have _:=hl.len;have _:=hl.lt;have _:=Par.dF m1;have _:=hl1.len;have _:=Par.aW m2;have _:=hl2.len;have _:=Par.dF m3;have _:=hl3.len;have _:=Par.aW m4;have _:=hl4.len;have _:=Par.gK hi5;have _:=List.length_tail (l:=l4);have _:=hl5.len;have _:=Par.wP m6;have _:=hl6.len;have _:=Par.aW m7;have _:=hl7.len;omega),((st.pick 2 rfl).tail.pick 2 rfl).tail⟩⟩
 ·replace st:St ((p.box i4 d)::p.toks:: .box vb [L.str a1,L.str a3, .int .i64 0, .int .i64 (Par.here l:Int)]:: .box rb_ [.str 0 0, .str 0 0, .int .i64 0, .int .i64 0]::fs) h:=st
  refine WO.nil (WP.seq (WP.reg (WO.bE rfl (C8 D st hl4) (fun e a h hm st=> ?_) ?_)))
  ·exact aS.pan (by simp [Par.pz,Par.kX,hm,m1,m2,m3,m4,hi5]) (st.tail.tail)
  rintro a8 l8 _ h i8 m8 hl8 ⟨rfl,st⟩
  refine WO.val (v:= .ptr vb 2) (L.aA rfl) (WO.aG (row':=[L.str a1,L.str a3, .int .i64 (a8:Int), .int .i64 (Par.here l:Int)]) st 2 rfl rfl rfl rfl rfl rfl rfl (fun h st=> ?_))
  refine WO.nil (WP.seq (WP.seq (WP.reg (WO.aB (v:= .bool false) rfl (WO.nil (WP.cond (t:=false) rfl (WP.skip (WP.seq (WP.reg (WO.bE rfl (eT (s:=[59]) D st hl8) (fun e a h hm st=> ?_) ?_))))))))))
  ·exact aS.pan (by simp [Par.pz,Par.kX,hm,m1,m2,m3,m4,hi5,m8]) (st.tail.tail)
  rintro a9 l9 _ h i9 m9 hl9 ⟨rfl,st⟩
  refine WO.nil (WP.seq (WP.reg (WO.val (v:= .agg [L.str a1,L.str a3, .int .i64 (a8:Int), .int .i64 (Par.here l:Int)]) (L.aK rfl (st.aj 2 rfl) rfl rfl rfl) (WO.aG (row':=[L.str a1,L.str a3, .int .i64 (a8:Int), .int .i64 (Par.here l:Int)]) st 3 rfl rfl rfl rfl rfl rfl rfl (fun h st=> ?_)))))
  refine WO.nil (WP.ret ?_)
  exact ⟨_,(ak (aP (l:=[L.str a1,L.str a3, .int .i64 (a8:Int), .int .i64 (Par.here l:Int)]) rfl (L.aT (st.aj 3 rfl) rfl rfl rfl)) (aF _ _)),aS.ok (x:=Vr.mk a1 a3 (a8:Int) (Par.here l)) (l:=l9) (by simp [Par.pz,Par.kX,m1,m2,m3,m4,hi5,m8,m9]) hl9 ⟨rfl,(by have _:=hl.len;have _:=hl.lt;have _:=Par.dF m1;have _:=hl1.len;have _:=Par.aW m2;have _:=hl2.len;have _:=Par.dF m3;have _:=hl3.len;have _:=Par.aW m4;have _:=hl4.len;have _:=Par.wP m8;have _:=hl8.len;have _:=Par.aW m9;have _:=hl9.len;omega),((st.pick 2 rfl).tail.pick 2 rfl).tail⟩⟩
theorem Ir (D:gq c) {fs:List Fact} {h:Heap} {p:RP} {i d:Nat} {l:List Tok} (st:St (p.box i d::p.toks::fs) h) (hl:Left p i l) (hd:d≤40):
 gV c 26 [.ptr p.rb 0] h (aS p 80 (Par.kD d l) (fun a i1 v h1=>∃row,v= .agg row∧row.length=5∧St (.stb (fun h=>MdR h a row)::p.box i1 d::p.toks::fs) h1) (St fs)):=by
 refine gV.dh D.f26 rfl (WP.seq (WP.reg (WO.bL st L.alloc (fun rb_ h st=> ?_))))
 refine WO.nil (WP.seq (WP.reg (WO.bE rfl (eT (s:=[109,111,100,117,108,101]) D ((st.pick 2 rfl).pick 2 rfl) hl) (fun e a h hm st=> ?_) ?_)))
 ·exact aS.pan (by simp [Par.kD,hm]) (st.tail)
 rintro a1 l1 _ h i1 m1 hl1 ⟨rfl,st⟩
 refine WO.nil (WP.seq (WP.reg (WO.aM rfl (vK D st hl1) ?_)))
 rintro _ h ⟨rfl,st⟩
 refine WO.val (v:= .int .i64 (Par.here l1:Int)) rfl (WO.bE rfl (jZ D st hl1) (fun e a h hm st=> ?_) ?_)
 ·exact aS.pan (by simp [Par.kD,hm,m1]) (st.tail)
 rintro a2 l2 _ h i2 m2 hl2 ⟨rfl,st⟩
 refine WO.val (v:= .agg [L.str a2, .int .i64 (Par.here l1:Int), .slN, .slN, .slN]) (L.build rfl) (WO.bL st L.alloc (fun mb h st=> ?_))
 refine WO.aG (row':=[L.str a2, .int .i64 (Par.here l1:Int), .slN, .slN, .slN]) st 0 rfl rfl rfl rfl rfl rfl rfl (fun h st=> ?_)
 refine WO.nil (WP.seq (WP.reg (WO.bE rfl (eT (s:=[59]) D ((st.pick 2 rfl).pick 2 rfl) hl2) (fun e a h hm st=> ?_) ?_)))
 ·exact aS.pan (by simp [Par.kD,hm,m1,m2]) (st.tail.tail)
 rintro a3 l3 _ h i3 m3 hl3 ⟨rfl,st⟩
 refine WO.nil (WP.seq (WP.block ?_))
 replace st:St (.acc 0 2 .slN (([]:List Im).map Im.row)::(p.box i3 d)::p.toks:: .box mb [L.str a2, .int .i64 (Par.here l1:Int), .slN, .slN, .slN]:: .box rb_ [.str 0 0, .int .i64 0, .slN, .slN, .slN]::fs) h:=st.acc0 2
 refine WP.eO (α:=Nat) (fun k env h=>∃lz iz xz fz vz x2,(Par.iU l3.length l3 []=Par.iU k lz xz∧lz.length≤k∧Left p iz lz∧xz.length≤iz)∧env=bG [.ptr p.rb 0, .ptr rb_ 0,x2, .ptr mb 0] 0 Env.nil∧St (.box mb [L.str a2, .int .i64 (Par.here l1:Int),vz, .slN, .slN]:: .acc fz 2 vz (xz.map Im.row):: .box rb_ [.str 0 0, .int .i64 0, .slN, .slN, .slN]::(p.box iz d)::p.toks::fs) h) (fun k=>k) l3.length ?_ ?_
 ·exact ⟨l3,i3,[],0, .slN, .bot,⟨rfl,Nat.le_refl _,hl3,Nat.zero_le _⟩,by kernel_rfl,(((st.pick 4 rfl).pick 1 rfl).pick 4 rfl)⟩
 rintro k _ h ⟨lz,iz,xz,fz,vz,x2,⟨hs,hk,hlz,hxz⟩,rfl,st⟩
 have hlp:=List.length_pos_iff.2 hlz.ne
 obtain ⟨k,rfl⟩:∃m,k=m+1:=⟨k - 1,by omega⟩
 refine WP.seq (WP.seq (WP.reg (WO.aU rfl (kY (s:=[105,109,112,111,114,116]) D ((st.pick 4 rfl).pick 4 rfl) hlz) ?_)))
 rintro _ h (⟨rfl,hi4,hl4,st⟩|⟨rfl,hi4,st⟩)
 ·replace st:St ((p.box (iz+1:Nat) d)::p.toks:: .box mb [L.str a2, .int .i64 (Par.here l1:Int),vz, .slN, .slN]:: .acc fz 2 vz (xz.map Im.row):: .box rb_ [.str 0 0, .int .i64 0, .slN, .slN, .slN]::fs) h:=st
  refine WO.nil (WP.cond (t:=true) rfl (WP.skip (WP.block (WP.seq (WP.draw (WD.val (v:= .ptr mb 2) (L.aA rfl) (WD.val (v:=vz) (L.aC rfl (st.aj 2 rfl) rfl) (WD.val (v:= .ptr p.rb 0) rfl (WD.val (v:= .ptr p.rb 0) rfl (WD.aM rfl (vK D st hl4) (fun _ h hp=> ?_) ?_))))))))))
  ·obtain ⟨rfl,st⟩:=hp
   exact aR (by first|exact av (L.aC rfl (st.aj 0 rfl) rfl)|exact aH st 0 rfl|exact av (L.aK rfl (st.aj 0 rfl) rfl rfl rfl)|exact av (L.aC rfl (st.aj 2 rfl) rfl)|exact aH st 2 rfl|exact av (L.aK rfl (st.aj 2 rfl) rfl rfl rfl)|exact av (L.aC rfl (st.aj 4 rfl) rfl)|exact aH st 4 rfl|exact av (L.aK rfl (st.aj 4 rfl) rfl rfl rfl)) (bC _ _)
  rintro _ h ⟨rfl,st⟩
  refine WD.val (v:= .int .i64 (Par.here lz.tail:Int)) rfl (WD.bE rfl (jZ D st hl4) (fun e a h hm st=> ?_) (fun _ _ h _ hp=> ?_) ?_)
  ·exact aS.pan (by simp [Par.kD,Par.iU,hm,m1,m2,m3,hs,hi4]) (st.tail.tail.tail)
  ·obtain ⟨rfl,st⟩:=hp
   exact aR (by first|exact av (L.aC rfl (st.aj 0 rfl) rfl)|exact aH st 0 rfl|exact av (L.aK rfl (st.aj 0 rfl) rfl rfl rfl)|exact av (L.aC rfl (st.aj 2 rfl) rfl)|exact aH st 2 rfl|exact av (L.aK rfl (st.aj 2 rfl) rfl rfl rfl)|exact av (L.aC rfl (st.aj 4 rfl) rfl)|exact aH st 4 rfl|exact av (L.aK rfl (st.aj 4 rfl) rfl rfl rfl)) (bC _ _)
  rintro a5 l5 _ h i5 m5 hl5 ⟨rfl,st⟩
  refine WD.val (v:= .agg [L.str a5, .int .i64 (Par.here lz.tail:Int)]) (L.build rfl) (WD.iY (rows:=[[L.str a5, .int .i64 (Par.here lz.tail:Int)]]) st rfl (by decide) rfl (by simp) (fun bs1 h _ st=> ?_))
  refine WD.rX st 4 rfl rfl rfl (st.aJ 0 rfl) (by decide) (by have:=hlz.small;have:=hlz.lt;simp;omega) (fun _ _ h st=>rfl) (fun f6 v6 h st=> ?_)
  rw [show (xz.map Im.row)++[[L.str a5,V.int .i64 (Par.here lz.tail:Int)]]=(xz++[Im.mk a5 (Par.here lz.tail)]).map Im.row from by simp [Im.row]] at st
  obtain ⟨ab6,rfl⟩:=(st.bQ 4 rfl).ne (by simp)
  refine WD.val (v:= .ptr mb 2) (L.aA rfl) (WD.aG (row':=[L.str a2, .int .i64 (Par.here l1:Int), .sl ab6 0 (((xz++[Im.mk a5 (Par.here lz.tail)]).map Im.row).length) none, .slN, .slN]) st 3 rfl rfl rfl rfl rfl rfl rfl (fun h st=>rfl) (fun h st=> ?_))
  refine WD.nil (WP.reg (WO.bE rfl (eT (s:=[59]) D ((st.pick 2 rfl).pick 2 rfl) hl5) (fun e a h hm st=> ?_) ?_))
  ·exact aS.pan (by simp [Par.kD,Par.iU,hm,m1,m2,m3,hs,hi4,m5]) (st.tail.tail.tail.tail)
  rintro a7 l7 _ h i7 m7 hl7 ⟨rfl,st⟩
  refine WO.nil ?_
  exact ⟨k,(Nat.lt_succ_self _),l7,i7,(xz++[Im.mk a5 (Par.here lz.tail)]),f6,(.sl ab6 0 ((xz++[Im.mk a5 (Par.here lz.tail)]).map Im.row).length none),(.bool true),⟨by rw [hs];simp [Par.iU,hi4,m5,m7],(by have _:=hlz.len;have _:=hlz.lt;have _:=Par.gK hi4;have _:=List.length_tail (l:=lz);have _:=hl4.len;have _:=Par.dF m5;have _:=hl5.len;have _:=Par.aW m7;have _:=hl7.len;omega),hl7,(by have _:=hlz.len;have _:=hlz.lt;have _:=Par.gK hi4;have _:=List.length_tail (l:=lz);have _:=hl4.len;have _:=Par.dF m5;have _:=hl5.len;have _:=Par.aW m7;have _:=hl7.len;simp;omega)⟩,by kernel_rfl,((((st.pick 2 rfl).tail.pick 4 rfl).pick 4 rfl).pick 4 rfl)⟩
 ·replace st:St ((p.box iz d)::p.toks:: .box mb [L.str a2, .int .i64 (Par.here l1:Int),vz, .slN, .slN]:: .acc fz 2 vz (xz.map Im.row):: .box rb_ [.str 0 0, .int .i64 0, .slN, .slN, .slN]::fs) h:=st
  refine WO.nil (WP.cond (t:=false) rfl (WP.exit (WP.seq (WP.block ?_))))
  replace st:St (.acc 0 4 .slN (([]:List Vr).map Vr.row)::(p.box iz d)::p.toks:: .box mb [L.str a2, .int .i64 (Par.here l1:Int),vz, .slN, .slN]:: .acc fz 2 vz (xz.map Im.row):: .box rb_ [.str 0 0, .int .i64 0, .slN, .slN, .slN]::fs) h:=st.acc0 4
  replace st:St (.acc 0 8 .slN ([]):: .acc 0 4 .slN (([]:List Vr).map Vr.row)::(p.box iz d)::p.toks:: .box mb [L.str a2, .int .i64 (Par.here l1:Int),vz, .slN, .slN]:: .acc fz 2 vz (xz.map Im.row):: .box rb_ [.str 0 0, .int .i64 0, .slN, .slN, .slN]::fs) h:=st.acc0 8
  replace st:St (.stb (fun h=>bZ h ([]) ([])):: .acc 0 8 .slN ([]):: .acc 0 4 .slN (([]:List Vr).map Vr.row)::(p.box iz d)::p.toks:: .box mb [L.str a2, .int .i64 (Par.here l1:Int),vz, .slN, .slN]:: .acc fz 2 vz (xz.map Im.row):: .box rb_ [.str 0 0, .int .i64 0, .slN, .slN, .slN]::fs) h:=(St.pure st (Q:=True) trivial).iA (Q:=fun h=>bZ h [] []) (fun _ _=>bZ.nil)
  refine WP.eO (α:=Nat) (fun g env h=>∃ly iy vsy psy rsy fv vv fp vp x4 x5,(Par.dU d lz.length lz [] []=Par.dU d g ly vsy psy∧ly.length≤g∧Left p iy ly∧vsy.length≤iy∧rsy.length≤iy)∧env=bG [.ptr p.rb 0, .ptr rb_ 0, .bool false, .ptr mb 0,x4,x5] 0 Env.nil∧St (.box mb [L.str a2, .int .i64 (Par.here l1:Int),vz,vv,vp]:: .acc fz 2 vz (xz.map Im.row):: .acc fv 4 vv (vsy.map Vr.row):: .acc fp 8 vp rsy:: .stb (fun h=>bZ h psy rsy):: .box rb_ [.str 0 0, .int .i64 0, .slN, .slN, .slN]::(p.box iy d)::p.toks::fs) h) (fun g=>g) lz.length ?_ ?_
  ·exact ⟨lz,iz,[],[],[],0, .slN,0, .slN, .bot, .bot,⟨rfl,Nat.le_refl _,hlz,Nat.zero_le _,Nat.zero_le _⟩,by kernel_rfl,((((((st.pick 7 rfl).pick 1 rfl).pick 2 rfl).pick 3 rfl).pick 7 rfl).pick 7 rfl)⟩
  rintro g _ h ⟨ly,iy,vsy,psy,rsy,fv,vv,fp,vp,x4,x5,⟨ht,hg,hly,hvy,hry⟩,rfl,st⟩
  have hlp2:=List.length_pos_iff.2 hly.ne
  obtain ⟨g,rfl⟩:∃m,g=m+1:=⟨g - 1,by omega⟩
  refine WP.seq (WP.seq (WP.reg (WO.aM rfl (vK D ((st.pick 7 rfl).pick 7 rfl) hly) ?_)))
  rintro _ h ⟨rfl,st⟩
  refine WO.val (v:= .int .i64 ((Par.hd ly).kind:Int)) rfl (WO.ifS (L.neq rfl rfl) (fun c1=> ?_) (fun c1=> ?_))
  ·replace c1:(Par.hd ly).kind≠0:=by omega
   refine WO.nil (WP.cond (t:=true) rfl (WP.skip (WP.block (WP.seq (WP.reg (WO.aU rfl (kY (s:=[118,97,114]) D st hly) ?_))))))
   rintro _ h (⟨rfl,hi8,hl8,st⟩|⟨rfl,hi8,st⟩)
   ·replace st:St ((p.box (iy+1:Nat) d)::p.toks:: .box mb [L.str a2, .int .i64 (Par.here l1:Int),vz,vv,vp]:: .acc fz 2 vz (xz.map Im.row):: .acc fv 4 vv (vsy.map Vr.row):: .acc fp 8 vp rsy:: .stb (fun h=>bZ h psy rsy):: .box rb_ [.str 0 0, .int .i64 0, .slN, .slN, .slN]::fs) h:=st
    refine WO.nil (WP.cond (t:=true) rfl (WP.draw (WD.val (v:= .ptr mb 3) (L.aA rfl) (WD.val (v:=vv) (L.aC rfl (st.aj 2 rfl) rfl) (WD.val (v:= .ptr p.rb 0) rfl (WD.bE rfl (Kw D st hl8) (fun e a h hm st=> ?_) (fun _ _ h _ hp=> ?_) ?_))))))
    ·exact aS.pan (by simp [Par.kD,Par.iU,Par.dU,hm,m1,m2,m3,hs,hi4,ht,c1,hi8]) (st.tail.tail.tail.tail.tail.tail)
    ·obtain ⟨rfl,hlt9,st⟩:=hp
     exact aR (by first|exact av (L.aC rfl (st.aj 0 rfl) rfl)|exact aH st 0 rfl|exact av (L.aK rfl (st.aj 0 rfl) rfl rfl rfl)|exact av (L.aC rfl (st.aj 2 rfl) rfl)|exact aH st 2 rfl|exact av (L.aK rfl (st.aj 2 rfl) rfl rfl rfl)|exact av (L.aC rfl (st.aj 7 rfl) rfl)|exact aH st 7 rfl|exact av (L.aK rfl (st.aj 7 rfl) rfl rfl rfl)) (bC _ _)
    rintro a9 l9 _ h i9 m9 hl9 ⟨rfl,hlt9,st⟩
    refine WD.iY (rows:=[[L.str a9.name,L.str a9.label, .int .i64 a9.init, .int .i64 (a9.at_:Int)]]) st rfl (by decide) rfl (by simp) (fun bs2 h _ st=> ?_)
    refine WD.rX st 5 rfl rfl rfl (st.aJ 0 rfl) (by decide) (by have:=hly.small;have:=hly.lt;simp;omega) (fun _ _ h st=>rfl) (fun f10 v10 h st=> ?_)
    rw [show (vsy.map Vr.row)++[[L.str a9.name,L.str a9.label,V.int .i64 a9.init,V.int .i64 (a9.at_:Int)]]=(vsy++[a9]).map Vr.row from by simp [Vr.row]] at st
    obtain ⟨ab10,rfl⟩:=(st.bQ 5 rfl).ne (by simp)
    refine WD.val (v:= .ptr mb 3) (L.aA rfl) (WD.aG (row':=[L.str a2, .int .i64 (Par.here l1:Int),vz, .sl ab10 0 (((vsy++[a9]).map Vr.row).length) none,vp]) st 3 rfl rfl rfl rfl rfl rfl rfl (fun h st=>rfl) (fun h st=> ?_))
    refine WD.nil ?_
    exact ⟨g,(Nat.lt_succ_self _),l9,i9,(vsy++[a9]),psy,rsy,f10,(.sl ab10 0 ((vsy++[a9]).map Vr.row).length none),fp,vp,(.bool true),(.bool true),⟨by rw [ht];simp [Par.dU,c1,hi8,m9],(by have _:=hly.len;have _:=hly.lt;have _:=Par.gK hi8;have _:=List.length_tail (l:=ly);have _:=hl8.len;have _:=hl9.len;have _:=hlt9;omega),hl9,(by have _:=hly.len;have _:=hly.lt;have _:=Par.gK hi8;have _:=List.length_tail (l:=ly);have _:=hl8.len;have _:=hl9.len;have _:=hlt9;simp;omega),(by have _:=hly.len;have _:=hly.lt;have _:=Par.gK hi8;have _:=List.length_tail (l:=ly);have _:=hl8.len;have _:=hl9.len;have _:=hlt9;simp;omega)⟩,by kernel_rfl,((((((st.tail.pick 7 rfl).pick 7 rfl).pick 7 rfl).pick 7 rfl).pick 7 rfl).pick 7 rfl)⟩
   ·replace st:St ((p.box iy d)::p.toks:: .box mb [L.str a2, .int .i64 (Par.here l1:Int),vz,vv,vp]:: .acc fz 2 vz (xz.map Im.row):: .acc fv 4 vv (vsy.map Vr.row):: .acc fp 8 vp rsy:: .stb (fun h=>bZ h psy rsy):: .box rb_ [.str 0 0, .int .i64 0, .slN, .slN, .slN]::fs) h:=st
    refine WO.nil (WP.cond (t:=false) rfl (WP.seq (WP.reg (WO.bE rfl (eT (s:=[112,114,111,99]) D st hly) (fun e a h hm st=> ?_) ?_))))
    ·exact aS.pan (by simp [Par.kD,Par.iU,Par.dU,hm,m1,m2,m3,hs,hi4,ht,c1,hi8]) (st.tail.tail.tail.tail.tail.tail)
    rintro a11 l11 _ h i11 m11 hl11 ⟨rfl,st⟩
    refine WO.nil (WP.draw (WD.val (v:= .ptr mb 4) (L.aA rfl) (WD.val (v:=vp) (L.aC rfl (st.aj 2 rfl) rfl) (WD.val (v:= .ptr p.rb 0) rfl (WD.bE rfl (proc_c D st hl11 hd) (fun e a h hm st=> ?_) (fun _ _ h _ hp=> ?_) ?_)))))
    ·exact aS.pan (by simp [Par.kD,Par.iU,Par.dU,hm,m1,m2,m3,hs,hi4,ht,c1,hi8,m11]) (st.tail.tail.tail.tail.tail.tail)
    ·obtain ⟨row12,rfl,hr12,hlt12,st⟩:=hp
     exact aR (by first|exact av (L.aC rfl (st.aj 1 rfl) rfl)|exact aH st 1 rfl|exact av (L.aK rfl (st.aj 1 rfl) rfl rfl rfl)|exact av (L.aC rfl (st.aj 3 rfl) rfl)|exact aH st 3 rfl|exact av (L.aK rfl (st.aj 3 rfl) rfl rfl rfl)|exact av (L.aC rfl (st.aj 8 rfl) rfl)|exact aH st 8 rfl|exact av (L.aK rfl (st.aj 8 rfl) rfl rfl rfl)) (bC _ _)
    rintro a12 l12 _ h i12 m12 hl12 ⟨row12,rfl,hr12,hlt12,st⟩
    refine WD.iY (rows:=[row12]) st (yc rfl hr12) (by decide) rfl (by simpa using hr12) (fun bs3 h _ st=> ?_)
    refine WD.rX st 7 rfl rfl rfl (st.aJ 0 rfl) (by decide) (by have:=hly.small;have:=hly.lt;simp;omega) (fun _ _ h st=>rfl) (fun f13 v13 h st=> ?_)
    obtain ⟨ab13,rfl⟩:=(st.bQ 7 rfl).ne (by simp)
    replace st:=((((st.pick 8 rfl).pick 2 rfl)).and).iA (fun h hx=>hx.2.snoc hx.1)
    refine WD.val (v:= .ptr mb 4) (L.aA rfl) (WD.aG (row':=[L.str a2, .int .i64 (Par.here l1:Int),vz,vv, .sl ab13 0 ((rsy++[row12]).length) none]) st 4 rfl rfl rfl rfl rfl rfl rfl (fun h st=>rfl) (fun h st=> ?_))
    refine WD.nil ?_
    exact ⟨g,(Nat.lt_succ_self _),l12,i12,vsy,(psy++[a12]),(rsy++[row12]),fv,vv,f13,(.sl ab13 0 (rsy++[row12]).length none),(.bool true),(.bool false),⟨by rw [ht];simp [Par.dU,c1,hi8,m11,m12],(by have _:=hly.len;have _:=hly.lt;have _:=Par.aW m11;have _:=hl11.len;have _:=hl12.len;have _:=hlt12;omega),hl12,(by have _:=hly.len;have _:=hly.lt;have _:=Par.aW m11;have _:=hl11.len;have _:=hl12.len;have _:=hlt12;simp;omega),(by have _:=hly.len;have _:=hly.lt;have _:=Par.aW m11;have _:=hl11.len;have _:=hl12.len;have _:=hlt12;simp;omega)⟩,by kernel_rfl,(((((((st.pick 1 rfl).tail.pick 7 rfl).pick 1 rfl).pick 7 rfl).pick 7 rfl).pick 7 rfl).pick 7 rfl)⟩
  ·replace c1:(Par.hd ly).kind=0:=by omega
   refine WO.nil (WP.cond (t:=false) rfl (WP.exit (WP.seq (WP.reg (WO.val (v:= .agg [L.str a2, .int .i64 (Par.here l1:Int),vz,vv,vp]) (L.aK rfl (st.aj 2 rfl) rfl rfl rfl) (WO.aG (row':=[L.str a2, .int .i64 (Par.here l1:Int),vz,vv,vp]) st 7 rfl rfl rfl rfl rfl rfl rfl (fun h st=> ?_)))))))
   refine WO.nil (WP.ret ?_)
   have s1:St (.stb (fun h=>Rows 2 h vz (xz.map Im.row)):: .acc fv 4 vv (vsy.map Vr.row):: .acc fp 8 vp rsy:: .stb (fun h=>bZ h psy rsy)::p.box iy d::p.toks::fs) h:=(((((((st.pick 2 rfl).tail.pick 6 rfl).tail.pick 5 rfl).pick 5 rfl).pick 5 rfl).pick 5 rfl)).shut (by decide)
   have s2:St (.stb (fun h=>Rows 4 h vv (vsy.map Vr.row)):: .stb (fun h=>Rows 2 h vz (xz.map Im.row)):: .acc fp 8 vp rsy:: .stb (fun h=>bZ h psy rsy)::p.box iy d::p.toks::fs) h:=(s1.pick 1 rfl).shut (by decide)
   have s3:St (.stb (fun h=>Rows 8 h vp rsy):: .stb (fun h=>Rows 4 h vv (vsy.map Vr.row)):: .stb (fun h=>Rows 2 h vz (xz.map Im.row)):: .stb (fun h=>bZ h psy rsy)::p.box iy d::p.toks::fs) h:=(s2.pick 2 rfl).shut (by decide)
   exact ⟨_,(ak (aP (l:=[L.str a2, .int .i64 (Par.here l1:Int),vz,vv,vp]) rfl (L.aT (st.aj 7 rfl) rfl rfl rfl)) (aF _ _)),aS.ok (x:=Md.mk a2 (Par.here l1) xz vsy psy) (l:=ly) (by simp [Par.kD,Par.iU,Par.dU,m1,m2,m3,hs,hi4,ht,c1]) hly ⟨[L.str a2, .int .i64 (Par.here l1:Int),vz,vv,vp],rfl,rfl,s3.and.and.and.iA (fun h hx=>⟨_,_,_,rfl,hx.1.2,hx.1.1.2,_,hx.1.1.1,hx.2⟩)⟩⟩
theorem Iu (D:gq c) {fs:List Fact} {h:Heap} {p:RP} {i d:Nat} {l:List Tok} (st:St (p.box i d::p.toks::fs) h) (hl:Left p i l):
 gV c 17 [.ptr p.rb 0] h (aS p 80 (Par.labels l) (fun a i1 v h1=>v.bM=some [v]∧St (.stb (fun h=>Rows 3 h v (a.map Pm.row))::p.box i1 d::p.toks::fs) h1) (St fs)):=by
 refine gV.dh D.f17 rfl (WP.seq (WP.reg (WO.aB (v:= .slN) rfl (WO.nil (WP.seq (WP.reg (WO.bE rfl (eT (s:=[108,97,98,101,108,115]) D st hl) (fun e a h hm st=> ?_) ?_)))))))
 ·exact aS.pan (by simp [Par.labels,hm]) (st)
 rintro a1 l1 _ h i1 m1 hl1 ⟨rfl,st⟩
 refine WO.nil (WP.seq (WP.reg (WO.aB (v:= .slN) rfl (WO.nil (WP.seq (WP.block ?_))))))
 replace st:St (.acc 0 3 .slN (([]:List Pm).map Pm.row)::(p.box i1 d)::p.toks::fs) h:=st.acc0 3
 refine WP.eO (α:=Nat) (fun g env h=>∃ly iy xy fy vy x2 x3 x4 x5 x7 x8 x9,(Par.fI l1.length l1 []=Par.fI g ly xy∧ly.length≤g∧Left p iy ly∧xy.length≤iy)∧env=bG [.ptr p.rb 0, .slN,x2,x3,x4,x5,vy,x7,x8,x9] 0 Env.nil∧St (.acc fy 3 vy (xy.map Pm.row)::(p.box iy d)::p.toks::fs) h) (fun g=>g) l1.length ?_ ?_
 ·exact ⟨l1,i1,[],0, .slN, .bot, .bot, .bot, .bot, .bot, .bot, .bot,⟨rfl,Nat.le_refl _,hl1,Nat.zero_le _⟩,by kernel_rfl,st⟩
 rintro g _ h ⟨ly,iy,xy,fy,vy,x2,x3,x4,x5,x7,x8,x9,⟨ht,hg,hly,hxy⟩,rfl,st⟩
 have hlp2:=List.length_pos_iff.2 hly.ne
 obtain ⟨g,rfl⟩:∃m,g=m+1:=⟨g - 1,by omega⟩
 refine WP.seq (WP.seq (WP.reg (WO.aM rfl (vK D ((st.pick 2 rfl).pick 2 rfl) hly) ?_)))
 rintro _ h ⟨rfl,st⟩
 refine WO.val (v:= .int .i64 ((Par.hd ly).kind:Int)) rfl (WO.ifS (L.neq rfl rfl) (fun c1=> ?_) (fun c1=> ?_))
 ·replace c1:(Par.hd ly).kind≠0:=by omega
  refine WO.nil (WP.cond (t:=true) rfl (WP.skip (WP.block (WP.seq (WP.reg (WO.aM rfl (vK D st hly) ?_))))))
  rintro _ h ⟨rfl,st⟩
  refine WO.val (v:= .int .i64 (Par.here ly:Int)) rfl (WO.bE rfl (jZ D st hly) (fun e a h hm st=> ?_) ?_)
  ·exact aS.pan (by simp [Par.labels,Par.fI,hm,m1,ht,c1]) (st.tail)
  rintro a2 l2 _ h i2 m2 hl2 ⟨rfl,st⟩
  refine WO.aB (v:= .int .i64 (Par.here ly:Int)) rfl (WO.aB (v:=L.str a2) rfl (WO.nil (WP.seq (WP.reg (WO.aB (v:= .bool true) rfl (WO.nil (WP.seq (WP.block (WP.eO (α:=Nat) (fun k env h=>∃lz iz ls xz al fz vz x3 x5,(Par.mM l2.length l2 a2 xy true=Par.mM k lz ls xz al∧lz.length≤k∧Left p iz lz∧xz.length<iz∧iy<iz)∧env=bG [.ptr p.rb 0, .slN, .bool true,x3,L.str ls,x5,vz, .bool al,x8, .int .i64 (Par.here ly:Int)] 0 Env.nil∧St (.acc fz 3 vz (xz.map Pm.row)::(p.box iz d)::p.toks::fs) h) (fun k=>k) l2.length ?_ ?_)))))))))
  ·exact ⟨l2,i2,a2,xy,true,fy,vy,x3,x5,⟨rfl,Nat.le_refl _,hl2,(by have _:=hly.len;have _:=hly.lt;have _:=Par.dF m2;have _:=hl2.len;omega),(by have _:=hly.len;have _:=hly.lt;have _:=Par.dF m2;have _:=hl2.len;omega)⟩,by kernel_rfl,(st.pick 2 rfl)⟩
  rintro k _ h ⟨lz,iz,ls,xz,al,fz,vz,x3,x5,⟨hs,hk,hlz,hxz,hiz⟩,rfl,st⟩
  have hlp:=List.length_pos_iff.2 hlz.ne
  obtain ⟨k,rfl⟩:∃m,k=m+1:=⟨k - 1,by omega⟩
  refine WP.seq (WP.seq (WP.reg (WO.aU rfl (kY (s:=[60]) D ((st.pick 2 rfl).pick 2 rfl) hlz) ?_)))
  rintro _ h (⟨rfl,hi3,hl3,st⟩|⟨rfl,hi3,st⟩)
  ·replace st:St ((p.box (iz+1:Nat) d)::p.toks:: .acc fz 3 vz (xz.map Pm.row)::fs) h:=st
   refine WO.nil (WP.cond (t:=true) rfl (WP.skip (WP.block (WP.seq (WP.reg (WO.aM rfl (vK D st hl3) ?_))))))
   rintro _ h ⟨rfl,st⟩
   refine WO.val (v:= .int .i64 (Par.here lz.tail:Int)) rfl (WO.bE rfl (jZ D st hl3) (fun e a h hm st=> ?_) ?_)
   ·exact aS.pan (by simp [Par.labels,Par.fI,Par.mM,hm,m1,ht,c1,m2,hs,hi3]) (st.tail)
   rintro a4 l4 _ h i4 m4 hl4 ⟨rfl,st⟩
   refine WO.val (v:= .agg [L.str ls,L.str a4, .int .i64 (Par.here lz.tail:Int)]) (L.build rfl) (WO.bL st L.alloc (fun b1 h st=> ?_))
   refine WO.aG (row':=[L.str ls,L.str a4, .int .i64 (Par.here lz.tail:Int)]) st 0 rfl rfl rfl rfl rfl rfl rfl (fun h st=> ?_)
   refine WO.nil (WP.seq (WP.reg (WO.val (v:= .agg [L.str ls,L.str a4, .int .i64 (Par.here lz.tail:Int)]) (L.aK rfl (st.aj 0 rfl) rfl rfl rfl) (WO.iY (rows:=[[L.str ls,L.str a4, .int .i64 (Par.here lz.tail:Int)]]) st rfl (by decide) rfl (by simp) (fun bs1 h st=> ?_)))))
   refine WO.kN st 4 rfl rfl rfl (st.aJ 0 rfl) (by decide) (by have:=hlz.small;have:=hlz.lt;simp;omega) (fun f5 v5 h st=> ?_)
   rw [show (xz.map Pm.row)++[[L.str ls,L.str a4,V.int .i64 (Par.here lz.tail:Int)]]=(xz++[Pm.mk ls a4 (Par.here lz.tail)]).map Pm.row from by simp [Pm.row]] at st
   obtain ⟨ab5,rfl⟩:=(st.bQ 4 rfl).ne (by simp)
   refine WO.nil (WP.reg (WO.val (v:= .ptr b1 1) (L.aA rfl) (WO.aB (v:=L.str a4) (L.aC rfl (st.aj 1 rfl) rfl) (WO.aB (v:= .bool false) rfl (WO.nil ?_)))))
   exact ⟨k,(Nat.lt_succ_self _),l4,i4,a4,(xz++[Pm.mk ls a4 (Par.here lz.tail)]),false,f5,(.sl ab5 0 ((xz++[Pm.mk ls a4 (Par.here lz.tail)]).map Pm.row).length none),(.bool true),(.ptr b1 0),⟨by rw [hs];simp [Par.mM,hi3,m4],(by have _:=hly.len;have _:=hly.lt;have _:=hlz.len;have _:=hlz.lt;have _:=Par.gK hi3;have _:=List.length_tail (l:=lz);have _:=hl3.len;have _:=Par.dF m4;have _:=hl4.len;omega),hl4,(by have _:=hly.len;have _:=hly.lt;have _:=hlz.len;have _:=hlz.lt;have _:=Par.gK hi3;have _:=List.length_tail (l:=lz);have _:=hl3.len;have _:=Par.dF m4;have _:=hl4.len;simp;omega),(by have _:=hly.len;have _:=hly.lt;have _:=hlz.len;have _:=hlz.lt;have _:=Par.gK hi3;have _:=List.length_tail (l:=lz);have _:=hl3.len;have _:=Par.dF m4;have _:=hl4.len;omega)⟩,by kernel_rfl,(st.tail.tail.pick 2 rfl)⟩
  ·replace st:St ((p.box iz d)::p.toks:: .acc fz 3 vz (xz.map Pm.row)::fs) h:=st
   refine WO.nil (WP.cond (t:=false) rfl (WP.exit (WP.seq (WP.seq (WP.reg ?_)))))
   cases al
   ·refine WO.aB (v:= .bool false) rfl (WO.nil (WP.cond (t:=false) rfl (WP.skip (WP.reg (WO.bE rfl (eT (s:=[59]) D st hlz) (fun e a h hm st=> ?_) ?_)))))
    ·exact aS.pan (by simp [Par.labels,Par.fI,Par.mM,hm,m1,ht,c1,m2,hs,hi3]) (st.tail)
    rintro a6 l6 _ h i6 m6 hl6 ⟨rfl,st⟩
    refine WO.nil ?_
    exact ⟨g,(Nat.lt_succ_self _),l6,i6,xz,fz,vz,(.bool true),(.bool false),(L.str ls),x5,(.bool false),(.bool false),(.int .i64 (Par.here ly:Int)),⟨by rw [ht];simp [Par.fI,Par.mM,c1,m2,hs,hi3,m6],(by have _:=hly.len;have _:=hly.lt;have _:=hlz.len;have _:=hlz.lt;have _:=Par.aW m6;have _:=hl6.len;omega),hl6,(by have _:=hly.len;have _:=hly.lt;have _:=hlz.len;have _:=hlz.lt;have _:=Par.aW m6;have _:=hl6.len;simp;omega)⟩,by kernel_rfl,(st.pick 2 rfl)⟩
   ·refine WO.aB (v:= .bool true) rfl (WO.nil (WP.cond (t:=true) rfl (WP.reg (WO.val (v:= .agg [L.str ls, .str 0 0, .int .i64 (Par.here ly:Int)]) (L.build rfl) (WO.iY (rows:=[[L.str ls, .str 0 0, .int .i64 (Par.here ly:Int)]]) st rfl (by decide) rfl (by simp) (fun bs2 h st=> ?_))))))
    refine WO.kN st 3 rfl rfl rfl (st.aJ 0 rfl) (by decide) (by have:=hlz.small;have:=hlz.lt;simp;omega) (fun f7 v7 h st=> ?_)
    rw [show (xz.map Pm.row)++[[L.str ls,V.str 0 0,V.int .i64 (Par.here ly:Int)]]=(xz++[Pm.mk ls [] (Par.here ly)]).map Pm.row from by simp [Pm.row];rfl] at st
    obtain ⟨ab7,rfl⟩:=(st.bQ 3 rfl).ne (by simp)
    refine WO.nil (WP.reg (WO.bE rfl (eT (s:=[59]) D ((st.pick 2 rfl).pick 2 rfl) hlz) (fun e a h hm st=> ?_) ?_))
    ·exact aS.pan (by simp [Par.labels,Par.fI,Par.mM,hm,m1,ht,c1,m2,hs,hi3]) (st.tail.tail)
    rintro a8 l8 _ h i8 m8 hl8 ⟨rfl,st⟩
    refine WO.nil ?_
    exact ⟨g,(Nat.lt_succ_self _),l8,i8,(xz++[Pm.mk ls [] (Par.here ly)]),f7,(.sl ab7 0 ((xz++[Pm.mk ls [] (Par.here ly)]).map Pm.row).length none),(.bool true),(.bool false),(L.str ls),x5,(.bool true),(.bool true),(.int .i64 (Par.here ly:Int)),⟨by rw [ht];simp [Par.fI,Par.mM,c1,m2,hs,hi3,m8],(by have _:=hly.len;have _:=hly.lt;have _:=hlz.len;have _:=hlz.lt;have _:=Par.aW m8;have _:=hl8.len;omega),hl8,(by have _:=hly.len;have _:=hly.lt;have _:=hlz.len;have _:=hlz.lt;have _:=Par.aW m8;have _:=hl8.len;simp;omega)⟩,by kernel_rfl,((st.pick 2 rfl).tail.pick 2 rfl)⟩
 ·replace c1:(Par.hd ly).kind=0:=by omega
  refine WO.nil (WP.cond (t:=false) rfl (WP.exit (WP.seq (WP.reg (WO.aB (v:=vy) rfl (WO.nil (WP.ret ?_)))))))
  have hac:=(st.bQ 2 rfl).cells
  exact ⟨_,(ak (aD (v:=vy) rfl) (aF _ _)),aS.ok (x:=xy) (l:=ly) (by simp [Par.labels,Par.fI,Par.mM,m1,ht,c1]) hly ⟨hac,((st.pick 2 rfl)).shut (by decide)⟩⟩
end
end Go.Eng.YtjobofnpmmjeoaaGreatDoor.Pq
namespace Go.Eng.YtjobofnpmmjeoaaGreatDoor.Pq
open Go.Eng
noncomputable section
variable {c:Ctx}
structure uL (c:Ctx):Prop where
 is_:∃fs more,c=Ctx.of fs jA more∧T.get 16 fs=none∧T.get 25 fs=none
 idx:∀{fs:List Fact} {h:Heap} {l:List UInt8} {b:UInt8},St fs h→aV c 71 [L.str l, .int .u8 (b.toNat:Int)] h fun v h1=>v= .int .i64 (Lib.indexByte l b)∧St fs h1
theorem readL_c (D:gq c) (DD:uL c) {fs:List Fact} {h:Heap} {p:RP} (st:St (p.toks::fs) h) (hl:Left p 0 p.ts):
 aV c 16 [.sl p.tb p.to p.ts.length p.cap, .fn 17 [] []] h fun v h1=>match Par.labels p.ts with
  | .ok (m,_)=>∃x,v= .tup [x, .int .i64 0, .int .i64 0]∧x.bM=some [x]∧St (.stb (fun h=>Rows 3 h x (m.map Pm.row))::fs) h1
  | .error (e,a)=>v= .tup [.slN, .int .i64 (e:Int), .int .i64 (a:Int)]∧St fs h1:=by
 obtain ⟨fs_,more,hmore,h16_,h25_⟩:=DD.is_
 refine aV.funD hmore (f:=16) (F:=d16) h16_ rfl rfl rfl rfl (WP.reg (WO.bL st L.alloc (fun xb h st=> ?_)))
 refine WO.bL st L.alloc (fun eb h st=> ?_)
 refine WO.bL st L.alloc (fun ab h st=> ?_)
 refine WO.nil ?_
 show WO _ _ _ _ _ _
 refine WO.val (v:= .agg [.sl p.tb p.to p.ts.length p.cap, .int .i64 0, .int .i64 0]) (L.build rfl) (WO.boxF st (L.box (l:=[.sl p.tb p.to p.ts.length p.cap, .int .i64 0, .int .i64 0]) rfl rfl) (fun rb h st=> ?_))
 replace st:St (({p with rb:=rb}:RP).box 0 0::({p with rb:=rb}:RP).toks:: .box ab [.int .i64 0]:: .box eb [.int .i64 0]:: .box xb [.slN]::fs) h:=((st.pick 4 rfl).pick 1 rfl)
 cases hsp:Par.labels p.ts with
 |error x=>
  obtain ⟨e,a⟩:=x
  refine WO.yY rfl rfl (Iu D st (hl.rb_ rb)) (fun e1 a1 h hm st=> ?_) (fun x l v h i hm=>by rw [hsp] at hm;cases hm)
  rw [hsp] at hm;cases hm
  refine QD.pan_ [.ptr xb 0, .ptr eb 0, .ptr ab 0] rfl rfl rfl (WP.block (WP.seq (WP.reg (WO.aB (v:= .bool false) rfl (WO.nil (WP.cond (t:=false) rfl (WP.seq (WP.reg (WO.val (v:= .tup [.agg [.int .i64 (e:Int), .int .i64 (a:Int)], .bool true]) rfl (WO.aB (v:= .bool true) rfl (WO.aB (v:= .agg [.int .i64 (e:Int), .int .i64 (a:Int)]) rfl (WO.nil (WP.cond (t:=true) rfl (WP.seq (WP.reg (WO.bL st L.alloc (fun b1 h st=> ?_)))))))))))))))))
  refine WO.aG (row':=[.int .i64 (e:Int), .int .i64 (a:Int)]) st 0 rfl rfl rfl rfl rfl rfl rfl (fun h st=> ?_)
  refine WO.nil (WP.seq (WP.reg (WO.aB (v:= .slN) rfl (WO.nil (WP.draw (WD.val (v:= .slN) rfl (WD.val (v:= .ptr b1 0) (L.aA rfl) (WD.val (v:= .int .i64 (e:Int)) (L.aC rfl (st.aj 0 rfl) rfl) (WD.val (v:= .ptr b1 1) (L.aA rfl) (WD.val (v:= .int .i64 (a:Int)) (L.aC rfl (st.aj 0 rfl) rfl) (WD.aG (row':=[.slN]) st 3 rfl rfl rfl rfl rfl rfl rfl (fun h st=>aR (by first|exact av (L.aC rfl (st.aj 0 rfl) rfl)|exact aH st 0 rfl|exact av (L.aK rfl (st.aj 0 rfl) rfl rfl rfl)|exact av (L.aC rfl (st.aj 1 rfl) rfl)|exact aH st 1 rfl|exact av (L.aK rfl (st.aj 1 rfl) rfl rfl rfl)|exact av (L.aC rfl (st.aj 2 rfl) rfl)|exact aH st 2 rfl|exact av (L.aK rfl (st.aj 2 rfl) rfl rfl rfl)|exact av (L.aC rfl (st.aj 3 rfl) rfl)|exact aH st 3 rfl|exact av (L.aK rfl (st.aj 3 rfl) rfl rfl rfl)) (aR (by first|exact av (L.aC rfl (st.aj 0 rfl) rfl)|exact aH st 0 rfl|exact av (L.aK rfl (st.aj 0 rfl) rfl rfl rfl)|exact av (L.aC rfl (st.aj 1 rfl) rfl)|exact aH st 1 rfl|exact av (L.aK rfl (st.aj 1 rfl) rfl rfl rfl)|exact av (L.aC rfl (st.aj 2 rfl) rfl)|exact aH st 2 rfl|exact av (L.aK rfl (st.aj 2 rfl) rfl rfl rfl)|exact av (L.aC rfl (st.aj 3 rfl) rfl)|exact aH st 3 rfl|exact av (L.aK rfl (st.aj 3 rfl) rfl rfl rfl)) (bC _ _))) (fun h st=> ?_))))))))))))
  refine WD.aG (row':=[.int .i64 (e:Int)]) st 2 rfl rfl rfl rfl rfl rfl rfl (fun h st=>aR (by first|exact av (L.aC rfl (st.aj 0 rfl) rfl)|exact aH st 0 rfl|exact av (L.aK rfl (st.aj 0 rfl) rfl rfl rfl)|exact av (L.aC rfl (st.aj 1 rfl) rfl)|exact aH st 1 rfl|exact av (L.aK rfl (st.aj 1 rfl) rfl rfl rfl)|exact av (L.aC rfl (st.aj 2 rfl) rfl)|exact aH st 2 rfl|exact av (L.aK rfl (st.aj 2 rfl) rfl rfl rfl)|exact av (L.aC rfl (st.aj 3 rfl) rfl)|exact aH st 3 rfl|exact av (L.aK rfl (st.aj 3 rfl) rfl rfl rfl)) (bC _ _)) (fun h st=> ?_)
  refine WD.aG (row':=[.int .i64 (a:Int)]) st 1 rfl rfl rfl rfl rfl rfl rfl (fun h st=>rfl) (fun h st=> ?_)
  refine WD.nil ?_
  exact ⟨.inl rfl,_,(ak (jW (v:= .slN) rfl (L.jq (st.aj 3 rfl) rfl)) (ak (jW (v:= .int .i64 (e:Int)) rfl (L.jq (st.aj 2 rfl) rfl)) (ak (jW (v:= .int .i64 (a:Int)) rfl (L.jq (st.aj 1 rfl) rfl)) (aF _ _)))),rfl,st.tail.tail.tail.tail⟩
 |ok x=>
  obtain ⟨m,lx⟩:=x
  refine WO.yY rfl rfl (Iu D st (hl.rb_ rb)) (fun e1 a1 h hm=>by rw [hsp] at hm;cases hm) (fun x l v h i hm=> ?_)
  rw [hsp] at hm;cases hm
  rintro hlx ⟨hcv,st⟩
  refine WO.aG (row':=[v]) st 5 rfl rfl hcv rfl rfl rfl rfl (fun h st=> ?_)
  refine WO.aG (row':=[.int .i64 0]) st 4 rfl rfl rfl rfl rfl rfl rfl (fun h st=> ?_)
  refine WO.aG (row':=[.int .i64 0]) st 3 rfl rfl rfl rfl rfl rfl rfl (fun h st=> ?_)
  refine WO.nil (QD.nrm_ [.ptr xb 0, .ptr eb 0, .ptr ab 0] rfl rfl (WP.block (WP.seq (WP.reg (WO.aB (v:= .bool true) rfl (WO.nil (WP.cond (t:=true) rfl (WP.reg (WO.nil ?_)))))))))
  exact ⟨.inl rfl,_,(ak (jW (v:=v) rfl (L.jq (st.aj 5 rfl) rfl)) (ak (jW (v:= .int .i64 0) rfl (L.jq (st.aj 4 rfl) rfl)) (ak (jW (v:= .int .i64 0) rfl (L.jq (st.aj 3 rfl) rfl)) (aF _ _)))),v,rfl,hcv,(((((st.pick 1 rfl).tail.pick 1 rfl).tail.pick 1 rfl).tail.pick 1 rfl).tail.pick 1 rfl).tail⟩
theorem readM_c (D:gq c) (DD:uL c) {fs:List Fact} {h:Heap} {p:RP} (st:St (p.toks::fs) h) (hl:Left p 0 p.ts):
 aV c 25 [.sl p.tb p.to p.ts.length p.cap, .fn 26 [] []] h fun v h1=>match Par.kD 0 p.ts with
  | .ok (m,_)=>∃row,v= .tup [.agg row, .int .i64 0, .int .i64 0]∧row.length=5∧St (.stb (fun h=>MdR h m row)::fs) h1
  | .error (e,a)=>v= .tup [.agg [.str 0 0, .int .i64 0, .slN, .slN, .slN], .int .i64 (e:Int), .int .i64 (a:Int)]∧St fs h1:=by
 obtain ⟨fs_,more,hmore,h16_,h25_⟩:=DD.is_
 refine aV.funD hmore (f:=25) (F:=d25) h25_ rfl rfl rfl rfl (WP.reg (WO.bL st L.alloc (fun xb h st=> ?_)))
 refine WO.bL st L.alloc (fun eb h st=> ?_)
 refine WO.bL st L.alloc (fun ab h st=> ?_)
 refine WO.nil ?_
 show WO _ _ _ _ _ _
 refine WO.val (v:= .agg [.sl p.tb p.to p.ts.length p.cap, .int .i64 0, .int .i64 0]) (L.build rfl) (WO.boxF st (L.box (l:=[.sl p.tb p.to p.ts.length p.cap, .int .i64 0, .int .i64 0]) rfl rfl) (fun rb h st=> ?_))
 replace st:St (({p with rb:=rb}:RP).box 0 0::({p with rb:=rb}:RP).toks:: .box ab [.int .i64 0]:: .box eb [.int .i64 0]:: .box xb [.str 0 0, .int .i64 0, .slN, .slN, .slN]::fs) h:=((st.pick 4 rfl).pick 1 rfl)
 cases hsp:Par.kD 0 p.ts with
 |error x=>
  obtain ⟨e,a⟩:=x
  refine WO.yY rfl rfl (Ir D st (hl.rb_ rb) (Nat.zero_le _)) (fun e1 a1 h hm st=> ?_) (fun x l v h i hm=>by rw [hsp] at hm;cases hm)
  rw [hsp] at hm;cases hm
  refine QD.pan_ [.ptr xb 0, .ptr eb 0, .ptr ab 0] rfl rfl rfl (WP.block (WP.seq (WP.reg (WO.aB (v:= .bool false) rfl (WO.nil (WP.cond (t:=false) rfl (WP.seq (WP.reg (WO.val (v:= .tup [.agg [.int .i64 (e:Int), .int .i64 (a:Int)], .bool true]) rfl (WO.aB (v:= .bool true) rfl (WO.aB (v:= .agg [.int .i64 (e:Int), .int .i64 (a:Int)]) rfl (WO.nil (WP.cond (t:=true) rfl (WP.seq (WP.reg (WO.bL st L.alloc (fun b1 h st=> ?_)))))))))))))))))
  refine WO.aG (row':=[.int .i64 (e:Int), .int .i64 (a:Int)]) st 0 rfl rfl rfl rfl rfl rfl rfl (fun h st=> ?_)
  refine WO.nil (WP.seq (WP.reg (WO.bL st L.alloc (fun b2 h st=> ?_))))
  refine WO.nil (WP.draw (WD.val (v:= .agg [.str 0 0, .int .i64 0, .slN, .slN, .slN]) (L.aK rfl (st.aj 0 rfl) rfl rfl rfl) (WD.val (v:= .ptr b1 0) (L.aA rfl) (WD.val (v:= .int .i64 (e:Int)) (L.aC rfl (st.aj 1 rfl) rfl) (WD.val (v:= .ptr b1 1) (L.aA rfl) (WD.val (v:= .int .i64 (a:Int)) (L.aC rfl (st.aj 1 rfl) rfl) (WD.aG (row':=[.str 0 0, .int .i64 0, .slN, .slN, .slN]) st 4 rfl rfl rfl rfl rfl rfl rfl (fun h st=>aR (by first|exact av (L.aC rfl (st.aj 0 rfl) rfl)|exact aH st 0 rfl|exact av (L.aK rfl (st.aj 0 rfl) rfl rfl rfl)|exact av (L.aC rfl (st.aj 1 rfl) rfl)|exact aH st 1 rfl|exact av (L.aK rfl (st.aj 1 rfl) rfl rfl rfl)|exact av (L.aC rfl (st.aj 2 rfl) rfl)|exact aH st 2 rfl|exact av (L.aK rfl (st.aj 2 rfl) rfl rfl rfl)|exact av (L.aC rfl (st.aj 3 rfl) rfl)|exact aH st 3 rfl|exact av (L.aK rfl (st.aj 3 rfl) rfl rfl rfl)|exact av (L.aC rfl (st.aj 4 rfl) rfl)|exact aH st 4 rfl|exact av (L.aK rfl (st.aj 4 rfl) rfl rfl rfl)) (aR (by first|exact av (L.aC rfl (st.aj 0 rfl) rfl)|exact aH st 0 rfl|exact av (L.aK rfl (st.aj 0 rfl) rfl rfl rfl)|exact av (L.aC rfl (st.aj 1 rfl) rfl)|exact aH st 1 rfl|exact av (L.aK rfl (st.aj 1 rfl) rfl rfl rfl)|exact av (L.aC rfl (st.aj 2 rfl) rfl)|exact aH st 2 rfl|exact av (L.aK rfl (st.aj 2 rfl) rfl rfl rfl)|exact av (L.aC rfl (st.aj 3 rfl) rfl)|exact aH st 3 rfl|exact av (L.aK rfl (st.aj 3 rfl) rfl rfl rfl)|exact av (L.aC rfl (st.aj 4 rfl) rfl)|exact aH st 4 rfl|exact av (L.aK rfl (st.aj 4 rfl) rfl rfl rfl)) (bC _ _))) (fun h st=> ?_))))))))
  refine WD.aG (row':=[.int .i64 (e:Int)]) st 3 rfl rfl rfl rfl rfl rfl rfl (fun h st=>aR (by first|exact av (L.aC rfl (st.aj 0 rfl) rfl)|exact aH st 0 rfl|exact av (L.aK rfl (st.aj 0 rfl) rfl rfl rfl)|exact av (L.aC rfl (st.aj 1 rfl) rfl)|exact aH st 1 rfl|exact av (L.aK rfl (st.aj 1 rfl) rfl rfl rfl)|exact av (L.aC rfl (st.aj 2 rfl) rfl)|exact aH st 2 rfl|exact av (L.aK rfl (st.aj 2 rfl) rfl rfl rfl)|exact av (L.aC rfl (st.aj 3 rfl) rfl)|exact aH st 3 rfl|exact av (L.aK rfl (st.aj 3 rfl) rfl rfl rfl)|exact av (L.aC rfl (st.aj 4 rfl) rfl)|exact aH st 4 rfl|exact av (L.aK rfl (st.aj 4 rfl) rfl rfl rfl)) (bC _ _)) (fun h st=> ?_)
  refine WD.aG (row':=[.int .i64 (a:Int)]) st 2 rfl rfl rfl rfl rfl rfl rfl (fun h st=>rfl) (fun h st=> ?_)
  refine WD.nil ?_
  exact ⟨.inl rfl,_,(ak (aP (l:=[.str 0 0, .int .i64 0, .slN, .slN, .slN]) rfl (L.aT (st.aj 4 rfl) rfl rfl rfl)) (ak (jW (v:= .int .i64 (e:Int)) rfl (L.jq (st.aj 3 rfl) rfl)) (ak (jW (v:= .int .i64 (a:Int)) rfl (L.jq (st.aj 2 rfl) rfl)) (aF _ _)))),rfl,st.tail.tail.tail.tail.tail⟩
 |ok x=>
  obtain ⟨m,lx⟩:=x
  refine WO.yY rfl rfl (Ir D st (hl.rb_ rb) (Nat.zero_le _)) (fun e1 a1 h hm=>by rw [hsp] at hm;cases hm) (fun x l v h i hm=> ?_)
  rw [hsp] at hm;cases hm
  rintro hlx ⟨rowm,rfl,hrow,st⟩
  refine WO.aG (row':=rowm) st 5 rfl rfl rfl (by rw [dB];exact hrow) rfl rfl (kJ hrow) (fun h st=> ?_)
  refine WO.aG (row':=[.int .i64 0]) st 4 rfl rfl rfl rfl rfl rfl rfl (fun h st=> ?_)
  refine WO.aG (row':=[.int .i64 0]) st 3 rfl rfl rfl rfl rfl rfl rfl (fun h st=> ?_)
  refine WO.nil (QD.nrm_ [.ptr xb 0, .ptr eb 0, .ptr ab 0] rfl rfl (WP.block (WP.seq (WP.reg (WO.aB (v:= .bool true) rfl (WO.nil (WP.cond (t:=true) rfl (WP.reg (WO.nil ?_)))))))))
  exact ⟨.inl rfl,_,(ak (aP (l:=rowm) rfl (L.aT (st.aj 5 rfl) rfl (by rw [dB,hrow];rfl) (jy hrow))) (ak (jW (v:= .int .i64 0) rfl (L.jq (st.aj 4 rfl) rfl)) (ak (jW (v:= .int .i64 0) rfl (L.jq (st.aj 3 rfl) rfl)) (aF _ _)))),rowm,rfl,hrow,(((((st.pick 1 rfl).tail.pick 1 rfl).tail.pick 1 rfl).tail.pick 1 rfl).tail.pick 1 rfl).tail⟩
end
end Go.Eng.YtjobofnpmmjeoaaGreatDoor.Pq
