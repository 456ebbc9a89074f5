/- Part of a proof of a law: rules of an evaluator, contracts, plain laws. No condition of its own. -/
import Derived.Test.YtjobofnpmmjeoaaDoorSymA
import Derived.Test.YtjobofnpmmjeoaaDoorCodeA
set_option linter.unusedVariables false
set_option linter.unusedSimpArgs false
namespace Go.Eng.YtjobofnpmmjeoaaDoor.Pq
open Go.Eng
noncomputable section
variable {c:Ctx}
structure fZ (c:Ctx):Prop where
 f10:T.get 10 c.bJ=some i10
 f11:T.get 11 c.bJ=some i11
 f12:T.get 12 c.bJ=some i12
 f16:T.get 16 c.bJ=some i16
 f17:T.get 17 c.bJ=some i17
 f18:T.get 18 c.bJ=some i18
 f21:T.get 21 c.bJ=some i21
 f23:T.get 23 c.bJ=some i23
 f24:T.get 24 c.bJ=some i24
 f25:T.get 25 c.bJ=some i25
 f26:T.get 26 c.bJ=some i26
 f27:T.get 27 c.bJ=some i27
 f28:T.get 28 c.bJ=some i28
 f29:T.get 29 c.bJ=some i29
 f30:T.get 30 c.bJ=some i30
 f31:T.get 31 c.bJ=some i31
 f35:T.get 35 c.bJ=some i35
 f36:T.get 36 c.bJ=some i36
 f37:T.get 37 c.bJ=some i37
 f38:T.get 38 c.bJ=some i38
 f40:T.get 40 c.bJ=some i40
 f41:T.get 41 c.bJ=some i41
 f42:T.get 42 c.bJ=some i42
 f43:T.get 43 c.bJ=some i43
 f44:T.get 44 c.bJ=some i44
 f46:T.get 46 c.bJ=some i46
 f47:T.get 47 c.bJ=some i47
 f48:T.get 48 c.bJ=some i48
 f49:T.get 49 c.bJ=some i49
 f50:T.get 50 c.bJ=some i50
 f51:T.get 51 c.bJ=some i51
 f52:T.get 52 c.bJ=some i52
 f53:T.get 53 c.bJ=some i53
 f54:T.get 54 c.bJ=some i54
 f55:T.get 55 c.bJ=some i55
 f58:T.get 58 c.bJ=some i58
 f59:T.get 59 c.bJ=some i59
 f60:T.get 60 c.bJ=some i60
 f61:T.get 61 c.bJ=some i61
 f63:T.get 63 c.bJ=some i63
 f65:T.get 65 c.bJ=some i65
 f66:T.get 66 c.bJ=some i66
 f67:T.get 67 c.bJ=some i67
 f73:T.get 73 c.bJ=some i73
 f78:T.get 78 c.bJ=some i78
 f79:T.get 79 c.bJ=some i79
 f80:T.get 80 c.bJ=some i80
 f84:T.get 84 c.bJ=some i84
 f85:T.get 85 c.bJ=some i85
 f87:T.get 87 c.bJ=some i87
theorem zT (D:fZ c) {fs:List Fact} {h:Heap} {p:RP} {i d:Nat} {t:Tok} {l:List Tok} (st:St (p.box i d::p.toks::fs) h) (hl:Left p i (t::l)):
 bZ c 36 [.ptr p.rb 0] h fun v h1=>v= .agg t.row∧St (p.box i d::p.toks::fs) h1:=by
 refine bZ.eZ D.f36 rfl (WP.seq (WP.reg (WO.dQ st L.alloc (fun b1 h st=> ?_))))
 refine WO.nil (WP.seq (WP.draw (WD.val (v:= .ptr p.rb 0) rfl (WD.val (v:= .ptr p.rb 0) rfl (WD.val (v:= .ptr p.rb 0) (L.ak rfl) (WD.val (v:= .sl p.tb p.to p.ts.length p.cap) (L.ay rfl (st.aj 1 rfl) rfl) (WD.val (v:= .ptr p.rb 0) rfl (WD.val (v:= .ptr p.rb 0) rfl (WD.val (v:= .ptr p.rb 1) (L.ak rfl) (WD.val (v:= .int .i64 (i:Int)) (L.ay rfl (st.aj 1 rfl) rfl) (WD.val (L.bI rfl rfl hl.get.2) (WD.val (v:= .agg [.int .i64 (t.kind:Int),L.str t.text, .int .i64 (t.at_:Int)]) (L.bE rfl ((st.aF 2 rfl).bE hl.row)) (WD.aH (row':=[.int .i64 (t.kind:Int),L.str t.text, .int .i64 (t.at_:Int)]) st 0 rfl rfl rfl rfl rfl rfl rfl (fun h st=>rfl) (fun h st=> ?_))))))))))))))
 refine WD.nil (WP.ret ?_)
 exact ⟨_,(av (dB (l:=[.int .i64 (t.kind:Int),L.str t.text, .int .i64 (t.at_:Int)]) rfl (L.dP (st.aj 0 rfl) rfl rfl rfl)) (aG _ _)),(rfl),st.tail⟩
theorem is_c (D:fZ c) {fs:List Fact} {h:Heap} {p:RP} {i d:Nat} {l:List Tok} {s:List UInt8} (st:St (p.box i d::p.toks::fs) h) (hl:Left p i l):
 bZ c 48 [.ptr p.rb 0,L.str s] h fun v h1=>v= .bool (Par.is s l)∧St (p.box i d::p.toks::fs) h1:=by
 obtain ⟨t,l,rfl⟩:=hl.cons
 refine bZ.eZ D.f48 rfl (WP.seq (WP.reg (WO.aA (v:= .bool false) rfl (WO.nil (WP.seq (WP.reg (WO.bR rfl (zT D st hl) ?_)))))))
 rintro _ h ⟨rfl,st⟩
 refine WO.dQ st L.alloc (fun b1 h st=> ?_)
 refine WO.aH (row':=[.int .i64 (t.kind:Int),L.str t.text, .int .i64 (t.at_:Int)]) st 0 rfl rfl rfl rfl rfl rfl rfl (fun h st=> ?_)
 refine WO.nil (WP.seq (WP.reg (WO.val (v:= .ptr b1 1) (L.ak rfl) (WO.val (v:=L.str t.text) (L.ay rfl (st.aj 0 rfl) rfl) (WO.ifV (L.seq rfl rfl) (fun c1=> ?_) (fun c1=> ?_))))))
 ·refine WO.yes rfl (WO.val (v:= .ptr b1 0) (L.ak rfl) (WO.yes rfl (WO.val (v:= .int .i64 (t.kind:Int)) (L.ay rfl (st.aj 0 rfl) rfl) (WO.yes rfl (WO.ifV (L.eql rfl rfl) (fun c2=> ?_) (fun c2=> ?_))))))
  ·replace c2:t.kind=4:=by omega
   refine WO.yes rfl (WO.val (v:= .bool true) rfl (WO.no rfl (WO.no rfl (WO.no rfl (WO.yes rfl (WO.val (v:= .bool true) rfl (WO.aA (v:= .bool true) rfl (WO.nil (WP.ret ?_)))))))))
   exact ⟨_,(av (aB (v:= .bool true) rfl) (aG _ _)),(by simp [Par.is,Par.hd,one, *]<;>omega),st.tail⟩
  ·replace c2:¬(t.kind=4):=by omega
   refine WO.yes rfl (WO.val (v:= .bool false) rfl (WO.yes rfl (WO.val (v:= .ptr b1 0) (L.ak rfl) (WO.yes rfl (WO.val (v:= .int .i64 (t.kind:Int)) (L.ay rfl (st.aj 0 rfl) rfl) (WO.yes rfl (WO.ifV (L.eql rfl rfl) (fun c3=> ?_) (fun c3=> ?_))))))))
   ·replace c3:t.kind=3:=by omega
    refine WO.yes rfl (WO.val (v:= .bool true) rfl (WO.aA (v:= .bool true) rfl (WO.nil (WP.ret ?_))))
    exact ⟨_,(av (aB (v:= .bool true) rfl) (aG _ _)),(by simp [Par.is,Par.hd,one, *]<;>omega),st.tail⟩
   ·replace c3:¬(t.kind=3):=by omega
    refine WO.yes rfl (WO.val (v:= .bool false) rfl (WO.aA (v:= .bool false) rfl (WO.nil (WP.ret ?_))))
    exact ⟨_,(av (aB (v:= .bool false) rfl) (aG _ _)),(by simp [Par.is,Par.hd,one, *]<;>omega),st.tail⟩
 ·refine WO.no rfl (WO.no rfl (WO.no rfl (WO.no rfl (WO.no rfl (WO.no rfl (WO.no rfl (WO.no rfl (WO.aA (v:= .bool false) rfl (WO.nil (WP.ret ?_))))))))))
  exact ⟨_,(av (aB (v:= .bool false) rfl) (aG _ _)),(by simp [Par.is,Par.hd,one, *]<;>omega),st.tail⟩
theorem kP (D:fZ c) {fs:List Fact} {h:Heap} {p:RP} {i d:Nat} {l:List Tok} {s:List UInt8} (st:St (p.box i d::p.toks::fs) h) (hl:Left p i l):
 bZ c 38 [.ptr p.rb 0,L.str s] h fun v h1=>(v= .bool true∧Par.is s l=true∧Left p (i+1) l.tail∧St (p.box (i+1) d::p.toks::fs) h1)∨(v= .bool false∧Par.is s l=false∧St (p.box i d::p.toks::fs) h1):=by
 refine bZ.eZ D.f38 rfl (WP.seq (WP.reg (WO.aA (v:= .bool false) rfl (WO.nil (WP.seq (WP.reg (WO.eG rfl (is_c D st hl) ?_)))))))
 rintro _ h ⟨rfl,st⟩
 cases his:Par.is s l
 ·refine WO.nil (WP.seq (WP.seq (WP.reg (WO.aA (v:= .bool false) rfl (WO.nil (WP.cond (t:=false) rfl (WP.skip (WP.seq (WP.reg (WO.aA (v:= .bool false) rfl (WO.nil (WP.ret ?_))))))))))))
  exact ⟨_,(av (aB (v:= .bool false) rfl) (aG _ _)),Or.inr ⟨rfl,rfl,st⟩⟩
 ·refine WO.nil (WP.seq (WP.seq (WP.reg (WO.aA (v:= .bool true) rfl (WO.nil (WP.cond (t:=true) rfl (WP.reg (WO.val (v:= .ptr p.rb 0) rfl (WO.val (v:= .ptr p.rb 1) (L.ak rfl) (WO.val (v:= .int .i64 (i:Int)) (L.ay rfl (st.aj 0 rfl) rfl) (WO.val (v:= .int .i64 ((i+1:Nat):Int)) (L.kC rfl rfl (by omega) (And.intro (by omega) (by have:=hl.lt;have:=hl.small;omega))) (WO.val (v:= .ptr p.rb 0) rfl (WO.val (v:= .ptr p.rb 1) (L.ak rfl) (WO.aH (row':=[.sl p.tb p.to p.ts.length p.cap, .int .i64 ((i+1:Nat):Int), .int .i64 (d:Int)]) st 0 rfl rfl rfl rfl rfl rfl rfl (fun h st=> ?_)))))))))))))))
  refine WO.nil (WP.seq (WP.reg (WO.aA (v:= .bool true) rfl (WO.nil (WP.ret ?_)))))
  exact ⟨_,(av (aB (v:= .bool true) rfl) (aG _ _)),Or.inl ⟨rfl,rfl,hl.is his,st⟩⟩
theorem Fh (D:fZ c) {fs:List Fact} {h:Heap} {p:RP} {i d:Nat} {l:List Tok} {e:Nat} (st:St (p.box i d::p.toks::fs) h) (hl:Left p i l):
 vX c 46 [.ptr p.rb 0, .int .i64 (e:Int)] h (xw 83 e (Par.here l)) (St fs):=by
 obtain ⟨t,l,rfl⟩:=hl.cons
 refine vX.eZ D.f46 rfl (WP.reg (WO.bR rfl (zT D st hl) ?_))
 rintro _ h ⟨rfl,st⟩
 refine WO.val (v:= .int .i64 (t.at_:Int)) rfl (WO.val (v:= .agg [.int .i64 (e:Int), .int .i64 (t.at_:Int)]) (L.build rfl) (WO.val (v:= .ifc 83 (.agg [.int .i64 (e:Int), .int .i64 (t.at_:Int)])) rfl (WO.pan rfl ?_)))
 exact ⟨rfl,st.tail.tail⟩
theorem eH (D:fZ c) {fs:List Fact} {h:Heap} {p:RP} {i d:Nat} {l:List Tok} {s:List UInt8} (st:St (p.box i d::p.toks::fs) h) (hl:Left p i l):
 gG c 35 [.ptr p.rb 0,L.str s] h (aN p 83 (Par.must s l) (fun a i v h1=>v= .int .i64 (a:Int)∧St (p.box i d::p.toks::fs) h1) (St fs)):=by
 refine gG.eZ D.f35 rfl (WP.seq (WP.reg (WO.aA (v:= .int .i64 0) rfl (WO.nil (WP.seq (WP.reg ?_))))))
 obtain ⟨t,l',rfl⟩:=hl.cons
 refine WO.bR rfl (zT D st hl) ?_
 rintro _ h ⟨rfl,st⟩
 refine WO.aA (v:= .int .i64 (t.at_:Int)) rfl (WO.nil (WP.seq (WP.seq (WP.reg (WO.bR rfl (kP D st hl) ?_)))))
 rintro _ h (⟨rfl,hi1,hl1,st⟩|⟨rfl,hi1,st⟩)
 ·replace st:St ((p.box (i+1:Nat) d)::p.toks::fs) h:=st
  refine WO.aA (v:= .bool false) rfl (WO.nil (WP.cond (t:=false) rfl (WP.skip (WP.seq (WP.reg (WO.aA (v:= .int .i64 (t.at_:Int)) rfl (WO.nil (WP.ret ?_))))))))
  exact ⟨_,(av (aB (v:= .int .i64 (t.at_:Int)) rfl) (aG _ _)),aN.ok (by simp [Par.must,hi1]<;>rfl) hl1 ⟨rfl,st⟩⟩
 ·replace st:St ((p.box i d)::p.toks::fs) h:=st
  refine WO.aA (v:= .bool true) rfl (WO.nil (WP.cond (t:=true) rfl (WP.reg (WO.om rfl (Fh D st hl) (fun h st=> ?_)))))
  exact aN.pan (by simp [Par.must,Par.fail,hi1]) st
theorem of_c (D:fZ c) {fs:List Fact} {h:Heap} {p:RP} {i d:Nat} {l:List Tok} {k:Nat} (st:St (p.box i d::p.toks::fs) h) (hl:Left p i l) (hk:k≠0):
 gG c 47 [.ptr p.rb 0, .int .i64 (k:Int)] h (aN p 83 (Par.of k l) (fun t i v h1=>v= .agg t.row∧St (p.box i d::p.toks::fs) h1) (St fs)):=by
 obtain ⟨t,l,rfl⟩:=hl.cons
 refine gG.eZ D.f47 rfl (WP.seq (WP.reg (WO.dQ st L.alloc (fun b1 h st=> ?_))))
 refine WO.nil (WP.seq (WP.reg (WO.bR rfl (zT D ((st.pick 2 rfl).pick 2 rfl) hl) ?_)))
 rintro _ h ⟨rfl,st⟩
 refine WO.dQ st L.alloc (fun b2 h st=> ?_)
 refine WO.aH (row':=[.int .i64 (t.kind:Int),L.str t.text, .int .i64 (t.at_:Int)]) st 0 rfl rfl rfl rfl rfl rfl rfl (fun h st=> ?_)
 refine WO.nil (WP.seq (WP.seq (WP.reg (WO.val (v:= .ptr b2 0) (L.ak rfl) (WO.val (v:= .int .i64 (t.kind:Int)) (L.ay rfl (st.aj 0 rfl) rfl) (WO.ifS (L.neq rfl rfl) (fun c1=> ?_) (fun c1=> ?_)))))))
 ·replace c1:t.kind≠k:=by omega
  refine WO.nil (WP.cond (t:=true) rfl (WP.reg (WO.om rfl (Fh D ((st.pick 2 rfl).pick 2 rfl) hl) (fun h st=> ?_))))
  exact aN.pan (by simp [Par.of,Par.fail,Par.hd,c1]) st.tail.tail
 ·replace c1:¬(t.kind≠k):=by omega
  refine WO.nil (WP.cond (t:=false) rfl (WP.skip (WP.seq (WP.reg (WO.val (v:= .ptr p.rb 0) rfl (WO.val (v:= .ptr p.rb 1) (L.ak rfl) (WO.val (v:= .int .i64 (i:Int)) (L.ay rfl (st.aj 1 rfl) rfl) (WO.val (v:= .int .i64 ((i+1:Nat):Int)) (L.kC rfl rfl (by omega) (And.intro (by omega) (by have:=hl.lt;have:=hl.small;omega))) (WO.val (v:= .ptr p.rb 0) rfl (WO.val (v:= .ptr p.rb 1) (L.ak rfl) (WO.aH (row':=[.sl p.tb p.to p.ts.length p.cap, .int .i64 ((i+1:Nat):Int), .int .i64 (d:Int)]) st 1 rfl rfl rfl rfl rfl rfl rfl (fun h st=> ?_))))))))))))
  refine WO.nil (WP.seq (WP.reg (WO.val (v:= .agg [.int .i64 (t.kind:Int),L.str t.text, .int .i64 (t.at_:Int)]) (L.aI rfl (st.aj 0 rfl) rfl rfl rfl) (WO.aH (row':=[.int .i64 (t.kind:Int),L.str t.text, .int .i64 (t.at_:Int)]) st 3 rfl rfl rfl rfl rfl rfl rfl (fun h st=> ?_)))))
  refine WO.nil (WP.ret ?_)
  have hk1:t.kind=k:=by omega
  exact ⟨_,(av (dB (l:=[.int .i64 (t.kind:Int),L.str t.text, .int .i64 (t.at_:Int)]) rfl (L.dP (st.aj 3 rfl) rfl rfl rfl)) (aG _ _)),aN.ok (x:=t) (l:=l) (by simp [Par.of,Par.hd,hk1]) (hl.next (by omega)) ⟨rfl,(st.tail.pick 2 rfl).tail⟩⟩
theorem jV (D:fZ c) {fs:List Fact} {h:Heap} {p:RP} {i d:Nat} {l:List Tok} (st:St (p.box i d::p.toks::fs) h) (hl:Left p i l):
 gG c 37 [.ptr p.rb 0] h (aN p 83 (Par.name l) (fun a i v h1=>v=L.str a∧St (p.box i d::p.toks::fs) h1) (St fs)):=by
 refine gG.eZ D.f37 rfl (WP.seq (WP.reg (WO.aA (v:= .str 0 0) rfl (WO.nil (WP.seq (WP.reg (WO.bC rfl (of_c (k:=1) D st hl (by decide)) (fun e a h hm st=> ?_) ?_)))))))
 ·exact aN.pan (by simp [Par.name,hm]) (st)
 rintro t1 l1 _ h i1 m1 hl1 ⟨rfl,st⟩
 refine WO.aA (v:=L.str t1.text) rfl (WO.nil (WP.ret ?_))
 exact ⟨_,(av (aB (v:=L.str t1.text) rfl) (aG _ _)),aN.ok (by simp [Par.name,m1]<;>rfl) hl1 ⟨rfl,st⟩⟩
theorem Af (D:fZ c) {fs:List Fact} {h:Heap} {p:RP} {i d:Nat} {l:List Tok} (st:St (p.box i d::p.toks::fs) h) (hl:Left p i l):
 gG c 67 [.ptr p.rb 0] h (aN p 83 (Par.fM l) (fun a i v h1=>v= .tup [L.str a.1,L.str a.2]∧St (p.box i d::p.toks::fs) h1) (St fs)):=by
 refine gG.eZ D.f67 rfl (WP.seq (WP.reg (WO.aA (v:= .str 0 0) rfl (WO.aA (v:= .str 0 0) rfl (WO.nil (WP.seq (WP.reg (WO.vW rfl (jV D st hl) (fun e a h hm st=> ?_) ?_))))))))
 ·exact aN.pan (by simp [Par.fM,hm]) (st)
 rintro a1 l1 _ h i1 m1 hl1 ⟨rfl,st⟩
 refine WO.nil (WP.seq (WP.seq (WP.reg (WO.eG rfl (kP (s:=[46]) D st hl1) ?_))))
 rintro _ h (⟨rfl,hi2,hl2,st⟩|⟨rfl,hi2,st⟩)
 ·replace st:St ((p.box (i1+1:Nat) d)::p.toks::fs) h:=st
  refine WO.nil (WP.cond (t:=true) rfl (WP.reg (WO.bC rfl (jV D st hl2) (fun e a h hm st=> ?_) ?_)))
  ·exact aN.pan (by simp [Par.fM,hm,m1,hi2]) (st)
  rintro a3 l3 _ h i3 m3 hl3 ⟨rfl,st⟩
  refine WO.aA (v:=L.str a1) rfl (WO.aA (v:=L.str a3) rfl (WO.nil (WP.seq (WP.reg (WO.nil (WP.ret ?_))))))
  exact ⟨_,(av (aB (v:=L.str a1) rfl) (av (aB (v:=L.str a3) rfl) (aG _ _))),aN.ok (by simp [Par.fM,m1,hi2,m3]<;>rfl) hl3 ⟨rfl,st⟩⟩
 ·replace st:St ((p.box i1 d)::p.toks::fs) h:=st
  refine WO.nil (WP.cond (t:=false) rfl (WP.skip (WP.seq (WP.reg (WO.nil (WP.ret ?_))))))
  exact ⟨_,(av (aB (v:= .str 0 0) rfl) (av (aB (v:=L.str a1) rfl) (aG _ _))),aN.ok (by simp [Par.fM,m1,hi2]<;>rfl) hl1 ⟨rfl,st⟩⟩
theorem Ae (D:fZ c) {fs:List Fact} {h:Heap} {p:RP} {i d:Nat} {l:List Tok} (st:St (p.box i d::p.toks::fs) h) (hl:Left p i l) (hd:¬40≤d):
 bZ c 59 [.ptr p.rb 0] h fun v h1=>v= .tup []∧St (p.box i (d+1)::p.toks::fs) h1:=by
 refine bZ.eZ D.f59 rfl (WP.seq (WP.seq (WP.reg (WO.val (v:= .ptr p.rb 0) rfl (WO.val (v:= .ptr p.rb 2) (L.ak rfl) (WO.val (v:= .int .i64 (d:Int)) (L.ay rfl (st.aj 0 rfl) rfl) (WO.ifS (L.geq rfl rfl) (fun c1=>by exfalso;omega) (fun c1=> ?_))))))))
 refine WO.nil (WP.cond (t:=false) rfl (WP.skip (WP.reg (WO.val (v:= .ptr p.rb 0) rfl (WO.val (v:= .ptr p.rb 2) (L.ak rfl) (WO.val (v:= .int .i64 (d:Int)) (L.ay rfl (st.aj 0 rfl) rfl) (WO.val (v:= .int .i64 ((d+1:Nat):Int)) (L.kC rfl rfl (by omega) (And.intro (by omega) (by omega))) (WO.val (v:= .ptr p.rb 0) rfl (WO.val (v:= .ptr p.rb 2) (L.ak rfl) (WO.aH (row':=[.sl p.tb p.to p.ts.length p.cap, .int .i64 (i:Int), .int .i64 ((d+1:Nat):Int)]) st 0 rfl rfl rfl rfl rfl rfl rfl (fun h st=> ?_)))))))))))
 refine WO.nil ?_
 exact ⟨_,(aG _ _),(rfl),st⟩
theorem BL (D:fZ c) {fs:List Fact} {h:Heap} {p:RP} {i d:Nat} {l:List Tok} (st:St (p.box i d::p.toks::fs) h) (hl:Left p i l) (hd:40≤d):
 vX c 59 [.ptr p.rb 0] h (xw 83 12 (Par.here l)) (St fs):=by
 refine vX.eZ D.f59 rfl (WP.seq (WP.seq (WP.reg (WO.val (v:= .ptr p.rb 0) rfl (WO.val (v:= .ptr p.rb 2) (L.ak rfl) (WO.val (v:= .int .i64 (d:Int)) (L.ay rfl (st.aj 0 rfl) rfl) (WO.ifS (L.geq rfl rfl) (fun c1=> ?_) (fun c1=>by exfalso;omega))))))))
 refine WO.nil (WP.cond (t:=true) rfl (WP.reg (WO.om rfl (Fh D st hl) (fun h st=> ?_))))
 exact ⟨rfl,st⟩
theorem atoi1_c (D:fZ c) {fs:List Fact} {h:Heap} {s:List UInt8} (st:St fs h) (hd:pG s):
 bZ c 63 [L.str s] h fun v h1=>v= .tup [.int .i64 (num s:Int), .ifcN]∧St fs h1:=by
 obtain ⟨b0,hb0⟩:∃b,s[0]? =some b:=⟨_,List.getElem?_eq_getElem (List.length_pos_iff.2 hd.ne)⟩
 have hr0:=hd.dig b0 (List.mem_of_getElem? hb0)
 have hs9:=hd.len
 have hs0:0<s.length:=List.length_pos_iff.2 hd.ne
 refine bZ.eZ D.f63 rfl (WP.seq (WP.reg (WO.aA (v:= .int .i64 0) rfl (WO.aA (v:= .ifcN) rfl (WO.nil (WP.seq (WP.reg (WO.aA (v:= .int .i64 (s.length:Int)) (L.yE rfl) (WO.nil (WP.seq (WP.seq (WP.reg (WO.no rfl (WO.no rfl (WO.no rfl (WO.no rfl (WO.no rfl (WO.no rfl (WO.val (v:= .bool false) rfl (WO.yes rfl (WO.val (v:= .bool true) rfl (WO.yes rfl (WO.val (v:= .int .i64 (s.length:Int)) rfl (WO.yes rfl (WO.ifV (L.lss rfl rfl) (fun c1=> ?_) (fun c1=>by exfalso;omega))))))))))))))))))))))))))
 refine WO.yes rfl (WO.val (v:= .bool true) rfl (WO.yes rfl (WO.val (v:= .int .i64 (s.length:Int)) rfl (WO.yes rfl (WO.ifV (L.lss rfl rfl) (fun c2=> ?_) (fun c2=>by exfalso;omega))))))
 refine WO.yes rfl (WO.val (v:= .bool true) rfl (WO.yes rfl (WO.val (v:= .bool true) rfl (WO.aA (v:= .bool true) rfl (WO.nil (WP.cond (t:=true) rfl (WP.seq (WP.reg (WO.aA (v:=L.str s) rfl (WO.nil (WP.seq (WP.seq (WP.reg (WO.val (v:= .int .u8 (b0.toNat:Int)) (L.E5 rfl rfl hb0) (WO.ifV (L.eql rfl rfl) (fun c3=>by exfalso;omega) (fun c3=> ?_))))))))))))))))
 refine WO.yes rfl (WO.val (v:=L.str s) rfl (WO.yes rfl (WO.val (v:= .int .u8 (b0.toNat:Int)) (L.E5 rfl rfl hb0) (WO.yes rfl (WO.ifV (L.eql rfl rfl) (fun c4=>by exfalso;omega) (fun c4=> ?_))))))
 refine WO.aA (v:= .bool false) rfl (WO.nil (WP.cond (t:=false) rfl (WP.skip (WP.seq (WP.reg (WO.aA (v:= .int .i64 0) rfl (WO.nil (WP.seq (WP.seq (WP.reg (WO.Oy st rfl (fun bs1 h st=> ?_))))))))))))
 refine WO.aA (v:= .int .i64 (s.length:Int)) (L.llen rfl) (WO.aA (v:= .int .i64 0) rfl (WO.nil (WP.block (WP.iW (α:=Nat) (fun k env h=>∃x1 x2 x9 x11 x12,(k≤s.length)∧env=dx [L.str s,x1,x2, .int .i64 (s.length:Int), .bool true, .bool false, .bot, .int .i64 (k:Int), .int .i64 (s.length:Int),x9, .sl bs1 0 s.length none,x11,x12, .int .i64 (num (s.take k):Int),L.str s] 0 Env.nil∧St (.stb (fun h=>Rows 1 h (.sl bs1 0 s.length none) (iX s))::fs) h) (fun k=>s.length - k) 0 ?_ ?_))))
 ·exact ⟨(.int .i64 0), .ifcN, .bot, .bot, .bot,(Nat.zero_le _),by kernel_rfl,st⟩
 rintro k _ h ⟨x1,x2,x9,x11,x12,hk,rfl,st⟩
 have hbd:=hd.bound k
 refine WP.seq (WP.reg (WO.ifS (L.lss rfl rfl) (fun c5=> ?_) (fun c5=> ?_)))
 ·replace c5:k<s.length:=by omega
  refine WO.nil (WP.seq (WP.cond (t:=true) rfl (WP.skip (WP.seq (WP.block (WP.seq (WP.reg ?_)))))))
  obtain ⟨b,hb⟩:∃b,s[k]? =some b:=⟨_,List.getElem?_eq_getElem c5⟩
  have hrb:=hd.dig b (List.mem_of_getElem? hb)
  refine WO.val (v:= .ptr bs1 (0+k * 1)) (L.bI rfl rfl c5) (WO.aA (v:= .int .u8 (b.toNat:Int)) (L.load rfl ((st.aF 0 rfl).jG (by unfold iX;rw [List.getElem?_map,hb];rfl))) ?_)
  refine WO.nil (WP.seq (WP.reg (WO.aA (v:= .int .u8 ((b.toNat - 48:Nat):Int)) (L.subU8 (a:=b.toNat) (b:=48) rfl rfl rfl (by omega) (by omega)) (WO.nil (WP.seq (WP.seq (WP.reg (WO.ifS (L.gtr rfl rfl) (fun c6=>by exfalso;omega) (fun c6=> ?_)))))))))
  refine WO.nil (WP.cond (t:=false) rfl (WP.skip (WP.reg (WO.val (v:= .int .i64 ((num (s.take k) * 10:Nat):Int)) (L.mulE rfl rfl (by omega) (And.intro (by omega) (by omega))) (WO.val (v:= .int .i64 ((b.toNat - 48:Nat):Int)) (L.Oz rfl (And.intro (by omega) (by omega))) (WO.aA (v:= .int .i64 (num (s.take (k+1)):Int)) (L.kC rfl rfl (by rw [BB hb];omega) (by rw [BB hb];exact And.intro (by omega) (by omega))) (WO.nil (WP.reg (WO.aA (v:= .int .i64 ((k+1:Nat):Int)) (L.kC rfl rfl (by omega) (And.intro (by omega) (by omega))) (WO.nil ?_))))))))))
  have _:=trivial
  exact ⟨k+1,(by omega),x1,x2,(.bool true),(.int .u8 ((b.toNat - 48:Nat):Int)),(.bool false),by omega,by kernel_rfl,st⟩
 ·replace c5:¬(k<s.length):=by omega
  refine WO.nil (WP.seq (WP.cond (t:=false) rfl (WP.exit (WP.seq (WP.seq (WP.reg (WO.val (v:= .int .u8 (b0.toNat:Int)) (L.E5 rfl rfl hb0) (WO.ifS (L.eql rfl rfl) (fun c7=>by exfalso;omega) (fun c7=> ?_)))))))))
  refine WO.nil (WP.cond (t:=false) rfl (WP.skip (WP.seq (WP.reg (WO.aA (v:= .int .i64 (num (s.take k):Int)) rfl (WO.aA (v:= .ifcN) rfl (WO.nil (WP.ret ?_))))))))
  exact ⟨_,(av (aB (v:= .int .i64 (num (s.take k):Int)) rfl) (av (aB (v:= .ifcN) rfl) (aG _ _))),(by rw [List.take_of_length_le (by omega)];rfl),st.tail⟩
theorem atoi_c (D:fZ c) {fs:List Fact} {h:Heap} {s:List UInt8} (st:St fs h) (hd:pG s):
 bZ c 58 [L.str s] h fun v h1=>v= .tup [.int .i64 (num s:Int), .ifcN]∧St fs h1:=by
 refine bZ.eZ D.f58 rfl (WP.seq (WP.reg (WO.aA (v:= .int .i64 0) rfl (WO.aA (v:= .ifcN) rfl (WO.nil (WP.seq (WP.reg (WO.bR rfl (atoi1_c D st hd) ?_))))))))
 rintro _ h ⟨rfl,st⟩
 refine WO.val (v:= .int .i64 (num s:Int)) rfl (WO.val (v:= .ifcN) rfl (WO.aA (v:= .int .i64 (num s:Int)) rfl (WO.aA (v:= .ifcN) rfl (WO.nil (WP.seq (WP.seq (WP.reg (WO.aA (v:= .bool false) rfl (WO.nil (WP.cond (t:=false) rfl (WP.skip (WP.seq (WP.reg (WO.aA (v:= .int .i64 (num s:Int)) rfl (WO.aA (v:= .ifcN) rfl (WO.nil (WP.ret ?_)))))))))))))))))
 exact ⟨_,(av (aB (v:= .int .i64 (num s:Int)) rfl) (av (aB (v:= .ifcN) rfl) (aG _ _))),rfl,st⟩
theorem BM (D:fZ c) {fs:List Fact} {h:Heap} {p:RP} {i d:Nat} {l:List Tok} (st:St (p.box i d::p.toks::fs) h) (hl:Left p i l):
 gG c 49 [.ptr p.rb 0] h (aN p 83 (Par.number l) (fun a i v h1=>v= .int .i64 (a:Int)∧St (p.box i d::p.toks::fs) h1) (St fs)):=by
 refine gG.eZ D.f49 rfl (WP.seq (WP.reg (WO.aA (v:= .int .i64 0) rfl (WO.nil (WP.seq (WP.reg (WO.bC rfl (of_c (k:=2) D st hl (by decide)) (fun e a h hm st=> ?_) ?_)))))))
 ·exact aN.pan (by simp [Par.number,hm]) (st)
 rintro t1 l1 _ h i1 m1 hl1 ⟨rfl,st⟩
 refine WO.val (v:=L.str t1.text) rfl (WO.bR rfl (atoi_c D st (Par.OE hl m1)) ?_)
 rintro _ h ⟨rfl,st⟩
 refine WO.val (v:= .int .i64 (num t1.text:Int)) rfl (WO.val (v:= .ifcN) rfl (WO.aA (v:= .int .i64 (num t1.text:Int)) rfl (WO.nil (WP.seq (WP.reg (WO.aA (v:= .int .i64 (num t1.text:Int)) rfl (WO.nil (WP.ret ?_))))))))
 exact ⟨_,(av (aB (v:= .int .i64 (num t1.text:Int)) rfl) (aG _ _)),aN.ok (by simp [Par.number,m1]<;>rfl) hl1 ⟨rfl,st⟩⟩
end
end Go.Eng.YtjobofnpmmjeoaaDoor.Pq
namespace Go.Eng.YtjobofnpmmjeoaaDoor.Pq
open Go.Eng
noncomputable section
variable {c:Ctx}
theorem GL (D:fZ c) {fs:List Fact} {h:Heap} {p:RP} {xb fam:Nat} {lv:V} {ns:List Nd} {n:Nd} (st:St (.box xb [.ptr p.rb 0,lv]:: .acc fam 7 lv (ns.map Nd.row)::fs) h) (hfit:ns.length<4294967296):
 bZ c 80 [.ptr xb 0, .agg n.row] h fun v h1=>v= .int .i64 (ns.length:Int)∧∃fam lv,St (.box xb [.ptr p.rb 0,lv]:: .acc fam 7 lv ((ns++[n]).map Nd.row)::fs) h1:=by
 refine bZ.eZ D.f80 rfl (WP.seq (WP.reg (WO.dQ st (L.box (l:=[.int .i64 (n.kind:Int), .int .i64 n.num,L.str n.mod,L.str n.name, .int .i64 n.a, .int .i64 n.b, .int .i64 (n.at_:Int)]) rfl rfl) (fun b1 h st=> ?_))))
 refine WO.aA (v:= .int .i64 0) rfl (WO.nil (WP.seq (WP.draw (WD.val (v:= .ptr xb 0) rfl (WD.val (v:= .ptr xb 0) rfl (WD.val (v:= .ptr xb 0) rfl (WD.val (v:= .ptr xb 1) (L.ak rfl) (WD.val (v:=lv) (L.ay rfl (st.aj 1 rfl) rfl) (WD.val (v:= .agg [.int .i64 (n.kind:Int), .int .i64 n.num,L.str n.mod,L.str n.name, .int .i64 n.a, .int .i64 n.b, .int .i64 (n.at_:Int)]) (L.aI rfl (st.aj 0 rfl) rfl rfl rfl) (WD.oO (rows:=[[.int .i64 (n.kind:Int), .int .i64 n.num,L.str n.mod,L.str n.name, .int .i64 n.a, .int .i64 n.b, .int .i64 (n.at_:Int)]]) st rfl (by decide) rfl (by simp) (fun bs1 h _ st=> ?_)))))))))))
 refine WD.Bv st 3 rfl rfl rfl (st.aF 0 rfl) (by decide) (by simp;omega) (fun _ _ h st=>rfl) (fun f1 v1 h st=> ?_)
 rw [show (ns.map Nd.row)++[[V.int .i64 (n.kind:Int),V.int .i64 n.num,L.str n.mod,L.str n.name,V.int .i64 n.a,V.int .i64 n.b,V.int .i64 (n.at_:Int)]]=(ns++[n]).map Nd.row from by simp [Nd.row]] at st
 obtain ⟨ab1,rfl⟩:=(st.dS 3 rfl).ne (by simp)
 refine WD.val (v:= .ptr xb 0) rfl (WD.val (v:= .ptr xb 1) (L.ak rfl) (WD.aH (row':=[.ptr p.rb 0, .sl ab1 0 (((ns++[n]).map Nd.row).length) none]) st 2 rfl rfl rfl rfl rfl rfl rfl (fun h st=>rfl) (fun h st=> ?_)))
 refine WD.nil (WP.seq (WP.reg (WO.val (v:= .ptr xb 0) rfl (WO.val (v:= .ptr xb 1) (L.ak rfl) (WO.val (v:= .sl ab1 0 (((ns++[n]).map Nd.row).length) none) (L.ay rfl (st.aj 2 rfl) rfl) (WO.val (v:= .int .i64 ((ns.length+1:Nat):Int)) ((L.Ox rfl (st.dS 3 rfl)).trans (by simp)) (WO.aA (v:= .int .i64 (ns.length:Int)) (L.Ol rfl rfl (by omega) (And.intro (by omega) (by omega))) (WO.nil (WP.ret ?_)))))))))
 exact ⟨_,(av (aB (v:= .int .i64 (ns.length:Int)) rfl) (aG _ _)),rfl,_,_,st.tail.tail⟩
theorem OM (D:fZ c) {fs:List Fact} {h:Heap} {p:RP} {i d xb:Nat} {lv:V} {ob oo:Nat} {oc:Option Nat} {ops:List Opn} {l:List Tok} (st:St (.box xb [.ptr p.rb 0,lv]:: .stb (fun h=>Rows 2 h (.sl ob oo ops.length oc) (ops.map Opn.row))::p.box i d::p.toks::fs) h) (hl:Left p i l) (hsm:ops.length<4294967296):
 bZ c 79 [.ptr xb 0, .sl ob oo ops.length oc] h fun v h1=>(∃o,v= .tup [.agg (Opn.row o), .int .i64 (Par.here l:Int), .bool true]∧Par.find ops l=some o∧Left p (i+1) l.tail∧St (.box xb [.ptr p.rb 0,lv]:: .stb (fun h=>Rows 2 h (.sl ob oo ops.length oc) (ops.map Opn.row))::p.box (i+1) d::p.toks::fs) h1)∨(∃o1 o2,v= .tup [.agg [o1,o2], .int .i64 (Par.here l:Int), .bool false]∧Par.find ops l=none∧St (.box xb [.ptr p.rb 0,lv]:: .stb (fun h=>Rows 2 h (.sl ob oo ops.length oc) (ops.map Opn.row))::p.box i d::p.toks::fs) h1):=by
 obtain ⟨t,l',rfl⟩:=hl.cons
 refine bZ.eZ D.f79 rfl (WP.seq (WP.reg (WO.dQ st L.alloc (fun b1 h st=> ?_))))
 refine WO.aA (v:= .int .i64 0) rfl (WO.aA (v:= .bool false) rfl (WO.nil (WP.seq (WP.reg (WO.val (v:= .ptr xb 0) rfl (WO.val (v:= .ptr xb 0) (L.ak rfl) (WO.val (v:= .ptr p.rb 0) (L.ay rfl (st.aj 1 rfl) rfl) (WO.bR rfl (zT D ((st.pick 4 rfl).pick 4 rfl) hl) ?_))))))))
 rintro _ h ⟨rfl,st⟩
 refine WO.aA (v:= .int .i64 (t.at_:Int)) rfl (WO.nil (WP.seq (WP.skip (WP.seq (WP.seq (WP.reg (WO.aA (v:= .sl ob oo ops.length oc) rfl (WO.aA (v:= .int .i64 (ops.length:Int)) (L.llen rfl) (WO.aA (v:= .int .i64 0) rfl (WO.nil (WP.block (WP.iW (α:=Nat) (fun k env h=>∃o1 o2 x7 x9,(k≤ops.length∧∀j o,ops[j]? =some o→j<k→Par.is o.1 (t::l')=false)∧env=dx [.ptr xb 0, .sl ob oo ops.length oc, .ptr b1 0, .int .i64 (t.at_:Int), .bool false, .int .i64 (k:Int), .int .i64 (ops.length:Int),x7, .sl ob oo ops.length oc,x9] 0 Env.nil∧St (.box b1 [o1,o2]:: .box xb [.ptr p.rb 0,lv]:: .stb (fun h=>Rows 2 h (.sl ob oo ops.length oc) (ops.map Opn.row))::(p.box i d)::p.toks::fs) h) (fun k=>ops.length - k) 0 ?_ ?_))))))))))))
 ·exact ⟨(.str 0 0),(.int .i64 0), .bot, .bot,⟨Nat.zero_le _,fun _ _ _ h=>absurd h (Nat.not_lt_zero _)⟩,by kernel_rfl,(((st.pick 4 rfl).pick 4 rfl).pick 4 rfl)⟩
 rintro k _ h ⟨o1,o2,x7,x9,⟨hk,hno⟩,rfl,st⟩
 refine WP.seq (WP.reg (WO.ifS (L.lss rfl rfl) (fun c1=> ?_) (fun c1=> ?_)))
 ·replace c1:k<ops.length:=by omega
  refine WO.nil (WP.seq (WP.cond (t:=true) rfl (WP.skip (WP.seq (WP.block (WP.seq (WP.reg ?_)))))))
  obtain ⟨o,ho⟩:∃o,ops[k]? =some o:=⟨_,List.getElem?_eq_getElem c1⟩
  refine WO.val (L.bI rfl rfl c1) (WO.val (v:= .agg [L.str o.1, .int .i64 (o.2:Int)]) (L.bE rfl ((st.aF 2 rfl).bE (by rw [List.getElem?_map,ho];rfl))) ?_)
  refine WO.aH (row':=[L.str o.1, .int .i64 (o.2:Int)]) st 0 rfl rfl rfl rfl rfl rfl rfl (fun h st=> ?_)
  refine WO.nil (WP.seq (WP.draw (WD.val (v:= .ptr xb 0) rfl (WD.val (v:= .ptr xb 0) rfl (WD.val (v:= .ptr xb 0) (L.ak rfl) (WD.val (v:= .ptr p.rb 0) (L.ay rfl (st.aj 1 rfl) rfl) (WD.val (v:= .ptr b1 0) (L.ak rfl) (WD.val (v:=L.str o.1) (L.ay rfl (st.aj 0 rfl) rfl) (WD.eG rfl (kP D ((st.pick 4 rfl).pick 4 rfl) hl) (fun _ h hp=> ?_) ?_)))))))))
  ·rfl
  rintro _ h (⟨rfl,hi1,hl1,st⟩|⟨rfl,hi1,st⟩)
  ·replace st:St ((p.box (i+1:Nat) d)::p.toks:: .box b1 [L.str o.1, .int .i64 (o.2:Int)]:: .box xb [.ptr p.rb 0,lv]:: .stb (fun h=>Rows 2 h (.sl ob oo ops.length oc) (ops.map Opn.row))::fs) h:=st
   refine WD.nil (WP.cond (t:=true) rfl (WP.seq (WP.reg (WO.aA (v:= .bool true) rfl (WO.nil (WP.exit (WP.seq (WP.reg (WO.val (v:= .agg [L.str o.1, .int .i64 (o.2:Int)]) (L.aI rfl (st.aj 2 rfl) rfl rfl rfl) (WO.aH (row':=[L.str o.1, .int .i64 (o.2:Int)]) st 2 rfl rfl rfl rfl rfl rfl rfl (fun h st=> ?_)))))))))))
   refine WO.nil (WP.ret ?_)
   exact ⟨_,(av (dB (l:=[L.str o.1, .int .i64 (o.2:Int)]) rfl (L.dP (st.aj 2 rfl) rfl rfl rfl)) (av (aB (v:= .int .i64 (t.at_:Int)) rfl) (av (aB (v:= .bool true) rfl) (aG _ _)))),Or.inl ⟨o,rfl,yJ ho hno hi1,hl1,(((st.pick 2 rfl).tail.pick 3 rfl).pick 3 rfl)⟩⟩
  ·replace st:St ((p.box i d)::p.toks:: .box b1 [L.str o.1, .int .i64 (o.2:Int)]:: .box xb [.ptr p.rb 0,lv]:: .stb (fun h=>Rows 2 h (.sl ob oo ops.length oc) (ops.map Opn.row))::fs) h:=st
   refine WD.nil (WP.cond (t:=false) rfl (WP.skip (WP.reg (WO.aA (v:= .int .i64 ((k+1:Nat):Int)) (L.kC rfl rfl (by omega) (And.intro (by omega) (by have:=hsm;omega))) (WO.nil ?_)))))
   have hno':∀j o',ops[j]? =some o'→j<k+1→Par.is o'.1 (t::l')=false:=by
    intro j o' hj hlt
    rcases Nat.lt_succ_iff_lt_or_eq.1 hlt with hlt|rfl
    ·exact hno j o' hj hlt
    ·rw [ho] at hj;cases hj;exact hi1
   exact ⟨k+1,(by omega),(L.str o.1),(.int .i64 (o.2:Int)),(.bool true),(.bool false),⟨by omega,hno'⟩,by kernel_rfl,(((st.pick 4 rfl).pick 4 rfl).pick 4 rfl)⟩
 ·replace c1:¬(k<ops.length):=by omega
  refine WO.nil (WP.seq (WP.cond (t:=false) rfl (WP.exit (WP.seq (WP.reg (WO.val (v:= .agg [o1,o2]) (L.aI rfl (st.aj 0 rfl) rfl rfl rfl) (WO.aH (row':=[o1,o2]) st 0 rfl rfl rfl rfl rfl rfl rfl (fun h st=> ?_))))))))
  refine WO.nil (WP.ret ?_)
  exact ⟨_,(av (dB (l:=[o1,o2]) rfl (L.dP (st.aj 0 rfl) rfl rfl rfl)) (av (aB (v:= .int .i64 (t.at_:Int)) rfl) (av (aB (v:= .bool false) rfl) (aG _ _)))),Or.inr ⟨o1,o2,rfl,Dx fun j o hj hlt=>hno j o hj (by omega),st.tail⟩⟩
def Reads (c:Ctx) (p:RP) (xb N:Nat) (g:Nat) (un:Par.E):Prop:=∀{fs:List Fact} {h:Heap} {i d fam:Nat} {lv:V} {ns:List Nd} {l:List Tok},
 St (.box xb [.ptr p.rb 0,lv]:: .acc fam 7 lv (ns.map Nd.row)::p.box i d::p.toks::fs) h→Left p i l→d≤40→l.length≤N→ns.length+l.length<4294967296→
 gG c g [.ptr xb 0] h (aN p 83 (un d l ns) (fun a i v h1=>v= .int .i64 (a.1:Int)∧∃fam lv,St (.box xb [.ptr p.rb 0,lv]:: .acc fam 7 lv (a.2.map Nd.row)::p.box i d::p.toks::fs) h1) (St fs))
theorem KI (D:fZ c) {p:RP} {xb N g:Nat} {un:Par.E} {ob oo:Nat} {oc:Option Nat} {ops:List Opn} (hun:Reads c p xb N g un) (hgood:Par.Good un N) (hops:ops.length<4294967296) {fs:List Fact} {h:Heap} {i d fam:Nat} {lv:V} {ns:List Nd} {l:List Tok} (st:St (.box xb [.ptr p.rb 0,lv]:: .acc fam 7 lv (ns.map Nd.row):: .stb (fun h=>Rows 2 h (.sl ob oo ops.length oc) (ops.map Opn.row))::p.box i d::p.toks::fs) h) (hl:Left p i l) (hd:d≤40) (hN:l.length≤N) (hb:ns.length+l.length<4294967296):
 gG c 84 [.ptr xb 0, .fn g [.ptr xb 0] [], .sl ob oo ops.length oc] h (aN p 83 (Par.chain un ops d l ns) (fun a i v h1=>v= .int .i64 (a.1:Int)∧∃fam lv,St (.box xb [.ptr p.rb 0,lv]:: .acc fam 7 lv (a.2.map Nd.row)::p.box i d::p.toks::fs) h1) (St fs)):=by
 refine gG.eZ D.f84 rfl (WP.seq (WP.reg (WO.aA (v:= .int .i64 0) rfl (WO.nil (WP.seq (WP.reg (WO.KC rfl rfl (hun ((((st.pick 4 rfl).pick 4 rfl).pick 3 rfl).pick 3 rfl) hl (by omega) hN (by omega)) (fun e a h hm st=> ?_) ?_)))))))
 ·exact aN.pan (by simp [Par.chain,hm]) (st.tail)
 rintro ⟨a1,ns1⟩ l1 _ h i1 m1 hl1 ⟨rfl,fam1,lv1,st⟩
 obtain ⟨g1,w1⟩:=hgood hN m1
 refine WO.nil (WP.block (WP.iW (α:=Nat) (fun k env h=>∃l2 i2 a ns2 fam2 lv2 x3 x4 x5 x7 x8 x9,(Par.chain un ops d l ns=Par.eX un ops k d l2 a ns2∧l2.length≤k∧Left p i2 l2∧l2.length≤N∧ns2.length+l2.length<4294967296)∧env=dx [.ptr xb 0, .fn g [.ptr xb 0] [], .sl ob oo ops.length oc,x3,x4,x5, .int .i64 (a:Int),x7,x8,x9] 0 Env.nil∧St (.box xb [.ptr p.rb 0,lv2]:: .acc fam2 7 lv2 (ns2.map Nd.row):: .stb (fun h=>Rows 2 h (.sl ob oo ops.length oc) (ops.map Opn.row))::(p.box i2 d)::p.toks::fs) h) (fun k=>k) l1.length ?_ ?_))
 ·exact ⟨l1,i1,a1,ns1,fam1,lv1,(.int .i64 0), .bot, .bot, .bot, .bot, .bot,⟨by simp [Par.chain,m1],Nat.le_refl _,hl1,by omega,by omega⟩,by kernel_rfl,(((st.pick 4 rfl).pick 2 rfl).pick 2 rfl)⟩
 rintro k _ h ⟨l2,i2,a,ns2,fam2,lv2,x3,x4,x5,x7,x8,x9,⟨hs,hk,hl2,hN2,hb2⟩,rfl,st⟩
 obtain ⟨t,l',rfl⟩:=hl2.cons
 simp only [List.length_cons] at hk hN2 hb2
 obtain ⟨k,rfl⟩:∃m,k=m+1:=⟨k - 1,by omega⟩
 refine WP.block (WP.seq (WP.reg (WO.bR rfl (OM D ((((st.pick 4 rfl).pick 4 rfl).pick 4 rfl).pick 3 rfl) hl2 hops) ?_)))
 rintro _ h (⟨o2,rfl,q2,hl2,st⟩|⟨y2,z2,rfl,q2,st⟩)
 ·replace hl2:Left p (i2+1) l':=hl2
  refine WO.val (v:= .agg [L.str o2.1, .int .i64 (o2.2:Int)]) rfl (WO.val (v:= .int .i64 (Par.here (t::l'):Int)) rfl (WO.val (v:= .bool true) rfl (WO.dQ st L.alloc (fun b1 h st=> ?_))))
  refine WO.aH (row':=[L.str o2.1, .int .i64 (o2.2:Int)]) st 0 rfl rfl rfl rfl rfl rfl rfl (fun h st=> ?_)
  refine WO.aA (v:= .int .i64 (Par.here (t::l'):Int)) rfl (WO.aA (v:= .bool true) rfl (WO.nil (WP.seq (WP.seq (WP.reg (WO.aA (v:= .bool false) rfl (WO.nil (WP.cond (t:=false) rfl (WP.skip (WP.seq (WP.reg (WO.KC rfl rfl (hun (((((st.pick 4 rfl).pick 4 rfl).pick 5 rfl).pick 4 rfl):St (.box xb [.ptr p.rb 0,lv2]:: .acc fam2 7 lv2 (ns2.map Nd.row)::(p.box (i2+1:Nat) d)::p.toks:: .box b1 [L.str o2.1, .int .i64 (o2.2:Int)]:: .stb (fun h=>Rows 2 h (.sl ob oo ops.length oc) (ops.map Opn.row))::fs) _) hl2 (by omega) (by omega) (by omega)) (fun e a h hm st=> ?_) ?_))))))))))))
  ·exact aN.pan (by simp [Par.eX,hm,hs,q2]) (st.tail.tail)
  rintro ⟨a3,ns3⟩ l3 _ h i3 m3 hl3 ⟨rfl,fam3,lv3,st⟩
  obtain ⟨g3,w3⟩:=hgood (by omega) m3
  replace st:St (.box xb [.ptr p.rb 0,lv3]:: .acc fam3 7 lv3 (ns3.map Nd.row)::(p.box i3 d)::p.toks:: .box b1 [L.str o2.1, .int .i64 (o2.2:Int)]:: .stb (fun h=>Rows 2 h (.sl ob oo ops.length oc) (ops.map Opn.row))::fs) h:=st
  refine WO.nil (WP.reg (WO.val (v:= .ptr b1 1) (L.ak rfl) (WO.val (v:= .int .i64 (o2.2:Int)) (L.ay rfl (st.aj 4 rfl) rfl) (WO.val (v:= .agg [.int .i64 (o2.2:Int), .int .i64 0, .str 0 0, .str 0 0, .int .i64 (a:Int), .int .i64 (a3:Int), .int .i64 (Par.here (t::l'):Int)]) (L.build rfl) (WO.eG rfl (GL (n:=(Nd.mk o2.2 0 [] [] (a:Int) (a3:Int) (Par.here (t::l')))) D st (by omega)) ?_)))))
  rintro _ h ⟨rfl,fam4,lv4,st⟩
  refine WO.nil ?_
  exact ⟨k,(Nat.lt_succ_self _),l3,i3,ns3.length,(ns3++[(Nd.mk o2.2 0 [] [] (a:Int) (a3:Int) (Par.here (t::l')))]),fam4,lv4,x3,(.bool true),(.bool false),(.ptr b1 0),(.int .i64 (a3:Int)),(.int .i64 (Par.here (t::l'):Int)),⟨by rw [hs];simp [Par.eX,q2,m3],by omega,hl3,by omega,by simp;omega⟩,by kernel_rfl,((((st.pick 4 rfl).tail.pick 4 rfl).pick 2 rfl).pick 2 rfl)⟩
 ·replace st:St (.box xb [.ptr p.rb 0,lv2]:: .stb (fun h=>Rows 2 h (.sl ob oo ops.length oc) (ops.map Opn.row))::(p.box i2 d)::p.toks:: .acc fam2 7 lv2 (ns2.map Nd.row)::fs) h:=st
  refine WO.val (v:= .agg [y2,z2]) rfl (WO.val (v:= .int .i64 (Par.here (t::l'):Int)) rfl (WO.val (v:= .bool false) rfl (WO.dQ st L.alloc (fun b2 h st=> ?_))))
  refine WO.aH (row':=[y2,z2]) st 0 rfl rfl rfl rfl rfl rfl rfl (fun h st=> ?_)
  refine WO.aA (v:= .int .i64 (Par.here (t::l'):Int)) rfl (WO.aA (v:= .bool false) rfl (WO.nil (WP.seq (WP.seq (WP.reg (WO.aA (v:= .bool true) rfl (WO.nil (WP.cond (t:=true) rfl (WP.seq (WP.reg (WO.aA (v:= .int .i64 (a:Int)) rfl (WO.nil (WP.ret ?_)))))))))))))
  exact ⟨_,(av (aB (v:= .int .i64 (a:Int)) rfl) (aG _ _)),aN.ok (x:=(a,ns2)) (l:=(t::l')) (by rw [hs];simp [Par.eX,q2]) hl2 ⟨rfl,_,_,(((st.tail.pick 1 rfl).tail.pick 3 rfl).pick 1 rfl)⟩⟩
theorem term_c (D:fZ c) {p:RP} {xb N:Nat} {un:Par.E} (hun:Reads c p xb N 87 un) (hgood:Par.Good un N) {fs:List Fact} {h:Heap} {i d fam:Nat} {lv:V} {ns:List Nd} {l:List Tok} (st:St (.box xb [.ptr p.rb 0,lv]:: .acc fam 7 lv (ns.map Nd.row)::p.box i d::p.toks::fs) h) (hl:Left p i l) (hd:d≤40) (hN:l.length≤N) (hb:ns.length+l.length<4294967296):
 gG c 85 [.ptr xb 0] h (aN p 83 (Par.term un d l ns) (fun a i v h1=>v= .int .i64 (a.1:Int)∧∃fam lv,St (.box xb [.ptr p.rb 0,lv]:: .acc fam 7 lv (a.2.map Nd.row)::p.box i d::p.toks::fs) h1) (St fs)):=by
 refine gG.eZ D.f85 rfl (WP.seq (WP.reg (WO.aA (v:= .int .i64 0) rfl (WO.nil (WP.seq (WP.reg (WO.val (v:= .fn 87 [.ptr xb 0] []) rfl (WO.val (v:= .agg [.str 1 42, .int .i64 7]) (L.build rfl) (WO.val (v:= .agg [.str 1 47, .int .i64 8]) (L.build rfl) (WO.val (v:= .agg [.str 1 37, .int .i64 9]) (L.build rfl) (WO.oO (rows:=Par.Jp.map Opn.row) st rfl (by decide) rfl (Ad _) (fun o1 h st=> ?_))))))))))))
 refine WO.vW rfl (KI (ops:=Par.Jp) D hun hgood (by decide) ((st.pick 2 rfl).pick 2 rfl) hl (by omega) (by first|exact hN|(simp only [List.length_cons] at hN;omega)|omega) (by first|exact hb|(simp only [List.length_cons] at hb;omega)|omega)) (fun e a h hm st=> ?_) ?_
 ·exact aN.pan (by simp [Par.term,hm]) (st)
 rintro ⟨a1,ns1⟩ l1 _ h i1 m1 hl1 ⟨rfl,fam1,lv1,st⟩
 refine WO.nil (WP.ret ?_)
 exact ⟨_,(av (aB (v:= .int .i64 (a1:Int)) rfl) (aG _ _)),aN.ok (x:=(a1,ns1)) (l:=l1) (by simp [Par.term,m1]) hl1 ⟨rfl,_,_,st⟩⟩
theorem Ju (D:fZ c) {p:RP} {xb N:Nat} {un:Par.E} (hun:Reads c p xb N 87 un) (hgood:Par.Good un N):Reads c p xb N 85 (Par.term un):=fun st hl hd hN hb=>term_c D hun hgood st hl hd hN hb
theorem sum_c (D:fZ c) {p:RP} {xb N:Nat} {un:Par.E} (hun:Reads c p xb N 87 un) (hgood:Par.Good un N) {fs:List Fact} {h:Heap} {i d fam:Nat} {lv:V} {ns:List Nd} {l:List Tok} (st:St (.box xb [.ptr p.rb 0,lv]:: .acc fam 7 lv (ns.map Nd.row)::p.box i d::p.toks::fs) h) (hl:Left p i l) (hd:d≤40) (hN:l.length≤N) (hb:ns.length+l.length<4294967296):
 gG c 78 [.ptr xb 0] h (aN p 83 (Par.sum un d l ns) (fun a i v h1=>v= .int .i64 (a.1:Int)∧∃fam lv,St (.box xb [.ptr p.rb 0,lv]:: .acc fam 7 lv (a.2.map Nd.row)::p.box i d::p.toks::fs) h1) (St fs)):=by
 refine gG.eZ D.f78 rfl (WP.seq (WP.reg (WO.aA (v:= .int .i64 0) rfl (WO.nil (WP.seq (WP.reg (WO.val (v:= .fn 85 [.ptr xb 0] []) rfl (WO.val (v:= .agg [.str 1 43, .int .i64 5]) (L.build rfl) (WO.val (v:= .agg [.str 1 45, .int .i64 6]) (L.build rfl) (WO.oO (rows:=Par.Jq.map Opn.row) st rfl (by decide) rfl (Ad _) (fun o1 h st=> ?_)))))))))))
 refine WO.vW rfl (KI (ops:=Par.Jq) D (Ju D hun hgood) (wu hgood) (by decide) ((st.pick 2 rfl).pick 2 rfl) hl (by omega) (by first|exact hN|(simp only [List.length_cons] at hN;omega)|omega) (by first|exact hb|(simp only [List.length_cons] at hb;omega)|omega)) (fun e a h hm st=> ?_) ?_
 ·exact aN.pan (by simp [Par.sum,hm]) (st)
 rintro ⟨a1,ns1⟩ l1 _ h i1 m1 hl1 ⟨rfl,fam1,lv1,st⟩
 refine WO.nil (WP.ret ?_)
 exact ⟨_,(av (aB (v:= .int .i64 (a1:Int)) rfl) (aG _ _)),aN.ok (x:=(a1,ns1)) (l:=l1) (by simp [Par.sum,m1]) hl1 ⟨rfl,_,_,st⟩⟩
theorem KJ (D:fZ c) {p:RP} {xb N:Nat} {un:Par.E} (hun:Reads c p xb N 87 un) (hgood:Par.Good un N) {fs:List Fact} {h:Heap} {i d fam:Nat} {lv:V} {ns:List Nd} {l:List Tok} (st:St (.box xb [.ptr p.rb 0,lv]:: .acc fam 7 lv (ns.map Nd.row)::p.box i d::p.toks::fs) h) (hl:Left p i l) (hd:d≤40) (hN:l.length≤N) (hb:ns.length+l.length<4294967296):
 gG c 73 [.ptr xb 0] h (aN p 83 (Par.whole un d l ns) (fun a i v h1=>v= .int .i64 (a.1:Int)∧∃fam lv,St (.box xb [.ptr p.rb 0,lv]:: .acc fam 7 lv (a.2.map Nd.row)::p.box i d::p.toks::fs) h1) (St fs)):=by
 have hsg:Par.Good (Par.sum un) N:=BD hgood
 refine gG.eZ D.f73 rfl (WP.seq (WP.reg (WO.aA (v:= .int .i64 0) rfl (WO.nil (WP.seq (WP.reg (WO.vW rfl (sum_c D hun hgood st hl (by omega) (by first|exact hN|(simp only [List.length_cons] at hN;omega)|omega) (by first|exact hb|(simp only [List.length_cons] at hb;omega)|omega)) (fun e a h hm st=> ?_) ?_)))))))
 ·exact aN.pan (by simp [Par.whole,hm]) (st)
 rintro ⟨a1,ns1⟩ l1 _ h i1 m1 hl1 ⟨rfl,fam1,lv1,st⟩
 obtain ⟨g1,w1⟩:=hsg (by first|exact hN|(simp only [List.length_cons] at hN;omega)|omega) m1
 refine WO.nil (WP.seq (WP.reg (WO.val (v:= .agg [.str 2 15677, .int .i64 10]) (L.build rfl) (WO.val (v:= .agg [.str 2 15676, .int .i64 12]) (L.build rfl) (WO.val (v:= .agg [.str 1 60, .int .i64 11]) (L.build rfl) (WO.oO (rows:=Par.jB.map Opn.row) st rfl (by decide) rfl (Ad _) (fun o1 h st=> ?_)))))))
 refine WO.bR rfl (OM (ops:=Par.jB) D ((((st.pick 4 rfl).pick 4 rfl).pick 2 rfl).pick 3 rfl) hl1 (by decide)) ?_
 rintro _ h (⟨o2,rfl,q2,hl2,st⟩|⟨y2,z2,rfl,q2,st⟩)
 ·replace st:St (.box xb [.ptr p.rb 0,lv1]:: .stb (fun h=>Rows 2 h (.sl o1 0 3 (some 3)) (Par.jB.map Opn.row))::(p.box (i1+1:Nat) d)::p.toks:: .acc fam1 7 lv1 (ns1.map Nd.row)::fs) h:=st
  refine WO.val (v:= .agg [L.str o2.1, .int .i64 (o2.2:Int)]) rfl (WO.val (v:= .int .i64 (Par.here l1:Int)) rfl (WO.val (v:= .bool true) rfl (WO.dQ st L.alloc (fun b1 h st=> ?_))))
  refine WO.aH (row':=[L.str o2.1, .int .i64 (o2.2:Int)]) st 0 rfl rfl rfl rfl rfl rfl rfl (fun h st=> ?_)
  refine WO.aA (v:= .int .i64 (Par.here l1:Int)) rfl (WO.aA (v:= .bool true) rfl (WO.nil (WP.seq (WP.seq (WP.reg (WO.aA (v:= .bool false) rfl (WO.nil (WP.cond (t:=false) rfl (WP.skip (WP.seq (WP.reg ?_)))))))))))
  have htl:=List.length_tail (l:=l1)
  refine WO.vW rfl (sum_c D hun hgood (((((st.pick 4 rfl).pick 4 rfl).pick 5 rfl).pick 4 rfl):St (.box xb [.ptr p.rb 0,lv1]:: .acc fam1 7 lv1 (ns1.map Nd.row)::(p.box (i1+1:Nat) d)::p.toks:: .box b1 [L.str o2.1, .int .i64 (o2.2:Int)]:: .stb (fun h=>Rows 2 h (.sl o1 0 3 (some 3)) (Par.jB.map Opn.row))::fs) _) hl2 (by omega) (by first|exact hN|(simp only [List.length_cons] at hN;omega)|omega) (by first|exact hb|(simp only [List.length_cons] at hb;omega)|omega)) (fun e a h hm st=> ?_) ?_
  ·exact aN.pan (by simp [Par.whole,hm,m1,q2]) (st.tail.tail)
  rintro ⟨a3,ns3⟩ l3 _ h i3 m3 hl3 ⟨rfl,fam3,lv3,st⟩
  obtain ⟨g3,w3⟩:=hsg (by first|exact hN|(simp only [List.length_cons] at hN;omega)|omega) m3
  replace st:St (.box xb [.ptr p.rb 0,lv3]:: .acc fam3 7 lv3 (ns3.map Nd.row)::(p.box i3 d)::p.toks:: .box b1 [L.str o2.1, .int .i64 (o2.2:Int)]:: .stb (fun h=>Rows 2 h (.sl o1 0 3 (some 3)) (Par.jB.map Opn.row))::fs) h:=st
  refine WO.nil (WP.seq (WP.reg (WO.val (v:= .ptr b1 1) (L.ak rfl) (WO.val (v:= .int .i64 (o2.2:Int)) (L.ay rfl (st.aj 4 rfl) rfl) (WO.val (v:= .agg [.int .i64 (o2.2:Int), .int .i64 0, .str 0 0, .str 0 0, .int .i64 (a1:Int), .int .i64 (a3:Int), .int .i64 (Par.here l1:Int)]) (L.build rfl) (WO.eG rfl (GL (n:=(Nd.mk o2.2 0 [] [] (a1:Int) (a3:Int) (Par.here l1))) D st (by omega)) ?_))))))
  rintro _ h ⟨rfl,fam4,lv4,st⟩
  refine WO.nil (WP.ret ?_)
  exact ⟨_,(av (aB (v:= .int .i64 (ns3.length:Int)) rfl) (aG _ _)),aN.ok (x:=(ns3.length,(ns3++[(Nd.mk o2.2 0 [] [] (a1:Int) (a3:Int) (Par.here l1))]))) (l:=l3) (by simp [Par.whole,m1,q2,m3]) hl3 ⟨rfl,_,_,((st.pick 4 rfl).tail.pick 4 rfl).tail⟩⟩
 ·replace st:St (.box xb [.ptr p.rb 0,lv1]:: .stb (fun h=>Rows 2 h (.sl o1 0 3 (some 3)) (Par.jB.map Opn.row))::(p.box i1 d)::p.toks:: .acc fam1 7 lv1 (ns1.map Nd.row)::fs) h:=st
  refine WO.val (v:= .agg [y2,z2]) rfl (WO.val (v:= .int .i64 (Par.here l1:Int)) rfl (WO.val (v:= .bool false) rfl (WO.dQ st L.alloc (fun b2 h st=> ?_))))
  refine WO.aH (row':=[y2,z2]) st 0 rfl rfl rfl rfl rfl rfl rfl (fun h st=> ?_)
  refine WO.aA (v:= .int .i64 (Par.here l1:Int)) rfl (WO.aA (v:= .bool false) rfl (WO.nil (WP.seq (WP.seq (WP.reg (WO.aA (v:= .bool true) rfl (WO.nil (WP.cond (t:=true) rfl (WP.seq (WP.reg (WO.aA (v:= .int .i64 (a1:Int)) rfl (WO.nil (WP.ret ?_)))))))))))))
  exact ⟨_,(av (aB (v:= .int .i64 (a1:Int)) rfl) (aG _ _)),aN.ok (x:=(a1,ns1)) (l:=l1) (by simp [Par.whole,m1,q2]) hl1 ⟨rfl,_,_,(((st.tail.pick 1 rfl).tail.pick 3 rfl).pick 1 rfl)⟩⟩
theorem unary_c (D:fZ c) {p:RP} {xb N:Nat} {un:Par.E} (hun:Reads c p xb N 87 un) (hgood:Par.Good un N) {fs:List Fact} {h:Heap} {i d fam:Nat} {lv:V} {ns:List Nd} {l:List Tok} (st:St (.box xb [.ptr p.rb 0,lv]:: .acc fam 7 lv (ns.map Nd.row)::p.box i d::p.toks::fs) h) (hl:Left p i l) (hd:d≤40) (hN:l.length≤N+1) (hb:ns.length+l.length<4294967296):
 gG c 87 [.ptr xb 0] h (aN p 83 (Par.fU un d l ns) (fun a i v h1=>v= .int .i64 (a.1:Int)∧∃fam lv,St (.box xb [.ptr p.rb 0,lv]:: .acc fam 7 lv (a.2.map Nd.row)::p.box i d::p.toks::fs) h1) (St fs)):=by
 obtain ⟨t,l',rfl⟩:=hl.cons
 simp only [List.length_cons] at hN hb
 have hwg:Par.Good (Par.whole un) N:=wB hgood
 refine gG.eZ D.f87 rfl (WP.seq (WP.reg (WO.aA (v:= .int .i64 0) rfl (WO.nil (WP.seq (WP.reg (WO.val (v:= .ptr xb 0) rfl (WO.val (v:= .ptr xb 0) (L.ak rfl) (WO.val (v:= .ptr p.rb 0) (L.ay rfl (st.aj 0 rfl) rfl) (WO.bR rfl (zT D ((st.pick 3 rfl).pick 3 rfl) hl) ?_))))))))))
 rintro _ h ⟨rfl,st⟩
 refine WO.aA (v:= .int .i64 (t.at_:Int)) rfl (WO.nil (WP.seq (WP.seq (WP.reg (WO.val (v:= .agg [.str 1 45, .int .i64 3]) (L.build rfl) (WO.val (v:= .agg [.str 1 33, .int .i64 4]) (L.build rfl) (WO.bslFS (rows:=Par.jo.map Opn.row) st rfl (by decide) rfl (Ad _) (fun o1 h st=> ?_))))))))
 refine WO.aA (v:= .int .i64 ((2:Nat):Int)) (L.llen rfl) (WO.aA (v:= .int .i64 0) rfl (WO.nil (WP.block (WP.iW (α:=Nat) (fun k env h=>∃x1 x4 x6 x7 x8,(k≤2∧∀j o,Par.jo[j]? =some o→j<k→Par.is o.1 (t::l')=false)∧env=dx [.ptr xb 0,x1, .int .i64 (k:Int), .int .i64 ((2:Nat):Int),x4, .sl o1 0 2 (some 2),x6,x7,x8, .int .i64 (t.at_:Int)] 0 Env.nil∧St (.box xb [.ptr p.rb 0,lv]:: .acc fam 7 lv (ns.map Nd.row):: .stb (fun h=>Rows 2 h (.sl o1 0 2 (some 2)) (Par.jo.map Opn.row))::(p.box i d)::p.toks::fs) h) (fun k=>2 - k) 0 ?_ ?_))))
 ·exact ⟨(.int .i64 0), .bot, .bot, .bot, .bot,⟨Nat.zero_le _,fun _ _ _ h=>absurd h (Nat.not_lt_zero _)⟩,by kernel_rfl,((st.pick 4 rfl).pick 4 rfl)⟩
 rintro k _ h ⟨x1,x4,x6,x7,x8,⟨hk,hno⟩,rfl,st⟩
 refine WP.seq (WP.reg (WO.ifS (L.lss rfl rfl) (fun c1=> ?_) (fun c1=> ?_)))
 ·replace c1:k<2:=by omega
  refine WO.nil (WP.seq (WP.cond (t:=true) rfl (WP.skip (WP.seq (WP.block (WP.seq (WP.reg ?_)))))))
  obtain ⟨o,ho⟩:∃o,Par.jo[k]? =some o:=⟨_,List.getElem?_eq_getElem (show k<Par.jo.length from c1)⟩
  refine WO.val (L.bI rfl rfl c1) (WO.val (v:= .agg [L.str o.1, .int .i64 (o.2:Int)]) (L.bE rfl ((st.aF 2 rfl).bE (by rw [List.getElem?_map,ho];rfl))) ?_)
  refine WO.dQ st L.alloc (fun b1 h st=> ?_)
  refine WO.aH (row':=[L.str o.1, .int .i64 (o.2:Int)]) st 0 rfl rfl rfl rfl rfl rfl rfl (fun h st=> ?_)
  refine WO.nil (WP.seq (WP.draw (WD.val (v:= .ptr xb 0) rfl (WD.val (v:= .ptr xb 0) rfl (WD.val (v:= .ptr xb 0) (L.ak rfl) (WD.val (v:= .ptr p.rb 0) (L.ay rfl (st.aj 1 rfl) rfl) (WD.val (v:= .ptr b1 0) (L.ak rfl) (WD.val (v:=L.str o.1) (L.ay rfl (st.aj 0 rfl) rfl) (WD.eG rfl (is_c D ((st.pick 5 rfl).pick 5 rfl) hl) (fun _ _ _=>rfl) ?_)))))))))
  rintro _ h ⟨rfl,st⟩
  cases his1:Par.is o.1 (t::l')
  ·refine WD.nil (WP.cond (t:=false) rfl (WP.skip (WP.reg (WO.aA (v:= .int .i64 ((k+1:Nat):Int)) (L.kC rfl rfl (by omega) (And.intro (by omega) (by omega))) (WO.nil ?_)))))
   have hno':∀j o',Par.jo[j]? =some o'→j<k+1→Par.is o'.1 (t::l')=false:=by
    intro j o' hj hlt
    rcases Nat.lt_succ_iff_lt_or_eq.1 hlt with hlt|rfl
    ·exact hno j o' hj hlt
    ·rw [ho] at hj;cases hj;exact his1
   exact ⟨k+1,(by omega),x1,(.bool true),(.ptr b1 0),(.bool false),x8,⟨by omega,hno'⟩,by kernel_rfl,((((st.pick 2 rfl).tail.pick 4 rfl).pick 4 rfl).pick 4 rfl)⟩
  ·refine WD.nil (WP.cond (t:=true) rfl (WP.seq (WP.reg (WO.val (v:= .ptr xb 0) rfl (WO.val (v:= .ptr xb 0) (L.ak rfl) (WO.val (v:= .ptr p.rb 0) (L.ay rfl (st.aj 3 rfl) rfl) ?_))))))
   by_cases hd40:40≤d
   ·refine WO.om rfl (BL D st hl hd40) (fun h st=> ?_)
    exact aN.pan (by simp [Par.fU,Par.fail,(show Par.find Par.jo (t::l')=some o from yJ ho hno his1),hd40]) (st.tail.tail.tail.tail)
   refine WO.bR rfl (Ae D st hl hd40) ?_
   rintro _ h ⟨rfl,st⟩
   refine WO.nil (WP.seq (WP.reg (WO.val (v:= .ptr xb 0) rfl (WO.val (v:= .ptr xb 0) (L.ak rfl) (WO.val (v:= .ptr p.rb 0) (L.ay rfl (st.aj 3 rfl) rfl) (WO.val (v:= .ptr p.rb 0) rfl (WO.val (v:= .ptr p.rb 1) (L.ak rfl) (WO.val (v:= .int .i64 (i:Int)) (L.ay rfl (st.aj 0 rfl) rfl) ?_))))))))
   have hl0:Left p (i+1) l':=hl.is his1
   have hq:Par.find Par.jo (t::l')=some o:=yJ ho hno his1
   refine WO.val (v:= .int .i64 ((i+1:Nat):Int)) (L.kC rfl rfl (by omega) (And.intro (by omega) (by have:=hl.lt;have:=hl.small;omega))) (WO.val (v:= .ptr p.rb 0) rfl (WO.val (v:= .ptr p.rb 1) (L.ak rfl) (WO.aH (row':=[.sl p.tb p.to p.ts.length p.cap, .int .i64 ((i+1:Nat):Int), .int .i64 ((d+1:Nat):Int)]) st 0 rfl rfl rfl rfl rfl rfl rfl (fun h st=> ?_))))
   refine WO.nil (WP.seq (WP.reg (WO.vW rfl (hun ((st.pick 4 rfl).pick 4 rfl) hl0 (by omega) (by first|exact hN|(simp only [List.length_cons] at hN;omega)|omega) (by first|exact hb|(simp only [List.length_cons] at hb;omega)|omega)) (fun e a h hm st=> ?_) ?_)))
   ·exact aN.pan (by simp [Par.fU,hm,hq,hd40]) (st.tail.tail)
   rintro ⟨a1,ns1⟩ l1 _ h i1 m1 hl1 ⟨rfl,fam1,lv1,st⟩
   obtain ⟨g1,w1⟩:=hgood (by first|exact hN|(simp only [List.length_cons] at hN;omega)|omega) m1
   replace st:St (.box xb [.ptr p.rb 0,lv1]:: .acc fam1 7 lv1 (ns1.map Nd.row)::(p.box i1 (d+1:Nat))::p.toks:: .box b1 [L.str o.1, .int .i64 (o.2:Int)]:: .stb (fun h=>Rows 2 h (.sl o1 0 2 (some 2)) (Par.jo.map Opn.row))::fs) h:=st
   refine WO.nil (WP.seq (WP.reg (WO.val (v:= .ptr xb 0) rfl (WO.val (v:= .ptr xb 0) (L.ak rfl) (WO.val (v:= .ptr p.rb 0) (L.ay rfl (st.aj 0 rfl) rfl) (WO.val (v:= .ptr p.rb 0) rfl (WO.val (v:= .ptr p.rb 2) (L.ak rfl) (WO.val (v:= .int .i64 ((d+1:Nat):Int)) (L.ay rfl (st.aj 2 rfl) rfl) (WO.val (v:= .int .i64 (d:Int)) (L.Ol rfl rfl (by omega) (And.intro (by omega) (by omega))) (WO.val (v:= .ptr p.rb 0) rfl (WO.val (v:= .ptr p.rb 2) (L.ak rfl) (WO.aH (row':=[.sl p.tb p.to p.ts.length p.cap, .int .i64 (i1:Int), .int .i64 (d:Int)]) st 2 rfl rfl rfl rfl rfl rfl rfl (fun h (st:St (.box xb [.ptr p.rb 0,lv1]:: .acc fam1 7 lv1 (ns1.map Nd.row)::(p.box i1 d)::p.toks:: .box b1 [L.str o.1, .int .i64 (o.2:Int)]:: .stb (fun h=>Rows 2 h (.sl o1 0 2 (some 2)) (Par.jo.map Opn.row))::fs) h)=> ?_)))))))))))))
   refine WO.nil (WP.seq (WP.reg (WO.val (v:= .ptr b1 1) (L.ak rfl) (WO.val (v:= .int .i64 (o.2:Int)) (L.ay rfl (st.aj 4 rfl) rfl) (WO.val (v:= .agg [.int .i64 (o.2:Int), .int .i64 0, .str 0 0, .str 0 0, .int .i64 (a1:Int), .int .i64 (-1), .int .i64 (t.at_:Int)]) (L.build rfl) (WO.eG rfl (GL (n:=(Nd.mk o.2 0 [] [] (a1:Int) (-1) (Par.here (t::l')))) D st (by omega)) ?_))))))
   rintro _ h ⟨rfl,fam2,lv2,st⟩
   refine WO.nil (WP.ret ?_)
   exact ⟨_,(av (aB (v:= .int .i64 (ns1.length:Int)) rfl) (aG _ _)),aN.ok (x:=(ns1.length,(ns1++[(Nd.mk o.2 0 [] [] (a1:Int) (-1) (Par.here (t::l')))]))) (l:=l1) (by simp [Par.fU,Par.hd,hq,hd40,m1]) hl1 ⟨rfl,_,_,((st.pick 4 rfl).tail.pick 4 rfl).tail⟩⟩
 ·replace c1:¬(k<2):=by omega
  refine WO.nil (WP.seq (WP.cond (t:=false) rfl (WP.exit (WP.seq (WP.seq (WP.reg (WO.val (v:= .ptr xb 0) rfl (WO.val (v:= .ptr xb 0) (L.ak rfl) (WO.val (v:= .ptr p.rb 0) (L.ay rfl (st.aj 0 rfl) rfl) ?_)))))))))
  have hq:Par.find Par.jo (t::l')=none:=Dx fun j o hj hlt=>hno j o hj (Nat.lt_of_lt_of_le hlt (by show 2≤k;omega))
  refine WO.eG rfl (is_c (s:=[40]) D ((st.pick 4 rfl).pick 4 rfl) hl) ?_
  rintro _ h ⟨rfl,st⟩
  cases his2:Par.is [40] (t::l')
  ·refine WO.nil (WP.cond (t:=false) rfl (WP.skip (WP.seq (WP.seq (WP.reg (WO.val (v:= .ptr xb 0) rfl (WO.val (v:= .ptr xb 0) (L.ak rfl) (WO.val (v:= .ptr p.rb 0) (L.ay rfl (st.aj 2 rfl) rfl) (WO.bR rfl (zT D st hl) ?_)))))))))
   rintro _ h ⟨rfl,st⟩
   refine WO.val (v:= .int .i64 (t.kind:Int)) rfl (WO.ifS (L.eql rfl rfl) (fun c2=> ?_) (fun c2=> ?_))
   ·replace c2:t.kind=2:=by omega
    refine WO.nil (WP.cond (t:=true) rfl (WP.seq (WP.reg (WO.val (v:= .ptr xb 0) rfl (WO.val (v:= .ptr xb 0) (L.ak rfl) (WO.val (v:= .ptr p.rb 0) (L.ay rfl (st.aj 2 rfl) rfl) (WO.bC rfl (BM D st hl) (fun e a h hm st=> ?_) ?_)))))))
    ·exact aN.pan (by simp [Par.fU,Par.hd,hm,hq,his2,c2]) (st.tail.tail.tail)
    rintro n3 l3 _ h i3 m3 hl3 ⟨rfl,st⟩
    refine WO.val (v:= .agg [.int .i64 1, .int .i64 (n3:Int), .str 0 0, .str 0 0, .int .i64 (-1), .int .i64 (-1), .int .i64 (t.at_:Int)]) (L.build rfl) (WO.eG rfl (GL (n:=(Nd.mk 1 (n3:Int) [] [] (-1) (-1) (Par.here (t::l')))) D ((st.pick 3 rfl).pick 3 rfl) (by omega)) ?_)
    rintro _ h ⟨rfl,fam4,lv4,st⟩
    refine WO.nil (WP.ret ?_)
    exact ⟨_,(av (aB (v:= .int .i64 (ns.length:Int)) rfl) (aG _ _)),aN.ok (x:=(ns.length,(ns++[(Nd.mk 1 (n3:Int) [] [] (-1) (-1) (Par.here (t::l')))]))) (l:=l3) (by simp [Par.fU,Par.hd,hq,his2,c2,m3]) hl3 ⟨rfl,_,_,(st.pick 4 rfl).tail⟩⟩
   ·replace c2:¬(t.kind=2):=by omega
    refine WO.nil (WP.cond (t:=false) rfl (WP.skip (WP.seq (WP.reg (WO.val (v:= .ptr xb 0) rfl (WO.val (v:= .ptr xb 0) (L.ak rfl) (WO.val (v:= .ptr p.rb 0) (L.ay rfl (st.aj 2 rfl) rfl) (WO.bC rfl (Af D st hl) (fun e a h hm st=> ?_) ?_))))))))
    ·exact aN.pan (by simp [Par.fU,Par.hd,hm,hq,his2,c2]) (st.tail.tail.tail)
    rintro ⟨q5,r5⟩ l5 _ h i5 m5 hl5 ⟨rfl,st⟩
    refine WO.val (v:=L.str q5) rfl (WO.val (v:=L.str r5) rfl (WO.aA (v:=L.str q5) rfl (WO.aA (v:=L.str r5) rfl (WO.nil (WP.seq (WP.reg (WO.val (v:= .agg [.int .i64 2, .int .i64 0,L.str q5,L.str r5, .int .i64 (-1), .int .i64 (-1), .int .i64 (t.at_:Int)]) (L.build rfl) (WO.eG rfl (GL (n:=(Nd.mk 2 0 q5 r5 (-1) (-1) (Par.here (t::l')))) D ((st.pick 3 rfl).pick 3 rfl) (by omega)) ?_))))))))
    rintro _ h ⟨rfl,fam6,lv6,st⟩
    refine WO.nil (WP.ret ?_)
    exact ⟨_,(av (aB (v:= .int .i64 (ns.length:Int)) rfl) (aG _ _)),aN.ok (x:=(ns.length,(ns++[(Nd.mk 2 0 q5 r5 (-1) (-1) (Par.here (t::l')))]))) (l:=l5) (by simp [Par.fU,Par.hd,hq,his2,c2,m5]) hl5 ⟨rfl,_,_,(st.pick 4 rfl).tail⟩⟩
  ·refine WO.nil (WP.cond (t:=true) rfl (WP.seq (WP.reg (WO.val (v:= .ptr xb 0) rfl (WO.val (v:= .ptr xb 0) (L.ak rfl) (WO.val (v:= .ptr p.rb 0) (L.ay rfl (st.aj 2 rfl) rfl) ?_))))))
   by_cases hd40:40≤d
   ·refine WO.om rfl (BL D st hl hd40) (fun h st=> ?_)
    exact aN.pan (by simp [Par.fU,Par.fail,hq,his2,hd40]) (st.tail.tail.tail)
   refine WO.bR rfl (Ae D st hl hd40) ?_
   rintro _ h ⟨rfl,st⟩
   refine WO.nil (WP.seq (WP.reg (WO.val (v:= .ptr xb 0) rfl (WO.val (v:= .ptr xb 0) (L.ak rfl) (WO.val (v:= .ptr p.rb 0) (L.ay rfl (st.aj 2 rfl) rfl) (WO.val (v:= .ptr p.rb 0) rfl (WO.val (v:= .ptr p.rb 1) (L.ak rfl) (WO.val (v:= .int .i64 (i:Int)) (L.ay rfl (st.aj 0 rfl) rfl) ?_))))))))
   have hl0:Left p (i+1) l':=hl.is his2
   refine WO.val (v:= .int .i64 ((i+1:Nat):Int)) (L.kC rfl rfl (by omega) (And.intro (by omega) (by have:=hl.lt;have:=hl.small;omega))) (WO.val (v:= .ptr p.rb 0) rfl (WO.val (v:= .ptr p.rb 1) (L.ak rfl) (WO.aH (row':=[.sl p.tb p.to p.ts.length p.cap, .int .i64 ((i+1:Nat):Int), .int .i64 ((d+1:Nat):Int)]) st 0 rfl rfl rfl rfl rfl rfl rfl (fun h st=> ?_))))
   refine WO.nil (WP.seq (WP.reg (WO.vW rfl (KJ D hun hgood ((st.pick 3 rfl).pick 3 rfl) hl0 (by omega) (by first|exact hN|(simp only [List.length_cons] at hN;omega)|omega) (by first|exact hb|(simp only [List.length_cons] at hb;omega)|omega)) (fun e a h hm st=> ?_) ?_)))
   ·exact aN.pan (by simp [Par.fU,hm,hq,his2,hd40]) (st.tail)
   rintro ⟨a7,ns7⟩ l7 _ h i7 m7 hl7 ⟨rfl,fam7,lv7,st⟩
   obtain ⟨g7,w7⟩:=hwg (by first|exact hN|(simp only [List.length_cons] at hN;omega)|omega) m7
   refine WO.nil (WP.seq (WP.reg (WO.val (v:= .ptr xb 0) rfl (WO.val (v:= .ptr xb 0) (L.ak rfl) (WO.val (v:= .ptr p.rb 0) (L.ay rfl (st.aj 0 rfl) rfl) (WO.bC rfl (eH (s:=[41]) D ((st.pick 3 rfl).pick 3 rfl) hl7) (fun e a h hm st=> ?_) ?_))))))
   ·exact aN.pan (by simp [Par.fU,hm,hq,his2,hd40,m7]) (st.tail.tail.tail)
   rintro b8 l8 _ h i8 m8 hl8 ⟨rfl,st⟩
   refine WO.nil (WP.seq (WP.reg (WO.val (v:= .ptr xb 0) rfl (WO.val (v:= .ptr xb 0) (L.ak rfl) (WO.val (v:= .ptr p.rb 0) (L.ay rfl (st.aj 2 rfl) rfl) (WO.val (v:= .ptr p.rb 0) rfl (WO.val (v:= .ptr p.rb 2) (L.ak rfl) (WO.val (v:= .int .i64 ((d+1:Nat):Int)) (L.ay rfl (st.aj 0 rfl) rfl) (WO.val (v:= .int .i64 (d:Int)) (L.Ol rfl rfl (by omega) (And.intro (by omega) (by omega))) (WO.val (v:= .ptr p.rb 0) rfl (WO.val (v:= .ptr p.rb 2) (L.ak rfl) (WO.aH (row':=[.sl p.tb p.to p.ts.length p.cap, .int .i64 (i8:Int), .int .i64 (d:Int)]) st 0 rfl rfl rfl rfl rfl rfl rfl (fun h st=> ?_)))))))))))))
   refine WO.nil (WP.seq (WP.reg (WO.aA (v:= .int .i64 (a7:Int)) rfl (WO.nil (WP.ret ?_)))))
   exact ⟨_,(av (aB (v:= .int .i64 (a7:Int)) rfl) (aG _ _)),aN.ok (x:=(a7,ns7)) (l:=l8) (by simp [Par.fU,Par.hd,hq,his2,hd40,m7,m8]) hl8 ⟨rfl,_,_,(((st.pick 4 rfl).tail.pick 3 rfl).pick 3 rfl)⟩⟩
theorem yN (D:fZ c) {p:RP} {xb:Nat}:∀f,Reads c p xb f 87 (Par.unary f)∧Par.Good (Par.unary f) f
 |0=>⟨fun st hl hd hN hb=>absurd (List.length_eq_zero_iff.1 (Nat.le_zero.1 hN)) hl.ne,fun hl hr=>by cases hr⟩
 |f+1=>by
  obtain ⟨h1,h2⟩:=yN D (p:=p) (xb:=xb) f
  exact ⟨fun st hl hd hN hb=>unary_c D h1 h2 st hl hd hN hb,zR h2⟩
theorem qU (D:fZ c) {fs:List Fact} {h:Heap} {p:RP} {i d:Nat} {l:List Tok} (st:St (p.box i d::p.toks::fs) h) (hl:Left p i l) (hd:d≤40):
 gG c 65 [.ptr p.rb 0] h (aN p 83 (Par.expr d l) (fun a i v h1=>v.bW=some [v]∧St (.stb (fun h=>Rows 7 h v (a.map Nd.row))::p.box i d::p.toks::fs) h1) (St fs)):=by
 have hlen:=hl.len
 have hsm:=hl.small
 have hN:=Nat.le_refl l.length
 have hb:([]:List Nd).length+l.length<4294967296:=by simp;omega
 refine gG.eZ D.f65 rfl (WP.seq (WP.reg (WO.aA (v:= .slN) rfl (WO.nil (WP.seq (WP.reg (WO.val (v:= .agg [.ptr p.rb 0, .slN]) (L.build rfl) (WO.dQ st (L.box (l:=[.ptr p.rb 0, .slN]) rfl rfl) (fun b1 h st=> ?_)))))))))
 replace st:St (.box b1 [.ptr p.rb 0, .slN]:: .acc 0 7 .slN (([]:List Nd).map Nd.row)::(p.box i d)::p.toks::fs) h:=(st.acc0 7).pick 1 rfl
 refine WO.nil (WP.seq (WP.reg (WO.bC rfl (KJ D (yN D l.length).1 (yN D (p:=p) (xb:=b1) l.length).2 st hl (by omega) (by first|exact hN|(simp only [List.length_cons] at hN;omega)|omega) (by first|exact hb|(simp only [List.length_cons] at hb;omega)|omega)) (fun e a h hm st=> ?_) ?_)))
 ·exact aN.pan (by simp [Par.expr,hm]) (st)
 rintro ⟨a1,ns1⟩ l1 _ h i1 m1 hl1 ⟨rfl,fam1,lv1,st⟩
 refine WO.nil (WP.seq (WP.reg (WO.val (v:= .ptr b1 0) rfl (WO.val (v:= .ptr b1 1) (L.ak rfl) (WO.aA (v:=lv1) (L.ay rfl (st.aj 0 rfl) rfl) (WO.nil (WP.ret ?_)))))))
 exact ⟨_,(av (aB (v:=lv1) rfl) (aG _ _)),aN.ok (x:=ns1) (l:=l1) (by simp [Par.expr,m1]) hl1 ⟨(st.dS 1 rfl).cells,(st.tail).shut (by decide)⟩⟩
end
end Go.Eng.YtjobofnpmmjeoaaDoor.Pq
namespace Go.Eng.YtjobofnpmmjeoaaDoor.Pq
open Go.Eng
noncomputable section
variable {c:Ctx}
theorem call_c (D:fZ c) {fs:List Fact} {h:Heap} {p:RP} {i d sb at_:Nat} {l:List Tok} (st:St (.box sb [.int .i64 4, .int .i64 (at_:Int),L.str [],L.str [],L.str [], .bool false,L.str [],L.str [], .slN, .slN, .slN, .slN]::p.box i d::p.toks::fs) h) (hl:Left p i l) (hd:d≤40):
 gG c 66 [.ptr p.rb 0, .ptr sb 0] h (aN p 83 (Par.call d l) (fun a i v h1=>∃va,va.bW=some [va]∧St (.stb (fun h=>Gq h va a.args):: .box sb [.int .i64 4, .int .i64 (at_:Int),L.str a.mod,L.str a.name,L.str [], .bool a.has,L.str a.tomod,L.str a.to, .slN,va, .slN, .slN]::p.box i d::p.toks::fs) h1) (St fs)):=by
 refine gG.eZ D.f66 rfl (WP.seq (WP.reg (WO.bC rfl (Af D ((st.pick 2 rfl).pick 2 rfl) hl) (fun e a h hm st=> ?_) ?_)))
 ·exact aN.pan (by simp [Par.call,hm]) (st.tail)
 rintro a1 l1 _ h i1 m1 hl1 ⟨rfl,st⟩
 refine WO.val (v:=L.str a1.1) rfl (WO.val (v:=L.str a1.2) rfl (WO.val (v:= .ptr sb 0) rfl (WO.val (v:= .ptr sb 6) (L.ak rfl) (WO.aH (row':=[.int .i64 4, .int .i64 (at_:Int),L.str [],L.str [],L.str [], .bool false,L.str a1.1,L.str [], .slN, .slN, .slN, .slN]) st 2 rfl rfl rfl rfl rfl rfl rfl (fun h st=> ?_)))))
 refine WO.val (v:= .ptr sb 0) rfl (WO.val (v:= .ptr sb 7) (L.ak rfl) (WO.aH (row':=[.int .i64 4, .int .i64 (at_:Int),L.str [],L.str [],L.str [], .bool false,L.str a1.1,L.str a1.2, .slN, .slN, .slN, .slN]) st 2 rfl rfl rfl rfl rfl rfl rfl (fun h st=> ?_)))
 refine WO.nil (WP.seq (WP.seq (WP.reg (WO.eG rfl (kP (s:=[61]) D st hl1) ?_))))
 rintro _ h (⟨rfl,hi2,hl2,st⟩|⟨rfl,hi2,st⟩)
 ·replace st:St ((p.box (i1+1:Nat) d)::p.toks:: .box sb [.int .i64 4, .int .i64 (at_:Int),L.str [],L.str [],L.str [], .bool false,L.str a1.1,L.str a1.2, .slN, .slN, .slN, .slN]::fs) h:=st
  refine WO.nil (WP.cond (t:=true) rfl (WP.seq (WP.draw (WD.val (v:= .ptr sb 0) rfl (WD.val (v:= .ptr sb 0) rfl (WD.val (v:= .ptr sb 0) rfl (WD.val (v:= .ptr sb 0) rfl (WD.val (v:= .ptr sb 0) rfl (WD.val (v:= .ptr sb 6) (L.ak rfl) (WD.val (v:=L.str a1.1) (L.ay rfl (st.aj 2 rfl) rfl) (WD.val (v:= .ptr sb 0) rfl (WD.val (v:= .ptr sb 0) rfl (WD.val (v:= .ptr sb 7) (L.ak rfl) (WD.val (v:=L.str a1.2) (L.ay rfl (st.aj 2 rfl) rfl) (WD.val (v:= .ptr sb 0) rfl (WD.val (v:= .ptr sb 5) (L.ak rfl) (WD.aH (row':=[.int .i64 4, .int .i64 (at_:Int),L.str [],L.str [],L.str [], .bool true,L.str a1.1,L.str a1.2, .slN, .slN, .slN, .slN]) st 2 rfl rfl rfl rfl rfl rfl rfl (fun h st=>rfl) (fun h st=> ?_))))))))))))))))))
  refine WD.val (v:= .ptr sb 0) rfl (WD.val (v:= .ptr sb 2) (L.ak rfl) (WD.aH (row':=[.int .i64 4, .int .i64 (at_:Int),L.str a1.1,L.str [],L.str [], .bool true,L.str a1.1,L.str a1.2, .slN, .slN, .slN, .slN]) st 2 rfl rfl rfl rfl rfl rfl rfl (fun h st=>rfl) (fun h st=> ?_)))
  refine WD.val (v:= .ptr sb 0) rfl (WD.val (v:= .ptr sb 3) (L.ak rfl) (WD.aH (row':=[.int .i64 4, .int .i64 (at_:Int),L.str a1.1,L.str a1.2,L.str [], .bool true,L.str a1.1,L.str a1.2, .slN, .slN, .slN, .slN]) st 2 rfl rfl rfl rfl rfl rfl rfl (fun h st=>rfl) (fun h st=> ?_)))
  refine WD.nil (WP.reg (WO.bC rfl (Af D st hl2) (fun e a h hm st=> ?_) ?_))
  ·exact aN.pan (by simp [Par.call,hm,m1,hi2]) (st.tail)
  rintro a3 l3 _ h i3 m3 hl3 ⟨rfl,st⟩
  refine WO.val (v:=L.str a3.1) rfl (WO.val (v:=L.str a3.2) rfl (WO.val (v:= .ptr sb 0) rfl (WO.val (v:= .ptr sb 6) (L.ak rfl) (WO.aH (row':=[.int .i64 4, .int .i64 (at_:Int),L.str a1.1,L.str a1.2,L.str [], .bool true,L.str a3.1,L.str a1.2, .slN, .slN, .slN, .slN]) st 2 rfl rfl rfl rfl rfl rfl rfl (fun h st=> ?_)))))
  refine WO.val (v:= .ptr sb 0) rfl (WO.val (v:= .ptr sb 7) (L.ak rfl) (WO.aH (row':=[.int .i64 4, .int .i64 (at_:Int),L.str a1.1,L.str a1.2,L.str [], .bool true,L.str a3.1,L.str a3.2, .slN, .slN, .slN, .slN]) st 2 rfl rfl rfl rfl rfl rfl rfl (fun h st=> ?_)))
  refine WO.nil (WP.seq (WP.reg (WO.bC rfl (eH (s:=[40]) D st hl3) (fun e a h hm st=> ?_) ?_)))
  ·exact aN.pan (by simp [Par.call,Par.iY,hm,m1,hi2,m3]) (st.tail)
  rintro a4 l4 _ h i4 m4 hl4 ⟨rfl,st⟩
  refine WO.nil (WP.block ?_)
  replace st:St (.acc 0 1 .slN (([]:List V).map fun x=>[x]):: .stb (fun h=>dh h ([]) ([]))::(p.box i4 d)::p.toks:: .box sb [.int .i64 4, .int .i64 (at_:Int),L.str a1.1,L.str a1.2,L.str [], .bool true,L.str a3.1,L.str a3.2, .slN, .slN, .slN, .slN]::fs) h:=((st.acc0 1).pick 0 rfl |> fun st=>((St.pure st (Q:=True) trivial).kI (Q:=fun h=>dh h [] []) (fun _ _=>trivial)).pick 1 rfl)
  refine WP.iW (α:=Nat) (fun k env h=>∃l2 i2 as2 vs2 f2 va2 x3 x4,(Par.fO d l4.length l4 []=Par.fO d k l2 as2∧l2.length≤k∧Left p i2 l2∧as2.length+l2.length≤l4.length)∧env=dx [.ptr p.rb 0, .ptr sb 0, .bool true,x3,x4] 0 Env.nil∧St (.box sb [.int .i64 4, .int .i64 (at_:Int),L.str a1.1,L.str a1.2,L.str [], .bool true,L.str a3.1,L.str a3.2, .slN,va2, .slN, .slN]:: .acc f2 1 va2 (vs2.map fun x=>[x]):: .stb (fun h=>dh h as2 vs2)::(p.box i2 d)::p.toks::fs) h) (fun k=>k) l4.length ?_ ?_
  ·exact ⟨l4,i4,[],[],0, .slN, .bot, .bot,⟨rfl,Nat.le_refl _,hl4,by simp⟩,by kernel_rfl,(st.pick 4 rfl)⟩
  rintro k _ h ⟨l2,i2,as2,vs2,f2,va2,x3,x4,⟨hs,hk,hl2,hal⟩,rfl,st⟩
  have hlp:=List.length_pos_iff.2 hl2.ne
  have hl0n:=hl4.len
  obtain ⟨k,rfl⟩:∃m,k=m+1:=⟨k - 1,by omega⟩
  refine WP.seq (WP.seq (WP.reg (WO.bR rfl (kP (s:=[41]) D ((st.pick 4 rfl).pick 4 rfl) hl2) ?_)))
  rintro _ h (⟨rfl,hi5,hl5,st⟩|⟨rfl,hi5,st⟩)
  ·replace st:St ((p.box (i2+1:Nat) d)::p.toks:: .box sb [.int .i64 4, .int .i64 (at_:Int),L.str a1.1,L.str a1.2,L.str [], .bool true,L.str a3.1,L.str a3.2, .slN,va2, .slN, .slN]:: .acc f2 1 va2 (vs2.map fun x=>[x]):: .stb (fun h=>dh h as2 vs2)::fs) h:=st
   refine WO.aA (v:= .bool false) rfl (WO.nil (WP.cond (t:=false) rfl (WP.exit ?_)))
   have hsh:St (.stb (fun h=>Rows 1 h va2 (vs2.map fun x=>[x])):: .stb (fun h=>dh h as2 vs2):: .box sb [.int .i64 4, .int .i64 (at_:Int),L.str a1.1,L.str a1.2,L.str [], .bool true,L.str a3.1,L.str a3.2, .slN,va2, .slN, .slN]::p.box (i2+1) d::p.toks::fs) h:=((((st.pick 2 rfl).pick 4 rfl).pick 4 rfl)).shut (by decide)
   exact ⟨_,(aG _ _),aN.ok (x:=⟨true,a1.1,a1.2,a3.1,a3.2,as2⟩) (l:=l2.tail) (by simp [Par.call,Par.iY,Par.fO,m1,hi2,m3,m4,hs,hi5]) (hl2.is hi5) ⟨va2,(st.dS 3 rfl).cells,hsh.and.kI (fun h hx=>⟨_,hx.1,hx.2⟩)⟩⟩
  ·replace st:St ((p.box i2 d)::p.toks:: .box sb [.int .i64 4, .int .i64 (at_:Int),L.str a1.1,L.str a1.2,L.str [], .bool true,L.str a3.1,L.str a3.2, .slN,va2, .slN, .slN]:: .acc f2 1 va2 (vs2.map fun x=>[x]):: .stb (fun h=>dh h as2 vs2)::fs) h:=st
   refine WO.aA (v:= .bool true) rfl (WO.nil (WP.cond (t:=true) rfl (WP.skip (WP.block (WP.seq (WP.seq (WP.reg (WO.val (v:= .ptr sb 0) rfl (WO.val (v:= .ptr sb 9) (L.ak rfl) (WO.val (v:=va2) (L.ay rfl (st.aj 2 rfl) rfl) ?_))))))))))
   have hvl:=(st.aF 4 rfl:dh h as2 vs2).len
   refine WO.val (v:= .int .i64 (vs2.length:Int)) ((L.Ox rfl (st.dS 3 rfl)).trans (by simp)) (WO.ifS (L.gtr rfl rfl) (fun c1=> ?_) (fun c1=> ?_))
   ·replace c1:0<vs2.length:=by omega
    obtain ⟨a0,as',has⟩:∃a0 as',as2=a0::as':=List.exists_cons_of_length_pos (by omega)
    refine WO.nil (WP.cond (t:=true) rfl (WP.reg (WO.bC rfl (eH (s:=[44]) D st hl2) (fun e a h hm st=> ?_) ?_)))
    ·exact aN.pan (by simp [Par.call,Par.iY,Par.fO,has,hm,m1,hi2,m3,m4,hs,hi5,c1]) (st.tail.tail.tail)
    rintro a6 l6 _ h i6 m6 hl6 ⟨rfl,st⟩
    refine WO.nil (WP.draw (WD.val (v:= .ptr sb 0) rfl (WD.val (v:= .ptr sb 0) rfl (WD.val (v:= .ptr sb 0) rfl (WD.val (v:= .ptr sb 9) (L.ak rfl) (WD.val (v:=va2) (L.ay rfl (st.aj 2 rfl) rfl) (WD.val (v:= .ptr p.rb 0) rfl (WD.bC rfl (qU D st hl6 (by omega)) (fun e a h hm st=> ?_) (fun _ _ h _ hp=> ?_) ?_))))))))
    ·exact aN.pan (by simp [Par.call,Par.iY,Par.fO,has,hm,m1,hi2,m3,m4,hs,hi5,c1,m6]) (st.tail.tail.tail)
    ·obtain ⟨hc7,st⟩:=hp
     exact bB (by first|exact au (L.ay rfl (st.aj 1 rfl) rfl)|exact aC st 1 rfl|exact au (L.aI rfl (st.aj 1 rfl) rfl rfl rfl)|exact au (L.ay rfl (st.aj 3 rfl) rfl)|exact aC st 3 rfl|exact au (L.aI rfl (st.aj 3 rfl) rfl rfl rfl)) (dm _ _)
    rintro a7 l7 v7 h i7 m7 hl7 ⟨hc7,st⟩
    refine WD.oO (rows:=[[v7]]) st (xA hc7) (by decide) rfl (by simp) (fun bs1 h _ st=> ?_)
    refine WD.Bv st 5 rfl rfl rfl (st.aF 0 rfl) (by decide) (by have:=hl2.small;simp;omega) (fun _ _ h st=>rfl) (fun f8 v8 h st=> ?_)
    rw [show (vs2.map fun x=>[x])++[[v7]]=(vs2++[v7]).map fun x=>[x] from by simp] at st
    obtain ⟨ab8,rfl⟩:=(st.dS 5 rfl).ne (by simp)
    refine WD.val (v:= .ptr sb 0) rfl (WD.val (v:= .ptr sb 9) (L.ak rfl) (WD.aH (row':=[.int .i64 4, .int .i64 (at_:Int),L.str a1.1,L.str a1.2,L.str [], .bool true,L.str a3.1,L.str a3.2, .slN, .sl ab8 0 (((vs2++[v7]).map fun x=>[x]).length) none, .slN, .slN]) st 4 rfl rfl rfl rfl rfl rfl rfl (fun h st=>rfl) (fun h st=> ?_)))
    replace st:=((((st.pick 6 rfl).pick 2 rfl)).and).kI (fun h hx=>hx.2.snoc hx.1)
    refine WD.nil ?_
    exact ⟨k,(Nat.lt_succ_self _),l7,i7,(as2++[a7]),(vs2++[v7]),f8,(.sl ab8 0 ((vs2++[v7]).map fun x=>[x]).length none),(.bool true),(.bool true),⟨by rw [hs];simp [Par.fO,has,hi5,m6,m7],(by have _:=Par.aV m6;have _:=hl6.len;have _:=fV m7;have _:=hl7.len;omega),hl7,(by have _:=Par.aV m6;have _:=hl6.len;have _:=fV m7;have _:=hl7.len;simp;omega)⟩,by kernel_rfl,(((st.pick 1 rfl).tail.pick 4 rfl).pick 4 rfl)⟩
   ·replace c1:vs2.length=0:=by omega
    have has:as2=[]:=List.length_eq_zero_iff.1 (by omega)
    refine WO.nil (WP.cond (t:=false) rfl (WP.skip (WP.draw (WD.val (v:= .ptr sb 0) rfl (WD.val (v:= .ptr sb 0) rfl (WD.val (v:= .ptr sb 0) rfl (WD.val (v:= .ptr sb 9) (L.ak rfl) (WD.val (v:=va2) (L.ay rfl (st.aj 2 rfl) rfl) (WD.val (v:= .ptr p.rb 0) rfl (WD.bC rfl (qU D st hl2 (by omega)) (fun e a h hm st=> ?_) (fun _ _ h _ hp=> ?_) ?_))))))))))
    ·exact aN.pan (by simp [Par.call,Par.iY,Par.fO,has,hm,m1,hi2,m3,m4,hs,hi5,c1]) (st.tail.tail.tail)
    ·obtain ⟨hc9,st⟩:=hp
     exact bB (by first|exact au (L.ay rfl (st.aj 1 rfl) rfl)|exact aC st 1 rfl|exact au (L.aI rfl (st.aj 1 rfl) rfl rfl rfl)|exact au (L.ay rfl (st.aj 3 rfl) rfl)|exact aC st 3 rfl|exact au (L.aI rfl (st.aj 3 rfl) rfl rfl rfl)) (dm _ _)
    rintro a9 l9 v9 h i9 m9 hl9 ⟨hc9,st⟩
    refine WD.oO (rows:=[[v9]]) st (xA hc9) (by decide) rfl (by simp) (fun bs2 h _ st=> ?_)
    refine WD.Bv st 5 rfl rfl rfl (st.aF 0 rfl) (by decide) (by have:=hl2.small;simp;omega) (fun _ _ h st=>rfl) (fun f10 v10 h st=> ?_)
    rw [show (vs2.map fun x=>[x])++[[v9]]=(vs2++[v9]).map fun x=>[x] from by simp] at st
    obtain ⟨ab10,rfl⟩:=(st.dS 5 rfl).ne (by simp)
    refine WD.val (v:= .ptr sb 0) rfl (WD.val (v:= .ptr sb 9) (L.ak rfl) (WD.aH (row':=[.int .i64 4, .int .i64 (at_:Int),L.str a1.1,L.str a1.2,L.str [], .bool true,L.str a3.1,L.str a3.2, .slN, .sl ab10 0 (((vs2++[v9]).map fun x=>[x]).length) none, .slN, .slN]) st 4 rfl rfl rfl rfl rfl rfl rfl (fun h st=>rfl) (fun h st=> ?_)))
    replace st:=((((st.pick 6 rfl).pick 2 rfl)).and).kI (fun h hx=>hx.2.snoc hx.1)
    refine WD.nil ?_
    exact ⟨k,(Nat.lt_succ_self _),l9,i9,(as2++[a9]),(vs2++[v9]),f10,(.sl ab10 0 ((vs2++[v9]).map fun x=>[x]).length none),(.bool true),(.bool false),⟨by rw [hs];simp [Par.fO,has,hi5,m9],(by have _:=fV m9;have _:=hl9.len;omega),hl9,(by have _:=fV m9;have _:=hl9.len;simp;omega)⟩,by kernel_rfl,(((st.pick 1 rfl).tail.pick 4 rfl).pick 4 rfl)⟩
 ·replace st:St ((p.box i1 d)::p.toks:: .box sb [.int .i64 4, .int .i64 (at_:Int),L.str [],L.str [],L.str [], .bool false,L.str a1.1,L.str a1.2, .slN, .slN, .slN, .slN]::fs) h:=st
  refine WO.nil (WP.cond (t:=false) rfl (WP.skip (WP.seq (WP.reg (WO.bC rfl (eH (s:=[40]) D st hl1) (fun e a h hm st=> ?_) ?_)))))
  ·exact aN.pan (by simp [Par.call,Par.iY,hm,m1,hi2]) (st.tail)
  rintro a11 l11 _ h i11 m11 hl11 ⟨rfl,st⟩
  refine WO.nil (WP.block ?_)
  replace st:St (.acc 0 1 .slN (([]:List V).map fun x=>[x]):: .stb (fun h=>dh h ([]) ([]))::(p.box i11 d)::p.toks:: .box sb [.int .i64 4, .int .i64 (at_:Int),L.str [],L.str [],L.str [], .bool false,L.str a1.1,L.str a1.2, .slN, .slN, .slN, .slN]::fs) h:=((st.acc0 1).pick 0 rfl |> fun st=>((St.pure st (Q:=True) trivial).kI (Q:=fun h=>dh h [] []) (fun _ _=>trivial)).pick 1 rfl)
  refine WP.iW (α:=Nat) (fun k env h=>∃l2 i2 as2 vs2 f2 va2 x3 x4,(Par.fO d l11.length l11 []=Par.fO d k l2 as2∧l2.length≤k∧Left p i2 l2∧as2.length+l2.length≤l11.length)∧env=dx [.ptr p.rb 0, .ptr sb 0, .bool false,x3,x4] 0 Env.nil∧St (.box sb [.int .i64 4, .int .i64 (at_:Int),L.str [],L.str [],L.str [], .bool false,L.str a1.1,L.str a1.2, .slN,va2, .slN, .slN]:: .acc f2 1 va2 (vs2.map fun x=>[x]):: .stb (fun h=>dh h as2 vs2)::(p.box i2 d)::p.toks::fs) h) (fun k=>k) l11.length ?_ ?_
  ·exact ⟨l11,i11,[],[],0, .slN, .bot, .bot,⟨rfl,Nat.le_refl _,hl11,by simp⟩,by kernel_rfl,(st.pick 4 rfl)⟩
  rintro k _ h ⟨l2,i2,as2,vs2,f2,va2,x3,x4,⟨hs,hk,hl2,hal⟩,rfl,st⟩
  have hlp:=List.length_pos_iff.2 hl2.ne
  have hl0n:=hl11.len
  obtain ⟨k,rfl⟩:∃m,k=m+1:=⟨k - 1,by omega⟩
  refine WP.seq (WP.seq (WP.reg (WO.bR rfl (kP (s:=[41]) D ((st.pick 4 rfl).pick 4 rfl) hl2) ?_)))
  rintro _ h (⟨rfl,hi12,hl12,st⟩|⟨rfl,hi12,st⟩)
  ·replace st:St ((p.box (i2+1:Nat) d)::p.toks:: .box sb [.int .i64 4, .int .i64 (at_:Int),L.str [],L.str [],L.str [], .bool false,L.str a1.1,L.str a1.2, .slN,va2, .slN, .slN]:: .acc f2 1 va2 (vs2.map fun x=>[x]):: .stb (fun h=>dh h as2 vs2)::fs) h:=st
   refine WO.aA (v:= .bool false) rfl (WO.nil (WP.cond (t:=false) rfl (WP.exit ?_)))
   have hsh:St (.stb (fun h=>Rows 1 h va2 (vs2.map fun x=>[x])):: .stb (fun h=>dh h as2 vs2):: .box sb [.int .i64 4, .int .i64 (at_:Int),L.str [],L.str [],L.str [], .bool false,L.str a1.1,L.str a1.2, .slN,va2, .slN, .slN]::p.box (i2+1) d::p.toks::fs) h:=((((st.pick 2 rfl).pick 4 rfl).pick 4 rfl)).shut (by decide)
   exact ⟨_,(aG _ _),aN.ok (x:=⟨false,[],[],a1.1,a1.2,as2⟩) (l:=l2.tail) (by simp [Par.call,Par.iY,Par.fO,m1,hi2,m11,hs,hi12]) (hl2.is hi12) ⟨va2,(st.dS 3 rfl).cells,hsh.and.kI (fun h hx=>⟨_,hx.1,hx.2⟩)⟩⟩
  ·replace st:St ((p.box i2 d)::p.toks:: .box sb [.int .i64 4, .int .i64 (at_:Int),L.str [],L.str [],L.str [], .bool false,L.str a1.1,L.str a1.2, .slN,va2, .slN, .slN]:: .acc f2 1 va2 (vs2.map fun x=>[x]):: .stb (fun h=>dh h as2 vs2)::fs) h:=st
   refine WO.aA (v:= .bool true) rfl (WO.nil (WP.cond (t:=true) rfl (WP.skip (WP.block (WP.seq (WP.seq (WP.reg (WO.val (v:= .ptr sb 0) rfl (WO.val (v:= .ptr sb 9) (L.ak rfl) (WO.val (v:=va2) (L.ay rfl (st.aj 2 rfl) rfl) ?_))))))))))
   have hvl:=(st.aF 4 rfl:dh h as2 vs2).len
   refine WO.val (v:= .int .i64 (vs2.length:Int)) ((L.Ox rfl (st.dS 3 rfl)).trans (by simp)) (WO.ifS (L.gtr rfl rfl) (fun c2=> ?_) (fun c2=> ?_))
   ·replace c2:0<vs2.length:=by omega
    obtain ⟨a0,as',has⟩:∃a0 as',as2=a0::as':=List.exists_cons_of_length_pos (by omega)
    refine WO.nil (WP.cond (t:=true) rfl (WP.reg (WO.bC rfl (eH (s:=[44]) D st hl2) (fun e a h hm st=> ?_) ?_)))
    ·exact aN.pan (by simp [Par.call,Par.iY,Par.fO,has,hm,m1,hi2,m11,hs,hi12,c2]) (st.tail.tail.tail)
    rintro a13 l13 _ h i13 m13 hl13 ⟨rfl,st⟩
    refine WO.nil (WP.draw (WD.val (v:= .ptr sb 0) rfl (WD.val (v:= .ptr sb 0) rfl (WD.val (v:= .ptr sb 0) rfl (WD.val (v:= .ptr sb 9) (L.ak rfl) (WD.val (v:=va2) (L.ay rfl (st.aj 2 rfl) rfl) (WD.val (v:= .ptr p.rb 0) rfl (WD.bC rfl (qU D st hl13 (by omega)) (fun e a h hm st=> ?_) (fun _ _ h _ hp=> ?_) ?_))))))))
    ·exact aN.pan (by simp [Par.call,Par.iY,Par.fO,has,hm,m1,hi2,m11,hs,hi12,c2,m13]) (st.tail.tail.tail)
    ·obtain ⟨hc14,st⟩:=hp
     exact bB (by first|exact au (L.ay rfl (st.aj 1 rfl) rfl)|exact aC st 1 rfl|exact au (L.aI rfl (st.aj 1 rfl) rfl rfl rfl)|exact au (L.ay rfl (st.aj 3 rfl) rfl)|exact aC st 3 rfl|exact au (L.aI rfl (st.aj 3 rfl) rfl rfl rfl)) (dm _ _)
    rintro a14 l14 v14 h i14 m14 hl14 ⟨hc14,st⟩
    refine WD.oO (rows:=[[v14]]) st (xA hc14) (by decide) rfl (by simp) (fun bs3 h _ st=> ?_)
    refine WD.Bv st 5 rfl rfl rfl (st.aF 0 rfl) (by decide) (by have:=hl2.small;simp;omega) (fun _ _ h st=>rfl) (fun f15 v15 h st=> ?_)
    rw [show (vs2.map fun x=>[x])++[[v14]]=(vs2++[v14]).map fun x=>[x] from by simp] at st
    obtain ⟨ab15,rfl⟩:=(st.dS 5 rfl).ne (by simp)
    refine WD.val (v:= .ptr sb 0) rfl (WD.val (v:= .ptr sb 9) (L.ak rfl) (WD.aH (row':=[.int .i64 4, .int .i64 (at_:Int),L.str [],L.str [],L.str [], .bool false,L.str a1.1,L.str a1.2, .slN, .sl ab15 0 (((vs2++[v14]).map fun x=>[x]).length) none, .slN, .slN]) st 4 rfl rfl rfl rfl rfl rfl rfl (fun h st=>rfl) (fun h st=> ?_)))
    replace st:=((((st.pick 6 rfl).pick 2 rfl)).and).kI (fun h hx=>hx.2.snoc hx.1)
    refine WD.nil ?_
    exact ⟨k,(Nat.lt_succ_self _),l14,i14,(as2++[a14]),(vs2++[v14]),f15,(.sl ab15 0 ((vs2++[v14]).map fun x=>[x]).length none),(.bool true),(.bool true),⟨by rw [hs];simp [Par.fO,has,hi12,m13,m14],(by have _:=Par.aV m13;have _:=hl13.len;have _:=fV m14;have _:=hl14.len;omega),hl14,(by have _:=Par.aV m13;have _:=hl13.len;have _:=fV m14;have _:=hl14.len;simp;omega)⟩,by kernel_rfl,(((st.pick 1 rfl).tail.pick 4 rfl).pick 4 rfl)⟩
   ·replace c2:vs2.length=0:=by omega
    have has:as2=[]:=List.length_eq_zero_iff.1 (by omega)
    refine WO.nil (WP.cond (t:=false) rfl (WP.skip (WP.draw (WD.val (v:= .ptr sb 0) rfl (WD.val (v:= .ptr sb 0) rfl (WD.val (v:= .ptr sb 0) rfl (WD.val (v:= .ptr sb 9) (L.ak rfl) (WD.val (v:=va2) (L.ay rfl (st.aj 2 rfl) rfl) (WD.val (v:= .ptr p.rb 0) rfl (WD.bC rfl (qU D st hl2 (by omega)) (fun e a h hm st=> ?_) (fun _ _ h _ hp=> ?_) ?_))))))))))
    ·exact aN.pan (by simp [Par.call,Par.iY,Par.fO,has,hm,m1,hi2,m11,hs,hi12,c2]) (st.tail.tail.tail)
    ·obtain ⟨hc16,st⟩:=hp
     exact bB (by first|exact au (L.ay rfl (st.aj 1 rfl) rfl)|exact aC st 1 rfl|exact au (L.aI rfl (st.aj 1 rfl) rfl rfl rfl)|exact au (L.ay rfl (st.aj 3 rfl) rfl)|exact aC st 3 rfl|exact au (L.aI rfl (st.aj 3 rfl) rfl rfl rfl)) (dm _ _)
    rintro a16 l16 v16 h i16 m16 hl16 ⟨hc16,st⟩
    refine WD.oO (rows:=[[v16]]) st (xA hc16) (by decide) rfl (by simp) (fun bs4 h _ st=> ?_)
    refine WD.Bv st 5 rfl rfl rfl (st.aF 0 rfl) (by decide) (by have:=hl2.small;simp;omega) (fun _ _ h st=>rfl) (fun f17 v17 h st=> ?_)
    rw [show (vs2.map fun x=>[x])++[[v16]]=(vs2++[v16]).map fun x=>[x] from by simp] at st
    obtain ⟨ab17,rfl⟩:=(st.dS 5 rfl).ne (by simp)
    refine WD.val (v:= .ptr sb 0) rfl (WD.val (v:= .ptr sb 9) (L.ak rfl) (WD.aH (row':=[.int .i64 4, .int .i64 (at_:Int),L.str [],L.str [],L.str [], .bool false,L.str a1.1,L.str a1.2, .slN, .sl ab17 0 (((vs2++[v16]).map fun x=>[x]).length) none, .slN, .slN]) st 4 rfl rfl rfl rfl rfl rfl rfl (fun h st=>rfl) (fun h st=> ?_)))
    replace st:=((((st.pick 6 rfl).pick 2 rfl)).and).kI (fun h hx=>hx.2.snoc hx.1)
    refine WD.nil ?_
    exact ⟨k,(Nat.lt_succ_self _),l16,i16,(as2++[a16]),(vs2++[v16]),f17,(.sl ab17 0 ((vs2++[v16]).map fun x=>[x]).length none),(.bool true),(.bool false),⟨by rw [hs];simp [Par.fO,has,hi12,m16],(by have _:=fV m16;have _:=hl16.len;omega),hl16,(by have _:=fV m16;have _:=hl16.len;simp;omega)⟩,by kernel_rfl,(((st.pick 1 rfl).tail.pick 4 rfl).pick 4 rfl)⟩
def BlkOk (c:Ctx) (p:RP) (blk:Par.Bk) (N:Nat):Prop:=∀{fs:List Fact} {h:Heap} {i d:Nat} {l:List Tok},St (p.box i d::p.toks::fs) h→Left p i l→d≤40→l.length≤N→
 gG c 53 [.ptr p.rb 0] h (aN p 83 (blk d l) (fun a i1 v h1=>i<i1∧v.bW=some [v]∧St (.stb (fun h=>pJ h v a)::p.box i1 d::p.toks::fs) h1) (St fs))
def StmOk (c:Ctx) (p:RP) (stm:Nat→List Tok→Par.R Sm) (N:Nat):Prop:=∀{fs:List Fact} {h:Heap} {i d:Nat} {l:List Tok},St (p.box i d::p.toks::fs) h→Left p i l→d≤40→l.length≤N→
 gG c 60 [.ptr p.rb 0] h (aN p 83 (stm d l) (fun a i1 v h1=>∃row,v= .agg row∧row.length=12∧i<i1∧St (.stb (fun h=>SmR h a row)::p.box i1 d::p.toks::fs) h1) (St fs))
theorem KL (D:fZ c) {p:RP} {N:Nat} {stm:Nat→List Tok→Par.R Sm} (hstm:StmOk c p stm N) {fs:List Fact} {h:Heap} {i d:Nat} {l:List Tok} (st:St (p.box i d::p.toks::fs) h) (hl:Left p i l) (hd:d≤40) (hN:l.length≤N+1):
 gG c 53 [.ptr p.rb 0] h (aN p 83 (Par.jQ stm d l) (fun a i1 v h1=>i<i1∧v.bW=some [v]∧St (.stb (fun h=>pJ h v a)::p.box i1 d::p.toks::fs) h1) (St fs)):=by
 refine gG.eZ D.f53 rfl (WP.seq (WP.reg (WO.aA (v:= .slN) rfl (WO.nil (WP.seq (WP.seq (WP.reg (WO.bR rfl (is_c (s:=[123]) D st hl) ?_))))))))
 rintro _ h ⟨rfl,st⟩
 cases hb:Par.is [123] l
 ·refine WO.aA (v:= .bool true) rfl (WO.nil (WP.cond (t:=true) rfl (WP.reg (WO.om rfl (Fh D st hl) (fun h st=> ?_)))))
  exact aN.pan (by simp [Par.jQ,Par.fail,hb]) st
 ·refine WO.aA (v:= .bool false) rfl (WO.nil (WP.cond (t:=false) rfl (WP.skip (WP.seq (WP.reg ?_)))))
  by_cases hd40:40≤d
  ·refine WO.om rfl (BL D st hl hd40) (fun h st=> ?_)
   exact aN.pan (by simp [Par.jQ,Par.fail,hb,hd40]) st
  refine WO.bR rfl (Ae D st hl hd40) ?_
  rintro _ h ⟨rfl,st⟩
  refine WO.nil (WP.seq (WP.reg (WO.val (v:= .ptr p.rb 0) rfl (WO.val (v:= .ptr p.rb 1) (L.ak rfl) (WO.val (v:= .int .i64 (i:Int)) (L.ay rfl (st.aj 0 rfl) rfl) ?_)))))
  have hl0:Left p (i+1) l.tail:=hl.is hb
  refine WO.val (v:= .int .i64 ((i+1:Nat):Int)) (L.kC rfl rfl (by omega) (And.intro (by omega) (by have:=hl.lt;have:=hl.small;omega))) (WO.val (v:= .ptr p.rb 0) rfl (WO.val (v:= .ptr p.rb 1) (L.ak rfl) (WO.aH (row':=[.sl p.tb p.to p.ts.length p.cap, .int .i64 ((i+1:Nat):Int), .int .i64 ((d+1:Nat):Int)]) st 0 rfl rfl rfl rfl rfl rfl rfl (fun h st=> ?_))))
  refine WO.nil (WP.seq (WP.reg (WO.aA (v:= .slN) rfl (WO.nil (WP.seq (WP.block ?_))))))
  replace st:St (.acc 0 12 .slN ([]):: .stb (fun h=>bH h ([]) ([]))::(p.box (i+1:Nat) (d+1:Nat))::p.toks::fs) h:=((st.acc0 12) |> fun st=>((St.pure st (Q:=True) trivial).kI (Q:=fun h=>bH h [] []) (fun _ _=>bH.nil)).pick 1 rfl)
  refine WP.iW (α:=Nat) (fun k env h=>∃lz iz ssz rsz fz vaz x3,(Par.gF stm (d+1) l.tail.length l.tail []=Par.gF stm (d+1) k lz ssz∧lz.length≤k∧Left p iz lz∧rsz.length+lz.length≤l.tail.length∧i<iz)∧env=dx [.ptr p.rb 0, .slN, .bool false,x3,vaz] 0 Env.nil∧St (.acc fz 12 vaz rsz:: .stb (fun h=>bH h ssz rsz)::(p.box iz (d+1:Nat))::p.toks::fs) h) (fun k=>k) l.tail.length ?_ ?_
  ·exact ⟨l.tail,(i+1),[],[],0, .slN, .bot,⟨rfl,Nat.le_refl _,hl0,(by show 0+l.tail.length≤l.tail.length;omega),Nat.lt_succ_self _⟩,by kernel_rfl,st⟩
  rintro k _ h ⟨lz,iz,ssz,rsz,fz,vaz,x3,⟨hs,hk,hlz,hal,hii⟩,rfl,st⟩
  have hlp:=List.length_pos_iff.2 hlz.ne
  have hl0n:=hl.len
  have htl:=List.length_tail (l:=l)
  have hbp:=Par.gu hb
  obtain ⟨k,rfl⟩:∃m,k=m+1:=⟨k - 1,by omega⟩
  refine WP.seq (WP.seq (WP.reg (WO.bR rfl (kP (s:=[125]) D ((st.pick 3 rfl).pick 3 rfl) hlz) ?_)))
  rintro _ h (⟨rfl,hi1,hl1,st⟩|⟨rfl,hi1,st⟩)
  ·replace st:St ((p.box (iz+1:Nat) (d+1:Nat))::p.toks:: .acc fz 12 vaz rsz:: .stb (fun h=>bH h ssz rsz)::fs) h:=st
   refine WO.aA (v:= .bool false) rfl (WO.nil (WP.cond (t:=false) rfl (WP.exit (WP.seq (WP.reg (WO.val (v:= .ptr p.rb 0) rfl (WO.val (v:= .ptr p.rb 2) (L.ak rfl) (WO.val (v:= .int .i64 ((d+1:Nat):Int)) (L.ay rfl (st.aj 0 rfl) rfl) (WO.val (v:= .int .i64 (d:Int)) (L.Ol rfl rfl (by omega) (And.intro (by omega) (by omega))) (WO.val (v:= .ptr p.rb 0) rfl (WO.val (v:= .ptr p.rb 2) (L.ak rfl) (WO.aH (row':=[.sl p.tb p.to p.ts.length p.cap, .int .i64 ((iz+1:Nat):Int), .int .i64 (d:Int)]) st 0 rfl rfl rfl rfl rfl rfl rfl (fun h st=> ?_)))))))))))))
   refine WO.nil (WP.seq (WP.reg (WO.aA (v:=vaz) rfl (WO.nil (WP.ret ?_)))))
   have hac:=(st.dS 2 rfl).cells
   exact ⟨_,(av (aB (v:=vaz) rfl) (aG _ _)),aN.ok (x:=ssz) (l:=lz.tail) (by simp [Par.jQ,Par.gF,hb,hd40,hs,hi1, -List.length_tail]) (hlz.is hi1) ⟨by omega,hac,((((st.pick 3 rfl).pick 3 rfl)).shut (by decide)).and.kI (fun h hx=>⟨_,hx.1,hx.2⟩)⟩⟩
  ·replace st:St ((p.box iz (d+1:Nat))::p.toks:: .acc fz 12 vaz rsz:: .stb (fun h=>bH h ssz rsz)::fs) h:=st
   refine WO.aA (v:= .bool true) rfl (WO.nil (WP.cond (t:=true) rfl (WP.skip (WP.block (WP.reg (WO.bC rfl (hstm st hlz (by omega) (by omega)) (fun e a h hm st=> ?_) ?_))))))
   ·exact aN.pan (by simp [Par.jQ,Par.gF, -List.length_tail,hm,hb,hd40,hs,hi1]) (st.tail.tail)
   rintro a2 l2 _ h i2 m2 hl2 ⟨row2,rfl,hr2,hlt2,st⟩
   refine WO.oO (rows:=[row2]) st (Gs rfl hr2) (by decide) rfl (by simpa using hr2) (fun bs1 h st=> ?_)
   refine WO.zF st 4 rfl rfl rfl (st.aF 0 rfl) (by decide) (by have:=hlz.small;have:=hl.small;simp;omega) (fun f3 v3 h st=> ?_)
   obtain ⟨ab3,rfl⟩:=(st.dS 4 rfl).ne (by simp)
   replace st:=((((st.pick 5 rfl).pick 2 rfl)).and).kI (fun h hx=>hx.2.snoc hx.1)
   refine WO.nil ?_
   exact ⟨k,(Nat.lt_succ_self _),l2,i2,(ssz++[a2]),(rsz++[row2]),f3,(.sl ab3 0 (rsz++[row2]).length none),(.bool true),⟨by rw [hs];simp [Par.gF,hi1,m2],(by have _:=hlz.len;have _:=hlz.lt;have _:=hl2.len;omega),hl2,(by have _:=hlz.len;have _:=hlz.lt;have _:=hl2.len;simp;omega),by omega⟩,by kernel_rfl,((st.pick 1 rfl).tail.pick 3 rfl)⟩
theorem vH (D:fZ c) {fs:List Fact} {h:Heap} {p:RP} {i d:Nat} {l:List Tok} (st:St (p.box i d::p.toks::fs) h) (hl:Left p i l):bZ c 36 [.ptr p.rb 0] h fun v h1=>v= .agg (Par.hd l).row∧St (p.box i d::p.toks::fs) h1:=by
 obtain ⟨t,l,rfl⟩:=hl.cons
 exact zT D st hl
theorem stmt_c (D:fZ c) {p:RP} {N:Nat} {blk:Par.Bk} (hblk:BlkOk c p blk N) {fs:List Fact} {h:Heap} {i d:Nat} {l:List Tok} (st:St (p.box i d::p.toks::fs) h) (hl:Left p i l) (hd:d≤40) (hN:l.length≤N+1):
 gG c 60 [.ptr p.rb 0] h (aN p 83 (Par.cO blk d l) (fun a i1 v h1=>∃row,v= .agg row∧row.length=12∧i<i1∧St (.stb (fun h=>SmR h a row)::p.box i1 d::p.toks::fs) h1) (St fs)):=by
 refine gG.eZ D.f60 rfl (WP.seq (WP.reg (WO.dQ st L.alloc (fun rb_ h st=> ?_))))
 refine WO.nil (WP.seq (WP.reg (WO.bR rfl (vH D ((st.pick 2 rfl).pick 2 rfl) hl) ?_)))
 rintro _ h ⟨rfl,st⟩
 refine WO.val (v:= .int .i64 (Par.here l:Int)) rfl (WO.val (v:= .agg [.int .i64 0, .int .i64 (Par.here l:Int), .str 0 0, .str 0 0, .str 0 0, .bool false, .str 0 0, .str 0 0, .slN, .slN, .slN, .slN]) (L.build rfl) (WO.dQ st L.alloc (fun sb h st=> ?_)))
 refine WO.aH (row':=[.int .i64 0, .int .i64 (Par.here l:Int), .str 0 0, .str 0 0, .str 0 0, .bool false, .str 0 0, .str 0 0, .slN, .slN, .slN, .slN]) st 0 rfl rfl rfl rfl rfl rfl rfl (fun h st=> ?_)
 refine WO.nil (WP.seq (WP.block (WP.seq (WP.reg (WO.eG rfl (kP (s:=[105,102]) D ((st.pick 2 rfl).pick 2 rfl) hl) ?_)))))
 rintro _ h (⟨rfl,hi1,hl1,st⟩|⟨rfl,hi1,st⟩)
 ·replace st:St ((p.box (i+1:Nat) d)::p.toks:: .box sb [.int .i64 0, .int .i64 (Par.here l:Int), .str 0 0, .str 0 0, .str 0 0, .bool false, .str 0 0, .str 0 0, .slN, .slN, .slN, .slN]:: .box rb_ [.int .i64 0, .int .i64 0, .str 0 0, .str 0 0, .str 0 0, .bool false, .str 0 0, .str 0 0, .slN, .slN, .slN, .slN]::fs) h:=st
  refine WO.nil (WP.cond (t:=true) rfl (WP.seq (WP.reg (WO.bC rfl (qU D st hl1 (by omega)) (fun e a h hm st=> ?_) ?_))))
  ·exact aN.pan (by simp [Par.cO,Par.iF,Par.bP,Par.fo,Par.aZ,Par.dG,Par.dH,Par.dL,Par.fC,Par.fin,hm,hi1]) (st.tail.tail)
  rintro a2 l2 v2 h i2 m2 hl2 ⟨hc2,st⟩
  refine WO.val (v:= .ptr sb 0) (L.ak rfl) (WO.aH (row':=[.int .i64 5, .int .i64 (Par.here l:Int), .str 0 0, .str 0 0, .str 0 0, .bool false, .str 0 0, .str 0 0, .slN, .slN, .slN, .slN]) st 3 rfl rfl rfl rfl rfl rfl rfl (fun h st=> ?_))
  refine WO.val (v:= .ptr sb 8) (L.ak rfl) (WO.aH (row':=[.int .i64 5, .int .i64 (Par.here l:Int), .str 0 0, .str 0 0, .str 0 0, .bool false, .str 0 0, .str 0 0,v2, .slN, .slN, .slN]) st 3 rfl rfl hc2 rfl rfl rfl rfl (fun h st=> ?_))
  refine WO.nil (WP.seq (WP.reg (WO.bC rfl (hblk ((st.pick 2 rfl).pick 2 rfl) hl2 (by omega) (by have _:=hl.len;have _:=hl.lt;have _:=Par.gu hi1;have _:=List.length_tail (l:=l);have _:=hl1.len;have _:=fV m2;have _:=hl2.len;omega)) (fun e a h hm st=> ?_) ?_)))
  ·exact aN.pan (by simp [Par.cO,Par.iF,Par.bP,Par.fo,Par.aZ,Par.dG,Par.dH,Par.dL,Par.fC,Par.fin,hm,hi1,m2]) (st.tail.tail.tail)
  rintro a3 l3 v3 h i3 m3 hl3 ⟨hlt3,hc3,st⟩
  refine WO.val (v:= .ptr sb 10) (L.ak rfl) (WO.aH (row':=[.int .i64 5, .int .i64 (Par.here l:Int), .str 0 0, .str 0 0, .str 0 0, .bool false, .str 0 0, .str 0 0,v2, .slN,v3, .slN]) st 4 rfl rfl hc3 rfl rfl rfl rfl (fun h st=> ?_))
  refine WO.nil (WP.seq (WP.seq (WP.reg (WO.eG rfl (kP (s:=[101,108,115,101]) D ((st.pick 2 rfl).pick 2 rfl) hl3) ?_))))
  rintro _ h (⟨rfl,hi4,hl4,st⟩|⟨rfl,hi4,st⟩)
  ·replace st:St ((p.box (i3+1:Nat) d)::p.toks:: .stb (fun h=>pJ h v3 a3):: .stb (fun h=>Rows 7 h v2 (a2.map Nd.row)):: .box sb [.int .i64 5, .int .i64 (Par.here l:Int), .str 0 0, .str 0 0, .str 0 0, .bool false, .str 0 0, .str 0 0,v2, .slN,v3, .slN]:: .box rb_ [.int .i64 0, .int .i64 0, .str 0 0, .str 0 0, .str 0 0, .bool false, .str 0 0, .str 0 0, .slN, .slN, .slN, .slN]::fs) h:=st
   refine WO.nil (WP.cond (t:=true) rfl (WP.reg (WO.bC rfl (hblk st hl4 (by omega) (by have _:=hl.len;have _:=hl.lt;have _:=Par.gu hi1;have _:=List.length_tail (l:=l);have _:=hl1.len;have _:=fV m2;have _:=hl2.len;have _:=hl3.len;have _:=Par.gu hi4;have _:=List.length_tail (l:=l3);have _:=hl4.len;omega)) (fun e a h hm st=> ?_) ?_)))
   ·exact aN.pan (by simp [Par.cO,Par.iF,Par.bP,Par.fo,Par.aZ,Par.dG,Par.dH,Par.dL,Par.fC,Par.fin,hm,hi1,m2,m3,hi4]) (st.tail.tail.tail.tail)
   rintro a5 l5 v5 h i5 m5 hl5 ⟨hlt5,hc5,st⟩
   refine WO.val (v:= .ptr sb 11) (L.ak rfl) (WO.aH (row':=[.int .i64 5, .int .i64 (Par.here l:Int), .str 0 0, .str 0 0, .str 0 0, .bool false, .str 0 0, .str 0 0,v2, .slN,v3,v5]) st 5 rfl rfl hc5 rfl rfl rfl rfl (fun h st=> ?_))
   refine WO.nil (WP.seq (WP.reg (WO.val (v:= .agg [.int .i64 5, .int .i64 (Par.here l:Int), .str 0 0, .str 0 0, .str 0 0, .bool false, .str 0 0, .str 0 0,v2, .slN,v3,v5]) (L.aI rfl (st.aj 5 rfl) rfl rfl rfl) (WO.aH (row':=[.int .i64 5, .int .i64 (Par.here l:Int), .str 0 0, .str 0 0, .str 0 0, .bool false, .str 0 0, .str 0 0,v2, .slN,v3,v5]) st 6 rfl rfl rfl rfl rfl rfl rfl (fun h st=> ?_)))))
   refine WO.nil (WP.ret ?_)
   exact ⟨_,(av (dB (l:=[.int .i64 5, .int .i64 (Par.here l:Int), .str 0 0, .str 0 0, .str 0 0, .bool false, .str 0 0, .str 0 0,v2, .slN,v3,v5]) rfl (L.dP (st.aj 6 rfl) rfl rfl rfl)) (aG _ _)),aN.ok (x:=(Sm.mk 5 (Par.here l) ([]) ([]) ([]) false ([]) ([]) a2 [] a3 a5)) (l:=l5) (by simp [Par.cO,Par.iF,Par.bP,Par.fo,Par.aZ,Par.dG,Par.dH,Par.dL,Par.fC,Par.fin,hi1,m2,m3,hi4,m5]) hl5 ⟨[.int .i64 5, .int .i64 (Par.here l:Int), .str 0 0, .str 0 0, .str 0 0, .bool false, .str 0 0, .str 0 0,v2, .slN,v3,v5],rfl,rfl,(by have _:=hl.len;have _:=hl.lt;have _:=Par.gu hi1;have _:=List.length_tail (l:=l);have _:=hl1.len;have _:=fV m2;have _:=hl2.len;have _:=hl3.len;have _:=Par.gu hi4;have _:=List.length_tail (l:=l3);have _:=hl4.len;have _:=hl5.len;have _:=hl.len;have _:=hl.lt;omega),(((((st.pick 5 rfl).tail.pick 5 rfl).tail.pick 3 rfl).pick 4 rfl)).and.and.kI (Q:=fun h=>SmR h (Sm.mk 5 (Par.here l) ([]) ([]) ([]) false ([]) ([]) a2 [] a3 a5) [.int .i64 5, .int .i64 (Par.here l:Int), .str 0 0, .str 0 0, .str 0 0, .bool false, .str 0 0, .str 0 0,v2, .slN,v3,v5]) (fun h hx=>by simp only [SmR];exact ⟨_,_,_,_,rfl,hx.1.1,⟨[],Rows.nil,trivial⟩,hx.1.2,hx.2⟩)⟩⟩
  ·replace st:St ((p.box i3 d)::p.toks:: .stb (fun h=>pJ h v3 a3):: .stb (fun h=>Rows 7 h v2 (a2.map Nd.row)):: .box sb [.int .i64 5, .int .i64 (Par.here l:Int), .str 0 0, .str 0 0, .str 0 0, .bool false, .str 0 0, .str 0 0,v2, .slN,v3, .slN]:: .box rb_ [.int .i64 0, .int .i64 0, .str 0 0, .str 0 0, .str 0 0, .bool false, .str 0 0, .str 0 0, .slN, .slN, .slN, .slN]::fs) h:=st
   refine WO.nil (WP.cond (t:=false) rfl (WP.skip (WP.seq (WP.reg (WO.val (v:= .agg [.int .i64 5, .int .i64 (Par.here l:Int), .str 0 0, .str 0 0, .str 0 0, .bool false, .str 0 0, .str 0 0,v2, .slN,v3, .slN]) (L.aI rfl (st.aj 4 rfl) rfl rfl rfl) (WO.aH (row':=[.int .i64 5, .int .i64 (Par.here l:Int), .str 0 0, .str 0 0, .str 0 0, .bool false, .str 0 0, .str 0 0,v2, .slN,v3, .slN]) st 5 rfl rfl rfl rfl rfl rfl rfl (fun h st=> ?_)))))))
   refine WO.nil (WP.ret ?_)
   exact ⟨_,(av (dB (l:=[.int .i64 5, .int .i64 (Par.here l:Int), .str 0 0, .str 0 0, .str 0 0, .bool false, .str 0 0, .str 0 0,v2, .slN,v3, .slN]) rfl (L.dP (st.aj 5 rfl) rfl rfl rfl)) (aG _ _)),aN.ok (x:=(Sm.mk 5 (Par.here l) ([]) ([]) ([]) false ([]) ([]) a2 [] a3 [])) (l:=l3) (by simp [Par.cO,Par.iF,Par.bP,Par.fo,Par.aZ,Par.dG,Par.dH,Par.dL,Par.fC,Par.fin,hi1,m2,m3,hi4]) hl3 ⟨[.int .i64 5, .int .i64 (Par.here l:Int), .str 0 0, .str 0 0, .str 0 0, .bool false, .str 0 0, .str 0 0,v2, .slN,v3, .slN],rfl,rfl,(by have _:=hl.len;have _:=hl.lt;have _:=Par.gu hi1;have _:=List.length_tail (l:=l);have _:=hl1.len;have _:=fV m2;have _:=hl2.len;have _:=hl3.len;have _:=hl.len;have _:=hl.lt;omega),(((((st.pick 4 rfl).tail.pick 4 rfl).tail.pick 2 rfl).pick 3 rfl)).and.kI (Q:=fun h=>SmR h (Sm.mk 5 (Par.here l) ([]) ([]) ([]) false ([]) ([]) a2 [] a3 []) [.int .i64 5, .int .i64 (Par.here l:Int), .str 0 0, .str 0 0, .str 0 0, .bool false, .str 0 0, .str 0 0,v2, .slN,v3, .slN]) (fun h hx=>by simp only [SmR];exact ⟨_,_,_,_,rfl,hx.1,⟨[],Rows.nil,trivial⟩,hx.2,⟨[],Rows.nil,bH.nil⟩⟩)⟩⟩
 ·replace st:St ((p.box i d)::p.toks:: .box sb [.int .i64 0, .int .i64 (Par.here l:Int), .str 0 0, .str 0 0, .str 0 0, .bool false, .str 0 0, .str 0 0, .slN, .slN, .slN, .slN]:: .box rb_ [.int .i64 0, .int .i64 0, .str 0 0, .str 0 0, .str 0 0, .bool false, .str 0 0, .str 0 0, .slN, .slN, .slN, .slN]::fs) h:=st
  refine WO.nil (WP.cond (t:=false) rfl (WP.seq (WP.reg (WO.eG rfl (kP (s:=[119,104,105,108,101]) D st hl) ?_))))
  rintro _ h (⟨rfl,hi6,hl6,st⟩|⟨rfl,hi6,st⟩)
  ·replace st:St ((p.box (i+1:Nat) d)::p.toks:: .box sb [.int .i64 0, .int .i64 (Par.here l:Int), .str 0 0, .str 0 0, .str 0 0, .bool false, .str 0 0, .str 0 0, .slN, .slN, .slN, .slN]:: .box rb_ [.int .i64 0, .int .i64 0, .str 0 0, .str 0 0, .str 0 0, .bool false, .str 0 0, .str 0 0, .slN, .slN, .slN, .slN]::fs) h:=st
   refine WO.nil (WP.cond (t:=true) rfl (WP.seq (WP.reg (WO.bC rfl (qU D st hl6 (by omega)) (fun e a h hm st=> ?_) ?_))))
   ·exact aN.pan (by simp [Par.cO,Par.iF,Par.bP,Par.fo,Par.aZ,Par.dG,Par.dH,Par.dL,Par.fC,Par.fin,hm,hi1,hi6]) (st.tail.tail)
   rintro a7 l7 v7 h i7 m7 hl7 ⟨hc7,st⟩
   refine WO.val (v:= .ptr sb 0) (L.ak rfl) (WO.aH (row':=[.int .i64 6, .int .i64 (Par.here l:Int), .str 0 0, .str 0 0, .str 0 0, .bool false, .str 0 0, .str 0 0, .slN, .slN, .slN, .slN]) st 3 rfl rfl rfl rfl rfl rfl rfl (fun h st=> ?_))
   refine WO.val (v:= .ptr sb 8) (L.ak rfl) (WO.aH (row':=[.int .i64 6, .int .i64 (Par.here l:Int), .str 0 0, .str 0 0, .str 0 0, .bool false, .str 0 0, .str 0 0,v7, .slN, .slN, .slN]) st 3 rfl rfl hc7 rfl rfl rfl rfl (fun h st=> ?_))
   refine WO.nil (WP.seq (WP.reg (WO.bC rfl (hblk ((st.pick 2 rfl).pick 2 rfl) hl7 (by omega) (by have _:=hl.len;have _:=hl.lt;have _:=Par.gu hi6;have _:=List.length_tail (l:=l);have _:=hl6.len;have _:=fV m7;have _:=hl7.len;omega)) (fun e a h hm st=> ?_) ?_)))
   ·exact aN.pan (by simp [Par.cO,Par.iF,Par.bP,Par.fo,Par.aZ,Par.dG,Par.dH,Par.dL,Par.fC,Par.fin,hm,hi1,hi6,m7]) (st.tail.tail.tail)
   rintro a8 l8 v8 h i8 m8 hl8 ⟨hlt8,hc8,st⟩
   refine WO.val (v:= .ptr sb 10) (L.ak rfl) (WO.aH (row':=[.int .i64 6, .int .i64 (Par.here l:Int), .str 0 0, .str 0 0, .str 0 0, .bool false, .str 0 0, .str 0 0,v7, .slN,v8, .slN]) st 4 rfl rfl hc8 rfl rfl rfl rfl (fun h st=> ?_))
   refine WO.nil (WP.seq (WP.reg (WO.val (v:= .agg [.int .i64 6, .int .i64 (Par.here l:Int), .str 0 0, .str 0 0, .str 0 0, .bool false, .str 0 0, .str 0 0,v7, .slN,v8, .slN]) (L.aI rfl (st.aj 4 rfl) rfl rfl rfl) (WO.aH (row':=[.int .i64 6, .int .i64 (Par.here l:Int), .str 0 0, .str 0 0, .str 0 0, .bool false, .str 0 0, .str 0 0,v7, .slN,v8, .slN]) st 5 rfl rfl rfl rfl rfl rfl rfl (fun h st=> ?_)))))
   refine WO.nil (WP.ret ?_)
   exact ⟨_,(av (dB (l:=[.int .i64 6, .int .i64 (Par.here l:Int), .str 0 0, .str 0 0, .str 0 0, .bool false, .str 0 0, .str 0 0,v7, .slN,v8, .slN]) rfl (L.dP (st.aj 5 rfl) rfl rfl rfl)) (aG _ _)),aN.ok (x:=(Sm.mk 6 (Par.here l) ([]) ([]) ([]) false ([]) ([]) a7 [] a8 [])) (l:=l8) (by simp [Par.cO,Par.iF,Par.bP,Par.fo,Par.aZ,Par.dG,Par.dH,Par.dL,Par.fC,Par.fin,hi1,hi6,m7,m8]) hl8 ⟨[.int .i64 6, .int .i64 (Par.here l:Int), .str 0 0, .str 0 0, .str 0 0, .bool false, .str 0 0, .str 0 0,v7, .slN,v8, .slN],rfl,rfl,(by have _:=hl.len;have _:=hl.lt;have _:=Par.gu hi6;have _:=List.length_tail (l:=l);have _:=hl6.len;have _:=fV m7;have _:=hl7.len;have _:=hl8.len;have _:=hl.len;have _:=hl.lt;omega),((((st.pick 4 rfl).tail.pick 4 rfl).tail.pick 3 rfl)).and.kI (Q:=fun h=>SmR h (Sm.mk 6 (Par.here l) ([]) ([]) ([]) false ([]) ([]) a7 [] a8 []) [.int .i64 6, .int .i64 (Par.here l:Int), .str 0 0, .str 0 0, .str 0 0, .bool false, .str 0 0, .str 0 0,v7, .slN,v8, .slN]) (fun h hx=>by simp only [SmR];exact ⟨_,_,_,_,rfl,hx.1,⟨[],Rows.nil,trivial⟩,hx.2,⟨[],Rows.nil,bH.nil⟩⟩)⟩⟩
  ·replace st:St ((p.box i d)::p.toks:: .box sb [.int .i64 0, .int .i64 (Par.here l:Int), .str 0 0, .str 0 0, .str 0 0, .bool false, .str 0 0, .str 0 0, .slN, .slN, .slN, .slN]:: .box rb_ [.int .i64 0, .int .i64 0, .str 0 0, .str 0 0, .str 0 0, .bool false, .str 0 0, .str 0 0, .slN, .slN, .slN, .slN]::fs) h:=st
   refine WO.nil (WP.cond (t:=false) rfl (WP.seq (WP.reg (WO.eG rfl (kP (s:=[108,101,116]) D st hl) ?_))))
   rintro _ h (⟨rfl,hi9,hl9,st⟩|⟨rfl,hi9,st⟩)
   ·replace st:St ((p.box (i+1:Nat) d)::p.toks:: .box sb [.int .i64 0, .int .i64 (Par.here l:Int), .str 0 0, .str 0 0, .str 0 0, .bool false, .str 0 0, .str 0 0, .slN, .slN, .slN, .slN]:: .box rb_ [.int .i64 0, .int .i64 0, .str 0 0, .str 0 0, .str 0 0, .bool false, .str 0 0, .str 0 0, .slN, .slN, .slN, .slN]::fs) h:=st
    refine WO.nil (WP.cond (t:=true) rfl (WP.seq (WP.reg (WO.bC rfl (jV D st hl9) (fun e a h hm st=> ?_) ?_))))
    ·exact aN.pan (by simp [Par.cO,Par.iF,Par.bP,Par.fo,Par.aZ,Par.dG,Par.dH,Par.dL,Par.fC,Par.fin,hm,hi1,hi6,hi9]) (st.tail.tail)
    rintro a10 l10 _ h i10 m10 hl10 ⟨rfl,st⟩
    refine WO.val (v:= .ptr sb 0) (L.ak rfl) (WO.aH (row':=[.int .i64 1, .int .i64 (Par.here l:Int), .str 0 0, .str 0 0, .str 0 0, .bool false, .str 0 0, .str 0 0, .slN, .slN, .slN, .slN]) st 2 rfl rfl rfl rfl rfl rfl rfl (fun h st=> ?_))
    refine WO.val (v:= .ptr sb 3) (L.ak rfl) (WO.aH (row':=[.int .i64 1, .int .i64 (Par.here l:Int), .str 0 0,L.str a10, .str 0 0, .bool false, .str 0 0, .str 0 0, .slN, .slN, .slN, .slN]) st 2 rfl rfl rfl rfl rfl rfl rfl (fun h st=> ?_))
    refine WO.nil (WP.seq (WP.reg (WO.bC rfl (eH (s:=[58]) D st hl10) (fun e a h hm st=> ?_) ?_)))
    ·exact aN.pan (by simp [Par.cO,Par.iF,Par.bP,Par.fo,Par.aZ,Par.dG,Par.dH,Par.dL,Par.fC,Par.fin,hm,hi1,hi6,hi9,m10]) (st.tail.tail)
    rintro a11 l11 _ h i11 m11 hl11 ⟨rfl,st⟩
    refine WO.nil (WP.seq (WP.reg (WO.bC rfl (jV D st hl11) (fun e a h hm st=> ?_) ?_)))
    ·exact aN.pan (by simp [Par.cO,Par.iF,Par.bP,Par.fo,Par.aZ,Par.dG,Par.dH,Par.dL,Par.fC,Par.fin,hm,hi1,hi6,hi9,m10,m11]) (st.tail.tail)
    rintro a12 l12 _ h i12 m12 hl12 ⟨rfl,st⟩
    refine WO.val (v:= .ptr sb 4) (L.ak rfl) (WO.aH (row':=[.int .i64 1, .int .i64 (Par.here l:Int), .str 0 0,L.str a10,L.str a12, .bool false, .str 0 0, .str 0 0, .slN, .slN, .slN, .slN]) st 2 rfl rfl rfl rfl rfl rfl rfl (fun h st=> ?_))
    refine WO.nil (WP.seq (WP.reg (WO.bC rfl (eH (s:=[61]) D st hl12) (fun e a h hm st=> ?_) ?_)))
    ·exact aN.pan (by simp [Par.cO,Par.iF,Par.bP,Par.fo,Par.aZ,Par.dG,Par.dH,Par.dL,Par.fC,Par.fin,hm,hi1,hi6,hi9,m10,m11,m12]) (st.tail.tail)
    rintro a13 l13 _ h i13 m13 hl13 ⟨rfl,st⟩
    refine WO.nil (WP.reg (WO.bC rfl (qU D st hl13 (by omega)) (fun e a h hm st=> ?_) ?_))
    ·exact aN.pan (by simp [Par.cO,Par.iF,Par.bP,Par.fo,Par.aZ,Par.dG,Par.dH,Par.dL,Par.fC,Par.fin,hm,hi1,hi6,hi9,m10,m11,m12,m13]) (st.tail.tail)
    rintro a14 l14 v14 h i14 m14 hl14 ⟨hc14,st⟩
    refine WO.val (v:= .ptr sb 8) (L.ak rfl) (WO.aH (row':=[.int .i64 1, .int .i64 (Par.here l:Int), .str 0 0,L.str a10,L.str a12, .bool false, .str 0 0, .str 0 0,v14, .slN, .slN, .slN]) st 3 rfl rfl hc14 rfl rfl rfl rfl (fun h st=> ?_))
    refine WO.nil (WP.seq (WP.reg (WO.bC rfl (eH (s:=[59]) D ((st.pick 2 rfl).pick 2 rfl) hl14) (fun e a h hm st=> ?_) ?_)))
    ·exact aN.pan (by simp [Par.cO,Par.iF,Par.bP,Par.fo,Par.aZ,Par.dG,Par.dH,Par.dL,Par.fC,Par.fin,hm,hi1,hi6,hi9,m10,m11,m12,m13,m14]) (st.tail.tail.tail)
    rintro a15 l15 _ h i15 m15 hl15 ⟨rfl,st⟩
    refine WO.nil (WP.seq (WP.reg (WO.val (v:= .agg [.int .i64 1, .int .i64 (Par.here l:Int), .str 0 0,L.str a10,L.str a12, .bool false, .str 0 0, .str 0 0,v14, .slN, .slN, .slN]) (L.aI rfl (st.aj 3 rfl) rfl rfl rfl) (WO.aH (row':=[.int .i64 1, .int .i64 (Par.here l:Int), .str 0 0,L.str a10,L.str a12, .bool false, .str 0 0, .str 0 0,v14, .slN, .slN, .slN]) st 4 rfl rfl rfl rfl rfl rfl rfl (fun h st=> ?_)))))
    refine WO.nil (WP.ret ?_)
    exact ⟨_,(av (dB (l:=[.int .i64 1, .int .i64 (Par.here l:Int), .str 0 0,L.str a10,L.str a12, .bool false, .str 0 0, .str 0 0,v14, .slN, .slN, .slN]) rfl (L.dP (st.aj 4 rfl) rfl rfl rfl)) (aG _ _)),aN.ok (x:=(Sm.mk 1 (Par.here l) ([]) a10 a12 false ([]) ([]) a14 [] [] [])) (l:=l15) (by simp [Par.cO,Par.iF,Par.bP,Par.fo,Par.aZ,Par.dG,Par.dH,Par.dL,Par.fC,Par.fin,hi1,hi6,hi9,m10,m11,m12,m13,m14,m15]) hl15 ⟨[.int .i64 1, .int .i64 (Par.here l:Int), .str 0 0,L.str a10,L.str a12, .bool false, .str 0 0, .str 0 0,v14, .slN, .slN, .slN],rfl,rfl,(by have _:=hl.len;have _:=hl.lt;have _:=Par.gu hi9;have _:=List.length_tail (l:=l);have _:=hl9.len;have _:=Par.dF m10;have _:=hl10.len;have _:=Par.aV m11;have _:=hl11.len;have _:=Par.dF m12;have _:=hl12.len;have _:=Par.aV m13;have _:=hl13.len;have _:=fV m14;have _:=hl14.len;have _:=Par.aV m15;have _:=hl15.len;have _:=hl.len;have _:=hl.lt;omega),((((st.pick 3 rfl).tail.pick 3 rfl).tail.pick 2 rfl)).kI (Q:=fun h=>SmR h (Sm.mk 1 (Par.here l) ([]) a10 a12 false ([]) ([]) a14 [] [] []) [.int .i64 1, .int .i64 (Par.here l:Int), .str 0 0,L.str a10,L.str a12, .bool false, .str 0 0, .str 0 0,v14, .slN, .slN, .slN]) (fun h hx=>by simp only [SmR];exact ⟨_,_,_,_,rfl,hx,⟨[],Rows.nil,trivial⟩,⟨[],Rows.nil,bH.nil⟩,⟨[],Rows.nil,bH.nil⟩⟩)⟩⟩
   ·replace st:St ((p.box i d)::p.toks:: .box sb [.int .i64 0, .int .i64 (Par.here l:Int), .str 0 0, .str 0 0, .str 0 0, .bool false, .str 0 0, .str 0 0, .slN, .slN, .slN, .slN]:: .box rb_ [.int .i64 0, .int .i64 0, .str 0 0, .str 0 0, .str 0 0, .bool false, .str 0 0, .str 0 0, .slN, .slN, .slN, .slN]::fs) h:=st
    refine WO.nil (WP.cond (t:=false) rfl (WP.seq (WP.reg (WO.eG rfl (kP (s:=[114,101,115,117,108,116]) D st hl) ?_))))
    rintro _ h (⟨rfl,hi16,hl16,st⟩|⟨rfl,hi16,st⟩)
    ·replace st:St ((p.box (i+1:Nat) d)::p.toks:: .box sb [.int .i64 0, .int .i64 (Par.here l:Int), .str 0 0, .str 0 0, .str 0 0, .bool false, .str 0 0, .str 0 0, .slN, .slN, .slN, .slN]:: .box rb_ [.int .i64 0, .int .i64 0, .str 0 0, .str 0 0, .str 0 0, .bool false, .str 0 0, .str 0 0, .slN, .slN, .slN, .slN]::fs) h:=st
     refine WO.nil (WP.cond (t:=true) rfl (WP.seq (WP.reg (WO.val (v:= .ptr sb 0) (L.ak rfl) (WO.aH (row':=[.int .i64 3, .int .i64 (Par.here l:Int), .str 0 0, .str 0 0, .str 0 0, .bool false, .str 0 0, .str 0 0, .slN, .slN, .slN, .slN]) st 2 rfl rfl rfl rfl rfl rfl rfl (fun h st=> ?_))))))
     refine WO.nil (WP.seq (WP.reg (WO.bC rfl (eH (s:=[61]) D st hl16) (fun e a h hm st=> ?_) ?_)))
     ·exact aN.pan (by simp [Par.cO,Par.iF,Par.bP,Par.fo,Par.aZ,Par.dG,Par.dH,Par.dL,Par.fC,Par.fin,hm,hi1,hi6,hi9,hi16]) (st.tail.tail)
     rintro a17 l17 _ h i17 m17 hl17 ⟨rfl,st⟩
     refine WO.nil (WP.reg (WO.bC rfl (qU D st hl17 (by omega)) (fun e a h hm st=> ?_) ?_))
     ·exact aN.pan (by simp [Par.cO,Par.iF,Par.bP,Par.fo,Par.aZ,Par.dG,Par.dH,Par.dL,Par.fC,Par.fin,hm,hi1,hi6,hi9,hi16,m17]) (st.tail.tail)
     rintro a18 l18 v18 h i18 m18 hl18 ⟨hc18,st⟩
     refine WO.val (v:= .ptr sb 8) (L.ak rfl) (WO.aH (row':=[.int .i64 3, .int .i64 (Par.here l:Int), .str 0 0, .str 0 0, .str 0 0, .bool false, .str 0 0, .str 0 0,v18, .slN, .slN, .slN]) st 3 rfl rfl hc18 rfl rfl rfl rfl (fun h st=> ?_))
     refine WO.nil (WP.seq (WP.reg (WO.bC rfl (eH (s:=[59]) D ((st.pick 2 rfl).pick 2 rfl) hl18) (fun e a h hm st=> ?_) ?_)))
     ·exact aN.pan (by simp [Par.cO,Par.iF,Par.bP,Par.fo,Par.aZ,Par.dG,Par.dH,Par.dL,Par.fC,Par.fin,hm,hi1,hi6,hi9,hi16,m17,m18]) (st.tail.tail.tail)
     rintro a19 l19 _ h i19 m19 hl19 ⟨rfl,st⟩
     refine WO.nil (WP.seq (WP.reg (WO.val (v:= .agg [.int .i64 3, .int .i64 (Par.here l:Int), .str 0 0, .str 0 0, .str 0 0, .bool false, .str 0 0, .str 0 0,v18, .slN, .slN, .slN]) (L.aI rfl (st.aj 3 rfl) rfl rfl rfl) (WO.aH (row':=[.int .i64 3, .int .i64 (Par.here l:Int), .str 0 0, .str 0 0, .str 0 0, .bool false, .str 0 0, .str 0 0,v18, .slN, .slN, .slN]) st 4 rfl rfl rfl rfl rfl rfl rfl (fun h st=> ?_)))))
     refine WO.nil (WP.ret ?_)
     exact ⟨_,(av (dB (l:=[.int .i64 3, .int .i64 (Par.here l:Int), .str 0 0, .str 0 0, .str 0 0, .bool false, .str 0 0, .str 0 0,v18, .slN, .slN, .slN]) rfl (L.dP (st.aj 4 rfl) rfl rfl rfl)) (aG _ _)),aN.ok (x:=(Sm.mk 3 (Par.here l) ([]) ([]) ([]) false ([]) ([]) a18 [] [] [])) (l:=l19) (by simp [Par.cO,Par.iF,Par.bP,Par.fo,Par.aZ,Par.dG,Par.dH,Par.dL,Par.fC,Par.fin,hi1,hi6,hi9,hi16,m17,m18,m19]) hl19 ⟨[.int .i64 3, .int .i64 (Par.here l:Int), .str 0 0, .str 0 0, .str 0 0, .bool false, .str 0 0, .str 0 0,v18, .slN, .slN, .slN],rfl,rfl,(by have _:=hl.len;have _:=hl.lt;have _:=Par.gu hi16;have _:=List.length_tail (l:=l);have _:=hl16.len;have _:=Par.aV m17;have _:=hl17.len;have _:=fV m18;have _:=hl18.len;have _:=Par.aV m19;have _:=hl19.len;have _:=hl.len;have _:=hl.lt;omega),((((st.pick 3 rfl).tail.pick 3 rfl).tail.pick 2 rfl)).kI (Q:=fun h=>SmR h (Sm.mk 3 (Par.here l) ([]) ([]) ([]) false ([]) ([]) a18 [] [] []) [.int .i64 3, .int .i64 (Par.here l:Int), .str 0 0, .str 0 0, .str 0 0, .bool false, .str 0 0, .str 0 0,v18, .slN, .slN, .slN]) (fun h hx=>by simp only [SmR];exact ⟨_,_,_,_,rfl,hx,⟨[],Rows.nil,trivial⟩,⟨[],Rows.nil,bH.nil⟩,⟨[],Rows.nil,bH.nil⟩⟩)⟩⟩
    ·replace st:St ((p.box i d)::p.toks:: .box sb [.int .i64 0, .int .i64 (Par.here l:Int), .str 0 0, .str 0 0, .str 0 0, .bool false, .str 0 0, .str 0 0, .slN, .slN, .slN, .slN]:: .box rb_ [.int .i64 0, .int .i64 0, .str 0 0, .str 0 0, .str 0 0, .bool false, .str 0 0, .str 0 0, .slN, .slN, .slN, .slN]::fs) h:=st
     refine WO.nil (WP.cond (t:=false) rfl (WP.seq (WP.reg (WO.eG rfl (kP (s:=[99,97,108,108]) D st hl) ?_))))
     rintro _ h (⟨rfl,hi20,hl20,st⟩|⟨rfl,hi20,st⟩)
     ·replace st:St ((p.box (i+1:Nat) d)::p.toks:: .box sb [.int .i64 0, .int .i64 (Par.here l:Int), .str 0 0, .str 0 0, .str 0 0, .bool false, .str 0 0, .str 0 0, .slN, .slN, .slN, .slN]:: .box rb_ [.int .i64 0, .int .i64 0, .str 0 0, .str 0 0, .str 0 0, .bool false, .str 0 0, .str 0 0, .slN, .slN, .slN, .slN]::fs) h:=st
      refine WO.nil (WP.cond (t:=true) rfl (WP.seq (WP.reg (WO.val (v:= .ptr sb 0) (L.ak rfl) (WO.aH (row':=[.int .i64 4, .int .i64 (Par.here l:Int), .str 0 0, .str 0 0, .str 0 0, .bool false, .str 0 0, .str 0 0, .slN, .slN, .slN, .slN]) st 2 rfl rfl rfl rfl rfl rfl rfl (fun h st=> ?_))))))
      refine WO.nil (WP.reg (WO.bC rfl (call_c D (st.pick 2 rfl) hl20 (by omega)) (fun e a h hm st=> ?_) ?_))
      ·exact aN.pan (by simp [Par.cO,Par.iF,Par.bP,Par.fo,Par.aZ,Par.dG,Par.dH,Par.dL,Par.fC,Par.fin,hm,hi1,hi6,hi9,hi16,hi20]) (st.tail)
      rintro a21 l21 _ h i21 m21 hl21 ⟨va21,hv21,st⟩
      refine WO.nil (WP.seq (WP.reg (WO.bC rfl (eH (s:=[59]) D ((st.pick 3 rfl).pick 3 rfl) hl21) (fun e a h hm st=> ?_) ?_)))
      ·exact aN.pan (by simp [Par.cO,Par.iF,Par.bP,Par.fo,Par.aZ,Par.dG,Par.dH,Par.dL,Par.fC,Par.fin,hm,hi1,hi6,hi9,hi16,hi20,m21]) (st.tail.tail.tail)
      rintro a22 l22 _ h i22 m22 hl22 ⟨rfl,st⟩
      refine WO.nil (WP.seq (WP.reg (WO.val (v:= .agg [.int .i64 4, .int .i64 (Par.here l:Int),L.str a21.mod,L.str a21.name,L.str [], .bool a21.has,L.str a21.tomod,L.str a21.to, .slN,va21, .slN, .slN]) (L.aI rfl (st.aj 3 rfl) rfl rfl rfl) (WO.aH (row':=[.int .i64 4, .int .i64 (Par.here l:Int),L.str a21.mod,L.str a21.name,L.str [], .bool a21.has,L.str a21.tomod,L.str a21.to, .slN,va21, .slN, .slN]) st 4 rfl rfl rfl rfl rfl rfl rfl (fun h st=> ?_)))))
      refine WO.nil (WP.ret ?_)
      exact ⟨_,(av (dB (l:=[.int .i64 4, .int .i64 (Par.here l:Int),L.str a21.mod,L.str a21.name,L.str [], .bool a21.has,L.str a21.tomod,L.str a21.to, .slN,va21, .slN, .slN]) rfl (L.dP (st.aj 4 rfl) rfl rfl rfl)) (aG _ _)),aN.ok (x:=(Sm.mk 4 (Par.here l) a21.mod a21.name ([]) a21.has a21.tomod a21.to [] a21.args [] [])) (l:=l22) (by simp [Par.cO,Par.iF,Par.bP,Par.fo,Par.aZ,Par.dG,Par.dH,Par.dL,Par.fC,Par.fin,hi1,hi6,hi9,hi16,hi20,m21,m22]) hl22 ⟨[.int .i64 4, .int .i64 (Par.here l:Int),L.str a21.mod,L.str a21.name,L.str [], .bool a21.has,L.str a21.tomod,L.str a21.to, .slN,va21, .slN, .slN],rfl,rfl,(by have _:=hl.len;have _:=hl.lt;have _:=Par.gu hi20;have _:=List.length_tail (l:=l);have _:=hl20.len;have _:=OH m21;have _:=hl21.len;have _:=Par.aV m22;have _:=hl22.len;have _:=hl.len;have _:=hl.lt;omega),((((st.pick 3 rfl).tail.pick 3 rfl).tail.pick 2 rfl)).kI (Q:=fun h=>SmR h (Sm.mk 4 (Par.here l) a21.mod a21.name ([]) a21.has a21.tomod a21.to [] a21.args [] []) [.int .i64 4, .int .i64 (Par.here l:Int),L.str a21.mod,L.str a21.name,L.str [], .bool a21.has,L.str a21.tomod,L.str a21.to, .slN,va21, .slN, .slN]) (fun h hx=>by simp only [SmR];exact ⟨_,_,_,_,rfl,Rows.nil,hx,⟨[],Rows.nil,bH.nil⟩,⟨[],Rows.nil,bH.nil⟩⟩)⟩⟩
     ·replace st:St ((p.box i d)::p.toks:: .box sb [.int .i64 0, .int .i64 (Par.here l:Int), .str 0 0, .str 0 0, .str 0 0, .bool false, .str 0 0, .str 0 0, .slN, .slN, .slN, .slN]:: .box rb_ [.int .i64 0, .int .i64 0, .str 0 0, .str 0 0, .str 0 0, .bool false, .str 0 0, .str 0 0, .slN, .slN, .slN, .slN]::fs) h:=st
      refine WO.nil (WP.cond (t:=false) rfl (WP.seq (WP.reg (WO.eG rfl (kP (s:=[101,109,105,116]) D st hl) ?_))))
      rintro _ h (⟨rfl,hi23,hl23,st⟩|⟨rfl,hi23,st⟩)
      ·replace st:St ((p.box (i+1:Nat) d)::p.toks:: .box sb [.int .i64 0, .int .i64 (Par.here l:Int), .str 0 0, .str 0 0, .str 0 0, .bool false, .str 0 0, .str 0 0, .slN, .slN, .slN, .slN]:: .box rb_ [.int .i64 0, .int .i64 0, .str 0 0, .str 0 0, .str 0 0, .bool false, .str 0 0, .str 0 0, .slN, .slN, .slN, .slN]::fs) h:=st
       refine WO.nil (WP.cond (t:=true) rfl (WP.reg (WO.bC rfl (jV D st hl23) (fun e a h hm st=> ?_) ?_)))
       ·exact aN.pan (by simp [Par.cO,Par.iF,Par.bP,Par.fo,Par.aZ,Par.dG,Par.dH,Par.dL,Par.fC,Par.fin,hm,hi1,hi6,hi9,hi16,hi20,hi23]) (st.tail.tail)
       rintro a24 l24 _ h i24 m24 hl24 ⟨rfl,st⟩
       refine WO.val (v:= .ptr sb 0) (L.ak rfl) (WO.aH (row':=[.int .i64 7, .int .i64 (Par.here l:Int), .str 0 0, .str 0 0, .str 0 0, .bool false, .str 0 0, .str 0 0, .slN, .slN, .slN, .slN]) st 2 rfl rfl rfl rfl rfl rfl rfl (fun h st=> ?_))
       refine WO.val (v:= .ptr sb 3) (L.ak rfl) (WO.aH (row':=[.int .i64 7, .int .i64 (Par.here l:Int), .str 0 0,L.str a24, .str 0 0, .bool false, .str 0 0, .str 0 0, .slN, .slN, .slN, .slN]) st 2 rfl rfl rfl rfl rfl rfl rfl (fun h st=> ?_))
       refine WO.nil (WP.seq (WP.reg (WO.bC rfl (eH (s:=[59]) D st hl24) (fun e a h hm st=> ?_) ?_)))
       ·exact aN.pan (by simp [Par.cO,Par.iF,Par.bP,Par.fo,Par.aZ,Par.dG,Par.dH,Par.dL,Par.fC,Par.fin,hm,hi1,hi6,hi9,hi16,hi20,hi23,m24]) (st.tail.tail)
       rintro a25 l25 _ h i25 m25 hl25 ⟨rfl,st⟩
       refine WO.nil (WP.seq (WP.reg (WO.val (v:= .agg [.int .i64 7, .int .i64 (Par.here l:Int), .str 0 0,L.str a24, .str 0 0, .bool false, .str 0 0, .str 0 0, .slN, .slN, .slN, .slN]) (L.aI rfl (st.aj 2 rfl) rfl rfl rfl) (WO.aH (row':=[.int .i64 7, .int .i64 (Par.here l:Int), .str 0 0,L.str a24, .str 0 0, .bool false, .str 0 0, .str 0 0, .slN, .slN, .slN, .slN]) st 3 rfl rfl rfl rfl rfl rfl rfl (fun h st=> ?_)))))
       refine WO.nil (WP.ret ?_)
       exact ⟨_,(av (dB (l:=[.int .i64 7, .int .i64 (Par.here l:Int), .str 0 0,L.str a24, .str 0 0, .bool false, .str 0 0, .str 0 0, .slN, .slN, .slN, .slN]) rfl (L.dP (st.aj 3 rfl) rfl rfl rfl)) (aG _ _)),aN.ok (x:=(Sm.mk 7 (Par.here l) ([]) a24 ([]) false ([]) ([]) [] [] [] [])) (l:=l25) (by simp [Par.cO,Par.iF,Par.bP,Par.fo,Par.aZ,Par.dG,Par.dH,Par.dL,Par.fC,Par.fin,hi1,hi6,hi9,hi16,hi20,hi23,m24,m25]) hl25 ⟨[.int .i64 7, .int .i64 (Par.here l:Int), .str 0 0,L.str a24, .str 0 0, .bool false, .str 0 0, .str 0 0, .slN, .slN, .slN, .slN],rfl,rfl,(by have _:=hl.len;have _:=hl.lt;have _:=Par.gu hi23;have _:=List.length_tail (l:=l);have _:=hl23.len;have _:=Par.dF m24;have _:=hl24.len;have _:=Par.aV m25;have _:=hl25.len;have _:=hl.len;have _:=hl.lt;omega),(St.pure (((st.pick 2 rfl).tail.pick 2 rfl).tail) (Q:=True) trivial).kI (Q:=fun h=>SmR h (Sm.mk 7 (Par.here l) ([]) a24 ([]) false ([]) ([]) [] [] [] []) [.int .i64 7, .int .i64 (Par.here l:Int), .str 0 0,L.str a24, .str 0 0, .bool false, .str 0 0, .str 0 0, .slN, .slN, .slN, .slN]) (fun h hx=>by simp only [SmR];exact ⟨_,_,_,_,rfl,Rows.nil,⟨[],Rows.nil,trivial⟩,⟨[],Rows.nil,bH.nil⟩,⟨[],Rows.nil,bH.nil⟩⟩)⟩⟩
      ·replace st:St ((p.box i d)::p.toks:: .box sb [.int .i64 0, .int .i64 (Par.here l:Int), .str 0 0, .str 0 0, .str 0 0, .bool false, .str 0 0, .str 0 0, .slN, .slN, .slN, .slN]:: .box rb_ [.int .i64 0, .int .i64 0, .str 0 0, .str 0 0, .str 0 0, .bool false, .str 0 0, .str 0 0, .slN, .slN, .slN, .slN]::fs) h:=st
       refine WO.nil (WP.cond (t:=false) rfl (WP.seq (WP.reg (WO.eG rfl (kP (s:=[115,107,105,112]) D st hl) ?_))))
       rintro _ h (⟨rfl,hi26,hl26,st⟩|⟨rfl,hi26,st⟩)
       ·replace st:St ((p.box (i+1:Nat) d)::p.toks:: .box sb [.int .i64 0, .int .i64 (Par.here l:Int), .str 0 0, .str 0 0, .str 0 0, .bool false, .str 0 0, .str 0 0, .slN, .slN, .slN, .slN]:: .box rb_ [.int .i64 0, .int .i64 0, .str 0 0, .str 0 0, .str 0 0, .bool false, .str 0 0, .str 0 0, .slN, .slN, .slN, .slN]::fs) h:=st
        refine WO.nil (WP.cond (t:=true) rfl (WP.reg (WO.val (v:= .ptr sb 0) (L.ak rfl) (WO.aH (row':=[.int .i64 8, .int .i64 (Par.here l:Int), .str 0 0, .str 0 0, .str 0 0, .bool false, .str 0 0, .str 0 0, .slN, .slN, .slN, .slN]) st 2 rfl rfl rfl rfl rfl rfl rfl (fun h st=> ?_)))))
        refine WO.nil (WP.seq (WP.reg (WO.bC rfl (eH (s:=[59]) D st hl26) (fun e a h hm st=> ?_) ?_)))
        ·exact aN.pan (by simp [Par.cO,Par.iF,Par.bP,Par.fo,Par.aZ,Par.dG,Par.dH,Par.dL,Par.fC,Par.fin,hm,hi1,hi6,hi9,hi16,hi20,hi23,hi26]) (st.tail.tail)
        rintro a27 l27 _ h i27 m27 hl27 ⟨rfl,st⟩
        refine WO.nil (WP.seq (WP.reg (WO.val (v:= .agg [.int .i64 8, .int .i64 (Par.here l:Int), .str 0 0, .str 0 0, .str 0 0, .bool false, .str 0 0, .str 0 0, .slN, .slN, .slN, .slN]) (L.aI rfl (st.aj 2 rfl) rfl rfl rfl) (WO.aH (row':=[.int .i64 8, .int .i64 (Par.here l:Int), .str 0 0, .str 0 0, .str 0 0, .bool false, .str 0 0, .str 0 0, .slN, .slN, .slN, .slN]) st 3 rfl rfl rfl rfl rfl rfl rfl (fun h st=> ?_)))))
        refine WO.nil (WP.ret ?_)
        exact ⟨_,(av (dB (l:=[.int .i64 8, .int .i64 (Par.here l:Int), .str 0 0, .str 0 0, .str 0 0, .bool false, .str 0 0, .str 0 0, .slN, .slN, .slN, .slN]) rfl (L.dP (st.aj 3 rfl) rfl rfl rfl)) (aG _ _)),aN.ok (x:=(Sm.mk 8 (Par.here l) ([]) ([]) ([]) false ([]) ([]) [] [] [] [])) (l:=l27) (by simp [Par.cO,Par.iF,Par.bP,Par.fo,Par.aZ,Par.dG,Par.dH,Par.dL,Par.fC,Par.fin,hi1,hi6,hi9,hi16,hi20,hi23,hi26,m27]) hl27 ⟨[.int .i64 8, .int .i64 (Par.here l:Int), .str 0 0, .str 0 0, .str 0 0, .bool false, .str 0 0, .str 0 0, .slN, .slN, .slN, .slN],rfl,rfl,(by have _:=hl.len;have _:=hl.lt;have _:=Par.gu hi26;have _:=List.length_tail (l:=l);have _:=hl26.len;have _:=Par.aV m27;have _:=hl27.len;have _:=hl.len;have _:=hl.lt;omega),(St.pure (((st.pick 2 rfl).tail.pick 2 rfl).tail) (Q:=True) trivial).kI (Q:=fun h=>SmR h (Sm.mk 8 (Par.here l) ([]) ([]) ([]) false ([]) ([]) [] [] [] []) [.int .i64 8, .int .i64 (Par.here l:Int), .str 0 0, .str 0 0, .str 0 0, .bool false, .str 0 0, .str 0 0, .slN, .slN, .slN, .slN]) (fun h hx=>by simp only [SmR];exact ⟨_,_,_,_,rfl,Rows.nil,⟨[],Rows.nil,trivial⟩,⟨[],Rows.nil,bH.nil⟩,⟨[],Rows.nil,bH.nil⟩⟩)⟩⟩
       ·replace st:St ((p.box i d)::p.toks:: .box sb [.int .i64 0, .int .i64 (Par.here l:Int), .str 0 0, .str 0 0, .str 0 0, .bool false, .str 0 0, .str 0 0, .slN, .slN, .slN, .slN]:: .box rb_ [.int .i64 0, .int .i64 0, .str 0 0, .str 0 0, .str 0 0, .bool false, .str 0 0, .str 0 0, .slN, .slN, .slN, .slN]::fs) h:=st
        refine WO.nil (WP.cond (t:=false) rfl (WP.seq (WP.reg (WO.val (v:= .ptr sb 0) (L.ak rfl) (WO.aH (row':=[.int .i64 2, .int .i64 (Par.here l:Int), .str 0 0, .str 0 0, .str 0 0, .bool false, .str 0 0, .str 0 0, .slN, .slN, .slN, .slN]) st 2 rfl rfl rfl rfl rfl rfl rfl (fun h st=> ?_))))))
        refine WO.nil (WP.seq (WP.reg (WO.bC rfl (Af D st hl) (fun e a h hm st=> ?_) ?_)))
        ·exact aN.pan (by simp [Par.cO,Par.iF,Par.bP,Par.fo,Par.aZ,Par.dG,Par.dH,Par.dL,Par.fC,Par.fin,hm,hi1,hi6,hi9,hi16,hi20,hi23,hi26]) (st.tail.tail)
        rintro a28 l28 _ h i28 m28 hl28 ⟨rfl,st⟩
        refine WO.val (v:=L.str a28.1) rfl (WO.val (v:=L.str a28.2) rfl (WO.val (v:= .ptr sb 2) (L.ak rfl) (WO.aH (row':=[.int .i64 2, .int .i64 (Par.here l:Int),L.str a28.1, .str 0 0, .str 0 0, .bool false, .str 0 0, .str 0 0, .slN, .slN, .slN, .slN]) st 2 rfl rfl rfl rfl rfl rfl rfl (fun h st=> ?_))))
        refine WO.val (v:= .ptr sb 3) (L.ak rfl) (WO.aH (row':=[.int .i64 2, .int .i64 (Par.here l:Int),L.str a28.1,L.str a28.2, .str 0 0, .bool false, .str 0 0, .str 0 0, .slN, .slN, .slN, .slN]) st 2 rfl rfl rfl rfl rfl rfl rfl (fun h st=> ?_))
        refine WO.nil (WP.seq (WP.reg (WO.bC rfl (eH (s:=[61]) D st hl28) (fun e a h hm st=> ?_) ?_)))
        ·exact aN.pan (by simp [Par.cO,Par.iF,Par.bP,Par.fo,Par.aZ,Par.dG,Par.dH,Par.dL,Par.fC,Par.fin,hm,hi1,hi6,hi9,hi16,hi20,hi23,hi26,m28]) (st.tail.tail)
        rintro a29 l29 _ h i29 m29 hl29 ⟨rfl,st⟩
        refine WO.nil (WP.reg (WO.bC rfl (qU D st hl29 (by omega)) (fun e a h hm st=> ?_) ?_))
        ·exact aN.pan (by simp [Par.cO,Par.iF,Par.bP,Par.fo,Par.aZ,Par.dG,Par.dH,Par.dL,Par.fC,Par.fin,hm,hi1,hi6,hi9,hi16,hi20,hi23,hi26,m28,m29]) (st.tail.tail)
        rintro a30 l30 v30 h i30 m30 hl30 ⟨hc30,st⟩
        refine WO.val (v:= .ptr sb 8) (L.ak rfl) (WO.aH (row':=[.int .i64 2, .int .i64 (Par.here l:Int),L.str a28.1,L.str a28.2, .str 0 0, .bool false, .str 0 0, .str 0 0,v30, .slN, .slN, .slN]) st 3 rfl rfl hc30 rfl rfl rfl rfl (fun h st=> ?_))
        refine WO.nil (WP.seq (WP.reg (WO.bC rfl (eH (s:=[59]) D ((st.pick 2 rfl).pick 2 rfl) hl30) (fun e a h hm st=> ?_) ?_)))
        ·exact aN.pan (by simp [Par.cO,Par.iF,Par.bP,Par.fo,Par.aZ,Par.dG,Par.dH,Par.dL,Par.fC,Par.fin,hm,hi1,hi6,hi9,hi16,hi20,hi23,hi26,m28,m29,m30]) (st.tail.tail.tail)
        rintro a31 l31 _ h i31 m31 hl31 ⟨rfl,st⟩
        refine WO.nil (WP.seq (WP.reg (WO.val (v:= .agg [.int .i64 2, .int .i64 (Par.here l:Int),L.str a28.1,L.str a28.2, .str 0 0, .bool false, .str 0 0, .str 0 0,v30, .slN, .slN, .slN]) (L.aI rfl (st.aj 3 rfl) rfl rfl rfl) (WO.aH (row':=[.int .i64 2, .int .i64 (Par.here l:Int),L.str a28.1,L.str a28.2, .str 0 0, .bool false, .str 0 0, .str 0 0,v30, .slN, .slN, .slN]) st 4 rfl rfl rfl rfl rfl rfl rfl (fun h st=> ?_)))))
        refine WO.nil (WP.ret ?_)
        exact ⟨_,(av (dB (l:=[.int .i64 2, .int .i64 (Par.here l:Int),L.str a28.1,L.str a28.2, .str 0 0, .bool false, .str 0 0, .str 0 0,v30, .slN, .slN, .slN]) rfl (L.dP (st.aj 4 rfl) rfl rfl rfl)) (aG _ _)),aN.ok (x:=(Sm.mk 2 (Par.here l) a28.1 a28.2 ([]) false ([]) ([]) a30 [] [] [])) (l:=l31) (by simp [Par.cO,Par.iF,Par.bP,Par.fo,Par.aZ,Par.dG,Par.dH,Par.dL,Par.fC,Par.fin,hi1,hi6,hi9,hi16,hi20,hi23,hi26,m28,m29,m30,m31]) hl31 ⟨[.int .i64 2, .int .i64 (Par.here l:Int),L.str a28.1,L.str a28.2, .str 0 0, .bool false, .str 0 0, .str 0 0,v30, .slN, .slN, .slN],rfl,rfl,(by have _:=hl.len;have _:=hl.lt;have _:=Par.uW m28;have _:=hl28.len;have _:=Par.aV m29;have _:=hl29.len;have _:=fV m30;have _:=hl30.len;have _:=Par.aV m31;have _:=hl31.len;have _:=hl.len;have _:=hl.lt;omega),((((st.pick 3 rfl).tail.pick 3 rfl).tail.pick 2 rfl)).kI (Q:=fun h=>SmR h (Sm.mk 2 (Par.here l) a28.1 a28.2 ([]) false ([]) ([]) a30 [] [] []) [.int .i64 2, .int .i64 (Par.here l:Int),L.str a28.1,L.str a28.2, .str 0 0, .bool false, .str 0 0, .str 0 0,v30, .slN, .slN, .slN]) (fun h hx=>by simp only [SmR];exact ⟨_,_,_,_,rfl,hx,⟨[],Rows.nil,trivial⟩,⟨[],Rows.nil,bH.nil⟩,⟨[],Rows.nil,bH.nil⟩⟩)⟩⟩
theorem GN (D:fZ c) {p:RP}:∀f,StmOk c p (Par.stmt f) f
 |0=>fun st hl hd hN=>absurd (List.length_eq_zero_iff.1 (Nat.le_zero.1 hN)) hl.ne
 |f+1=>fun st hl hd hN=>stmt_c D (fun st hl hd hN=>KL D (GN D f) st hl hd (Nat.le_succ_of_le hN)) st hl hd hN
theorem blk_c (D:fZ c) {p:RP} {fs:List Fact} {h:Heap} {i d:Nat} {l:List Tok} (st:St (p.box i d::p.toks::fs) h) (hl:Left p i l) (hd:d≤40):
 gG c 53 [.ptr p.rb 0] h (aN p 83 (Par.block d l) (fun a i1 v h1=>i<i1∧v.bW=some [v]∧St (.stb (fun h=>pJ h v a)::p.box i1 d::p.toks::fs) h1) (St fs)):=KL D (GN D l.length) st hl hd (Nat.le_succ _)
end
end Go.Eng.YtjobofnpmmjeoaaDoor.Pq
