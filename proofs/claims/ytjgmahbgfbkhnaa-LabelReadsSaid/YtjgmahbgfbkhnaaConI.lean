/- Part of a proof of a law: rules of an evaluator, contracts, plain laws. No condition of its own. -/
import Derived.Test.YtjgmahbgfbkhnaaSymA
import Derived.Test.YtjgmahbgfbkhnaaSymJ
import Derived.Test.YtjgmahbgfbkhnaaCodeA
set_option linter.unusedVariables false
set_option linter.unusedSimpArgs false
namespace Go.Eng.Ytjgmahbgfbkhnaa.Pq
open Go.Eng
noncomputable section
variable {c:Ctx}
structure jd (c:Ctx):Prop where
 f15:T.get 15 c.aR=some i15
 f33:T.get 33 c.aR=some i33
 f35:T.get 35 c.aR=some i35
 f55:T.get 55 c.aR=some i55
 f57:T.get 57 c.aR=some i57
 f80:T.get 80 c.aR=some i80
 f82:T.get 82 c.aR=some i82
 f83:T.get 83 c.aR=some i83
 f84:T.get 84 c.aR=some i84
 f85:T.get 85 c.aR=some i85
 f99:T.get 99 c.aR=some i99
 f100:T.get 100 c.aR=some i100
 f101:T.get 101 c.aR=some i101
 f102:T.get 102 c.aR=some i102
 f103:T.get 103 c.aR=some i103
 f104:T.get 104 c.aR=some i104
 f105:T.get 105 c.aR=some i105
 f106:T.get 106 c.aR=some i106
 f107:T.get 107 c.aR=some i107
 f108:T.get 108 c.aR=some i108
 f109:T.get 109 c.aR=some i109
 f111:T.get 111 c.aR=some i111
 f112:T.get 112 c.aR=some i112
 f113:T.get 113 c.aR=some i113
 f114:T.get 114 c.aR=some i114
 f115:T.get 115 c.aR=some i115
theorem Da (D:jd c) {fs:List Fact} {h:Heap} {p:RP} {i d:Nat} {t:Tok} {l:List Tok} (st:St (p.box i d::p.toks::fs) h) (hl:Left p i (t::l)):
 aM c 83 [.ptr p.rb 0] h fun v h1=>v= .agg t.row∧St (p.box i d::p.toks::fs) h1:=by
 refine aM.bX D.f83 rfl (WP.seq (WP.reg (WO.dz st L.alloc (fun b1 h st=> ?_))))
 refine WO.nil (WP.seq (WP.draw (WD.val (v:= .ptr p.rb 0) rfl (WD.val (v:= .ptr p.rb 0) rfl (WD.val (v:= .ptr p.rb 0) (L.aA rfl) (WD.val (v:= .sl p.tb p.to p.ts.length p.cap) (L.aG rfl (st.av 1 rfl) rfl) (WD.val (v:= .ptr p.rb 0) rfl (WD.val (v:= .ptr p.rb 0) rfl (WD.val (v:= .ptr p.rb 1) (L.aA rfl) (WD.val (v:= .int .i64 (i:Int)) (L.aG rfl (st.av 1 rfl) rfl) (WD.val (L.aC rfl rfl hl.get.2) (WD.val (v:= .agg [.int .i64 (t.kind:Int),L.str t.text, .int .i64 (t.at_:Int)]) (L.cO rfl ((st.aB 2 rfl).cO hl.row)) (WD.aI (row':=[.int .i64 (t.kind:Int),L.str t.text, .int .i64 (t.at_:Int)]) st 0 rfl rfl rfl rfl rfl rfl rfl (fun h st=>rfl) (fun h st=> ?_))))))))))))))
 refine WD.nil (WP.ret ?_)
 exact ⟨_,(aj (aY (l:=[.int .i64 (t.kind:Int),L.str t.text, .int .i64 (t.at_:Int)]) rfl (L.bC (st.av 0 rfl) rfl rfl rfl)) (ay _ _)),(rfl),st.tail⟩
theorem is_c (D:jd c) {fs:List Fact} {h:Heap} {p:RP} {i d:Nat} {l:List Tok} {s:List UInt8} (st:St (p.box i d::p.toks::fs) h) (hl:Left p i l):
 aM c 109 [.ptr p.rb 0,L.str s] h fun v h1=>v= .bool (Par.is s l)∧St (p.box i d::p.toks::fs) h1:=by
 obtain ⟨t,l,rfl⟩:=hl.cons
 refine aM.bX D.f109 rfl (WP.seq (WP.reg (WO.ak (v:= .bool false) rfl (WO.nil (WP.seq (WP.reg (WO.aP rfl (Da D st hl) ?_)))))))
 rintro _ h ⟨rfl,st⟩
 refine WO.dz st L.alloc (fun b1 h st=> ?_)
 refine WO.aI (row':=[.int .i64 (t.kind:Int),L.str t.text, .int .i64 (t.at_:Int)]) st 0 rfl rfl rfl rfl rfl rfl rfl (fun h st=> ?_)
 refine WO.nil (WP.seq (WP.reg (WO.val (v:= .ptr b1 1) (L.aA rfl) (WO.val (v:=L.str t.text) (L.aG rfl (st.av 0 rfl) rfl) (WO.ifV (L.seq rfl rfl) (fun c1=> ?_) (fun c1=> ?_))))))
 ·refine WO.yes rfl (WO.val (v:= .ptr b1 0) (L.aA rfl) (WO.yes rfl (WO.val (v:= .int .i64 (t.kind:Int)) (L.aG rfl (st.av 0 rfl) rfl) (WO.yes rfl (WO.ifV (L.eql rfl rfl) (fun c2=> ?_) (fun c2=> ?_))))))
  ·replace c2:t.kind=4:=by omega
   refine WO.yes rfl (WO.val (v:= .bool true) rfl (WO.no rfl (WO.no rfl (WO.no rfl (WO.yes rfl (WO.val (v:= .bool true) rfl (WO.ak (v:= .bool true) rfl (WO.nil (WP.ret ?_)))))))))
   exact ⟨_,(aj (au (v:= .bool true) rfl) (ay _ _)),(by simp [Par.is,Par.hd,one, *]<;>omega),st.tail⟩
  ·replace c2:¬(t.kind=4):=by omega
   refine WO.yes rfl (WO.val (v:= .bool false) rfl (WO.yes rfl (WO.val (v:= .ptr b1 0) (L.aA rfl) (WO.yes rfl (WO.val (v:= .int .i64 (t.kind:Int)) (L.aG rfl (st.av 0 rfl) rfl) (WO.yes rfl (WO.ifV (L.eql rfl rfl) (fun c3=> ?_) (fun c3=> ?_))))))))
   ·replace c3:t.kind=3:=by omega
    refine WO.yes rfl (WO.val (v:= .bool true) rfl (WO.ak (v:= .bool true) rfl (WO.nil (WP.ret ?_))))
    exact ⟨_,(aj (au (v:= .bool true) rfl) (ay _ _)),(by simp [Par.is,Par.hd,one, *]<;>omega),st.tail⟩
   ·replace c3:¬(t.kind=3):=by omega
    refine WO.yes rfl (WO.val (v:= .bool false) rfl (WO.ak (v:= .bool false) rfl (WO.nil (WP.ret ?_))))
    exact ⟨_,(aj (au (v:= .bool false) rfl) (ay _ _)),(by simp [Par.is,Par.hd,one, *]<;>omega),st.tail⟩
 ·refine WO.no rfl (WO.no rfl (WO.no rfl (WO.no rfl (WO.no rfl (WO.no rfl (WO.no rfl (WO.no rfl (WO.ak (v:= .bool false) rfl (WO.nil (WP.ret ?_))))))))))
  exact ⟨_,(aj (au (v:= .bool false) rfl) (ay _ _)),(by simp [Par.is,Par.hd,one, *]<;>omega),st.tail⟩
theorem may_c (D:jd c) {fs:List Fact} {h:Heap} {p:RP} {i d:Nat} {l:List Tok} {s:List UInt8} (st:St (p.box i d::p.toks::fs) h) (hl:Left p i l):
 aM c 85 [.ptr p.rb 0,L.str s] h fun v h1=>(v= .bool true∧Par.is s l=true∧Left p (i+1) l.tail∧St (p.box (i+1) d::p.toks::fs) h1)∨(v= .bool false∧Par.is s l=false∧St (p.box i d::p.toks::fs) h1):=by
 refine aM.bX D.f85 rfl (WP.seq (WP.reg (WO.ak (v:= .bool false) rfl (WO.nil (WP.seq (WP.reg (WO.dB rfl (is_c D st hl) ?_)))))))
 rintro _ h ⟨rfl,st⟩
 cases his:Par.is s l
 ·refine WO.nil (WP.seq (WP.seq (WP.reg (WO.ak (v:= .bool false) rfl (WO.nil (WP.cond (t:=false) rfl (WP.skip (WP.seq (WP.reg (WO.ak (v:= .bool false) rfl (WO.nil (WP.ret ?_))))))))))))
  exact ⟨_,(aj (au (v:= .bool false) rfl) (ay _ _)),Or.inr ⟨rfl,rfl,st⟩⟩
 ·refine WO.nil (WP.seq (WP.seq (WP.reg (WO.ak (v:= .bool true) rfl (WO.nil (WP.cond (t:=true) rfl (WP.reg (WO.val (v:= .ptr p.rb 0) rfl (WO.val (v:= .ptr p.rb 1) (L.aA rfl) (WO.val (v:= .int .i64 (i:Int)) (L.aG rfl (st.av 0 rfl) rfl) (WO.val (v:= .int .i64 ((i+1:Nat):Int)) (L.bP rfl rfl (by omega) (And.intro (by omega) (by have:=hl.lt;have:=hl.small;omega))) (WO.val (v:= .ptr p.rb 0) rfl (WO.val (v:= .ptr p.rb 1) (L.aA rfl) (WO.aI (row':=[.sl p.tb p.to p.ts.length p.cap, .int .i64 ((i+1:Nat):Int), .int .i64 (d:Int)]) st 0 rfl rfl rfl rfl rfl rfl rfl (fun h st=> ?_)))))))))))))))
  refine WO.nil (WP.seq (WP.reg (WO.ak (v:= .bool true) rfl (WO.nil (WP.ret ?_)))))
  exact ⟨_,(aj (au (v:= .bool true) rfl) (ay _ _)),Or.inl ⟨rfl,rfl,hl.is his,st⟩⟩
theorem KU (D:jd c) {fs:List Fact} {h:Heap} {p:RP} {i d:Nat} {l:List Tok} {e:Nat} (st:St (p.box i d::p.toks::fs) h) (hl:Left p i l):
 xw c 107 [.ptr p.rb 0, .int .i64 (e:Int)] h (uK 121 e (Par.here l)) (St fs):=by
 obtain ⟨t,l,rfl⟩:=hl.cons
 refine xw.bX D.f107 rfl (WP.reg (WO.aP rfl (Da D st hl) ?_))
 rintro _ h ⟨rfl,st⟩
 refine WO.val (v:= .int .i64 (t.at_:Int)) rfl (WO.val (v:= .agg [.int .i64 (e:Int), .int .i64 (t.at_:Int)]) (L.build rfl) (WO.val (v:= .ifc 121 (.agg [.int .i64 (e:Int), .int .i64 (t.at_:Int)])) rfl (WO.pan rfl ?_)))
 exact ⟨rfl,st.tail.tail⟩
theorem EW (D:jd c) {fs:List Fact} {h:Heap} {p:RP} {i d:Nat} {l:List Tok} {s:List UInt8} (st:St (p.box i d::p.toks::fs) h) (hl:Left p i l):
 qL c 82 [.ptr p.rb 0,L.str s] h (jT p 121 (Par.must s l) (fun a i v h1=>v= .int .i64 (a:Int)∧St (p.box i d::p.toks::fs) h1) (St fs)):=by
 refine qL.bX D.f82 rfl (WP.seq (WP.reg (WO.ak (v:= .int .i64 0) rfl (WO.nil (WP.seq (WP.reg ?_))))))
 obtain ⟨t,l',rfl⟩:=hl.cons
 refine WO.aP rfl (Da D st hl) ?_
 rintro _ h ⟨rfl,st⟩
 refine WO.ak (v:= .int .i64 (t.at_:Int)) rfl (WO.nil (WP.seq (WP.seq (WP.reg (WO.aP rfl (may_c D st hl) ?_)))))
 rintro _ h (⟨rfl,hi1,hl1,st⟩|⟨rfl,hi1,st⟩)
 ·replace st:St ((p.box (i+1:Nat) d)::p.toks::fs) h:=st
  refine WO.ak (v:= .bool false) rfl (WO.nil (WP.cond (t:=false) rfl (WP.skip (WP.seq (WP.reg (WO.ak (v:= .int .i64 (t.at_:Int)) rfl (WO.nil (WP.ret ?_))))))))
  exact ⟨_,(aj (au (v:= .int .i64 (t.at_:Int)) rfl) (ay _ _)),jT.ok (by simp [Par.must,hi1]<;>rfl) hl1 ⟨rfl,st⟩⟩
 ·replace st:St ((p.box i d)::p.toks::fs) h:=st
  refine WO.ak (v:= .bool true) rfl (WO.nil (WP.cond (t:=true) rfl (WP.reg (WO.Cb rfl (KU D st hl) (fun h st=> ?_)))))
  exact jT.pan (by simp [Par.must,Par.fail,hi1]) st
theorem of_c (D:jd c) {fs:List Fact} {h:Heap} {p:RP} {i d:Nat} {l:List Tok} {k:Nat} (st:St (p.box i d::p.toks::fs) h) (hl:Left p i l) (hk:k≠0):
 qL c 108 [.ptr p.rb 0, .int .i64 (k:Int)] h (jT p 121 (Par.of k l) (fun t i v h1=>v= .agg t.row∧St (p.box i d::p.toks::fs) h1) (St fs)):=by
 obtain ⟨t,l,rfl⟩:=hl.cons
 refine qL.bX D.f108 rfl (WP.seq (WP.reg (WO.dz st L.alloc (fun b1 h st=> ?_))))
 refine WO.nil (WP.seq (WP.reg (WO.aP rfl (Da D ((st.pick 2 rfl).pick 2 rfl) hl) ?_)))
 rintro _ h ⟨rfl,st⟩
 refine WO.dz st L.alloc (fun b2 h st=> ?_)
 refine WO.aI (row':=[.int .i64 (t.kind:Int),L.str t.text, .int .i64 (t.at_:Int)]) st 0 rfl rfl rfl rfl rfl rfl rfl (fun h st=> ?_)
 refine WO.nil (WP.seq (WP.seq (WP.reg (WO.val (v:= .ptr b2 0) (L.aA rfl) (WO.val (v:= .int .i64 (t.kind:Int)) (L.aG rfl (st.av 0 rfl) rfl) (WO.ifS (L.neq rfl rfl) (fun c1=> ?_) (fun c1=> ?_)))))))
 ·replace c1:t.kind≠k:=by omega
  refine WO.nil (WP.cond (t:=true) rfl (WP.reg (WO.Cb rfl (KU D ((st.pick 2 rfl).pick 2 rfl) hl) (fun h st=> ?_))))
  exact jT.pan (by simp [Par.of,Par.fail,Par.hd,c1]) st.tail.tail
 ·replace c1:¬(t.kind≠k):=by omega
  refine WO.nil (WP.cond (t:=false) rfl (WP.skip (WP.seq (WP.reg (WO.val (v:= .ptr p.rb 0) rfl (WO.val (v:= .ptr p.rb 1) (L.aA rfl) (WO.val (v:= .int .i64 (i:Int)) (L.aG rfl (st.av 1 rfl) rfl) (WO.val (v:= .int .i64 ((i+1:Nat):Int)) (L.bP rfl rfl (by omega) (And.intro (by omega) (by have:=hl.lt;have:=hl.small;omega))) (WO.val (v:= .ptr p.rb 0) rfl (WO.val (v:= .ptr p.rb 1) (L.aA rfl) (WO.aI (row':=[.sl p.tb p.to p.ts.length p.cap, .int .i64 ((i+1:Nat):Int), .int .i64 (d:Int)]) st 1 rfl rfl rfl rfl rfl rfl rfl (fun h st=> ?_))))))))))))
  refine WO.nil (WP.seq (WP.reg (WO.val (v:= .agg [.int .i64 (t.kind:Int),L.str t.text, .int .i64 (t.at_:Int)]) (L.aZ rfl (st.av 0 rfl) rfl rfl rfl) (WO.aI (row':=[.int .i64 (t.kind:Int),L.str t.text, .int .i64 (t.at_:Int)]) st 3 rfl rfl rfl rfl rfl rfl rfl (fun h st=> ?_)))))
  refine WO.nil (WP.ret ?_)
  have hk1:t.kind=k:=by omega
  exact ⟨_,(aj (aY (l:=[.int .i64 (t.kind:Int),L.str t.text, .int .i64 (t.at_:Int)]) rfl (L.bC (st.av 3 rfl) rfl rfl rfl)) (ay _ _)),jT.ok (x:=t) (l:=l) (by simp [Par.of,Par.hd,hk1]) (hl.next (by omega)) ⟨rfl,(st.tail.pick 2 rfl).tail⟩⟩
theorem KV (D:jd c) {fs:List Fact} {h:Heap} {p:RP} {i d:Nat} {l:List Tok} (st:St (p.box i d::p.toks::fs) h) (hl:Left p i l):
 qL c 84 [.ptr p.rb 0] h (jT p 121 (Par.name l) (fun a i v h1=>v=L.str a∧St (p.box i d::p.toks::fs) h1) (St fs)):=by
 refine qL.bX D.f84 rfl (WP.seq (WP.reg (WO.ak (v:= .str 0 0) rfl (WO.nil (WP.seq (WP.reg (WO.xu rfl (of_c (k:=1) D st hl (by decide)) (fun e a h hm st=> ?_) ?_)))))))
 ·exact jT.pan (by simp [Par.name,hm]) (st)
 rintro t1 l1 _ h i1 m1 hl1 ⟨rfl,st⟩
 refine WO.ak (v:=L.str t1.text) rfl (WO.nil (WP.ret ?_))
 exact ⟨_,(aj (au (v:=L.str t1.text) rfl) (ay _ _)),jT.ok (by simp [Par.name,m1]<;>rfl) hl1 ⟨rfl,st⟩⟩
end
end Go.Eng.Ytjgmahbgfbkhnaa.Pq
namespace Go.Eng.Ytjgmahbgfbkhnaa.Pq
open Go.Eng
noncomputable section
variable {c:Ctx}
theorem KW (D:jd c) {fs:List Fact} {h:Heap} {p:RP} {i d:Nat} {l:List Tok} (st:St (p.box i d::p.toks::fs) h) (hl:Left p i l):aM c 83 [.ptr p.rb 0] h fun v h1=>v= .agg (Par.hd l).row∧St (p.box i d::p.toks::fs) h1:=by
 obtain ⟨t,l,rfl⟩:=hl.cons
 exact Da D st hl
theorem Db (D:jd c) {fs:List Fact} {h:Heap} {p:RP} {i d:Nat} {l:List Tok} (st:St (p.box i d::p.toks::fs) h) (hl:Left p i l):
 qL c 57 [.ptr p.rb 0] h (jT p 121 (Par.labels l) (fun a i1 v h1=>v.aV=some [v]∧St (.stb (fun h=>Rows 3 h v (a.map Pm.row))::p.box i1 d::p.toks::fs) h1) (St fs)):=by
 refine qL.bX D.f57 rfl (WP.seq (WP.reg (WO.ak (v:= .slN) rfl (WO.nil (WP.seq (WP.reg (WO.xu rfl (EW (s:=[108,97,98,101,108,115]) D st hl) (fun e a h hm st=> ?_) ?_)))))))
 ·exact jT.pan (by simp [Par.labels,hm]) (st)
 rintro a1 l1 _ h i1 m1 hl1 ⟨rfl,st⟩
 refine WO.nil (WP.seq (WP.reg (WO.ak (v:= .slN) rfl (WO.nil (WP.seq (WP.block ?_))))))
 replace st:St (.acc 0 3 .slN (([]:List Pm).map Pm.row)::(p.box i1 d)::p.toks::fs) h:=st.acc0 3
 refine WP.bT (α:=Nat) (fun g env h=>∃ly iy xy fy vy x2 x3 x4 x5 x7 x8 x9,(Par.dA l1.length l1 []=Par.dA g ly xy∧ly.length≤g∧Left p iy ly∧xy.length≤iy)∧env=aO [.ptr p.rb 0, .slN,x2,x3,x4,x5,vy,x7,x8,x9] 0 Env.nil∧St (.acc fy 3 vy (xy.map Pm.row)::(p.box iy d)::p.toks::fs) h) (fun g=>g) l1.length ?_ ?_
 ·exact ⟨l1,i1,[],0, .slN, .bot, .bot, .bot, .bot, .bot, .bot, .bot,⟨rfl,Nat.le_refl _,hl1,Nat.zero_le _⟩,by kernel_rfl,st⟩
 rintro g _ h ⟨ly,iy,xy,fy,vy,x2,x3,x4,x5,x7,x8,x9,⟨ht,hg,hly,hxy⟩,rfl,st⟩
 have hlp2:=List.length_pos_iff.2 hly.ne
 obtain ⟨g,rfl⟩:∃m,g=m+1:=⟨g - 1,by omega⟩
 refine WP.seq (WP.seq (WP.reg (WO.aP rfl (KW D ((st.pick 2 rfl).pick 2 rfl) hly) ?_)))
 rintro _ h ⟨rfl,st⟩
 refine WO.val (v:= .int .i64 ((Par.hd ly).kind:Int)) rfl (WO.ifS (L.neq rfl rfl) (fun c1=> ?_) (fun c1=> ?_))
 ·replace c1:(Par.hd ly).kind≠0:=by omega
  refine WO.nil (WP.cond (t:=true) rfl (WP.skip (WP.block (WP.seq (WP.reg (WO.aP rfl (KW D st hly) ?_))))))
  rintro _ h ⟨rfl,st⟩
  refine WO.val (v:= .int .i64 (Par.here ly:Int)) rfl (WO.xu rfl (KV D st hly) (fun e a h hm st=> ?_) ?_)
  ·exact jT.pan (by simp [Par.labels,Par.dA,hm,m1,ht,c1]) (st.tail)
  rintro a2 l2 _ h i2 m2 hl2 ⟨rfl,st⟩
  refine WO.ak (v:= .int .i64 (Par.here ly:Int)) rfl (WO.ak (v:=L.str a2) rfl (WO.nil (WP.seq (WP.reg (WO.ak (v:= .bool true) rfl (WO.nil (WP.seq (WP.block (WP.bT (α:=Nat) (fun k env h=>∃lz iz ls xz al fz vz x3 x5,(Par.jC l2.length l2 a2 xy true=Par.jC k lz ls xz al∧lz.length≤k∧Left p iz lz∧xz.length<iz∧iy<iz)∧env=aO [.ptr p.rb 0, .slN, .bool true,x3,L.str ls,x5,vz, .bool al,x8, .int .i64 (Par.here ly:Int)] 0 Env.nil∧St (.acc fz 3 vz (xz.map Pm.row)::(p.box iz d)::p.toks::fs) h) (fun k=>k) l2.length ?_ ?_)))))))))
  ·exact ⟨l2,i2,a2,xy,true,fy,vy,x3,x5,⟨rfl,Nat.le_refl _,hl2,(by have _:=hly.len;have _:=hly.lt;have _:=Par.iZ m2;have _:=hl2.len;omega),(by have _:=hly.len;have _:=hly.lt;have _:=Par.iZ m2;have _:=hl2.len;omega)⟩,by kernel_rfl,(st.pick 2 rfl)⟩
  rintro k _ h ⟨lz,iz,ls,xz,al,fz,vz,x3,x5,⟨hs,hk,hlz,hxz,hiz⟩,rfl,st⟩
  have hlp:=List.length_pos_iff.2 hlz.ne
  obtain ⟨k,rfl⟩:∃m,k=m+1:=⟨k - 1,by omega⟩
  refine WP.seq (WP.seq (WP.reg (WO.dB rfl (may_c (s:=[60]) D ((st.pick 2 rfl).pick 2 rfl) hlz) ?_)))
  rintro _ h (⟨rfl,hi3,hl3,st⟩|⟨rfl,hi3,st⟩)
  ·replace st:St ((p.box (iz+1:Nat) d)::p.toks:: .acc fz 3 vz (xz.map Pm.row)::fs) h:=st
   refine WO.nil (WP.cond (t:=true) rfl (WP.skip (WP.block (WP.seq (WP.reg (WO.aP rfl (KW D st hl3) ?_))))))
   rintro _ h ⟨rfl,st⟩
   refine WO.val (v:= .int .i64 (Par.here lz.tail:Int)) rfl (WO.xu rfl (KV D st hl3) (fun e a h hm st=> ?_) ?_)
   ·exact jT.pan (by simp [Par.labels,Par.dA,Par.jC,hm,m1,ht,c1,m2,hs,hi3]) (st.tail)
   rintro a4 l4 _ h i4 m4 hl4 ⟨rfl,st⟩
   refine WO.val (v:= .agg [L.str ls,L.str a4, .int .i64 (Par.here lz.tail:Int)]) (L.build rfl) (WO.dz st L.alloc (fun b1 h st=> ?_))
   refine WO.aI (row':=[L.str ls,L.str a4, .int .i64 (Par.here lz.tail:Int)]) st 0 rfl rfl rfl rfl rfl rfl rfl (fun h st=> ?_)
   refine WO.nil (WP.seq (WP.reg (WO.val (v:= .agg [L.str ls,L.str a4, .int .i64 (Par.here lz.tail:Int)]) (L.aZ rfl (st.av 0 rfl) rfl rfl rfl) (WO.gJ (rows:=[[L.str ls,L.str a4, .int .i64 (Par.here lz.tail:Int)]]) st rfl (by decide) rfl (by simp) (fun bs1 h st=> ?_)))))
   refine WO.gW st 4 rfl rfl rfl (st.aB 0 rfl) (by decide) (by have:=hlz.small;have:=hlz.lt;simp;omega) (fun f5 v5 h st=> ?_)
   rw [show (xz.map Pm.row)++[[L.str ls,L.str a4,V.int .i64 (Par.here lz.tail:Int)]]=(xz++[Pm.mk ls a4 (Par.here lz.tail)]).map Pm.row from by simp [Pm.row]] at st
   obtain ⟨ab5,rfl⟩:=(st.dK 4 rfl).ne (by simp)
   refine WO.nil (WP.reg (WO.val (v:= .ptr b1 1) (L.aA rfl) (WO.ak (v:=L.str a4) (L.aG rfl (st.av 1 rfl) rfl) (WO.ak (v:= .bool false) rfl (WO.nil ?_)))))
   exact ⟨k,(Nat.lt_succ_self _),l4,i4,a4,(xz++[Pm.mk ls a4 (Par.here lz.tail)]),false,f5,(.sl ab5 0 ((xz++[Pm.mk ls a4 (Par.here lz.tail)]).map Pm.row).length none),(.bool true),(.ptr b1 0),⟨by rw [hs];simp [Par.jC,hi3,m4],(by have _:=hly.len;have _:=hly.lt;have _:=hlz.len;have _:=hlz.lt;have _:=Par.tC hi3;have _:=List.length_tail (l:=lz);have _:=hl3.len;have _:=Par.iZ m4;have _:=hl4.len;omega),hl4,(by have _:=hly.len;have _:=hly.lt;have _:=hlz.len;have _:=hlz.lt;have _:=Par.tC hi3;have _:=List.length_tail (l:=lz);have _:=hl3.len;have _:=Par.iZ m4;have _:=hl4.len;simp;omega),(by have _:=hly.len;have _:=hly.lt;have _:=hlz.len;have _:=hlz.lt;have _:=Par.tC hi3;have _:=List.length_tail (l:=lz);have _:=hl3.len;have _:=Par.iZ m4;have _:=hl4.len;omega)⟩,by kernel_rfl,(st.tail.tail.pick 2 rfl)⟩
  ·replace st:St ((p.box iz d)::p.toks:: .acc fz 3 vz (xz.map Pm.row)::fs) h:=st
   refine WO.nil (WP.cond (t:=false) rfl (WP.exit (WP.seq (WP.seq (WP.reg ?_)))))
   cases al
   ·refine WO.ak (v:= .bool false) rfl (WO.nil (WP.cond (t:=false) rfl (WP.skip (WP.reg (WO.xu rfl (EW (s:=[59]) D st hlz) (fun e a h hm st=> ?_) ?_)))))
    ·exact jT.pan (by simp [Par.labels,Par.dA,Par.jC,hm,m1,ht,c1,m2,hs,hi3]) (st.tail)
    rintro a6 l6 _ h i6 m6 hl6 ⟨rfl,st⟩
    refine WO.nil ?_
    exact ⟨g,(Nat.lt_succ_self _),l6,i6,xz,fz,vz,(.bool true),(.bool false),(L.str ls),x5,(.bool false),(.bool false),(.int .i64 (Par.here ly:Int)),⟨by rw [ht];simp [Par.dA,Par.jC,c1,m2,hs,hi3,m6],(by have _:=hly.len;have _:=hly.lt;have _:=hlz.len;have _:=hlz.lt;have _:=Par.iY m6;have _:=hl6.len;omega),hl6,(by have _:=hly.len;have _:=hly.lt;have _:=hlz.len;have _:=hlz.lt;have _:=Par.iY m6;have _:=hl6.len;simp;omega)⟩,by kernel_rfl,(st.pick 2 rfl)⟩
   ·refine WO.ak (v:= .bool true) rfl (WO.nil (WP.cond (t:=true) rfl (WP.reg (WO.val (v:= .agg [L.str ls, .str 0 0, .int .i64 (Par.here ly:Int)]) (L.build rfl) (WO.gJ (rows:=[[L.str ls, .str 0 0, .int .i64 (Par.here ly:Int)]]) st rfl (by decide) rfl (by simp) (fun bs2 h st=> ?_))))))
    refine WO.gW st 3 rfl rfl rfl (st.aB 0 rfl) (by decide) (by have:=hlz.small;have:=hlz.lt;simp;omega) (fun f7 v7 h st=> ?_)
    rw [show (xz.map Pm.row)++[[L.str ls,V.str 0 0,V.int .i64 (Par.here ly:Int)]]=(xz++[Pm.mk ls [] (Par.here ly)]).map Pm.row from by simp [Pm.row];rfl] at st
    obtain ⟨ab7,rfl⟩:=(st.dK 3 rfl).ne (by simp)
    refine WO.nil (WP.reg (WO.xu rfl (EW (s:=[59]) D ((st.pick 2 rfl).pick 2 rfl) hlz) (fun e a h hm st=> ?_) ?_))
    ·exact jT.pan (by simp [Par.labels,Par.dA,Par.jC,hm,m1,ht,c1,m2,hs,hi3]) (st.tail.tail)
    rintro a8 l8 _ h i8 m8 hl8 ⟨rfl,st⟩
    refine WO.nil ?_
    exact ⟨g,(Nat.lt_succ_self _),l8,i8,(xz++[Pm.mk ls [] (Par.here ly)]),f7,(.sl ab7 0 ((xz++[Pm.mk ls [] (Par.here ly)]).map Pm.row).length none),(.bool true),(.bool false),(L.str ls),x5,(.bool true),(.bool true),(.int .i64 (Par.here ly:Int)),⟨by rw [ht];simp [Par.dA,Par.jC,c1,m2,hs,hi3,m8],(by have _:=hly.len;have _:=hly.lt;have _:=hlz.len;have _:=hlz.lt;have _:=Par.iY m8;have _:=hl8.len;omega),hl8,(by have _:=hly.len;have _:=hly.lt;have _:=hlz.len;have _:=hlz.lt;have _:=Par.iY m8;have _:=hl8.len;simp;omega)⟩,by kernel_rfl,((st.pick 2 rfl).tail.pick 2 rfl)⟩
 ·replace c1:(Par.hd ly).kind=0:=by omega
  refine WO.nil (WP.cond (t:=false) rfl (WP.exit (WP.seq (WP.reg (WO.ak (v:=vy) rfl (WO.nil (WP.ret ?_)))))))
  have hac:=(st.dK 2 rfl).cells
  exact ⟨_,(aj (au (v:=vy) rfl) (ay _ _)),jT.ok (x:=xy) (l:=ly) (by simp [Par.labels,Par.dA,Par.jC,m1,ht,c1]) hly ⟨hac,((st.pick 2 rfl)).shut (by decide)⟩⟩
structure uS (c:Ctx):Prop where
 is_:∃fs more,c=Ctx.of fs dF more∧T.get 56 fs=none
 idx:∀{fs:List Fact} {h:Heap} {l:List UInt8} {b:UInt8},St fs h→aM c 116 [L.str l, .int .u8 (b.toNat:Int)] h fun v h1=>v= .int .i64 (Lib.indexByte l b)∧St fs h1
theorem readL_c (D:jd c) (DD:uS c) {fs:List Fact} {h:Heap} {p:RP} (st:St (p.toks::fs) h) (hl:Left p 0 p.ts):
 aM c 56 [.sl p.tb p.to p.ts.length p.cap, .fn 57 [] []] h fun v h1=>match Par.labels p.ts with
  | .ok (m,_)=>∃x,v= .tup [x, .int .i64 0, .int .i64 0]∧x.aV=some [x]∧St (.stb (fun h=>Rows 3 h x (m.map Pm.row))::fs) h1
  | .error (e,a)=>v= .tup [.slN, .int .i64 (e:Int), .int .i64 (a:Int)]∧St fs h1:=by
 obtain ⟨fs_,more,hmore,h0_⟩:=DD.is_
 refine aM.funD hmore (f:=56) (F:=d56) h0_ rfl rfl rfl rfl (WP.reg (WO.dz st L.alloc (fun xb h st=> ?_)))
 refine WO.dz st L.alloc (fun eb h st=> ?_)
 refine WO.dz st L.alloc (fun ab h st=> ?_)
 refine WO.nil ?_
 show WO _ _ _ _ _ _
 refine WO.val (v:= .agg [.sl p.tb p.to p.ts.length p.cap, .int .i64 0, .int .i64 0]) (L.build rfl) (WO.boxF st (L.box (l:=[.sl p.tb p.to p.ts.length p.cap, .int .i64 0, .int .i64 0]) rfl rfl) (fun rb h st=> ?_))
 replace st:St (({p with rb:=rb}:RP).box 0 0::({p with rb:=rb}:RP).toks:: .box ab [.int .i64 0]:: .box eb [.int .i64 0]:: .box xb [.slN]::fs) h:=((st.pick 4 rfl).pick 1 rfl)
 cases hsp:Par.labels p.ts with
 |error x=>
  obtain ⟨e,a⟩:=x
  refine WO.Kc rfl rfl (Db D st (hl.rb_ rb)) (fun e1 a1 h hm st=> ?_) (fun x l v h i hm=>by rw [hsp] at hm;cases hm)
  rw [hsp] at hm;cases hm
  refine QD.pan_ [.ptr xb 0, .ptr eb 0, .ptr ab 0] rfl rfl rfl (WP.block (WP.seq (WP.reg (WO.ak (v:= .bool false) rfl (WO.nil (WP.cond (t:=false) rfl (WP.seq (WP.reg (WO.val (v:= .tup [.agg [.int .i64 (e:Int), .int .i64 (a:Int)], .bool true]) rfl (WO.ak (v:= .bool true) rfl (WO.ak (v:= .agg [.int .i64 (e:Int), .int .i64 (a:Int)]) rfl (WO.nil (WP.cond (t:=true) rfl (WP.seq (WP.reg (WO.dz st L.alloc (fun b1 h st=> ?_)))))))))))))))))
  refine WO.aI (row':=[.int .i64 (e:Int), .int .i64 (a:Int)]) st 0 rfl rfl rfl rfl rfl rfl rfl (fun h st=> ?_)
  refine WO.nil (WP.seq (WP.reg (WO.ak (v:= .slN) rfl (WO.nil (WP.draw (WD.val (v:= .slN) rfl (WD.val (v:= .ptr b1 0) (L.aA rfl) (WD.val (v:= .int .i64 (e:Int)) (L.aG rfl (st.av 0 rfl) rfl) (WD.val (v:= .ptr b1 1) (L.aA rfl) (WD.val (v:= .int .i64 (a:Int)) (L.aG rfl (st.av 0 rfl) rfl) (WD.aI (row':=[.slN]) st 3 rfl rfl rfl rfl rfl rfl rfl (fun h st=>dm (by first|exact aD (L.aG rfl (st.av 0 rfl) rfl)|exact aT st 0 rfl|exact aD (L.aZ rfl (st.av 0 rfl) rfl rfl rfl)|exact aD (L.aG rfl (st.av 1 rfl) rfl)|exact aT st 1 rfl|exact aD (L.aZ rfl (st.av 1 rfl) rfl rfl rfl)|exact aD (L.aG rfl (st.av 2 rfl) rfl)|exact aT st 2 rfl|exact aD (L.aZ rfl (st.av 2 rfl) rfl rfl rfl)|exact aD (L.aG rfl (st.av 3 rfl) rfl)|exact aT st 3 rfl|exact aD (L.aZ rfl (st.av 3 rfl) rfl rfl rfl)) (dm (by first|exact aD (L.aG rfl (st.av 0 rfl) rfl)|exact aT st 0 rfl|exact aD (L.aZ rfl (st.av 0 rfl) rfl rfl rfl)|exact aD (L.aG rfl (st.av 1 rfl) rfl)|exact aT st 1 rfl|exact aD (L.aZ rfl (st.av 1 rfl) rfl rfl rfl)|exact aD (L.aG rfl (st.av 2 rfl) rfl)|exact aT st 2 rfl|exact aD (L.aZ rfl (st.av 2 rfl) rfl rfl rfl)|exact aD (L.aG rfl (st.av 3 rfl) rfl)|exact aT st 3 rfl|exact aD (L.aZ rfl (st.av 3 rfl) rfl rfl rfl)) (gy _ _))) (fun h st=> ?_))))))))))))
  refine WD.aI (row':=[.int .i64 (e:Int)]) st 2 rfl rfl rfl rfl rfl rfl rfl (fun h st=>dm (by first|exact aD (L.aG rfl (st.av 0 rfl) rfl)|exact aT st 0 rfl|exact aD (L.aZ rfl (st.av 0 rfl) rfl rfl rfl)|exact aD (L.aG rfl (st.av 1 rfl) rfl)|exact aT st 1 rfl|exact aD (L.aZ rfl (st.av 1 rfl) rfl rfl rfl)|exact aD (L.aG rfl (st.av 2 rfl) rfl)|exact aT st 2 rfl|exact aD (L.aZ rfl (st.av 2 rfl) rfl rfl rfl)|exact aD (L.aG rfl (st.av 3 rfl) rfl)|exact aT st 3 rfl|exact aD (L.aZ rfl (st.av 3 rfl) rfl rfl rfl)) (gy _ _)) (fun h st=> ?_)
  refine WD.aI (row':=[.int .i64 (a:Int)]) st 1 rfl rfl rfl rfl rfl rfl rfl (fun h st=>rfl) (fun h st=> ?_)
  refine WD.nil ?_
  exact ⟨.inl rfl,_,(aj (kG (v:= .slN) rfl (L.aW (st.av 3 rfl) rfl)) (aj (kG (v:= .int .i64 (e:Int)) rfl (L.aW (st.av 2 rfl) rfl)) (aj (kG (v:= .int .i64 (a:Int)) rfl (L.aW (st.av 1 rfl) rfl)) (ay _ _)))),rfl,st.tail.tail.tail.tail⟩
 |ok x=>
  obtain ⟨m,lx⟩:=x
  refine WO.Kc rfl rfl (Db D st (hl.rb_ rb)) (fun e1 a1 h hm=>by rw [hsp] at hm;cases hm) (fun x l v h i hm=> ?_)
  rw [hsp] at hm;cases hm
  rintro hlx ⟨hcv,st⟩
  refine WO.aI (row':=[v]) st 5 rfl rfl hcv rfl rfl rfl rfl (fun h st=> ?_)
  refine WO.aI (row':=[.int .i64 0]) st 4 rfl rfl rfl rfl rfl rfl rfl (fun h st=> ?_)
  refine WO.aI (row':=[.int .i64 0]) st 3 rfl rfl rfl rfl rfl rfl rfl (fun h st=> ?_)
  refine WO.nil (QD.nrm_ [.ptr xb 0, .ptr eb 0, .ptr ab 0] rfl rfl (WP.block (WP.seq (WP.reg (WO.ak (v:= .bool true) rfl (WO.nil (WP.cond (t:=true) rfl (WP.reg (WO.nil ?_)))))))))
  exact ⟨.inl rfl,_,(aj (kG (v:=v) rfl (L.aW (st.av 5 rfl) rfl)) (aj (kG (v:= .int .i64 0) rfl (L.aW (st.av 4 rfl) rfl)) (aj (kG (v:= .int .i64 0) rfl (L.aW (st.av 3 rfl) rfl)) (ay _ _)))),v,rfl,hcv,(((((st.pick 1 rfl).tail.pick 1 rfl).tail.pick 1 rfl).tail.pick 1 rfl).tail.pick 1 rfl).tail⟩
end
end Go.Eng.Ytjgmahbgfbkhnaa.Pq
namespace Go.Eng.Ytjgmahbgfbkhnaa.Pq
open Go.Eng
noncomputable section
variable {c:Ctx}
theorem Gp (D:jd c) {fs:List Fact} {h:Heap} {b:UInt8} (st:St fs h):
 aM c 101 [.int .u8 (b.toNat:Int)] h fun v h1=>v= .bool (Lex.small b)∧St fs h1:=by
 refine aM.bX D.f101 rfl (WP.seq (WP.reg (WO.ak (v:= .bool false) rfl (WO.nil (WP.seq (WP.reg (WO.ifV (L.geq rfl rfl) (fun c1=> ?_) (fun c1=> ?_))))))))
 ·replace c1:b.toNat≥97:=by omega
  refine WO.yes rfl (WO.val (v:= .int .u8 (b.toNat:Int)) rfl (WO.yes rfl (WO.ifV (L.leq rfl rfl) (fun c2=> ?_) (fun c2=> ?_))))
  ·replace c2:b.toNat≤122:=by omega
   refine WO.ak (v:= .bool true) rfl (WO.nil (WP.ret ?_))
   exact ⟨_,(aj (au (v:= .bool true) rfl) (ay _ _)),(by simp [Lex.small,one, *]<;>omega),st⟩
  ·replace c2:¬(b.toNat≤122):=by omega
   refine WO.ak (v:= .bool false) rfl (WO.nil (WP.ret ?_))
   exact ⟨_,(aj (au (v:= .bool false) rfl) (ay _ _)),(by simp [Lex.small,one, *]<;>omega),st⟩
 ·replace c1:¬(b.toNat≥97):=by omega
  refine WO.no rfl (WO.no rfl (WO.ak (v:= .bool false) rfl (WO.nil (WP.ret ?_))))
  exact ⟨_,(aj (au (v:= .bool false) rfl) (ay _ _)),(by simp [Lex.small,one, *]<;>omega),st⟩
theorem Az (D:jd c) {fs:List Fact} {h:Heap} {b:UInt8} (st:St fs h):
 aM c 104 [.int .u8 (b.toNat:Int)] h fun v h1=>v= .bool (Lex.digit b)∧St fs h1:=by
 refine aM.bX D.f104 rfl (WP.seq (WP.reg (WO.ak (v:= .bool false) rfl (WO.nil (WP.seq (WP.reg (WO.ifV (L.geq rfl rfl) (fun c1=> ?_) (fun c1=> ?_))))))))
 ·replace c1:b.toNat≥48:=by omega
  refine WO.yes rfl (WO.val (v:= .int .u8 (b.toNat:Int)) rfl (WO.yes rfl (WO.ifV (L.leq rfl rfl) (fun c2=> ?_) (fun c2=> ?_))))
  ·replace c2:b.toNat≤57:=by omega
   refine WO.ak (v:= .bool true) rfl (WO.nil (WP.ret ?_))
   exact ⟨_,(aj (au (v:= .bool true) rfl) (ay _ _)),(by simp [Lex.digit,one, *]<;>omega),st⟩
  ·replace c2:¬(b.toNat≤57):=by omega
   refine WO.ak (v:= .bool false) rfl (WO.nil (WP.ret ?_))
   exact ⟨_,(aj (au (v:= .bool false) rfl) (ay _ _)),(by simp [Lex.digit,one, *]<;>omega),st⟩
 ·replace c1:¬(b.toNat≥48):=by omega
  refine WO.no rfl (WO.no rfl (WO.ak (v:= .bool false) rfl (WO.nil (WP.ret ?_))))
  exact ⟨_,(aj (au (v:= .bool false) rfl) (ay _ _)),(by simp [Lex.digit,one, *]<;>omega),st⟩
theorem yg (D:jd c) {fs:List Fact} {h:Heap} {b:UInt8} (st:St fs h):
 aM c 102 [.int .u8 (b.toNat:Int)] h fun v h1=>v= .bool (Lex.within b)∧St fs h1:=by
 refine aM.bX D.f102 rfl (WP.seq (WP.reg (WO.ak (v:= .bool false) rfl (WO.nil (WP.seq (WP.reg (WO.aP rfl (Gp D st) ?_)))))))
 rintro _ h ⟨rfl,st⟩
 cases hb1:Lex.small b
 ·refine WO.yes rfl (WO.val (v:= .int .u8 (b.toNat:Int)) rfl (WO.yes rfl (WO.aP rfl (Az D st) ?_)))
  rintro _ h ⟨rfl,st⟩
  cases hb2:Lex.digit b
  ·refine WO.val (v:= .bool false) rfl (WO.yes rfl (WO.val (v:= .int .u8 (b.toNat:Int)) rfl (WO.yes rfl (WO.ifV (L.eql rfl rfl) (fun c1=> ?_) (fun c1=> ?_)))))
   ·replace c1:b.toNat=95:=by omega
    refine WO.ak (v:= .bool true) rfl (WO.nil (WP.ret ?_))
    exact ⟨_,(aj (au (v:= .bool true) rfl) (ay _ _)),(by simp [Lex.within,one, *]),st⟩
   ·replace c1:¬(b.toNat=95):=by omega
    refine WO.ak (v:= .bool false) rfl (WO.nil (WP.ret ?_))
    exact ⟨_,(aj (au (v:= .bool false) rfl) (ay _ _)),(by simp [Lex.within,one, *]),st⟩
  ·refine WO.val (v:= .bool true) rfl (WO.no rfl (WO.no rfl (WO.ak (v:= .bool true) rfl (WO.nil (WP.ret ?_)))))
   exact ⟨_,(aj (au (v:= .bool true) rfl) (ay _ _)),(by simp [Lex.within,one, *]),st⟩
 ·refine WO.no rfl (WO.no rfl (WO.val (v:= .bool true) rfl (WO.no rfl (WO.no rfl (WO.ak (v:= .bool true) rfl (WO.nil (WP.ret ?_)))))))
  exact ⟨_,(aj (au (v:= .bool true) rfl) (ay _ _)),(by simp [Lex.within,one, *]),st⟩
theorem notnl_c (D:jd c) {fs:List Fact} {h:Heap} {b:UInt8} (st:St fs h):
 aM c 100 [.int .u8 (b.toNat:Int)] h fun v h1=>v= .bool (Lex.fA b)∧St fs h1:=by
 refine aM.bX D.f100 rfl (WP.seq (WP.reg (WO.ak (v:= .bool false) rfl (WO.nil (WP.seq (WP.reg (WO.ifS (L.neq rfl rfl) (fun c1=> ?_) (fun c1=> ?_))))))))
 ·replace c1:b.toNat≠10:=by omega
  refine WO.nil (WP.ret ?_)
  exact ⟨_,(aj (au (v:= .bool true) rfl) (ay _ _)),(by simp [Lex.fA,one, *]),st⟩
 ·replace c1:¬(b.toNat≠10):=by omega
  refine WO.nil (WP.ret ?_)
  exact ⟨_,(aj (au (v:= .bool false) rfl) (ay _ _)),(by simp [Lex.fA,one, *]),st⟩
theorem KX (D:jd c) {isf:UInt8→Bool} {g:Nat} (hone:∀{fs:List Fact} {h:Heap} {b:UInt8},St fs h→aM c g [.int .u8 (b.toNat:Int)] h fun v h1=>v= .bool (isf b)∧St fs h1) {fs:List Fact} {h:Heap} {ab sb pos:Nat} {s:List UInt8} (st:St (.box ab [.int .i64 (pos:Int)]:: .box sb [L.str s]::fs) h) (hp:pos≤s.length) (hs:s.length<4294967296):
 aM c 99 [.fn g [] [], .ptr ab 0, .ptr sb 0] h fun v h1=>v=L.str ((s.drop pos).takeWhile isf)∧St (.box ab [.int .i64 ((pos+((s.drop pos).takeWhile isf).length:Nat):Int)]:: .box sb [L.str s]::fs) h1:=by
 refine aM.bX D.f99 rfl (WP.seq (WP.reg (WO.ak (v:= .str 0 0) rfl (WO.nil (WP.seq (WP.reg (WO.ak (v:= .int .i64 (pos:Int)) (L.aG rfl (st.av 0 rfl) rfl) (WO.nil (WP.seq (WP.block (WP.bT (α:=Nat) (fun k env h=>∃x4,(pos+k≤s.length∧(s.drop pos).takeWhile isf=(s.drop pos).take k++(s.drop (pos+k)).takeWhile isf)∧env=aO [.fn g [] [], .ptr ab 0, .ptr sb 0, .str 0 0,x4, .int .i64 (pos:Int)] 0 Env.nil∧St (.box ab [.int .i64 ((pos+k:Nat):Int)]:: .box sb [L.str s]::fs) h) (fun k=>s.length - (pos+k)) 0 ?_ ?_)))))))))))
 ·exact ⟨.bot,⟨hp,by simp⟩,by kernel_rfl,st⟩
 rintro k _ h ⟨x4,⟨hk1,hk2⟩,rfl,st⟩
 refine WP.seq (WP.seq (WP.reg (WO.val (v:= .int .i64 ((pos+k:Nat):Int)) (L.aG rfl (st.av 0 rfl) rfl) (WO.val (v:=L.str s) (L.aG rfl (st.av 1 rfl) rfl) (WO.val (v:= .int .i64 (s.length:Int)) (L.jo rfl) (WO.ifV (L.lss rfl rfl) (fun c1=> ?_) (fun c1=> ?_)))))))
 ·replace c1:(pos+k)<s.length:=by omega
  refine WO.yes rfl (WO.val (v:= .fn g [] []) rfl (WO.yes rfl (WO.val (v:=L.str s) (L.aG rfl (st.av 1 rfl) rfl) (WO.yes rfl (WO.val (v:= .int .i64 ((pos+k:Nat):Int)) (L.aG rfl (st.av 0 rfl) rfl) (WO.yes rfl ?_))))))
  obtain ⟨b,hb⟩:∃b,s[pos+k]? =some b:=⟨_,List.getElem?_eq_getElem c1⟩
  refine WO.val (v:= .int .u8 (b.toNat:Int)) (L.o5 rfl rfl hb) (WO.yes rfl (WO.kS rfl rfl (hone st) ?_))
  rintro _ h ⟨rfl,st⟩
  cases hb1:isf b
  ·refine WO.ak (v:= .bool false) rfl (WO.nil (WP.cond (t:=false) rfl (WP.exit (WP.seq (WP.reg (WO.val (v:=L.str s) (L.aG rfl (st.av 1 rfl) rfl) (WO.val (v:= .int .i64 ((pos+k:Nat):Int)) (L.aG rfl (st.av 0 rfl) rfl) (WO.ak (v:=L.str ((s.drop pos).take (pos+k - pos))) (L.Ef rfl rfl rfl (by omega) (by omega)) (WO.nil (WP.ret ?_))))))))))
   have hz:(s.drop (pos+k)).takeWhile isf=[]:=jc hb hb1
   have htw:(s.drop pos).takeWhile isf=(s.drop pos).take k:=by rw [hk2,hz,List.append_nil]
   have hkl:((s.drop pos).takeWhile isf).length=k:=by rw [htw];simp;omega
   rw [hkl,htw]
   exact ⟨_,(aj (au (v:=L.str ((s.drop pos).take (pos+k - pos))) rfl) (ay _ _)),(by rw [show pos+k - pos=k by omega];rfl),st⟩
  ·refine WO.ak (v:= .bool true) rfl (WO.nil (WP.cond (t:=true) rfl (WP.skip (WP.block (WP.reg (WO.val (v:= .int .i64 ((pos+k:Nat):Int)) (L.aG rfl (st.av 0 rfl) rfl) (WO.val (v:= .int .i64 ((pos+(k+1):Nat):Int)) (L.bP rfl rfl (by omega) (And.intro (by omega) (by omega))) (WO.aI (row':=[.int .i64 ((pos+(k+1):Nat):Int)]) st 0 rfl rfl rfl rfl rfl rfl rfl (fun h st=> ?_)))))))))
   refine WO.nil ?_
   have hnx:(s.drop pos).takeWhile isf=(s.drop pos).take (k+1)++(s.drop (pos+(k+1))).takeWhile isf:=by
    rw [hk2,eF hb hb1,List.take_add_one,List.getElem?_drop,hb];simp [Nat.add_assoc]
   exact ⟨k+1,(by omega),(.bool true),⟨by omega,hnx⟩,by kernel_rfl,st⟩
 ·replace c1:¬((pos+k)<s.length):=by omega
  refine WO.no rfl (WO.no rfl (WO.no rfl (WO.no rfl (WO.no rfl (WO.ak (v:= .bool false) rfl (WO.nil (WP.cond (t:=false) rfl (WP.exit (WP.seq (WP.reg (WO.val (v:=L.str s) (L.aG rfl (st.av 1 rfl) rfl) (WO.val (v:= .int .i64 ((pos+k:Nat):Int)) (L.aG rfl (st.av 0 rfl) rfl) (WO.ak (v:=L.str ((s.drop pos).take (pos+k - pos))) (L.Ef rfl rfl rfl (by omega) (by omega)) (WO.nil (WP.ret ?_)))))))))))))))
  have hz:(s.drop (pos+k)).takeWhile isf=[]:=(by rw [List.drop_of_length_le (by omega)];rfl)
  have htw:(s.drop pos).takeWhile isf=(s.drop pos).take k:=by rw [hk2,hz,List.append_nil]
  have hkl:((s.drop pos).takeWhile isf).length=k:=by rw [htw];simp;omega
  rw [hkl,htw]
  exact ⟨_,(aj (au (v:=L.str ((s.drop pos).take (pos+k - pos))) rfl) (ay _ _)),(by rw [show pos+k - pos=k by omega];rfl),st⟩
theorem Am (D:jd c) {fs:List Fact} {h:Heap} {b o:Nat} {cap:Option Nat} {ss:List (List UInt8)} {x:List UInt8} (st:St (.stb (fun h=>Rows 1 h (.sl b o ss.length cap) (ss.map qU))::fs) h) (hsm:ss.length<4294967296):
 aM c 35 [.sl b o ss.length cap,L.str x] h fun v h1=>((∃k:Nat,v= .int .i64 (k:Int)∧ss[k]? =some x∧∀j y,ss[j]? =some y→j<k→y≠x)∨(v= .int .i64 (-1)∧∀y∈ss,y≠x))∧St fs h1:=by
 refine aM.bX D.f35 rfl (WP.seq (WP.reg (WO.ak (v:= .int .i64 0) rfl (WO.nil (WP.seq (WP.seq (WP.reg (WO.ak (v:= .int .i64 (ss.length:Int)) (L.llen rfl) (WO.ak (v:= .int .i64 0) rfl (WO.nil (WP.block (WP.bT (α:=Nat) (fun k env h=>∃x2 x5 x6 x7,(k≤ss.length∧∀j y,ss[j]? =some y→j<k→y≠x)∧env=aO [.sl b o ss.length cap,L.str x,x2, .int .i64 (k:Int), .int .i64 (ss.length:Int),x5,x6,x7] 0 Env.nil∧St (.stb (fun h=>Rows 1 h (.sl b o ss.length cap) (ss.map qU))::fs) h) (fun k=>ss.length - k) 0 ?_ ?_))))))))))))
 ·exact ⟨(.int .i64 0), .bot, .bot, .bot,⟨Nat.zero_le _,fun _ _ _ h=>absurd h (Nat.not_lt_zero _)⟩,by kernel_rfl,st⟩
 rintro k _ h ⟨x2,x5,x6,x7,⟨hk,hno⟩,rfl,st⟩
 refine WP.seq (WP.reg (WO.ifS (L.lss rfl rfl) (fun c1=> ?_) (fun c1=> ?_)))
 ·replace c1:k<ss.length:=by omega
  refine WO.nil (WP.seq (WP.cond (t:=true) rfl (WP.skip (WP.seq (WP.block (WP.seq (WP.reg (WO.ak (v:= .int .i64 (k:Int)) rfl (WO.nil (WP.seq (WP.reg ?_)))))))))))
  obtain ⟨y,ho⟩:∃y,ss[k]? =some y:=⟨_,List.getElem?_eq_getElem c1⟩
  refine WO.val (L.aC rfl rfl c1) (WO.val (v:=L.str y) (L.load rfl ((st.aB 0 rfl).bE (by rw [List.getElem?_map,ho];rfl))) ?_)
  refine WO.ifS (L.seq rfl rfl) (fun c2=> ?_) (fun c2=> ?_)
  ·refine WO.nil (WP.cond (t:=true) rfl (WP.seq (WP.reg (WO.ak (v:= .int .i64 (k:Int)) rfl (WO.nil (WP.ret ?_))))))
   exact ⟨_,(aj (au (v:= .int .i64 (k:Int)) rfl) (ay _ _)),Or.inl ⟨k,rfl,by rw [ho,c2],hno⟩,st.tail⟩
  ·refine WO.nil (WP.cond (t:=false) rfl (WP.skip (WP.reg (WO.ak (v:= .int .i64 ((k+1:Nat):Int)) (L.bP rfl rfl (by omega) (And.intro (by omega) (by omega))) (WO.nil ?_)))))
   have hno':∀j y,ss[j]? =some y→j<k+1→y≠x:=by
    intro j y hj hlt
    rcases Nat.lt_succ_iff_lt_or_eq.1 hlt with hlt|rfl
    ·exact hno j y hj hlt
    ·rw [ho] at hj;cases hj;exact fun e=>c2 e.symm
   exact ⟨k+1,(by omega),x2,(.bool true),(.int .i64 (k:Int)),(.bool false),⟨by omega,hno'⟩,by kernel_rfl,st⟩
 ·replace c1:¬(k<ss.length):=by omega
  refine WO.nil (WP.seq (WP.cond (t:=false) rfl (WP.exit (WP.seq (WP.reg (WO.ak (v:= .int .i64 (-1)) rfl (WO.nil (WP.ret (⟨_,(aj (au (v:= .int .i64 (-1)) rfl) (ay _ _)),Or.inr ⟨rfl,fun y hy=> ?_⟩,st.tail⟩)))))))))
  obtain ⟨j,hj⟩:=List.mem_iff_getElem?.1 hy
  exact hno j y hj (by have:=(List.getElem?_eq_some_iff.1 hj).1;omega)
theorem EX (D:jd c) {fs:List Fact} {h:Heap} {b o:Nat} {cap:Option Nat} {ss:List (List UInt8)} {x:List UInt8} (st:St (.stb (fun h=>Rows 1 h (.sl b o ss.length cap) (ss.map qU))::fs) h) (hsm:ss.length<4294967296):
 aM c 114 [.sl b o ss.length cap,L.str x] h fun v h1=>v= .bool (decide (x∈ss))∧St fs h1:=by
 refine aM.bX D.f114 rfl (WP.seq (WP.reg (WO.ak (v:= .bool false) rfl (WO.nil (WP.seq (WP.reg (WO.aP rfl (Am D st hsm) ?_)))))))
 rintro _ h ⟨(⟨k,rfl,hk,hno⟩|⟨rfl,hno⟩),st⟩
 ·replace st:St fs h:=st
  refine WO.ifS (L.geq rfl rfl) (fun c1=> ?_) (fun c1=>by exfalso;omega)
  refine WO.nil (WP.ret ?_)
  exact ⟨_,(aj (au (v:= .bool true) rfl) (ay _ _)),(by simp [one];exact List.mem_of_getElem? hk),st⟩
 ·replace st:St fs h:=st
  refine WO.ifS (L.geq rfl rfl) (fun c1=>by exfalso;omega) (fun c1=> ?_)
  refine WO.nil (WP.ret ?_)
  exact ⟨_,(aj (au (v:= .bool false) rfl) (ay _ _)),(by simp [one];exact fun hm=>hno x hm rfl),st⟩
theorem key_c (D:jd c) {fs:List Fact} {h:Heap} {x:List UInt8} (st:St fs h):
 aM c 111 [L.str x] h fun v h1=>v= .bool (decide (x∈Lex.keys))∧St fs h1:=by
 refine aM.bX D.f111 rfl (WP.seq (WP.reg (WO.ak (v:= .bool false) rfl (WO.nil (WP.seq (WP.reg (WO.gJ (rows:=Lex.keys.map qU) st rfl (by decide) rfl (by intro row hm;simp at hm;obtain ⟨a,_,rfl⟩:=hm;rfl) (fun kb h st=> ?_))))))))
 refine WO.dB rfl (EX (ss:=Lex.keys) D st (by decide)) ?_
 rintro _ h ⟨rfl,st⟩
 refine WO.nil (WP.ret ?_)
 exact ⟨_,(aj (au (v:= .bool (decide (x∈Lex.keys))) rfl) (ay _ _)),rfl,st⟩
theorem AA (D:jd c) {fs:List Fact} {h:Heap} {l p:List UInt8} (st:St fs h):
 aM c 115 [L.str l,L.str p] h fun v h1=>v= .bool (Lex.iO p l)∧St fs h1:=by
 refine aM.bX D.f115 rfl (WP.seq (WP.reg (WO.ak (v:= .bool false) rfl (WO.nil (WP.seq (WP.reg (WO.val (v:= .int .i64 (l.length:Int)) (L.jo rfl) (WO.val (v:= .int .i64 (p.length:Int)) (L.jo rfl) (WO.ifV (L.geq rfl rfl) (fun c1=> ?_) (fun c1=> ?_))))))))))
 ·replace c1:l.length≥p.length:=by omega
  refine WO.yes rfl (WO.val (v:=L.str l) rfl (WO.yes rfl (WO.val (v:=L.str p) rfl (WO.yes rfl (WO.val (v:= .int .i64 (p.length:Int)) (L.jo rfl) (WO.yes rfl (WO.val (v:=L.str ((l.drop 0).take (p.length - 0))) (L.Ef rfl rfl rfl (by omega) (by omega)) (WO.yes rfl (WO.val (v:=L.str p) rfl (WO.yes rfl (WO.ifV (L.seq rfl rfl) (fun c2=> ?_) (fun c2=> ?_))))))))))))
  ·refine WO.ak (v:= .bool true) rfl (WO.nil (WP.ret ?_))
   exact ⟨_,(aj (au (v:= .bool true) rfl) (ay _ _)),(by simp at c2;simp [Lex.iO,one, *]),st⟩
  ·refine WO.ak (v:= .bool false) rfl (WO.nil (WP.ret ?_))
   exact ⟨_,(aj (au (v:= .bool false) rfl) (ay _ _)),(by simp at c2;simp [Lex.iO,one, *]),st⟩
 ·replace c1:¬(l.length≥p.length):=by omega
  refine WO.no rfl (WO.no rfl (WO.no rfl (WO.no rfl (WO.no rfl (WO.no rfl (WO.ak (v:= .bool false) rfl (WO.nil (WP.ret ?_))))))))
  exact ⟨_,(aj (au (v:= .bool false) rfl) (ay _ _)),(by simp [Lex.iO,one, *]),st⟩
theorem Dc (D:jd c) {fs:List Fact} {h:Heap} {l p:List UInt8} (st:St fs h):
 aM c 112 [L.str l,L.str p] h fun v h1=>v= .bool (Lex.iO p l)∧St fs h1:=by
 refine aM.bX D.f112 rfl (WP.seq (WP.reg (WO.ak (v:= .bool false) rfl (WO.nil (WP.seq (WP.reg (WO.dB rfl (AA D st) ?_)))))))
 rintro _ h ⟨rfl,st⟩
 refine WO.nil (WP.ret ?_)
 exact ⟨_,(aj (au (v:= .bool (Lex.iO p l)) rfl) (ay _ _)),rfl,st⟩
theorem Df (D:jd c) (DD:uS c) {fs:List Fact} {h:Heap} {l:List UInt8} {b:UInt8} (st:St fs h):
 aM c 113 [L.str l, .int .u8 (b.toNat:Int)] h fun v h1=>v= .int .i64 (Lib.indexByte l b)∧St fs h1:=by
 refine aM.bX D.f113 rfl (WP.seq (WP.reg (WO.ak (v:= .int .i64 0) rfl (WO.nil (WP.seq (WP.reg (WO.dB rfl (DD.idx st) ?_)))))))
 rintro _ h ⟨rfl,st⟩
 refine WO.nil (WP.ret ?_)
 exact ⟨_,(aj (au (v:= .int .i64 (Lib.indexByte l b)) rfl) (ay _ _)),rfl,st⟩
theorem word_c (D:jd c) {fs:List Fact} {h:Heap} {w:List UInt8} (st:St fs h):
 aM c 103 [L.str w] h fun v h1=>v= .tup [.int .i64 ((Lex.word w).1:Int), .int .i64 ((Lex.word w).2:Int)]∧St fs h1:=by
 refine aM.bX D.f103 rfl (WP.seq (WP.reg (WO.ak (v:= .int .i64 0) rfl (WO.ak (v:= .int .i64 0) rfl (WO.nil (WP.seq (WP.block (WP.seq (WP.reg (WO.dB rfl (key_c D st) ?_))))))))))
 rintro _ h ⟨rfl,st⟩
 cases hb1:decide (w∈Lex.keys)
 ·refine WO.nil (WP.cond (t:=false) rfl (WP.seq (WP.reg (WO.val (v:= .int .i64 (w.length:Int)) (L.jo rfl) (WO.ifS (L.gtr rfl rfl) (fun c1=> ?_) (fun c1=> ?_))))))
  ·replace c1:w.length>20:=by omega
   refine WO.nil (WP.cond (t:=true) rfl (WP.seq (WP.reg (WO.ak (v:= .int .i64 0) rfl (WO.ak (v:= .int .i64 9) rfl (WO.nil (WP.ret ?_)))))))
   have hk:w∉Lex.keys:=by simpa using hb1
   exact ⟨_,(aj (au (v:= .int .i64 0) rfl) (aj (au (v:= .int .i64 9) rfl) (ay _ _))),(by simp [Lex.word,one,hk,c1]),st⟩
  ·replace c1:¬(w.length>20):=by omega
   refine WO.nil (WP.cond (t:=false) rfl (WP.skip (WP.seq (WP.reg (WO.ak (v:= .int .i64 1) rfl (WO.ak (v:= .int .i64 0) rfl (WO.nil (WP.ret ?_))))))))
   have hk:w∉Lex.keys:=by simpa using hb1
   exact ⟨_,(aj (au (v:= .int .i64 1) rfl) (aj (au (v:= .int .i64 0) rfl) (ay _ _))),(by simp [Lex.word,one,hk,c1]),st⟩
 ·refine WO.nil (WP.cond (t:=true) rfl (WP.seq (WP.reg (WO.ak (v:= .int .i64 3) rfl (WO.ak (v:= .int .i64 0) rfl (WO.nil (WP.ret ?_)))))))
  have hk:w∈Lex.keys:=by simpa using hb1
  exact ⟨_,(aj (au (v:= .int .i64 3) rfl) (aj (au (v:= .int .i64 0) rfl) (ay _ _))),(by simp [Lex.word,one,hk,hk]),st⟩
theorem lnum_c (D:jd c) {fs:List Fact} {h:Heap} {w f:List UInt8} {b0:UInt8} (st:St fs h) (hw0:w.head? =some b0):
 aM c 105 [L.str w,L.str f] h fun v h1=>v= .tup [.int .i64 ((Lex.number w f).1:Int), .int .i64 ((Lex.number w f).2:Int)]∧St fs h1:=by
 have hb0:w[0]? =some b0:=by rw [←hw0,List.head?_eq_getElem?]
 refine aM.bX D.f105 rfl (WP.seq (WP.reg (WO.ak (v:= .int .i64 0) rfl (WO.ak (v:= .int .i64 0) rfl (WO.nil (WP.seq (WP.block (WP.seq (WP.reg (WO.val (v:= .int .i64 (w.length:Int)) (L.jo rfl) (WO.ifS (L.gtr rfl rfl) (fun c1=> ?_) (fun c1=> ?_))))))))))))
 ·replace c1:w.length>9:=by omega
  refine WO.nil (WP.cond (t:=true) rfl (WP.seq (WP.reg (WO.ak (v:= .int .i64 0) rfl (WO.ak (v:= .int .i64 9) rfl (WO.nil (WP.ret ?_)))))))
  have e48:(b0=48)↔b0.toNat=48:=⟨fun h=>by rw [h];rfl,fun h=>UInt8.toNat_inj.1 h⟩
  exact ⟨_,(aj (au (v:= .int .i64 0) rfl) (aj (au (v:= .int .i64 9) rfl) (ay _ _))),(by simp [Lex.number,one,hw0,e48,c1]<;>omega),st⟩
 ·replace c1:¬(w.length>9):=by omega
  refine WO.nil (WP.cond (t:=false) rfl (WP.seq (WP.seq (WP.reg (WO.val (v:= .int .u8 (b0.toNat:Int)) (L.o5 rfl rfl hb0) (WO.ifV (L.eql rfl rfl) (fun c2=> ?_) (fun c2=> ?_)))))))
  ·replace c2:b0.toNat=48:=by omega
   refine WO.yes rfl (WO.val (v:=L.str w) rfl (WO.yes rfl (WO.val (v:= .int .i64 (w.length:Int)) (L.jo rfl) (WO.yes rfl (WO.ifV (L.gtr rfl rfl) (fun c3=> ?_) (fun c3=> ?_))))))
   ·replace c3:w.length>1:=by omega
    refine WO.ak (v:= .bool true) rfl (WO.nil (WP.cond (t:=true) rfl (WP.skip (WP.cond (t:=true) rfl (WP.seq (WP.reg (WO.ak (v:= .int .i64 0) rfl (WO.ak (v:= .int .i64 10) rfl (WO.nil (WP.ret ?_))))))))))
    have e48:(b0=48)↔b0.toNat=48:=⟨fun h=>by rw [h];rfl,fun h=>UInt8.toNat_inj.1 h⟩
    exact ⟨_,(aj (au (v:= .int .i64 0) rfl) (aj (au (v:= .int .i64 10) rfl) (ay _ _))),(by simp [Lex.number,one,hw0,e48,c1,c2,c3]<;>omega),st⟩
   ·replace c3:¬(w.length>1):=by omega
    refine WO.ak (v:= .bool false) rfl (WO.nil (WP.cond (t:=false) rfl (WP.reg (WO.ifV (L.sne (m:=[]) rfl rfl) (fun c4=> ?_) (fun c4=> ?_)))))
    ·refine WO.yes rfl (WO.val (v:=L.str f) rfl (WO.yes rfl ?_))
     obtain ⟨d0,fr,hf⟩:∃d0 fr,f=d0::fr:=List.exists_cons_of_ne_nil c4
     refine WO.val (v:= .int .u8 (d0.toNat:Int)) (L.o5 (b:=d0) rfl rfl (by rw [hf];rfl)) (WO.yes rfl (WO.aP rfl (yg D st) ?_))
     rintro _ h ⟨rfl,st⟩
     cases hb1:Lex.within d0
     ·refine WO.ak (v:= .bool false) rfl (WO.nil (WP.cond (t:=false) rfl (WP.skip (WP.seq (WP.reg (WO.ak (v:= .int .i64 2) rfl (WO.ak (v:= .int .i64 0) rfl (WO.nil (WP.ret ?_)))))))))
      have e48:(b0=48)↔b0.toNat=48:=⟨fun h=>by rw [h];rfl,fun h=>UInt8.toNat_inj.1 h⟩
      exact ⟨_,(aj (au (v:= .int .i64 2) rfl) (aj (au (v:= .int .i64 0) rfl) (ay _ _))),(by simp [Lex.number,one,hw0,e48,c1,c2,c3,c4,hb1,hf]<;>omega),st⟩
     ·refine WO.ak (v:= .bool true) rfl (WO.nil (WP.cond (t:=true) rfl (WP.seq (WP.reg (WO.ak (v:= .int .i64 0) rfl (WO.ak (v:= .int .i64 10) rfl (WO.nil (WP.ret ?_))))))))
      have e48:(b0=48)↔b0.toNat=48:=⟨fun h=>by rw [h];rfl,fun h=>UInt8.toNat_inj.1 h⟩
      exact ⟨_,(aj (au (v:= .int .i64 0) rfl) (aj (au (v:= .int .i64 10) rfl) (ay _ _))),(by simp [Lex.number,one,hw0,e48,c1,c2,c3,c4,hb1,hf]<;>omega),st⟩
    ·refine WO.no rfl (WO.no rfl (WO.no rfl (WO.ak (v:= .bool false) rfl (WO.nil (WP.cond (t:=false) rfl (WP.skip (WP.seq (WP.reg (WO.ak (v:= .int .i64 2) rfl (WO.ak (v:= .int .i64 0) rfl (WO.nil (WP.ret ?_))))))))))))
     have hf:f=[]:=by simpa using c4
     have e48:(b0=48)↔b0.toNat=48:=⟨fun h=>by rw [h];rfl,fun h=>UInt8.toNat_inj.1 h⟩
     exact ⟨_,(aj (au (v:= .int .i64 2) rfl) (aj (au (v:= .int .i64 0) rfl) (ay _ _))),(by simp [Lex.number,one,hw0,e48,c1,c2,c3,c4,hf]<;>omega),st⟩
  ·replace c2:¬(b0.toNat=48):=by omega
   refine WO.no rfl (WO.no rfl (WO.no rfl (WO.ak (v:= .bool false) rfl (WO.nil (WP.cond (t:=false) rfl (WP.reg (WO.ifV (L.sne (m:=[]) rfl rfl) (fun c5=> ?_) (fun c5=> ?_))))))))
   ·refine WO.yes rfl (WO.val (v:=L.str f) rfl (WO.yes rfl ?_))
    obtain ⟨d0,fr,hf⟩:∃d0 fr,f=d0::fr:=List.exists_cons_of_ne_nil c5
    refine WO.val (v:= .int .u8 (d0.toNat:Int)) (L.o5 (b:=d0) rfl rfl (by rw [hf];rfl)) (WO.yes rfl (WO.aP rfl (yg D st) ?_))
    rintro _ h ⟨rfl,st⟩
    cases hb2:Lex.within d0
    ·refine WO.ak (v:= .bool false) rfl (WO.nil (WP.cond (t:=false) rfl (WP.skip (WP.seq (WP.reg (WO.ak (v:= .int .i64 2) rfl (WO.ak (v:= .int .i64 0) rfl (WO.nil (WP.ret ?_)))))))))
     have e48:(b0=48)↔b0.toNat=48:=⟨fun h=>by rw [h];rfl,fun h=>UInt8.toNat_inj.1 h⟩
     exact ⟨_,(aj (au (v:= .int .i64 2) rfl) (aj (au (v:= .int .i64 0) rfl) (ay _ _))),(by simp [Lex.number,one,hw0,e48,c1,c2,c5,hb2,hf]<;>omega),st⟩
    ·refine WO.ak (v:= .bool true) rfl (WO.nil (WP.cond (t:=true) rfl (WP.seq (WP.reg (WO.ak (v:= .int .i64 0) rfl (WO.ak (v:= .int .i64 10) rfl (WO.nil (WP.ret ?_))))))))
     have e48:(b0=48)↔b0.toNat=48:=⟨fun h=>by rw [h];rfl,fun h=>UInt8.toNat_inj.1 h⟩
     exact ⟨_,(aj (au (v:= .int .i64 0) rfl) (aj (au (v:= .int .i64 10) rfl) (ay _ _))),(by simp [Lex.number,one,hw0,e48,c1,c2,c5,hb2,hf]<;>omega),st⟩
   ·refine WO.no rfl (WO.no rfl (WO.no rfl (WO.ak (v:= .bool false) rfl (WO.nil (WP.cond (t:=false) rfl (WP.skip (WP.seq (WP.reg (WO.ak (v:= .int .i64 2) rfl (WO.ak (v:= .int .i64 0) rfl (WO.nil (WP.ret ?_))))))))))))
    have hf:f=[]:=by simpa using c5
    have e48:(b0=48)↔b0.toNat=48:=⟨fun h=>by rw [h];rfl,fun h=>UInt8.toNat_inj.1 h⟩
    exact ⟨_,(aj (au (v:= .int .i64 2) rfl) (aj (au (v:= .int .i64 0) rfl) (ay _ _))),(by simp [Lex.number,one,hw0,e48,c1,c2,c5,hf]<;>omega),st⟩
theorem sign_c (D:jd c) (DD:uS c) {fs:List Fact} {h:Heap} {l:List UInt8} (st:St fs h):
 aM c 106 [L.str l] h fun v h1=>v=L.str (Lex.sign l)∧St fs h1:=by
 refine aM.bX D.f106 rfl (WP.seq (WP.reg (WO.ak (v:= .str 0 0) rfl (WO.nil (WP.seq (WP.seq (WP.reg (WO.bslFS (rows:=Lex.jP.map qU) st rfl (by decide) rfl (by intro row hm;simp at hm;obtain ⟨a,_,rfl⟩:=hm;rfl) (fun kb h st=> ?_)))))))))
 refine WO.ak (v:= .int .i64 3) (L.llen rfl) (WO.ak (v:= .int .i64 0) rfl (WO.nil (WP.block (WP.bT (α:=Nat) (fun k env h=>∃x1 x4 x6 x7,(k≤3∧∀j y,Lex.jP[j]? =some y→j<k→Lex.iO y l=false)∧env=aO [L.str l,x1, .int .i64 (k:Int), .int .i64 3,x4, .sl kb 0 3 (some 3),x6,x7] 0 Env.nil∧St (.stb (fun h=>Rows 1 h (.sl kb 0 3 (some 3)) (Lex.jP.map qU))::fs) h) (fun k=>3 - k) 0 ?_ ?_))))
 ·exact ⟨(.str 0 0), .bot, .bot, .bot,⟨Nat.zero_le _,fun _ _ _ h=>absurd h (Nat.not_lt_zero _)⟩,by kernel_rfl,st⟩
 rintro k _ h ⟨x1,x4,x6,x7,⟨hk,hno⟩,rfl,st⟩
 refine WP.seq (WP.reg (WO.ifS (L.lss rfl rfl) (fun c1=> ?_) (fun c1=> ?_)))
 ·replace c1:k<3:=by omega
  refine WO.nil (WP.seq (WP.cond (t:=true) rfl (WP.skip (WP.seq (WP.block (WP.seq (WP.reg ?_)))))))
  obtain ⟨y,ho⟩:∃y,Lex.jP[k]? =some y:=⟨_,List.getElem?_eq_getElem c1⟩
  refine WO.val (L.aC rfl rfl c1) (WO.ak (v:=L.str y) (L.load rfl ((st.aB 0 rfl).bE (by rw [List.getElem?_map,ho];rfl))) ?_)
  refine WO.nil (WP.seq (WP.reg (WO.dB rfl (Dc D st) ?_)))
  rintro _ h ⟨rfl,st⟩
  cases hb1:Lex.iO y l
  ·refine WO.nil (WP.cond (t:=false) rfl (WP.skip (WP.reg (WO.ak (v:= .int .i64 ((k+1:Nat):Int)) (L.bP rfl rfl (by omega) (And.intro (by omega) (by omega))) (WO.nil ?_)))))
   have hno':∀j y,Lex.jP[j]? =some y→j<k+1→Lex.iO y l=false:=by
    intro j y hj hlt
    rcases Nat.lt_succ_iff_lt_or_eq.1 hlt with hlt|rfl
    ·exact hno j y hj hlt
    ·rw [ho] at hj;cases hj;exact hb1
   exact ⟨k+1,(by omega),x1,(.bool true),(L.str y),(.bool false),⟨by omega,hno'⟩,by kernel_rfl,st⟩
  ·refine WO.nil (WP.cond (t:=true) rfl (WP.seq (WP.reg (WO.ak (v:=L.str y) rfl (WO.nil (WP.ret ?_))))))
   exact ⟨_,(aj (au (v:=L.str y) rfl) (ay _ _)),(by rw [show Lex.sign l=y by unfold Lex.sign;rw [xZ ho hno hb1]];rfl),st.tail⟩
 ·replace c1:¬(k<3):=by omega
  refine WO.nil (WP.seq (WP.cond (t:=false) rfl (WP.exit (WP.seq (WP.seq (WP.reg (WO.ifV (L.sne (m:=[]) rfl rfl) (fun c2=> ?_) (fun c2=> ?_))))))))
  ·refine WO.yes rfl (WO.val (v:=L.str l) rfl (WO.yes rfl ?_))
   obtain ⟨b,lr,hlb⟩:∃b lr,l=b::lr:=List.exists_cons_of_ne_nil c2
   refine WO.val (v:= .int .u8 (b.toNat:Int)) (L.o5 (b:=b) rfl rfl (by rw [hlb];rfl)) (WO.yes rfl (WO.aP rfl (Df (l:=Lex.ones) D DD st) ?_))
   rintro _ h ⟨rfl,st⟩
   refine WO.yes rfl (WO.ifV (L.geq rfl rfl) (fun c3=> ?_) (fun c3=> ?_))
   ·refine WO.ak (v:= .bool true) rfl (WO.nil (WP.cond (t:=true) rfl (WP.seq (WP.reg (WO.ak (v:=L.str ((l.drop 0).take (1 - 0))) (L.Ef rfl rfl rfl (by omega) (by rw [hlb];simp)) (WO.nil (WP.ret ?_)))))))
    have hf:Lex.jP.find? (Lex.iO · l)=none:=qW fun j y hj hlt=>hno j y hj (by have:j<3:=hlt;omega)
    have hsg:Lex.sign l=(if 0≤Lib.indexByte Lex.ones b then [b] else []):=by unfold Lex.sign;rw [hf,hlb]
    rw [hsg]
    rw [if_pos (by omega)]
    exact ⟨_,(aj (au (v:=L.str ((l.drop 0).take (1 - 0))) rfl) (ay _ _)),(by rw [hlb];rfl),st.tail⟩
   ·refine WO.ak (v:= .bool false) rfl (WO.nil (WP.cond (t:=false) rfl (WP.skip (WP.seq (WP.reg (WO.ak (v:= .str 0 0) rfl (WO.nil (WP.ret ?_))))))))
    have hf:Lex.jP.find? (Lex.iO · l)=none:=qW fun j y hj hlt=>hno j y hj (by have:j<3:=hlt;omega)
    have hsg:Lex.sign l=(if 0≤Lib.indexByte Lex.ones b then [b] else []):=by unfold Lex.sign;rw [hf,hlb]
    rw [hsg]
    rw [if_neg (by omega)]
    exact ⟨_,(aj (au (v:= .str 0 0) rfl) (ay _ _)),rfl,st.tail⟩
  ·refine WO.no rfl (WO.no rfl (WO.no rfl (WO.no rfl (WO.ak (v:= .bool false) rfl (WO.nil (WP.cond (t:=false) rfl (WP.skip (WP.seq (WP.reg (WO.ak (v:= .str 0 0) rfl (WO.nil (WP.ret ?_))))))))))))
   have hf:Lex.jP.find? (Lex.iO · l)=none:=qW fun j y hj hlt=>hno j y hj (by have:j<3:=hlt;omega)
   have hl0:l=[]:=by simpa using c2
   have hsg:Lex.sign l=[]:=by unfold Lex.sign;rw [hf,hl0]
   rw [hsg]
   exact ⟨_,(aj (au (v:= .str 0 0) rfl) (ay _ _)),rfl,st.tail⟩
theorem all_c (D:jd c) (DD:uS c) {fs:List Fact} {h:Heap} {s:List UInt8} (st:St fs h) (hsz:s.length<4294967296):
 aM c 80 [L.str s] h fun v h1=>match Lex.all (s.length+1) 0 s [] with
  | .ok ts=>∃x,v= .tup [x, .int .i64 0, .int .i64 0]∧St (.stb (fun h=>Rows 3 h x (ts.map Tok.row))::fs) h1
  | .error (e,a)=>v= .tup [.slN, .int .i64 (e:Int), .int .i64 (a:Int)]∧St fs h1:=by
 refine aM.bX D.f80 rfl (WP.seq (WP.reg (WO.dz st (L.box (l:=[L.str s]) rfl rfl) (fun sb h st=> ?_))))
 refine WO.ak (v:= .slN) rfl (WO.ak (v:= .int .i64 0) rfl (WO.ak (v:= .int .i64 0) rfl (WO.nil (WP.seq (WP.reg (WO.dz st L.alloc (fun ab h st=> ?_)))))))
 refine WO.aI (row':=[.int .i64 0]) st 0 rfl rfl rfl rfl rfl rfl rfl (fun h st=> ?_)
 refine WO.nil (WP.seq (WP.reg (WO.ak (v:= .fn 99 [] [.ptr ab 0, .ptr sb 0]) rfl (WO.nil (WP.seq (WP.reg (WO.ak (v:= .slN) rfl (WO.nil (WP.seq (WP.block ?_))))))))))
 replace st:St (.acc 0 3 .slN (([]:List Tok).map Tok.row):: .box ab [.int .i64 0]:: .box sb [L.str s]::fs) h:=st.acc0 3
 refine WP.bT (α:=Nat) (fun g env h=>∃k ts fy vy x1 x2 x3 x6 x7 x8 x9 x11 x12 x13 x14 x15 x16 x17 x18,(Lex.all (s.length+1) 0 s []=Lex.all g k (s.drop k) ts∧s.length - k<g∧k≤s.length∧ts.length≤k)∧env=aO [L.str s,x1,x2,x3, .ptr ab 0, .ptr sb 0,x6,x7,x8,x9, .fn 99 [] [.ptr ab 0, .ptr sb 0],x11,x12,x13,x14,x15,x16,x17,x18,vy] 0 Env.nil∧St (.acc fy 3 vy (ts.map Tok.row):: .box ab [.int .i64 (k:Int)]:: .box sb [L.str s]::fs) h) (fun g=>g) (s.length+1) ?_ ?_
 ·exact ⟨0,[],0, .slN, .slN,(.int .i64 0),(.int .i64 0), .bot, .bot, .bot, .bot, .bot, .bot, .bot, .bot, .bot, .bot, .bot, .bot,⟨rfl,by omega,Nat.zero_le _,Nat.le_refl _⟩,by kernel_rfl,st⟩
 rintro g _ h ⟨k,ts,fy,vy,x1,x2,x3,x6,x7,x8,x9,x11,x12,x13,x14,x15,x16,x17,x18,⟨hs,hg,hk,hts⟩,rfl,st⟩
 obtain ⟨g,rfl⟩:∃m,g=m+1:=⟨g - 1,by omega⟩
 refine WP.seq (WP.seq (WP.reg (WO.val (v:= .int .i64 (k:Int)) (L.aG rfl (st.av 1 rfl) rfl) (WO.val (v:=L.str s) (L.aG rfl (st.av 2 rfl) rfl) (WO.val (v:= .int .i64 (s.length:Int)) (L.jo rfl) (WO.ifS (L.lss rfl rfl) (fun c1=> ?_) (fun c1=> ?_)))))))
 ·replace c1:k<s.length:=by omega
  refine WO.nil (WP.cond (t:=true) rfl (WP.skip (WP.block (WP.seq (WP.draw (WD.val (v:= .int .i64 (k:Int)) (L.aG rfl (st.av 1 rfl) rfl) (WD.val (v:=L.str s) (L.aG rfl (st.av 2 rfl) rfl) (WD.val (v:= .int .i64 (k:Int)) (L.aG rfl (st.av 1 rfl) rfl) ?_))))))))
  obtain ⟨b,hb⟩:∃b,s[k]? =some b:=⟨_,List.getElem?_eq_getElem (by omega)⟩
  refine WD.val (v:= .int .u8 (b.toNat:Int)) (L.o5 rfl rfl hb) (WD.ak (v:= .int .i64 (k:Int)) rfl (WD.ak (v:= .int .u8 (b.toNat:Int)) rfl (WD.nil (WP.seq (WP.reg (WO.ak (v:= .int .i64 0) rfl (WO.ak (v:= .str 0 0) rfl (WO.ak (v:= .int .i64 0) rfl (WO.nil (WP.seq (WP.block (WP.seq (WP.reg (WO.ifV (L.eql rfl rfl) (fun c2=> ?_) (fun c2=> ?_)))))))))))))))
  ·replace c2:b.toNat=32:=by omega
   refine WO.no rfl (WO.no rfl (WO.val (v:= .bool true) rfl (WO.no rfl (WO.no rfl (WO.val (v:= .bool true) rfl (WO.no rfl (WO.no rfl (WO.ak (v:= .bool true) rfl (WO.nil (WP.cond (t:=true) rfl (WP.seq (WP.reg (WO.val (v:= .int .i64 (k:Int)) (L.aG rfl (st.av 1 rfl) rfl) (WO.val (v:= .int .i64 ((k+1:Nat):Int)) (L.bP rfl rfl (by omega) (And.intro (by omega) (by omega))) (WO.aI (row':=[.int .i64 ((k+1:Nat):Int)]) st 1 rfl rfl rfl rfl rfl rfl rfl (fun h st=> ?_))))))))))))))))
   refine WO.nil (WP.exit ?_)
   exact ⟨g,(Nat.lt_succ_self _),k+1,ts,fy,vy,x1,x2,x3,(.bool true),(.int .u8 (b.toNat:Int)),(.bool true),x9,x11,(.str 0 0),x13,x14,(.int .i64 0),x16,(.int .i64 (k:Int)),(.int .i64 0),⟨by rw [hs,bH hb];simp [Lex.blank,one,Lex.put, *],(by omega),(by omega),(by first|omega|(simp;omega))⟩,by kernel_rfl,st⟩
  ·replace c2:¬(b.toNat=32):=by omega
   refine WO.yes rfl (WO.val (v:= .int .u8 (b.toNat:Int)) rfl (WO.yes rfl (WO.ifV (L.eql rfl rfl) (fun c3=> ?_) (fun c3=> ?_))))
   ·replace c3:b.toNat=9:=by omega
    refine WO.val (v:= .bool true) rfl (WO.no rfl (WO.no rfl (WO.val (v:= .bool true) rfl (WO.no rfl (WO.no rfl (WO.ak (v:= .bool true) rfl (WO.nil (WP.cond (t:=true) rfl (WP.seq (WP.reg (WO.val (v:= .int .i64 (k:Int)) (L.aG rfl (st.av 1 rfl) rfl) (WO.val (v:= .int .i64 ((k+1:Nat):Int)) (L.bP rfl rfl (by omega) (And.intro (by omega) (by omega))) (WO.aI (row':=[.int .i64 ((k+1:Nat):Int)]) st 1 rfl rfl rfl rfl rfl rfl rfl (fun h st=> ?_))))))))))))))
    refine WO.nil (WP.exit ?_)
    exact ⟨g,(Nat.lt_succ_self _),k+1,ts,fy,vy,x1,x2,x3,(.bool true),(.int .u8 (b.toNat:Int)),(.bool true),x9,x11,(.str 0 0),x13,x14,(.int .i64 0),x16,(.int .i64 (k:Int)),(.int .i64 0),⟨by rw [hs,bH hb];simp [Lex.blank,one,Lex.put, *],(by omega),(by omega),(by first|omega|(simp;omega))⟩,by kernel_rfl,st⟩
   ·replace c3:¬(b.toNat=9):=by omega
    refine WO.val (v:= .bool false) rfl (WO.yes rfl (WO.val (v:= .int .u8 (b.toNat:Int)) rfl (WO.yes rfl (WO.ifV (L.eql rfl rfl) (fun c4=> ?_) (fun c4=> ?_)))))
    ·replace c4:b.toNat=10:=by omega
     refine WO.val (v:= .bool true) rfl (WO.no rfl (WO.no rfl (WO.ak (v:= .bool true) rfl (WO.nil (WP.cond (t:=true) rfl (WP.seq (WP.reg (WO.val (v:= .int .i64 (k:Int)) (L.aG rfl (st.av 1 rfl) rfl) (WO.val (v:= .int .i64 ((k+1:Nat):Int)) (L.bP rfl rfl (by omega) (And.intro (by omega) (by omega))) (WO.aI (row':=[.int .i64 ((k+1:Nat):Int)]) st 1 rfl rfl rfl rfl rfl rfl rfl (fun h st=> ?_)))))))))))
     refine WO.nil (WP.exit ?_)
     exact ⟨g,(Nat.lt_succ_self _),k+1,ts,fy,vy,x1,x2,x3,(.bool true),(.int .u8 (b.toNat:Int)),(.bool true),x9,x11,(.str 0 0),x13,x14,(.int .i64 0),x16,(.int .i64 (k:Int)),(.int .i64 0),⟨by rw [hs,bH hb];simp [Lex.blank,one,Lex.put, *],(by omega),(by omega),(by first|omega|(simp;omega))⟩,by kernel_rfl,st⟩
    ·replace c4:¬(b.toNat=10):=by omega
     refine WO.val (v:= .bool false) rfl (WO.yes rfl (WO.val (v:= .int .u8 (b.toNat:Int)) rfl (WO.yes rfl (WO.ifV (L.eql rfl rfl) (fun c5=> ?_) (fun c5=> ?_)))))
     ·replace c5:b.toNat=13:=by omega
      refine WO.ak (v:= .bool true) rfl (WO.nil (WP.cond (t:=true) rfl (WP.seq (WP.reg (WO.val (v:= .int .i64 (k:Int)) (L.aG rfl (st.av 1 rfl) rfl) (WO.val (v:= .int .i64 ((k+1:Nat):Int)) (L.bP rfl rfl (by omega) (And.intro (by omega) (by omega))) (WO.aI (row':=[.int .i64 ((k+1:Nat):Int)]) st 1 rfl rfl rfl rfl rfl rfl rfl (fun h st=> ?_))))))))
      refine WO.nil (WP.exit ?_)
      exact ⟨g,(Nat.lt_succ_self _),k+1,ts,fy,vy,x1,x2,x3,(.bool true),(.int .u8 (b.toNat:Int)),(.bool true),x9,x11,(.str 0 0),x13,x14,(.int .i64 0),x16,(.int .i64 (k:Int)),(.int .i64 0),⟨by rw [hs,bH hb];simp [Lex.blank,one,Lex.put, *],(by omega),(by omega),(by first|omega|(simp;omega))⟩,by kernel_rfl,st⟩
     ·replace c5:¬(b.toNat=13):=by omega
      refine WO.ak (v:= .bool false) rfl (WO.nil (WP.cond (t:=false) rfl (WP.seq (WP.reg (WO.ifS (L.eql rfl rfl) (fun c6=> ?_) (fun c6=> ?_))))))
      ·replace c6:b.toNat=35:=by omega
       refine WO.nil (WP.cond (t:=true) rfl (WP.seq (WP.reg ?_)))
       obtain ⟨hw1,hw2,hw3⟩:=lW (f:=Lex.fA) hb (by simp [Lex.fA,one, *])
       refine WO.kS rfl rfl (KX D (fun st=>notnl_c D st) ((st.pick 2 rfl).pick 2 rfl) hk hsz) ?_
       rintro _ h ⟨rfl,st⟩
       refine WO.nil (WP.exit ?_)
       exact ⟨g,(Nat.lt_succ_self _),k+((s.drop k).takeWhile Lex.fA).length,ts,fy,vy,x1,x2,x3,(.bool true),(.int .u8 (b.toNat:Int)),(.bool false),(.bool true),x11,(.str 0 0),x13,x14,(.int .i64 0),x16,(.int .i64 (k:Int)),(.int .i64 0),⟨by rw [hs,bH hb];simp [Lex.blank,one,Lex.put, *],(by omega),(by omega),(by first|omega|(simp;omega))⟩,by kernel_rfl,(st.pick 2 rfl)⟩
      ·replace c6:¬(b.toNat=35):=by omega
       refine WO.nil (WP.cond (t:=false) rfl (WP.seq (WP.reg (WO.dB rfl (Gp D st) ?_))))
       rintro _ h ⟨rfl,st⟩
       cases hb1:Lex.small b
       ·refine WO.nil (WP.cond (t:=false) rfl (WP.seq (WP.reg (WO.dB rfl (Az D st) ?_))))
        rintro _ h ⟨rfl,st⟩
        cases hb2:Lex.digit b
        ·refine WO.nil (WP.cond (t:=false) rfl (WP.seq (WP.reg (WO.val (v:=L.str s) (L.aG rfl (st.av 2 rfl) rfl) (WO.val (v:= .int .i64 (k:Int)) (L.aG rfl (st.av 1 rfl) rfl) (WO.val (v:=L.str ((s.drop (k)).take (s.length - (k)))) (L.Ef rfl rfl rfl (by omega) (by omega)) ?_))))))
         rw [List.take_of_length_le (by simp)]
         have hsl:=sj (s.drop k)
         rw [List.length_drop] at hsl
         refine WO.aP rfl (sign_c D DD st) ?_
         rintro _ h ⟨rfl,st⟩
         refine WO.ak (v:= .int .i64 4) rfl (WO.ak (v:=L.str (Lex.sign (s.drop k))) rfl (WO.nil (WP.seq (WP.reg (WO.val (v:= .int .i64 (k:Int)) (L.aG rfl (st.av 1 rfl) rfl) (WO.val (v:= .int .i64 ((Lex.sign (s.drop k)).length:Int)) (L.jo rfl) (WO.val (v:= .int .i64 ((k+(Lex.sign (s.drop k)).length:Nat):Int)) (L.bP rfl rfl (by omega) (And.intro (by omega) (by omega))) (WO.aI (row':=[.int .i64 ((k+(Lex.sign (s.drop k)).length:Nat):Int)]) st 1 rfl rfl rfl rfl rfl rfl rfl (fun h st=> ?_)))))))))
         refine WO.nil (WP.seq (WP.reg (WO.ifS (L.seq (m:=[]) rfl rfl) (fun cz=> ?_) (fun cz=> ?_))))
         ·refine WO.nil (WP.cond (t:=true) rfl (WP.reg (WO.ak (v:= .int .i64 10) rfl (WO.nil (WP.seq (WP.seq (WP.reg (WO.ifS (L.neq rfl rfl) (fun c_=> ?_) (fun c_=>by exfalso;omega)))))))))
          refine WO.nil (WP.cond (t:=true) rfl (WP.seq (WP.reg (WO.ak (v:= .slN) rfl (WO.ak (v:= .int .i64 10) rfl (WO.ak (v:= .int .i64 (k:Int)) rfl (WO.nil (WP.ret ?_))))))))
          have hE:Lex.all (s.length+1) 0 s []= .error (10,k):=by
           rw [hs,bH hb];simp [Lex.blank,one,Lex.put, *]
          rw [hE]
          exact ⟨_,(aj (au (v:= .slN) rfl) (aj (au (v:= .int .i64 10) rfl) (aj (au (v:= .int .i64 (k:Int)) rfl) (ay _ _)))),rfl,st.tail.tail.tail⟩
         ·have hs1:0<(Lex.sign (s.drop k)).length:=List.length_pos_iff.2 cz
          refine WO.nil (WP.cond (t:=false) rfl (WP.skip (WP.seq (WP.seq (WP.reg (WO.ifS (L.neq rfl rfl) (fun c_=>by exfalso;omega) (fun c_=> ?_)))))))
          refine WO.nil (WP.cond (t:=false) rfl (WP.skip (WP.reg (WO.val (v:= .agg [.int .i64 4,L.str (Lex.sign (s.drop k)), .int .i64 (k:Int)]) (L.build rfl) (WO.gJ (rows:=[[.int .i64 4,L.str (Lex.sign (s.drop k)), .int .i64 (k:Int)]]) st rfl (by decide) rfl (by simp) (fun bs1 h st=> ?_))))))
          refine WO.gW st 1 rfl rfl rfl (st.aB 0 rfl) (by decide) (by simp;omega) (fun f1 v1 h st=> ?_)
          rw [show (ts.map Tok.row)++[[V.int .i64 4,L.str (Lex.sign (s.drop k)),V.int .i64 (k:Int)]]=(ts++[Tok.mk 4 (Lex.sign (s.drop k)) k]).map Tok.row from by simp [Tok.row]] at st
          obtain ⟨ab1,rfl⟩:=(st.dK 1 rfl).ne (by simp)
          refine WO.nil ?_
          exact ⟨g,(Nat.lt_succ_self _),k+(Lex.sign (s.drop k)).length,(ts++[Tok.mk 4 (Lex.sign (s.drop k)) k]),f1,(.sl ab1 0 ((ts++[Tok.mk 4 (Lex.sign (s.drop k)) k]).map Tok.row).length none),x1,x2,x3,(.bool true),(.int .u8 (b.toNat:Int)),(.bool false),(.bool false),(.bool false),(L.str (Lex.sign (s.drop k))),(.bool false),(.bool false),(.int .i64 0),(.bool false),(.int .i64 (k:Int)),(.int .i64 4),⟨by rw [hs,bH hb];simp [Lex.blank,one,Lex.put, *],(by omega),(by omega),(by first|omega|(simp;omega))⟩,by kernel_rfl,st.tail⟩
        ·refine WO.nil (WP.cond (t:=true) rfl (WP.seq (WP.reg ?_)))
         obtain ⟨hw1,hw2,hw3⟩:=lW (f:=Lex.digit) hb hb2
         refine WO.FR rfl rfl (KX D (fun st=>Az D st) ((st.pick 2 rfl).pick 2 rfl) hk hsz) ?_
         rintro _ h ⟨rfl,st⟩
         refine WO.nil (WP.reg (WO.val (v:=L.str s) (L.aG rfl (st.av 1 rfl) rfl) (WO.val (v:= .int .i64 ((k+((s.drop k).takeWhile Lex.digit).length:Nat):Int)) (L.aG rfl (st.av 0 rfl) rfl) (WO.val (v:=L.str ((s.drop (k+((s.drop k).takeWhile Lex.digit).length)).take (s.length - (k+((s.drop k).takeWhile Lex.digit).length)))) (L.Ef rfl rfl rfl (by omega) (by omega)) ?_))))
         rw [List.take_of_length_le (by simp)]
         refine WO.aP rfl (lnum_c D st hw3) ?_
         rintro _ h ⟨rfl,st⟩
         refine WO.val (v:= .int .i64 ((Lex.number ((s.drop k).takeWhile Lex.digit) (s.drop (k+((s.drop k).takeWhile Lex.digit).length))).1:Int)) rfl (WO.val (v:= .int .i64 ((Lex.number ((s.drop k).takeWhile Lex.digit) (s.drop (k+((s.drop k).takeWhile Lex.digit).length))).2:Int)) rfl (WO.ak (v:= .int .i64 ((Lex.number ((s.drop k).takeWhile Lex.digit) (s.drop (k+((s.drop k).takeWhile Lex.digit).length))).1:Int)) rfl (WO.ak (v:= .int .i64 ((Lex.number ((s.drop k).takeWhile Lex.digit) (s.drop (k+((s.drop k).takeWhile Lex.digit).length))).2:Int)) rfl (WO.nil (WP.seq (WP.seq (WP.reg (WO.ifS (L.neq rfl rfl) (fun ce=> ?_) (fun ce=> ?_)))))))))
         ·replace ce:(Lex.number ((s.drop k).takeWhile Lex.digit) (s.drop (k+((s.drop k).takeWhile Lex.digit).length))).2≠0:=by omega
          refine WO.nil (WP.cond (t:=true) rfl (WP.seq (WP.reg (WO.ak (v:= .slN) rfl (WO.ak (v:= .int .i64 ((Lex.number ((s.drop k).takeWhile Lex.digit) (s.drop (k+((s.drop k).takeWhile Lex.digit).length))).2:Int)) rfl (WO.ak (v:= .int .i64 (k:Int)) rfl (WO.nil (WP.ret ?_))))))))
          have hE:Lex.all (s.length+1) 0 s []= .error ((Lex.number ((s.drop k).takeWhile Lex.digit) (s.drop (k+((s.drop k).takeWhile Lex.digit).length))).2,k):=by
           rw [hs,bH hb];simp [Lex.blank,one,Lex.put, *]
          rw [hE]
          exact ⟨_,(aj (au (v:= .slN) rfl) (aj (au (v:= .int .i64 ((Lex.number ((s.drop k).takeWhile Lex.digit) (s.drop (k+((s.drop k).takeWhile Lex.digit).length))).2:Int)) rfl) (aj (au (v:= .int .i64 (k:Int)) rfl) (ay _ _)))),rfl,st.tail.tail.tail⟩
         ·replace ce:(Lex.number ((s.drop k).takeWhile Lex.digit) (s.drop (k+((s.drop k).takeWhile Lex.digit).length))).2=0:=by omega
          refine WO.nil (WP.cond (t:=false) rfl (WP.skip (WP.reg (WO.val (v:= .agg [.int .i64 ((Lex.number ((s.drop k).takeWhile Lex.digit) (s.drop (k+((s.drop k).takeWhile Lex.digit).length))).1:Int),L.str ((s.drop k).takeWhile Lex.digit), .int .i64 (k:Int)]) (L.build rfl) (WO.gJ (rows:=[[.int .i64 ((Lex.number ((s.drop k).takeWhile Lex.digit) (s.drop (k+((s.drop k).takeWhile Lex.digit).length))).1:Int),L.str ((s.drop k).takeWhile Lex.digit), .int .i64 (k:Int)]]) st rfl (by decide) rfl (by simp) (fun bs2 h st=> ?_))))))
          refine WO.gW st 3 rfl rfl rfl (st.aB 0 rfl) (by decide) (by simp;omega) (fun f2 v2 h st=> ?_)
          rw [show (ts.map Tok.row)++[[V.int .i64 ((Lex.number ((s.drop k).takeWhile Lex.digit) (s.drop (k+((s.drop k).takeWhile Lex.digit).length))).1:Int),L.str ((s.drop k).takeWhile Lex.digit),V.int .i64 (k:Int)]]=(ts++[Tok.mk ((Lex.number ((s.drop k).takeWhile Lex.digit) (s.drop (k+((s.drop k).takeWhile Lex.digit).length))).1) ((s.drop k).takeWhile Lex.digit) k]).map Tok.row from by simp [Tok.row]] at st
          obtain ⟨ab2,rfl⟩:=(st.dK 3 rfl).ne (by simp)
          refine WO.nil ?_
          exact ⟨g,(Nat.lt_succ_self _),k+((s.drop k).takeWhile Lex.digit).length,(ts++[Tok.mk ((Lex.number ((s.drop k).takeWhile Lex.digit) (s.drop (k+((s.drop k).takeWhile Lex.digit).length))).1) ((s.drop k).takeWhile Lex.digit) k]),f2,(.sl ab2 0 ((ts++[Tok.mk ((Lex.number ((s.drop k).takeWhile Lex.digit) (s.drop (k+((s.drop k).takeWhile Lex.digit).length))).1) ((s.drop k).takeWhile Lex.digit) k]).map Tok.row).length none),x1,x2,x3,(.bool true),(.int .u8 (b.toNat:Int)),(.bool false),(.bool false),(.bool false),(L.str ((s.drop k).takeWhile Lex.digit)),(.bool true),x14,(.int .i64 ((Lex.number ((s.drop k).takeWhile Lex.digit) (s.drop (k+((s.drop k).takeWhile Lex.digit).length))).2:Int)),(.bool false),(.int .i64 (k:Int)),(.int .i64 ((Lex.number ((s.drop k).takeWhile Lex.digit) (s.drop (k+((s.drop k).takeWhile Lex.digit).length))).1:Int)),⟨by rw [hs,bH hb];simp [Lex.blank,one,Lex.put, *],(by omega),(by omega),(by first|omega|(simp;omega))⟩,by kernel_rfl,(st.tail.pick 2 rfl)⟩
       ·refine WO.nil (WP.cond (t:=true) rfl (WP.seq (WP.reg ?_)))
        obtain ⟨hw1,hw2,hw3⟩:=lW (f:=Lex.within) hb (by simp [Lex.within,one, *])
        refine WO.FR rfl rfl (KX D (fun st=>yg D st) ((st.pick 2 rfl).pick 2 rfl) hk hsz) ?_
        rintro _ h ⟨rfl,st⟩
        refine WO.nil (WP.reg (WO.aP rfl (word_c D st) ?_))
        rintro _ h ⟨rfl,st⟩
        refine WO.val (v:= .int .i64 ((Lex.word ((s.drop k).takeWhile Lex.within)).1:Int)) rfl (WO.val (v:= .int .i64 ((Lex.word ((s.drop k).takeWhile Lex.within)).2:Int)) rfl (WO.ak (v:= .int .i64 ((Lex.word ((s.drop k).takeWhile Lex.within)).1:Int)) rfl (WO.ak (v:= .int .i64 ((Lex.word ((s.drop k).takeWhile Lex.within)).2:Int)) rfl (WO.nil (WP.seq (WP.seq (WP.reg (WO.ifS (L.neq rfl rfl) (fun ce=> ?_) (fun ce=> ?_)))))))))
        ·replace ce:(Lex.word ((s.drop k).takeWhile Lex.within)).2≠0:=by omega
         refine WO.nil (WP.cond (t:=true) rfl (WP.seq (WP.reg (WO.ak (v:= .slN) rfl (WO.ak (v:= .int .i64 ((Lex.word ((s.drop k).takeWhile Lex.within)).2:Int)) rfl (WO.ak (v:= .int .i64 (k:Int)) rfl (WO.nil (WP.ret ?_))))))))
         have hE:Lex.all (s.length+1) 0 s []= .error ((Lex.word ((s.drop k).takeWhile Lex.within)).2,k):=by
          rw [hs,bH hb];simp [Lex.blank,one,Lex.put, *]
         rw [hE]
         exact ⟨_,(aj (au (v:= .slN) rfl) (aj (au (v:= .int .i64 ((Lex.word ((s.drop k).takeWhile Lex.within)).2:Int)) rfl) (aj (au (v:= .int .i64 (k:Int)) rfl) (ay _ _)))),rfl,st.tail.tail.tail⟩
        ·replace ce:(Lex.word ((s.drop k).takeWhile Lex.within)).2=0:=by omega
         refine WO.nil (WP.cond (t:=false) rfl (WP.skip (WP.reg (WO.val (v:= .agg [.int .i64 ((Lex.word ((s.drop k).takeWhile Lex.within)).1:Int),L.str ((s.drop k).takeWhile Lex.within), .int .i64 (k:Int)]) (L.build rfl) (WO.gJ (rows:=[[.int .i64 ((Lex.word ((s.drop k).takeWhile Lex.within)).1:Int),L.str ((s.drop k).takeWhile Lex.within), .int .i64 (k:Int)]]) st rfl (by decide) rfl (by simp) (fun bs3 h st=> ?_))))))
         refine WO.gW st 3 rfl rfl rfl (st.aB 0 rfl) (by decide) (by simp;omega) (fun f3 v3 h st=> ?_)
         rw [show (ts.map Tok.row)++[[V.int .i64 ((Lex.word ((s.drop k).takeWhile Lex.within)).1:Int),L.str ((s.drop k).takeWhile Lex.within),V.int .i64 (k:Int)]]=(ts++[Tok.mk ((Lex.word ((s.drop k).takeWhile Lex.within)).1) ((s.drop k).takeWhile Lex.within) k]).map Tok.row from by simp [Tok.row]] at st
         obtain ⟨ab3,rfl⟩:=(st.dK 3 rfl).ne (by simp)
         refine WO.nil ?_
         exact ⟨g,(Nat.lt_succ_self _),k+((s.drop k).takeWhile Lex.within).length,(ts++[Tok.mk ((Lex.word ((s.drop k).takeWhile Lex.within)).1) ((s.drop k).takeWhile Lex.within) k]),f3,(.sl ab3 0 ((ts++[Tok.mk ((Lex.word ((s.drop k).takeWhile Lex.within)).1) ((s.drop k).takeWhile Lex.within) k]).map Tok.row).length none),x1,x2,x3,(.bool true),(.int .u8 (b.toNat:Int)),(.bool false),(.bool false),(.bool true),(L.str ((s.drop k).takeWhile Lex.within)),x13,x14,(.int .i64 ((Lex.word ((s.drop k).takeWhile Lex.within)).2:Int)),(.bool false),(.int .i64 (k:Int)),(.int .i64 ((Lex.word ((s.drop k).takeWhile Lex.within)).1:Int)),⟨by rw [hs,bH hb];simp [Lex.blank,one,Lex.put, *],(by omega),(by omega),(by first|omega|(simp;omega))⟩,by kernel_rfl,(st.tail.pick 2 rfl)⟩
 ·replace c1:¬(k<s.length):=by omega
  refine WO.nil (WP.cond (t:=false) rfl (WP.exit (WP.seq (WP.reg (WO.val (v:=L.str s) (L.aG rfl (st.av 2 rfl) rfl) (WO.val (v:= .int .i64 (s.length:Int)) (L.jo rfl) (WO.val (v:= .agg [.int .i64 0, .str 0 0, .int .i64 (s.length:Int)]) (L.build rfl) (WO.gJ (rows:=[[.int .i64 0, .str 0 0, .int .i64 (s.length:Int)]]) st rfl (by decide) rfl (by simp) (fun bs4 h st=> ?_)))))))))
  refine WO.gW st 1 rfl rfl rfl (st.aB 0 rfl) (by decide) (by simp;omega) (fun f4 v4 h st=> ?_)
  rw [show (ts.map Tok.row)++[[V.int .i64 0,V.str 0 0,V.int .i64 (s.length:Int)]]=(ts++[Tok.mk 0 [] s.length]).map Tok.row from by simp [Tok.row];rfl] at st
  obtain ⟨ab4,rfl⟩:=(st.dK 1 rfl).ne (by simp)
  refine WO.ak (v:= .int .i64 0) rfl (WO.ak (v:= .int .i64 0) rfl (WO.nil (WP.ret ?_)))
  have hz:s.drop k=[]:=List.drop_of_length_le (by omega)
  have hE:Lex.all (s.length+1) 0 s []= .ok (ts++[⟨0,[],s.length⟩]):=by
   rw [hs,hz,show k=s.length by omega];rfl
  rw [hE]
  exact ⟨_,(aj (au (v:= .sl ab4 0 (((ts++[Tok.mk 0 [] s.length]).map Tok.row).length) none) rfl) (aj (au (v:= .int .i64 0) rfl) (aj (au (v:= .int .i64 0) rfl) (ay _ _)))),_,rfl,(((st.tail.pick 1 rfl).tail.pick 1 rfl).tail).shut (by decide)⟩
end
end Go.Eng.Ytjgmahbgfbkhnaa.Pq
namespace Go.Eng.Ytjgmahbgfbkhnaa.Pq
open Go.Eng
noncomputable section
variable {c:Ctx}
theorem lex_c (D:jd c) (DD:uS c) {fs:List Fact} {h:Heap} {s:List UInt8} (st:St fs h):
 aM c 55 [L.str s] h fun v h1=>match Lex.lex s with
  | .ok ts=>∃x,v= .tup [x, .int .i64 0, .int .i64 0]∧St (.stb (fun h=>Rows 3 h x (ts.map Tok.row))::fs) h1
  | .error (e,a)=>v= .tup [.slN, .int .i64 (e:Int), .int .i64 (a:Int)]∧St fs h1:=by
 refine aM.bX D.f55 rfl (WP.seq (WP.reg (WO.ak (v:= .slN) rfl (WO.ak (v:= .int .i64 0) rfl (WO.ak (v:= .int .i64 0) rfl (WO.nil (WP.seq (WP.seq (WP.reg (WO.val (v:= .int .i64 (s.length:Int)) (L.jo rfl) (WO.ifS (L.gtr rfl rfl) (fun c1=> ?_) (fun c1=> ?_))))))))))))
 ·replace c1:8192<s.length:=by omega
  refine WO.nil (WP.cond (t:=true) rfl (WP.seq (WP.reg (WO.ak (v:= .slN) rfl (WO.ak (v:= .int .i64 9) rfl (WO.ak (v:= .int .i64 8192) rfl (WO.nil (WP.ret ?_))))))))
  have hE:Lex.lex s= .error (9,8192):=by unfold Lex.lex;rw [if_pos c1]
  rw [hE]
  exact ⟨_,(aj (au (v:= .slN) rfl) (aj (au (v:= .int .i64 9) rfl) (aj (au (v:= .int .i64 8192) rfl) (ay _ _)))),rfl,st⟩
 ·replace c1:¬(8192<s.length):=by omega
  refine WO.nil (WP.cond (t:=false) rfl (WP.skip (WP.seq (WP.reg ?_))))
  have hc:=all_c (s:=s) D DD st (by omega)
  cases hsp:Lex.all (s.length+1) 0 s [] with
  |error x=>
   obtain ⟨e,a⟩:=x
   rw [hsp] at hc
   refine WO.aP rfl hc ?_
   rintro _ h ⟨rfl,st⟩
   refine WO.val (v:= .slN) rfl (WO.val (v:= .int .i64 (e:Int)) rfl (WO.val (v:= .int .i64 (a:Int)) rfl (WO.ak (v:= .slN) rfl (WO.ak (v:= .int .i64 (e:Int)) rfl (WO.ak (v:= .int .i64 (a:Int)) rfl (WO.nil (WP.ret ?_)))))))
   have hE:Lex.lex s= .error (e,a):=by unfold Lex.lex;rw [if_neg c1];exact hsp
   rw [hE]
   exact ⟨_,(aj (au (v:= .slN) rfl) (aj (au (v:= .int .i64 (e:Int)) rfl) (aj (au (v:= .int .i64 (a:Int)) rfl) (ay _ _)))),rfl,st⟩
  |ok x=>
   rw [hsp] at hc
   refine WO.aP rfl hc ?_
   rintro _ h ⟨y,rfl,st⟩
   refine WO.val (v:=y) rfl (WO.val (v:= .int .i64 0) rfl (WO.val (v:= .int .i64 0) rfl (WO.ak (v:=y) rfl (WO.ak (v:= .int .i64 0) rfl (WO.ak (v:= .int .i64 0) rfl (WO.nil (WP.ret ?_)))))))
   have hE:Lex.lex s= .ok x:=by unfold Lex.lex;rw [if_neg c1];exact hsp
   rw [hE]
   exact ⟨_,(aj (au (v:=y) rfl) (aj (au (v:= .int .i64 0) rfl) (aj (au (v:= .int .i64 0) rfl) (ay _ _)))),y,rfl,st⟩
theorem KY (D:jd c) (DD:uS c) {fs:List Fact} {h:Heap} {s:List UInt8} (st:St fs h):
 aM c 33 [L.str s] h fun v h1=>match Par.rows s with
  | .ok m=>∃x,v= .tup [x, .int .i64 0, .int .i64 0]∧x.aV=some [x]∧St (.stb (fun h=>Rows 3 h x (m.map Pm.row))::fs) h1
  | .error (e,a)=>v= .tup [.slN, .int .i64 (e:Int), .int .i64 (a:Int)]∧St fs h1:=by
 refine aM.bX D.f33 rfl (WP.seq (WP.reg (WO.ak (v:= .slN) rfl (WO.ak (v:= .int .i64 0) rfl (WO.ak (v:= .int .i64 0) rfl (WO.nil (WP.seq (WP.reg ?_))))))))
 have hc:=lex_c (s:=s) D DD st
 cases hsp:Lex.lex s with
 |error x=>
  obtain ⟨e,a⟩:=x
  rw [hsp] at hc
  refine WO.aP rfl hc ?_
  rintro _ h ⟨rfl,st⟩
  refine WO.val (v:= .slN) rfl (WO.val (v:= .int .i64 (e:Int)) rfl (WO.val (v:= .int .i64 (a:Int)) rfl (WO.ak (v:= .slN) rfl (WO.ak (v:= .int .i64 (e:Int)) rfl (WO.ak (v:= .int .i64 (a:Int)) rfl (WO.nil (WP.seq (WP.seq (WP.reg ?_)))))))))
  have he0:e≠0:=Gl hsp
  refine WO.ifS (L.neq rfl rfl) (fun c_=> ?_) (fun c_=>by exfalso;omega)
  refine WO.nil (WP.cond (t:=true) rfl (WP.seq (WP.reg (WO.ak (v:= .slN) rfl (WO.ak (v:= .int .i64 (e:Int)) rfl (WO.ak (v:= .int .i64 (a:Int)) rfl (WO.nil (WP.ret ?_))))))))
  have hE:Par.rows s= .error (e,a):=by unfold Par.rows;rw [hsp]
  rw [hE]
  exact ⟨_,(aj (au (v:= .slN) rfl) (aj (au (v:= .int .i64 (e:Int)) rfl) (aj (au (v:= .int .i64 (a:Int)) rfl) (ay _ _)))),rfl,st⟩
 |ok x=>
  rw [hsp] at hc
  refine WO.aP rfl hc ?_
  rintro _ h ⟨y,rfl,st⟩
  obtain ⟨p,rfl,rfl⟩:=Gj st (Ay hsp ⟨0,0,0,none,x⟩ rfl).2
  obtain ⟨hlf,hne⟩:=Ay hsp p rfl
  refine WO.val (v:= .sl p.tb p.to p.ts.length p.cap) rfl (WO.val (v:= .int .i64 0) rfl (WO.val (v:= .int .i64 0) rfl (WO.ak (v:= .sl p.tb p.to p.ts.length p.cap) rfl (WO.ak (v:= .int .i64 0) rfl (WO.ak (v:= .int .i64 0) rfl (WO.nil (WP.seq (WP.seq (WP.reg (WO.ifS (L.neq rfl rfl) (fun c_=>by exfalso;omega) (fun c_=> ?_)))))))))))
  refine WO.nil (WP.cond (t:=false) rfl (WP.skip (WP.seq (WP.reg ?_))))
  have hc:=readL_c D DD (st:St (p.toks::fs) _) hlf
  cases hsq:Par.labels p.ts with
  |error x=>
   obtain ⟨e,a⟩:=x
   rw [hsq] at hc
   refine WO.aP rfl hc ?_
   rintro _ h ⟨rfl,st⟩
   refine WO.val (v:= .slN) rfl (WO.val (v:= .int .i64 (e:Int)) rfl (WO.val (v:= .int .i64 (a:Int)) rfl (WO.ak (v:= .slN) rfl (WO.ak (v:= .int .i64 (e:Int)) rfl (WO.ak (v:= .int .i64 (a:Int)) rfl (WO.nil (WP.ret ?_)))))))
   have hE:Par.rows s= .error (e,a):=by unfold Par.rows;rw [hsp];simp only [hsq]
   rw [hE]
   exact ⟨_,(aj (au (v:= .slN) rfl) (aj (au (v:= .int .i64 (e:Int)) rfl) (aj (au (v:= .int .i64 (a:Int)) rfl) (ay _ _)))),rfl,st⟩
  |ok x=>
   rw [hsq] at hc
   refine WO.aP rfl hc ?_
   rintro _ h ⟨y,rfl,hcv,st⟩
   refine WO.val (v:=y) rfl (WO.val (v:= .int .i64 0) rfl (WO.val (v:= .int .i64 0) rfl (WO.ak (v:=y) rfl (WO.ak (v:= .int .i64 0) rfl (WO.ak (v:= .int .i64 0) rfl (WO.nil (WP.ret ?_)))))))
   have hE:Par.rows s= .ok x.1:=by unfold Par.rows;rw [hsp];simp only [hsq]
   rw [hE]
   exact ⟨_,(aj (au (v:=y) rfl) (aj (au (v:= .int .i64 0) rfl) (aj (au (v:= .int .i64 0) rfl) (ay _ _)))),y,rfl,hcv,st⟩
end
end Go.Eng.Ytjgmahbgfbkhnaa.Pq
namespace Go.Eng.Ytjgmahbgfbkhnaa
open Go.Eng
noncomputable section
variable {c:Ctx}
structure qZ (c:Ctx):Prop where
 f34:T.get 34 c.aR=some i34
 f58:T.get 58 c.aR=some i58
 f59:T.get 59 c.aR=some i59
 f60:T.get 60 c.aR=some i60
 f61:T.get 61 c.aR=some i61
 f62:T.get 62 c.aR=some i62
 f63:T.get 63 c.aR=some i63
 f86:T.get 86 c.aR=some i86
 f87:T.get 87 c.aR=some i87
 f88:T.get 88 c.aR=some i88
 f89:T.get 89 c.aR=some i89
 f90:T.get 90 c.aR=some i90
theorem p9 (D:qZ c) {fs:List Fact} {h:Heap} {b:UInt8} (st:St fs h):
 aM c 86 [.int .u8 (b.toNat:Int)] h fun v h1=>v= .bool (Lex.small b)∧St fs h1:=by
 refine aM.bX D.f86 rfl (WP.seq (WP.reg (WO.ak (v:= .bool false) rfl (WO.nil (WP.seq (WP.reg (WO.ifV (L.geq rfl rfl) (fun c1=> ?_) (fun c1=> ?_))))))))
 ·replace c1:b.toNat≥97:=by omega
  refine WO.yes rfl (WO.val (v:= .int .u8 (b.toNat:Int)) rfl (WO.yes rfl (WO.ifV (L.leq rfl rfl) (fun c2=> ?_) (fun c2=> ?_))))
  ·replace c2:b.toNat≤122:=by omega
   refine WO.ak (v:= .bool true) rfl (WO.nil (WP.ret ?_))
   exact ⟨_,(aj (au (v:= .bool true) rfl) (ay _ _)),(by simp [Lex.small,one, *]<;>omega),st⟩
  ·replace c2:¬(b.toNat≤122):=by omega
   refine WO.ak (v:= .bool false) rfl (WO.nil (WP.ret ?_))
   exact ⟨_,(aj (au (v:= .bool false) rfl) (ay _ _)),(by simp [Lex.small,one, *]<;>omega),st⟩
 ·replace c1:¬(b.toNat≥97):=by omega
  refine WO.no rfl (WO.no rfl (WO.ak (v:= .bool false) rfl (WO.nil (WP.ret ?_))))
  exact ⟨_,(aj (au (v:= .bool false) rfl) (ay _ _)),(by simp [Lex.small,one, *]<;>omega),st⟩
theorem yh (D:qZ c) {fs:List Fact} {h:Heap} {b:UInt8} (st:St fs h):
 aM c 87 [.int .u8 (b.toNat:Int)] h fun v h1=>v= .bool (Lex.digit b)∧St fs h1:=by
 refine aM.bX D.f87 rfl (WP.seq (WP.reg (WO.ak (v:= .bool false) rfl (WO.nil (WP.seq (WP.reg (WO.ifV (L.geq rfl rfl) (fun c1=> ?_) (fun c1=> ?_))))))))
 ·replace c1:b.toNat≥48:=by omega
  refine WO.yes rfl (WO.val (v:= .int .u8 (b.toNat:Int)) rfl (WO.yes rfl (WO.ifV (L.leq rfl rfl) (fun c2=> ?_) (fun c2=> ?_))))
  ·replace c2:b.toNat≤57:=by omega
   refine WO.ak (v:= .bool true) rfl (WO.nil (WP.ret ?_))
   exact ⟨_,(aj (au (v:= .bool true) rfl) (ay _ _)),(by simp [Lex.digit,one, *]<;>omega),st⟩
  ·replace c2:¬(b.toNat≤57):=by omega
   refine WO.ak (v:= .bool false) rfl (WO.nil (WP.ret ?_))
   exact ⟨_,(aj (au (v:= .bool false) rfl) (ay _ _)),(by simp [Lex.digit,one, *]<;>omega),st⟩
 ·replace c1:¬(b.toNat≥48):=by omega
  refine WO.no rfl (WO.no rfl (WO.ak (v:= .bool false) rfl (WO.nil (WP.ret ?_))))
  exact ⟨_,(aj (au (v:= .bool false) rfl) (ay _ _)),(by simp [Lex.digit,one, *]<;>omega),st⟩
theorem xkey_c (D:qZ c) {fs:List Fact} {h:Heap} {x:List UInt8} (st:St fs h):
 aM c 88 [L.str x] h fun v h1=>v= .bool (decide (x∈Lex.keys))∧St fs h1:=by
 refine aM.bX D.f88 rfl (WP.seq (WP.reg (WO.ak (v:= .bool false) rfl (WO.nil (WP.seq (WP.seq (WP.reg (WO.ak (v:=L.str x) rfl (WO.nil (WP.block (WP.seq (WP.seq (WP.reg (WO.ifS (L.seq (m:=[109,111,100,117,108,101]) rfl rfl) (fun c1=> ?_) (fun c1=> ?_)))))))))))))))
 ·refine WO.nil (WP.cond (t:=true) rfl (WP.skip (WP.cond (t:=true) rfl (WP.seq (WP.reg (WO.ak (v:= .bool true) rfl (WO.nil (WP.ret ?_))))))))
  exact ⟨_,(aj (au (v:= .bool true) rfl) (ay _ _)),(by simp [Lex.keys,one, *]),st⟩
 ·refine WO.nil (WP.cond (t:=false) rfl (WP.seq (WP.reg (WO.ifS (L.seq (m:=[105,109,112,111,114,116]) rfl rfl) (fun c2=> ?_) (fun c2=> ?_)))))
  ·refine WO.nil (WP.cond (t:=true) rfl (WP.skip (WP.cond (t:=true) rfl (WP.seq (WP.reg (WO.ak (v:= .bool true) rfl (WO.nil (WP.ret ?_))))))))
   exact ⟨_,(aj (au (v:= .bool true) rfl) (ay _ _)),(by simp [Lex.keys,one, *]),st⟩
  ·refine WO.nil (WP.cond (t:=false) rfl (WP.seq (WP.reg (WO.ifS (L.seq (m:=[118,97,114]) rfl rfl) (fun c3=> ?_) (fun c3=> ?_)))))
   ·refine WO.nil (WP.cond (t:=true) rfl (WP.skip (WP.cond (t:=true) rfl (WP.seq (WP.reg (WO.ak (v:= .bool true) rfl (WO.nil (WP.ret ?_))))))))
    exact ⟨_,(aj (au (v:= .bool true) rfl) (ay _ _)),(by simp [Lex.keys,one, *]),st⟩
   ·refine WO.nil (WP.cond (t:=false) rfl (WP.seq (WP.reg (WO.ifS (L.seq (m:=[112,114,111,99]) rfl rfl) (fun c4=> ?_) (fun c4=> ?_)))))
    ·refine WO.nil (WP.cond (t:=true) rfl (WP.skip (WP.cond (t:=true) rfl (WP.seq (WP.reg (WO.ak (v:= .bool true) rfl (WO.nil (WP.ret ?_))))))))
     exact ⟨_,(aj (au (v:= .bool true) rfl) (ay _ _)),(by simp [Lex.keys,one, *]),st⟩
    ·refine WO.nil (WP.cond (t:=false) rfl (WP.seq (WP.reg (WO.ifS (L.seq (m:=[112,99]) rfl rfl) (fun c5=> ?_) (fun c5=> ?_)))))
     ·refine WO.nil (WP.cond (t:=true) rfl (WP.skip (WP.cond (t:=true) rfl (WP.seq (WP.reg (WO.ak (v:= .bool true) rfl (WO.nil (WP.ret ?_))))))))
      exact ⟨_,(aj (au (v:= .bool true) rfl) (ay _ _)),(by simp [Lex.keys,one, *]),st⟩
     ·refine WO.nil (WP.cond (t:=false) rfl (WP.seq (WP.reg (WO.ifS (L.seq (m:=[117,115,101,115]) rfl rfl) (fun c6=> ?_) (fun c6=> ?_)))))
      ·refine WO.nil (WP.cond (t:=true) rfl (WP.skip (WP.cond (t:=true) rfl (WP.seq (WP.reg (WO.ak (v:= .bool true) rfl (WO.nil (WP.ret ?_))))))))
       exact ⟨_,(aj (au (v:= .bool true) rfl) (ay _ _)),(by simp [Lex.keys,one, *]),st⟩
      ·refine WO.nil (WP.cond (t:=false) rfl (WP.seq (WP.reg (WO.ifS (L.seq (m:=[108,101,116]) rfl rfl) (fun c7=> ?_) (fun c7=> ?_)))))
       ·refine WO.nil (WP.cond (t:=true) rfl (WP.skip (WP.cond (t:=true) rfl (WP.seq (WP.reg (WO.ak (v:= .bool true) rfl (WO.nil (WP.ret ?_))))))))
        exact ⟨_,(aj (au (v:= .bool true) rfl) (ay _ _)),(by simp [Lex.keys,one, *]),st⟩
       ·refine WO.nil (WP.cond (t:=false) rfl (WP.seq (WP.reg (WO.ifS (L.seq (m:=[99,97,108,108]) rfl rfl) (fun c8=> ?_) (fun c8=> ?_)))))
        ·refine WO.nil (WP.cond (t:=true) rfl (WP.skip (WP.cond (t:=true) rfl (WP.seq (WP.reg (WO.ak (v:= .bool true) rfl (WO.nil (WP.ret ?_))))))))
         exact ⟨_,(aj (au (v:= .bool true) rfl) (ay _ _)),(by simp [Lex.keys,one, *]),st⟩
        ·refine WO.nil (WP.cond (t:=false) rfl (WP.seq (WP.reg (WO.ifS (L.seq (m:=[105,102]) rfl rfl) (fun c9=> ?_) (fun c9=> ?_)))))
         ·refine WO.nil (WP.cond (t:=true) rfl (WP.skip (WP.cond (t:=true) rfl (WP.seq (WP.reg (WO.ak (v:= .bool true) rfl (WO.nil (WP.ret ?_))))))))
          exact ⟨_,(aj (au (v:= .bool true) rfl) (ay _ _)),(by simp [Lex.keys,one, *]),st⟩
         ·refine WO.nil (WP.cond (t:=false) rfl (WP.seq (WP.reg (WO.ifS (L.seq (m:=[101,108,115,101]) rfl rfl) (fun c10=> ?_) (fun c10=> ?_)))))
          ·refine WO.nil (WP.cond (t:=true) rfl (WP.skip (WP.cond (t:=true) rfl (WP.seq (WP.reg (WO.ak (v:= .bool true) rfl (WO.nil (WP.ret ?_))))))))
           exact ⟨_,(aj (au (v:= .bool true) rfl) (ay _ _)),(by simp [Lex.keys,one, *]),st⟩
          ·refine WO.nil (WP.cond (t:=false) rfl (WP.seq (WP.reg (WO.ifS (L.seq (m:=[119,104,105,108,101]) rfl rfl) (fun c11=> ?_) (fun c11=> ?_)))))
           ·refine WO.nil (WP.cond (t:=true) rfl (WP.skip (WP.cond (t:=true) rfl (WP.seq (WP.reg (WO.ak (v:= .bool true) rfl (WO.nil (WP.ret ?_))))))))
            exact ⟨_,(aj (au (v:= .bool true) rfl) (ay _ _)),(by simp [Lex.keys,one, *]),st⟩
           ·refine WO.nil (WP.cond (t:=false) rfl (WP.seq (WP.reg (WO.ifS (L.seq (m:=[101,109,105,116]) rfl rfl) (fun c12=> ?_) (fun c12=> ?_)))))
            ·refine WO.nil (WP.cond (t:=true) rfl (WP.skip (WP.cond (t:=true) rfl (WP.seq (WP.reg (WO.ak (v:= .bool true) rfl (WO.nil (WP.ret ?_))))))))
             exact ⟨_,(aj (au (v:= .bool true) rfl) (ay _ _)),(by simp [Lex.keys,one, *]),st⟩
            ·refine WO.nil (WP.cond (t:=false) rfl (WP.seq (WP.reg (WO.ifS (L.seq (m:=[114,101,115,117,108,116]) rfl rfl) (fun c13=> ?_) (fun c13=> ?_)))))
             ·refine WO.nil (WP.cond (t:=true) rfl (WP.skip (WP.cond (t:=true) rfl (WP.seq (WP.reg (WO.ak (v:= .bool true) rfl (WO.nil (WP.ret ?_))))))))
              exact ⟨_,(aj (au (v:= .bool true) rfl) (ay _ _)),(by simp [Lex.keys,one, *]),st⟩
             ·refine WO.nil (WP.cond (t:=false) rfl (WP.seq (WP.reg (WO.ifS (L.seq (m:=[115,107,105,112]) rfl rfl) (fun c14=> ?_) (fun c14=> ?_)))))
              ·refine WO.nil (WP.cond (t:=true) rfl (WP.skip (WP.cond (t:=true) rfl (WP.seq (WP.reg (WO.ak (v:= .bool true) rfl (WO.nil (WP.ret ?_))))))))
               exact ⟨_,(aj (au (v:= .bool true) rfl) (ay _ _)),(by simp [Lex.keys,one, *]),st⟩
              ·refine WO.nil (WP.cond (t:=false) rfl (WP.reg (WO.ifS (L.seq (m:=[108,97,98,101,108,115]) rfl rfl) (fun c15=> ?_) (fun c15=> ?_))))
               ·refine WO.nil (WP.cond (t:=true) rfl (WP.seq (WP.reg (WO.ak (v:= .bool true) rfl (WO.nil (WP.ret ?_))))))
                exact ⟨_,(aj (au (v:= .bool true) rfl) (ay _ _)),(by simp [Lex.keys,one, *]),st⟩
               ·refine WO.nil (WP.cond (t:=false) rfl (WP.skip (WP.seq (WP.reg (WO.ak (v:= .bool false) rfl (WO.nil (WP.ret ?_)))))))
                exact ⟨_,(aj (au (v:= .bool false) rfl) (ay _ _)),(by simp [Lex.keys,one, *]),st⟩
theorem xsign_c (D:qZ c) {fs:List Fact} {h:Heap} {s:List UInt8} {i:Nat} (st:St fs h) (hi:i<s.length) (hs:s.length<4294967296):
 aM c 89 [L.str s, .int .i64 (i:Int)] h fun v h1=>v=L.str (Lex.sign (s.drop i))∧St fs h1:=by
 obtain ⟨b,hb⟩:∃b,s[i]? =some b:=⟨_,List.getElem?_eq_getElem hi⟩
 obtain ⟨r,hd⟩:∃r,s.drop i=b::r:=⟨_,by obtain ⟨_,rfl⟩:=List.getElem?_eq_some_iff.1 hb;exact List.drop_eq_getElem_cons hi⟩
 refine aM.bX D.f89 rfl (WP.seq (WP.reg (WO.ak (v:= .str 0 0) rfl (WO.nil (WP.Ae (fun env h=>∃z2 z3 z4 z5,((b::r).take 2∉Lex.jP)∧env=aO [L.str s, .int .i64 (i:Int),z2,z3,z4,z5] 0 Env.nil∧St (fs) h) ?_ ?_)))))
 ·refine WP.seq (WP.reg (WO.val (v:= .int .i64 ((i+1:Nat):Int)) (L.bP rfl rfl (by omega) (And.intro (by omega) (by omega))) (WO.val (v:= .int .i64 (s.length:Int)) (L.jo rfl) (WO.ifS (L.lss rfl rfl) (fun c1=> ?_) (fun c1=> ?_)))))
  ·replace c1:i+2≤s.length:=by omega
   refine WO.nil (WP.cond (t:=true) rfl (WP.seq (WP.reg (WO.val (v:= .int .i64 ((i+2:Nat):Int)) (L.bP rfl rfl (by omega) (And.intro (by omega) (by omega))) (WO.ak (v:=L.str ((s.drop i).take 2)) (L.nU rfl rfl rfl (by omega) (by omega) (by rw [show i+2 - i=2 by omega])) ?_)))))
   refine WO.nil (WP.block (WP.seq (WP.seq (WP.reg (WO.ifS (L.seq (m:=[61,61]) rfl rfl) (fun c1=> ?_) (fun c1=> ?_))))))
   ·refine WO.nil (WP.cond (t:=true) rfl (WP.skip (WP.cond (t:=true) rfl (WP.seq (WP.reg (WO.val (v:= .int .i64 ((i+2:Nat):Int)) (L.bP rfl rfl (by omega) (And.intro (by omega) (by omega))) (WO.ak (v:=L.str ((s.drop i).take 2)) (L.nU rfl rfl rfl (by omega) (by omega) (by rw [show i+2 - i=2 by omega])) ?_)))))))
    refine WO.nil (WP.ret ?_)
    have hE:Lex.sign (s.drop i)=(s.drop i).take 2:=yc (by rw [c1];decide) rfl
    rw [hE]
    exact ⟨_,(aj (au (v:=L.str ((s.drop i).take 2)) rfl) (ay _ _)),rfl,st⟩
   ·refine WO.nil (WP.cond (t:=false) rfl (WP.seq (WP.reg (WO.ifS (L.seq (m:=[60,61]) rfl rfl) (fun c2=> ?_) (fun c2=> ?_)))))
    ·refine WO.nil (WP.cond (t:=true) rfl (WP.skip (WP.cond (t:=true) rfl (WP.seq (WP.reg (WO.val (v:= .int .i64 ((i+2:Nat):Int)) (L.bP rfl rfl (by omega) (And.intro (by omega) (by omega))) (WO.ak (v:=L.str ((s.drop i).take 2)) (L.nU rfl rfl rfl (by omega) (by omega) (by rw [show i+2 - i=2 by omega])) ?_)))))))
     refine WO.nil (WP.ret ?_)
     have hE:Lex.sign (s.drop i)=(s.drop i).take 2:=yc (by rw [c2];decide) rfl
     rw [hE]
     exact ⟨_,(aj (au (v:=L.str ((s.drop i).take 2)) rfl) (ay _ _)),rfl,st⟩
    ·refine WO.nil (WP.cond (t:=false) rfl (WP.reg (WO.ifS (L.seq (m:=[45,62]) rfl rfl) (fun c3=> ?_) (fun c3=> ?_))))
     ·refine WO.nil (WP.cond (t:=true) rfl (WP.seq (WP.reg (WO.val (v:= .int .i64 ((i+2:Nat):Int)) (L.bP rfl rfl (by omega) (And.intro (by omega) (by omega))) (WO.ak (v:=L.str ((s.drop i).take 2)) (L.nU rfl rfl rfl (by omega) (by omega) (by rw [show i+2 - i=2 by omega])) ?_)))))
      refine WO.nil (WP.ret ?_)
      have hE:Lex.sign (s.drop i)=(s.drop i).take 2:=yc (by rw [c3];decide) rfl
      rw [hE]
      exact ⟨_,(aj (au (v:=L.str ((s.drop i).take 2)) rfl) (ay _ _)),rfl,st⟩
     ·refine WO.nil (WP.cond (t:=false) rfl (WP.skip ?_))
      exact ⟨(.str 0 0),(.bool true),(L.str ((s.drop i).take 2)),(.bool false),(by rw [←hd];simp [Lex.jP,c1,c2,c3]),by kernel_rfl,st⟩
  ·replace c1:¬i+2≤s.length:=by omega
   refine WO.nil (WP.cond (t:=false) rfl (WP.skip ?_))
   exact ⟨(.str 0 0),(.bool false), .bot, .bot,(by intro hm;have h2:=IQ hm;rw [←hd,List.length_drop] at h2;omega),by kernel_rfl,st⟩
 ·rintro _ h ⟨z2,z3,z4,z5,hnt,rfl,st⟩
  have hso:=sign_one hnt
  refine WP.seq (WP.seq (WP.reg (WO.ak (v:= .int .u8 (b.toNat:Int)) (L.o5 (b:=b) rfl rfl hb) (WO.nil (WP.block (WP.Ae (fun env h=>env=aO [L.str s, .int .i64 (i:Int),z2,z3,z4,z5, .int .u8 (b.toNat:Int), .bool (decide (b∈Lex.ones))] 0 Env.nil∧St (fs) h) ?_ ?_))))))
  ·refine WP.seq (WP.reg (WO.ifS (L.eql rfl rfl) (fun c4=> ?_) (fun c4=> ?_)))
   ·replace c4:b.toNat=40:=by omega
    refine WO.nil (WP.cond (t:=true) rfl (WP.skip ?_))
    have hv:decide (b∈Lex.ones)=true:=by simp [Lex.ones,←UInt8.toNat_inj,c4]
    rw [hv]
    exact ⟨by kernel_rfl,st⟩
   ·replace c4:¬(b.toNat=40):=by omega
    refine WO.nil (WP.cond (t:=false) rfl (WP.seq (WP.reg (WO.ifS (L.eql rfl rfl) (fun c5=> ?_) (fun c5=> ?_)))))
    ·replace c5:b.toNat=41:=by omega
     refine WO.nil (WP.cond (t:=true) rfl (WP.skip ?_))
     have hv:decide (b∈Lex.ones)=true:=by simp [Lex.ones,←UInt8.toNat_inj,c4,c5]
     rw [hv]
     exact ⟨by kernel_rfl,st⟩
    ·replace c5:¬(b.toNat=41):=by omega
     refine WO.nil (WP.cond (t:=false) rfl (WP.seq (WP.reg (WO.ifS (L.eql rfl rfl) (fun c6=> ?_) (fun c6=> ?_)))))
     ·replace c6:b.toNat=123:=by omega
      refine WO.nil (WP.cond (t:=true) rfl (WP.skip ?_))
      have hv:decide (b∈Lex.ones)=true:=by simp [Lex.ones,←UInt8.toNat_inj,c4,c5,c6]
      rw [hv]
      exact ⟨by kernel_rfl,st⟩
     ·replace c6:¬(b.toNat=123):=by omega
      refine WO.nil (WP.cond (t:=false) rfl (WP.seq (WP.reg (WO.ifS (L.eql rfl rfl) (fun c7=> ?_) (fun c7=> ?_)))))
      ·replace c7:b.toNat=125:=by omega
       refine WO.nil (WP.cond (t:=true) rfl (WP.skip ?_))
       have hv:decide (b∈Lex.ones)=true:=by simp [Lex.ones,←UInt8.toNat_inj,c4,c5,c6,c7]
       rw [hv]
       exact ⟨by kernel_rfl,st⟩
      ·replace c7:¬(b.toNat=125):=by omega
       refine WO.nil (WP.cond (t:=false) rfl (WP.seq (WP.reg (WO.ifS (L.eql rfl rfl) (fun c8=> ?_) (fun c8=> ?_)))))
       ·replace c8:b.toNat=44:=by omega
        refine WO.nil (WP.cond (t:=true) rfl (WP.skip ?_))
        have hv:decide (b∈Lex.ones)=true:=by simp [Lex.ones,←UInt8.toNat_inj,c4,c5,c6,c7,c8]
        rw [hv]
        exact ⟨by kernel_rfl,st⟩
       ·replace c8:¬(b.toNat=44):=by omega
        refine WO.nil (WP.cond (t:=false) rfl (WP.seq (WP.reg (WO.ifS (L.eql rfl rfl) (fun c9=> ?_) (fun c9=> ?_)))))
        ·replace c9:b.toNat=59:=by omega
         refine WO.nil (WP.cond (t:=true) rfl (WP.skip ?_))
         have hv:decide (b∈Lex.ones)=true:=by simp [Lex.ones,←UInt8.toNat_inj,c4,c5,c6,c7,c8,c9]
         rw [hv]
         exact ⟨by kernel_rfl,st⟩
        ·replace c9:¬(b.toNat=59):=by omega
         refine WO.nil (WP.cond (t:=false) rfl (WP.seq (WP.reg (WO.ifS (L.eql rfl rfl) (fun c10=> ?_) (fun c10=> ?_)))))
         ·replace c10:b.toNat=58:=by omega
          refine WO.nil (WP.cond (t:=true) rfl (WP.skip ?_))
          have hv:decide (b∈Lex.ones)=true:=by simp [Lex.ones,←UInt8.toNat_inj,c4,c5,c6,c7,c8,c9,c10]
          rw [hv]
          exact ⟨by kernel_rfl,st⟩
         ·replace c10:¬(b.toNat=58):=by omega
          refine WO.nil (WP.cond (t:=false) rfl (WP.seq (WP.reg (WO.ifS (L.eql rfl rfl) (fun c11=> ?_) (fun c11=> ?_)))))
          ·replace c11:b.toNat=46:=by omega
           refine WO.nil (WP.cond (t:=true) rfl (WP.skip ?_))
           have hv:decide (b∈Lex.ones)=true:=by simp [Lex.ones,←UInt8.toNat_inj,c4,c5,c6,c7,c8,c9,c10,c11]
           rw [hv]
           exact ⟨by kernel_rfl,st⟩
          ·replace c11:¬(b.toNat=46):=by omega
           refine WO.nil (WP.cond (t:=false) rfl (WP.seq (WP.reg (WO.ifS (L.eql rfl rfl) (fun c12=> ?_) (fun c12=> ?_)))))
           ·replace c12:b.toNat=61:=by omega
            refine WO.nil (WP.cond (t:=true) rfl (WP.skip ?_))
            have hv:decide (b∈Lex.ones)=true:=by simp [Lex.ones,←UInt8.toNat_inj,c4,c5,c6,c7,c8,c9,c10,c11,c12]
            rw [hv]
            exact ⟨by kernel_rfl,st⟩
           ·replace c12:¬(b.toNat=61):=by omega
            refine WO.nil (WP.cond (t:=false) rfl (WP.seq (WP.reg (WO.ifS (L.eql rfl rfl) (fun c13=> ?_) (fun c13=> ?_)))))
            ·replace c13:b.toNat=60:=by omega
             refine WO.nil (WP.cond (t:=true) rfl (WP.skip ?_))
             have hv:decide (b∈Lex.ones)=true:=by simp [Lex.ones,←UInt8.toNat_inj,c4,c5,c6,c7,c8,c9,c10,c11,c12,c13]
             rw [hv]
             exact ⟨by kernel_rfl,st⟩
            ·replace c13:¬(b.toNat=60):=by omega
             refine WO.nil (WP.cond (t:=false) rfl (WP.seq (WP.reg (WO.ifS (L.eql rfl rfl) (fun c14=> ?_) (fun c14=> ?_)))))
             ·replace c14:b.toNat=43:=by omega
              refine WO.nil (WP.cond (t:=true) rfl (WP.skip ?_))
              have hv:decide (b∈Lex.ones)=true:=by simp [Lex.ones,←UInt8.toNat_inj,c4,c5,c6,c7,c8,c9,c10,c11,c12,c13,c14]
              rw [hv]
              exact ⟨by kernel_rfl,st⟩
             ·replace c14:¬(b.toNat=43):=by omega
              refine WO.nil (WP.cond (t:=false) rfl (WP.seq (WP.reg (WO.ifS (L.eql rfl rfl) (fun c15=> ?_) (fun c15=> ?_)))))
              ·replace c15:b.toNat=45:=by omega
               refine WO.nil (WP.cond (t:=true) rfl (WP.skip ?_))
               have hv:decide (b∈Lex.ones)=true:=by simp [Lex.ones,←UInt8.toNat_inj,c4,c5,c6,c7,c8,c9,c10,c11,c12,c13,c14,c15]
               rw [hv]
               exact ⟨by kernel_rfl,st⟩
              ·replace c15:¬(b.toNat=45):=by omega
               refine WO.nil (WP.cond (t:=false) rfl (WP.seq (WP.reg (WO.ifS (L.eql rfl rfl) (fun c16=> ?_) (fun c16=> ?_)))))
               ·replace c16:b.toNat=42:=by omega
                refine WO.nil (WP.cond (t:=true) rfl (WP.skip ?_))
                have hv:decide (b∈Lex.ones)=true:=by simp [Lex.ones,←UInt8.toNat_inj,c4,c5,c6,c7,c8,c9,c10,c11,c12,c13,c14,c15,c16]
                rw [hv]
                exact ⟨by kernel_rfl,st⟩
               ·replace c16:¬(b.toNat=42):=by omega
                refine WO.nil (WP.cond (t:=false) rfl (WP.seq (WP.reg (WO.ifS (L.eql rfl rfl) (fun c17=> ?_) (fun c17=> ?_)))))
                ·replace c17:b.toNat=47:=by omega
                 refine WO.nil (WP.cond (t:=true) rfl (WP.skip ?_))
                 have hv:decide (b∈Lex.ones)=true:=by simp [Lex.ones,←UInt8.toNat_inj,c4,c5,c6,c7,c8,c9,c10,c11,c12,c13,c14,c15,c16,c17]
                 rw [hv]
                 exact ⟨by kernel_rfl,st⟩
                ·replace c17:¬(b.toNat=47):=by omega
                 refine WO.nil (WP.cond (t:=false) rfl (WP.seq (WP.reg (WO.ifS (L.eql rfl rfl) (fun c18=> ?_) (fun c18=> ?_)))))
                 ·replace c18:b.toNat=37:=by omega
                  refine WO.nil (WP.cond (t:=true) rfl (WP.skip ?_))
                  have hv:decide (b∈Lex.ones)=true:=by simp [Lex.ones,←UInt8.toNat_inj,c4,c5,c6,c7,c8,c9,c10,c11,c12,c13,c14,c15,c16,c17,c18]
                  rw [hv]
                  exact ⟨by kernel_rfl,st⟩
                 ·replace c18:¬(b.toNat=37):=by omega
                  refine WO.nil (WP.cond (t:=false) rfl (WP.reg (WO.ifS (L.eql rfl rfl) (fun c19=> ?_) (fun c19=> ?_))))
                  ·replace c19:b.toNat=33:=by omega
                   refine WO.nil ?_
                   have hv:decide (b∈Lex.ones)=true:=by simp [Lex.ones,←UInt8.toNat_inj,c4,c5,c6,c7,c8,c9,c10,c11,c12,c13,c14,c15,c16,c17,c18,c19]
                   rw [hv]
                   exact ⟨by kernel_rfl,st⟩
                  ·replace c19:¬(b.toNat=33):=by omega
                   refine WO.nil ?_
                   have hv:decide (b∈Lex.ones)=false:=by simp [Lex.ones,←UInt8.toNat_inj,c4,c5,c6,c7,c8,c9,c10,c11,c12,c13,c14,c15,c16,c17,c18,c19]
                   rw [hv]
                   exact ⟨by kernel_rfl,st⟩
  ·rintro _ h ⟨rfl,st⟩
   by_cases hon:b∈Lex.ones
   ·rw [decide_eq_true hon]
    rw [if_pos hon] at hso
    refine WP.cond (t:=true) rfl (WP.seq (WP.reg (WO.val (v:= .int .i64 ((i+1:Nat):Int)) (L.bP rfl rfl (by omega) (And.intro (by omega) (by omega))) (WO.ak (v:=L.str [b]) (L.nU rfl rfl rfl (by omega) (by omega) (by rw [show i+1 - i=1 by omega,hd];rfl)) ?_))))
    refine WO.nil (WP.ret ?_)
    rw [hd,hso]
    exact ⟨_,(aj (au (v:=L.str [b]) rfl) (ay _ _)),rfl,st⟩
   ·rw [decide_eq_false hon]
    rw [if_neg hon] at hso
    refine WP.cond (t:=false) rfl (WP.skip (WP.seq (WP.reg (WO.ak (v:= .str 0 0) rfl (WO.nil (WP.ret ?_))))))
    rw [hd,hso]
    exact ⟨_,(aj (au (v:= .str 0 0) rfl) (ay _ _)),rfl,st⟩
theorem xlex_c (D:qZ c) {fs:List Fact} {h:Heap} {s:List UInt8} (st:St fs h):
 aM c 58 [L.str s] h fun v h1=>match Lex.lex s with
  | .ok ts=>∃x,v= .tup [x, .int .i64 0, .int .i64 0]∧St (.stb (fun h=>Rows 3 h x (ts.map Tok.row))::fs) h1
  | .error (e,a)=>v= .tup [.slN, .int .i64 (e:Int), .int .i64 (a:Int)]∧St fs h1:=by
 refine aM.bX D.f58 rfl (WP.seq (WP.reg (WO.ak (v:= .slN) rfl (WO.ak (v:= .int .i64 0) rfl (WO.ak (v:= .int .i64 0) rfl (WO.nil (WP.seq (WP.seq (WP.reg (WO.val (v:= .int .i64 (s.length:Int)) (L.jo rfl) (WO.ifS (L.gtr rfl rfl) (fun c0=> ?_) (fun c0=> ?_))))))))))))
 ·replace c0:8192<s.length:=by omega
  refine WO.nil (WP.cond (t:=true) rfl (WP.seq (WP.reg (WO.ak (v:= .slN) rfl (WO.ak (v:= .int .i64 9) rfl (WO.ak (v:= .int .i64 8192) rfl (WO.nil (WP.ret ?_))))))))
  have hE:Lex.lex s= .error (9,8192):=by unfold Lex.lex;rw [if_pos c0]
  rw [hE]
  exact ⟨_,(aj (au (v:= .slN) rfl) (aj (au (v:= .int .i64 9) rfl) (aj (au (v:= .int .i64 8192) rfl) (ay _ _)))),rfl,st⟩
 ·replace c0:¬(8192<s.length):=by omega
  have hE0:Lex.lex s=Lex.all (s.length+1) 0 s []:=by unfold Lex.lex;rw [if_neg c0]
  rw [hE0]
  have hsz:s.length<4294967296:=by omega
  refine WO.nil (WP.cond (t:=false) rfl (WP.skip (WP.seq (WP.reg (WO.ak (v:= .slN) rfl (WO.nil (WP.seq (WP.seq (WP.reg (WO.ak (v:= .int .i64 0) rfl (WO.nil (WP.block ?_))))))))))))
  replace st:St (.acc 0 3 .slN (([]:List Tok).map Tok.row)::fs) h:=st.acc0 3
  refine WP.bT (α:=Nat) (fun g env h=>∃k ts fy vy x1 x2 x3 x6 x7 x8 x9 x10 x11 x12 x13 x14 x15 x16 x18 x19 x20 x21 x22 x23 x24,(Lex.all (s.length+1) 0 s []=Lex.all g k (s.drop k) ts∧s.length - k<g∧k≤s.length∧ts.length≤k)∧env=aO [L.str s,x1,x2,x3, .bool false, .int .i64 (k:Int),x6,x7,x8,x9,x10,x11,x12,x13,x14,x15,x16,vy,x18,x19,x20,x21,x22,x23,x24] 0 Env.nil∧St (.acc fy 3 vy (ts.map Tok.row)::fs) h) (fun g=>g) (s.length+1) ?_ ?_
  ·exact ⟨0,[],0, .slN, .slN,(.int .i64 0),(.int .i64 0), .bot, .bot, .bot, .bot, .bot, .bot, .bot, .bot, .bot, .bot, .bot, .bot, .bot, .bot, .bot, .bot, .bot, .bot,⟨rfl,by omega,Nat.zero_le _,Nat.le_refl _⟩,by kernel_rfl,st⟩
  rintro g _ h ⟨k,ts,fy,vy,x1,x2,x3,x6,x7,x8,x9,x10,x11,x12,x13,x14,x15,x16,x18,x19,x20,x21,x22,x23,x24,⟨hs,hg,hk,hts⟩,rfl,st⟩
  obtain ⟨g,rfl⟩:∃m,g=m+1:=⟨g - 1,by omega⟩
  refine WP.seq (WP.seq (WP.reg (WO.val (v:= .int .i64 (s.length:Int)) (L.jo rfl) (WO.ifS (L.lss rfl rfl) (fun c1=> ?_) (fun c1=> ?_)))))
  ·replace c1:k<s.length:=by omega
   refine WO.nil (WP.cond (t:=true) rfl (WP.skip (WP.block (WP.seq (WP.reg ?_)))))
   obtain ⟨b,hb⟩:∃b,s[k]? =some b:=⟨_,List.getElem?_eq_getElem (by omega)⟩
   refine WO.ak (v:= .int .u8 (b.toNat:Int)) (L.o5 rfl rfl hb) (WO.nil (WP.block (WP.seq (WP.reg (WO.ifV (L.eql rfl rfl) (fun c2=> ?_) (fun c2=> ?_))))))
   ·replace c2:b.toNat=32:=by omega
    refine WO.no rfl (WO.no rfl (WO.val (v:= .bool true) rfl (WO.no rfl (WO.no rfl (WO.val (v:= .bool true) rfl (WO.no rfl (WO.no rfl (WO.ak (v:= .bool true) rfl (WO.nil (WP.cond (t:=true) rfl (WP.reg (WO.ak (v:= .int .i64 ((k+1:Nat):Int)) (L.bP rfl rfl (by omega) (And.intro (by omega) (by omega))) (WO.nil ?_)))))))))))))
    exact ⟨g,(Nat.lt_succ_self _),k+1,ts,fy,vy,x1,x2,x3,(.bool true),(.int .u8 (b.toNat:Int)),(.bool true),x9,x10,x11,x12,x13,x14,x15,x16,x18,x19,x20,x21,x22,x23,x24,⟨by rw [hs,bH hb];simp [Lex.blank,one,Lex.put,c0,c1,c2],(by omega),(by omega),(by first|omega|(simp;omega))⟩,by kernel_rfl,st⟩
   ·replace c2:¬(b.toNat=32):=by omega
    refine WO.yes rfl (WO.val (v:= .int .u8 (b.toNat:Int)) rfl (WO.yes rfl (WO.ifV (L.eql rfl rfl) (fun c3=> ?_) (fun c3=> ?_))))
    ·replace c3:b.toNat=9:=by omega
     refine WO.val (v:= .bool true) rfl (WO.no rfl (WO.no rfl (WO.val (v:= .bool true) rfl (WO.no rfl (WO.no rfl (WO.ak (v:= .bool true) rfl (WO.nil (WP.cond (t:=true) rfl (WP.reg (WO.ak (v:= .int .i64 ((k+1:Nat):Int)) (L.bP rfl rfl (by omega) (And.intro (by omega) (by omega))) (WO.nil ?_)))))))))))
     exact ⟨g,(Nat.lt_succ_self _),k+1,ts,fy,vy,x1,x2,x3,(.bool true),(.int .u8 (b.toNat:Int)),(.bool true),x9,x10,x11,x12,x13,x14,x15,x16,x18,x19,x20,x21,x22,x23,x24,⟨by rw [hs,bH hb];simp [Lex.blank,one,Lex.put,c0,c1,c2,c3],(by omega),(by omega),(by first|omega|(simp;omega))⟩,by kernel_rfl,st⟩
    ·replace c3:¬(b.toNat=9):=by omega
     refine WO.val (v:= .bool false) rfl (WO.yes rfl (WO.val (v:= .int .u8 (b.toNat:Int)) rfl (WO.yes rfl (WO.ifV (L.eql rfl rfl) (fun c4=> ?_) (fun c4=> ?_)))))
     ·replace c4:b.toNat=10:=by omega
      refine WO.val (v:= .bool true) rfl (WO.no rfl (WO.no rfl (WO.ak (v:= .bool true) rfl (WO.nil (WP.cond (t:=true) rfl (WP.reg (WO.ak (v:= .int .i64 ((k+1:Nat):Int)) (L.bP rfl rfl (by omega) (And.intro (by omega) (by omega))) (WO.nil ?_))))))))
      exact ⟨g,(Nat.lt_succ_self _),k+1,ts,fy,vy,x1,x2,x3,(.bool true),(.int .u8 (b.toNat:Int)),(.bool true),x9,x10,x11,x12,x13,x14,x15,x16,x18,x19,x20,x21,x22,x23,x24,⟨by rw [hs,bH hb];simp [Lex.blank,one,Lex.put,c0,c1,c2,c3,c4],(by omega),(by omega),(by first|omega|(simp;omega))⟩,by kernel_rfl,st⟩
     ·replace c4:¬(b.toNat=10):=by omega
      refine WO.val (v:= .bool false) rfl (WO.yes rfl (WO.val (v:= .int .u8 (b.toNat:Int)) rfl (WO.yes rfl (WO.ifV (L.eql rfl rfl) (fun c5=> ?_) (fun c5=> ?_)))))
      ·replace c5:b.toNat=13:=by omega
       refine WO.ak (v:= .bool true) rfl (WO.nil (WP.cond (t:=true) rfl (WP.reg (WO.ak (v:= .int .i64 ((k+1:Nat):Int)) (L.bP rfl rfl (by omega) (And.intro (by omega) (by omega))) (WO.nil ?_)))))
       exact ⟨g,(Nat.lt_succ_self _),k+1,ts,fy,vy,x1,x2,x3,(.bool true),(.int .u8 (b.toNat:Int)),(.bool true),x9,x10,x11,x12,x13,x14,x15,x16,x18,x19,x20,x21,x22,x23,x24,⟨by rw [hs,bH hb];simp [Lex.blank,one,Lex.put,c0,c1,c2,c3,c4,c5],(by omega),(by omega),(by first|omega|(simp;omega))⟩,by kernel_rfl,st⟩
      ·replace c5:¬(b.toNat=13):=by omega
       refine WO.ak (v:= .bool false) rfl (WO.nil (WP.cond (t:=false) rfl (WP.seq (WP.reg (WO.ifS (L.eql rfl rfl) (fun c6=> ?_) (fun c6=> ?_))))))
       ·replace c6:b.toNat=35:=by omega
        refine WO.nil (WP.cond (t:=true) rfl (WP.block (WP.bT (α:=Nat) (fun j env h=>∃x10,(k+j≤s.length∧(s.drop k).takeWhile Lex.fA=(s.drop k).take j++(s.drop (k+j)).takeWhile Lex.fA)∧env=aO [L.str s,x1,x2,x3, .bool false, .int .i64 ((k+j:Nat):Int), .bool true, .int .u8 (b.toNat:Int), .bool false, .bool true,x10,x11,x12,x13,x14,x15,x16,vy,x18,x19,x20,x21,x22,x23,x24] 0 Env.nil∧St (.acc fy 3 vy (ts.map Tok.row)::fs) h) (fun j=>s.length - (k+j)) 0 ?_ ?_)))
        ·exact ⟨x10,⟨by omega,by simp⟩,by kernel_rfl,st⟩
        rintro j _ h ⟨x10,⟨hj1,hj2⟩,rfl,st⟩
        refine WP.seq (WP.seq (WP.reg (WO.val (v:= .int .i64 (s.length:Int)) (L.jo rfl) (WO.ifV (L.lss rfl rfl) (fun cj=> ?_) (fun cj=> ?_)))))
        ·obtain ⟨bj,hbj⟩:∃b,s[k+j]? =some b:=⟨_,List.getElem?_eq_getElem (by omega)⟩
         refine WO.yes rfl (WO.val (v:=L.str s) rfl (WO.yes rfl (WO.val (v:= .int .i64 ((k+j:Nat):Int)) rfl (WO.yes rfl (WO.val (v:= .int .u8 (bj.toNat:Int)) (L.o5 rfl rfl hbj) (WO.yes rfl (WO.ifV (L.neq rfl rfl) (fun c7=> ?_) (fun c7=> ?_))))))))
         ·replace c7:bj.toNat≠10:=by omega
          refine WO.ak (v:= .bool true) rfl (WO.nil (WP.cond (t:=true) rfl (WP.skip (WP.block (WP.reg (WO.ak (v:= .int .i64 ((k+(j+1):Nat):Int)) (L.bP rfl rfl (by omega) (And.intro (by omega) (by omega))) (WO.nil ?_)))))))
          have hnx:(s.drop k).takeWhile Lex.fA=(s.drop k).take (j+1)++(s.drop (k+(j+1))).takeWhile Lex.fA:=by
           rw [hj2,eF hbj (by first|assumption|simp [Lex.fA,c7]),List.take_add_one,List.getElem?_drop,hbj];simp [Nat.add_assoc]
          exact ⟨j+1,(by omega),(.bool true),⟨by omega,hnx⟩,by kernel_rfl,st⟩
         ·replace c7:¬(bj.toNat≠10):=by omega
          refine WO.ak (v:= .bool false) rfl (WO.nil (WP.cond (t:=false) rfl (WP.exit ?_)))
          have hz:(s.drop (k+j)).takeWhile Lex.fA=[]:=(jc hbj (by first|assumption|simp [Lex.fA,c7]))
          have htw:(s.drop k).takeWhile Lex.fA=(s.drop k).take j:=by rw [hj2,hz,List.append_nil]
          obtain rfl:((s.drop k).takeWhile Lex.fA).length=j:=by rw [htw];simp;omega
          obtain ⟨hw1,hw2,hw3⟩:=lW (f:=Lex.fA) hb (by first|assumption|simp [Lex.fA,one,c0,c1,c2,c3,c4,c5,c6])
          exact ⟨g,(Nat.lt_succ_self _),k+((s.drop k).takeWhile Lex.fA).length,ts,fy,vy,x1,x2,x3,(.bool true),(.int .u8 (b.toNat:Int)),(.bool false),(.bool true),(.bool false),x11,x12,x13,x14,x15,x16,x18,x19,x20,x21,x22,x23,x24,⟨by rw [hs,bH hb];simp [Lex.blank,one,Lex.put,c0,c1,c2,c3,c4,c5,c6],(by omega),(by omega),(by first|omega|(simp;omega))⟩,by kernel_rfl,st⟩
        ·have lnf:¬k+j<s.length:=by omega
         refine WO.no rfl (WO.no rfl (WO.no rfl (WO.no rfl (WO.ak (v:= .bool false) rfl (WO.nil (WP.cond (t:=false) rfl (WP.exit ?_)))))))
         have hz:(s.drop (k+j)).takeWhile Lex.fA=[]:=(by rw [List.drop_of_length_le (by omega)];rfl)
         have htw:(s.drop k).takeWhile Lex.fA=(s.drop k).take j:=by rw [hj2,hz,List.append_nil]
         obtain rfl:((s.drop k).takeWhile Lex.fA).length=j:=by rw [htw];simp;omega
         obtain ⟨hw1,hw2,hw3⟩:=lW (f:=Lex.fA) hb (by first|assumption|simp [Lex.fA,one,c0,c1,c2,c3,c4,c5,c6])
         exact ⟨g,(Nat.lt_succ_self _),k+((s.drop k).takeWhile Lex.fA).length,ts,fy,vy,x1,x2,x3,(.bool true),(.int .u8 (b.toNat:Int)),(.bool false),(.bool true),(.bool false),x11,x12,x13,x14,x15,x16,x18,x19,x20,x21,x22,x23,x24,⟨by rw [hs,bH hb];simp [Lex.blank,one,Lex.put,c0,c1,c2,c3,c4,c5,c6],(by omega),(by omega),(by first|omega|(simp;omega))⟩,by kernel_rfl,st⟩
       ·replace c6:¬(b.toNat=35):=by omega
        refine WO.nil (WP.cond (t:=false) rfl (WP.seq (WP.reg (WO.dB rfl (p9 D st) ?_))))
        rintro _ h ⟨rfl,st⟩
        cases hb1:Lex.small b
        ·refine WO.nil (WP.cond (t:=false) rfl (WP.seq (WP.reg (WO.dB rfl (yh D st) ?_))))
         rintro _ h ⟨rfl,st⟩
         cases hb2:Lex.digit b
         ·refine WO.nil (WP.cond (t:=false) rfl (WP.seq (WP.reg ?_)))
          have hsl:=sj (s.drop k)
          rw [List.length_drop] at hsl
          refine WO.dB rfl (xsign_c D st (by omega) hsz) ?_
          rintro _ h ⟨rfl,st⟩
          refine WO.nil (WP.seq (WP.seq (WP.reg (WO.ifS (L.seq (m:=[]) rfl rfl) (fun cz=> ?_) (fun cz=> ?_)))))
          ·refine WO.nil (WP.cond (t:=true) rfl (WP.seq (WP.reg (WO.ak (v:= .slN) rfl (WO.ak (v:= .int .i64 10) rfl (WO.ak (v:= .int .i64 (k:Int)) rfl (WO.nil (WP.ret ?_))))))))
           have hE:Lex.all (s.length+1) 0 s []= .error (10,k):=by
            rw [hs,bH hb];simp [Lex.blank,one,Lex.put,c0,c1,c2,c3,c4,c5,c6,hb1,hb2,cz]
           rw [hE]
           exact ⟨_,(aj (au (v:= .slN) rfl) (aj (au (v:= .int .i64 10) rfl) (aj (au (v:= .int .i64 (k:Int)) rfl) (ay _ _)))),rfl,st.tail⟩
          ·have hs1:0<(Lex.sign (s.drop k)).length:=List.length_pos_iff.2 cz
           refine WO.nil (WP.cond (t:=false) rfl (WP.skip (WP.seq (WP.reg (WO.val (v:= .agg [.int .i64 4,L.str (Lex.sign (s.drop k)), .int .i64 (k:Int)]) (L.build rfl) (WO.gJ (rows:=[[.int .i64 4,L.str (Lex.sign (s.drop k)), .int .i64 (k:Int)]]) st rfl (by decide) rfl (by simp) (fun bs1 h st=> ?_)))))))
           refine WO.gW st 1 rfl rfl rfl (st.aB 0 rfl) (by decide) (by simp;omega) (fun f1 v1 h st=> ?_)
           rw [show (ts.map Tok.row)++[[V.int .i64 4,L.str (Lex.sign (s.drop k)),V.int .i64 (k:Int)]]=(ts++[Tok.mk 4 (Lex.sign (s.drop k)) k]).map Tok.row from by simp [Tok.row]] at st
           obtain ⟨ab1,rfl⟩:=(st.dK 1 rfl).ne (by simp)
           refine WO.nil (WP.reg (WO.val (v:= .int .i64 ((Lex.sign (s.drop k)).length:Int)) (L.jo rfl) (WO.ak (v:= .int .i64 ((k+(Lex.sign (s.drop k)).length:Nat):Int)) (L.bP rfl rfl (by omega) (And.intro (by omega) (by omega))) (WO.nil ?_))))
           exact ⟨g,(Nat.lt_succ_self _),k+(Lex.sign (s.drop k)).length,(ts++[Tok.mk 4 (Lex.sign (s.drop k)) k]),f1,(.sl ab1 0 ((ts++[Tok.mk 4 (Lex.sign (s.drop k)) k]).map Tok.row).length none),x1,x2,x3,(.bool true),(.int .u8 (b.toNat:Int)),(.bool false),(.bool false),x10,(.bool false),x12,x13,x14,x15,x16,(.bool false),x19,x20,x21,x22,(L.str (Lex.sign (s.drop k))),(.bool false),⟨by rw [hs,bH hb];simp [Lex.blank,one,Lex.put,c0,c1,c2,c3,c4,c5,c6,hb1,hb2,cz],(by omega),(by omega),(by first|omega|(simp;omega))⟩,by kernel_rfl,st.tail⟩
         ·refine WO.nil (WP.cond (t:=true) rfl (WP.seq (WP.reg (WO.ak (v:= .int .i64 (k:Int)) rfl (WO.nil (WP.Ae (fun env h=>∃z20,env=aO [L.str s,x1,x2,x3, .bool false, .int .i64 (k:Int), .bool true, .int .u8 (b.toNat:Int), .bool false, .bool false,x10, .bool false,x12,x13,x14,x15,x16,vy, .bool true, .int .i64 ((k+((s.drop k).takeWhile Lex.digit).length:Nat):Int),z20,x21,x22,x23,x24] 0 Env.nil∧St (.acc fy 3 vy (ts.map Tok.row)::fs) h) ?_ ?_))))))
          ·refine WP.block (WP.bT (α:=Nat) (fun j env h=>∃x20,(k+j≤s.length∧(s.drop k).takeWhile Lex.digit=(s.drop k).take j++(s.drop (k+j)).takeWhile Lex.digit)∧env=aO [L.str s,x1,x2,x3, .bool false, .int .i64 (k:Int), .bool true, .int .u8 (b.toNat:Int), .bool false, .bool false,x10, .bool false,x12,x13,x14,x15,x16,vy, .bool true, .int .i64 ((k+j:Nat):Int),x20,x21,x22,x23,x24] 0 Env.nil∧St (.acc fy 3 vy (ts.map Tok.row)::fs) h) (fun j=>s.length - (k+j)) 0 ?_ ?_)
           ·exact ⟨x20,⟨by omega,by simp⟩,by kernel_rfl,st⟩
           rintro j _ h ⟨x20,⟨hj1,hj2⟩,rfl,st⟩
           refine WP.seq (WP.seq (WP.reg (WO.val (v:= .int .i64 (s.length:Int)) (L.jo rfl) (WO.ifV (L.lss rfl rfl) (fun cj=> ?_) (fun cj=> ?_)))))
           ·obtain ⟨bj,hbj⟩:∃b,s[k+j]? =some b:=⟨_,List.getElem?_eq_getElem (by omega)⟩
            refine WO.yes rfl (WO.val (v:=L.str s) rfl (WO.yes rfl (WO.val (v:= .int .i64 ((k+j:Nat):Int)) rfl (WO.yes rfl (WO.val (v:= .int .u8 (bj.toNat:Int)) (L.o5 rfl rfl hbj) (WO.yes rfl (WO.aP rfl (yh D st) ?_)))))))
            rintro _ h ⟨rfl,st⟩
            cases hb3:Lex.digit bj
            ·refine WO.ak (v:= .bool false) rfl (WO.nil (WP.cond (t:=false) rfl (WP.exit ?_)))
             have hz:(s.drop (k+j)).takeWhile Lex.digit=[]:=(jc hbj (by first|assumption|simp [Lex.digit,hb3]))
             have htw:(s.drop k).takeWhile Lex.digit=(s.drop k).take j:=by rw [hj2,hz,List.append_nil]
             obtain rfl:((s.drop k).takeWhile Lex.digit).length=j:=by rw [htw];simp;omega
             exact ⟨(.bool false),by kernel_rfl,st⟩
            ·refine WO.ak (v:= .bool true) rfl (WO.nil (WP.cond (t:=true) rfl (WP.skip (WP.block (WP.reg (WO.ak (v:= .int .i64 ((k+(j+1):Nat):Int)) (L.bP rfl rfl (by omega) (And.intro (by omega) (by omega))) (WO.nil ?_)))))))
             have hnx:(s.drop k).takeWhile Lex.digit=(s.drop k).take (j+1)++(s.drop (k+(j+1))).takeWhile Lex.digit:=by
              rw [hj2,eF hbj (by first|assumption|simp [Lex.digit,hb3]),List.take_add_one,List.getElem?_drop,hbj];simp [Nat.add_assoc]
             exact ⟨j+1,(by omega),(.bool true),⟨by omega,hnx⟩,by kernel_rfl,st⟩
           ·have lnf:¬k+j<s.length:=by omega
            refine WO.no rfl (WO.no rfl (WO.no rfl (WO.no rfl (WO.ak (v:= .bool false) rfl (WO.nil (WP.cond (t:=false) rfl (WP.exit ?_)))))))
            have hz:(s.drop (k+j)).takeWhile Lex.digit=[]:=(by rw [List.drop_of_length_le (by omega)];rfl)
            have htw:(s.drop k).takeWhile Lex.digit=(s.drop k).take j:=by rw [hj2,hz,List.append_nil]
            obtain rfl:((s.drop k).takeWhile Lex.digit).length=j:=by rw [htw];simp;omega
            exact ⟨(.bool false),by kernel_rfl,st⟩
          ·rintro _ h ⟨z20,rfl,st⟩
           have e48:(b=48)↔b.toNat=48:=⟨fun h=>by rw [h];rfl,fun h=>UInt8.toNat_inj.1 h⟩
           obtain ⟨hw1,hw2,hw3⟩:=lW (f:=Lex.digit) hb (by first|assumption|simp [Lex.digit,one,c0,c1,c2,c3,c4,c5,c6,hb1,hb2])
           refine WP.seq (WP.seq (WP.reg (WO.val (v:= .int .i64 (((s.drop k).takeWhile Lex.digit).length:Int)) (L.uV rfl rfl (by omega) (And.intro (by omega) (by omega))) (WO.ifS (L.gtr rfl rfl) (fun cn9=> ?_) (fun cn9=> ?_)))))
           ·replace cn9:9<((s.drop k).takeWhile Lex.digit).length:=by omega
            refine WO.nil (WP.cond (t:=true) rfl (WP.seq (WP.reg (WO.ak (v:= .slN) rfl (WO.ak (v:= .int .i64 9) rfl (WO.ak (v:= .int .i64 (k:Int)) rfl (WO.nil (WP.ret ?_))))))))
            have hE:Lex.all (s.length+1) 0 s []= .error (9,k):=by
             rw [hs,bH hb];simp [Lex.blank,one,Lex.put,c0,c1,c2,c3,c4,c5,c6,hb1,hb2,cn9,Lex.number,Lex.within,hw3,e48]
            rw [hE]
            exact ⟨_,(aj (au (v:= .slN) rfl) (aj (au (v:= .int .i64 9) rfl) (aj (au (v:= .int .i64 (k:Int)) rfl) (ay _ _)))),rfl,st.tail⟩
           ·replace cn9:¬9<((s.drop k).takeWhile Lex.digit).length:=by omega
            refine WO.nil (WP.cond (t:=false) rfl (WP.skip (WP.seq (WP.seq (WP.reg (WO.val (v:= .int .i64 (((s.drop k).takeWhile Lex.digit).length:Int)) (L.uV rfl rfl (by omega) (And.intro (by omega) (by omega))) (WO.ifV (L.gtr rfl rfl) (fun cn1=> ?_) (fun cn1=> ?_))))))))
            ·replace cn1:1<((s.drop k).takeWhile Lex.digit).length:=by omega
             refine WO.yes rfl (WO.val (v:= .int .u8 (b.toNat:Int)) rfl (WO.yes rfl (WO.ifV (L.eql rfl rfl) (fun c8=> ?_) (fun c8=> ?_))))
             ·replace c8:b.toNat=48:=by omega
              refine WO.val (v:= .bool true) rfl (WO.no rfl (WO.no rfl (WO.no rfl (WO.no rfl (WO.no rfl (WO.no rfl (WO.no rfl (WO.no rfl (WO.no rfl (WO.no rfl (WO.no rfl (WO.no rfl (WO.no rfl (WO.no rfl (WO.no rfl (WO.no rfl (WO.ak (v:= .bool true) rfl (WO.nil (WP.cond (t:=true) rfl (WP.seq (WP.reg (WO.ak (v:= .slN) rfl (WO.ak (v:= .int .i64 10) rfl (WO.ak (v:= .int .i64 (k:Int)) rfl (WO.nil (WP.ret ?_))))))))))))))))))))))))))
              have hE:Lex.all (s.length+1) 0 s []= .error (10,k):=by
               rw [hs,bH hb];simp [Lex.blank,one,Lex.put,c0,c1,c2,c3,c4,c5,c6,hb1,hb2,cn9,cn1,c8,Lex.number,Lex.within,hw3,e48]
              rw [hE]
              exact ⟨_,(aj (au (v:= .slN) rfl) (aj (au (v:= .int .i64 10) rfl) (aj (au (v:= .int .i64 (k:Int)) rfl) (ay _ _)))),rfl,st.tail⟩
             ·replace c8:¬(b.toNat=48):=by omega
              refine WO.val (v:= .bool false) rfl (WO.yes rfl (WO.val (v:= .int .i64 ((k+((s.drop k).takeWhile Lex.digit).length:Nat):Int)) rfl (WO.yes rfl (WO.val (v:=L.str s) rfl (WO.yes rfl (WO.val (v:= .int .i64 (s.length:Int)) (L.jo rfl) (WO.yes rfl (WO.ifV (L.lss rfl rfl) (fun cf=> ?_) (fun cf=> ?_)))))))))
              ·obtain ⟨bd,hbd⟩:∃b,s[k+((s.drop k).takeWhile Lex.digit).length]? =some b:=⟨_,List.getElem?_eq_getElem (by omega)⟩
               have hdr:=drop_at hbd
               have hnd:=Gi hbd
               refine WO.yes rfl (WO.val (v:= .bool true) rfl (WO.yes rfl (WO.val (v:=L.str s) rfl (WO.yes rfl (WO.val (v:= .int .i64 ((k+((s.drop k).takeWhile Lex.digit).length:Nat):Int)) rfl (WO.yes rfl (WO.val (v:= .int .u8 (bd.toNat:Int)) (L.o5 rfl rfl hbd) (WO.yes rfl (WO.aP rfl (p9 D st) ?_)))))))))
               rintro _ h ⟨rfl,st⟩
               cases hb4:Lex.small bd
               ·refine WO.yes rfl (WO.val (v:= .bool false) rfl (WO.yes rfl (WO.val (v:=L.str s) rfl (WO.yes rfl (WO.val (v:= .int .i64 ((k+((s.drop k).takeWhile Lex.digit).length:Nat):Int)) rfl (WO.yes rfl (WO.val (v:= .int .u8 (bd.toNat:Int)) (L.o5 rfl rfl hbd) (WO.yes rfl (WO.ifV (L.eql rfl rfl) (fun c9=> ?_) (fun c9=> ?_))))))))))
                ·replace c9:bd.toNat=95:=by omega
                 refine WO.yes rfl (WO.val (v:= .bool true) rfl (WO.yes rfl (WO.val (v:= .bool true) rfl (WO.ak (v:= .bool true) rfl (WO.nil (WP.cond (t:=true) rfl (WP.seq (WP.reg (WO.ak (v:= .slN) rfl (WO.ak (v:= .int .i64 10) rfl (WO.ak (v:= .int .i64 (k:Int)) rfl (WO.nil (WP.ret ?_)))))))))))))
                 have hE:Lex.all (s.length+1) 0 s []= .error (10,k):=by
                  rw [hs,bH hb];simp [Lex.blank,one,Lex.put,c0,c1,c2,c3,c4,c5,c6,hb1,hb2,cn9,cn1,c8,hdr,hnd,hb4,c9,Lex.number,Lex.within,hw3,e48]
                 rw [hE]
                 exact ⟨_,(aj (au (v:= .slN) rfl) (aj (au (v:= .int .i64 10) rfl) (aj (au (v:= .int .i64 (k:Int)) rfl) (ay _ _)))),rfl,st.tail⟩
                ·replace c9:¬(bd.toNat=95):=by omega
                 refine WO.yes rfl (WO.val (v:= .bool false) rfl (WO.yes rfl (WO.val (v:= .bool false) rfl (WO.ak (v:= .bool false) rfl (WO.nil (WP.cond (t:=false) rfl (WP.skip (WP.seq (WP.reg (WO.val (v:=L.str ((s.drop k).takeWhile Lex.digit)) (L.nU rfl rfl rfl (by omega) (by omega) (by rw [Nat.add_sub_cancel_left];exact lK _)) (WO.val (v:= .agg [.int .i64 2,L.str ((s.drop k).takeWhile Lex.digit), .int .i64 (k:Int)]) (L.build rfl) (WO.gJ (rows:=[[.int .i64 2,L.str ((s.drop k).takeWhile Lex.digit), .int .i64 (k:Int)]]) st rfl (by decide) rfl (by simp) (fun bs2 h st=> ?_)))))))))))))
                 refine WO.gW st 1 rfl rfl rfl (st.aB 0 rfl) (by decide) (by simp;omega) (fun f2 v2 h st=> ?_)
                 rw [show (ts.map Tok.row)++[[V.int .i64 2,L.str ((s.drop k).takeWhile Lex.digit),V.int .i64 (k:Int)]]=(ts++[Tok.mk 2 ((s.drop k).takeWhile Lex.digit) k]).map Tok.row from by simp [Tok.row]] at st
                 obtain ⟨ab2,rfl⟩:=(st.dK 1 rfl).ne (by simp)
                 refine WO.nil (WP.reg (WO.ak (v:= .int .i64 ((k+((s.drop k).takeWhile Lex.digit).length:Nat):Int)) rfl (WO.nil ?_)))
                 exact ⟨g,(Nat.lt_succ_self _),k+((s.drop k).takeWhile Lex.digit).length,(ts++[Tok.mk 2 ((s.drop k).takeWhile Lex.digit) k]),f2,(.sl ab2 0 ((ts++[Tok.mk 2 ((s.drop k).takeWhile Lex.digit) k]).map Tok.row).length none),x1,x2,x3,(.bool true),(.int .u8 (b.toNat:Int)),(.bool false),(.bool false),x10,(.bool false),x12,x13,x14,x15,x16,(.bool true),(.int .i64 ((k+((s.drop k).takeWhile Lex.digit).length:Nat):Int)),z20,(.bool false),(.bool false),x23,x24,⟨by rw [hs,bH hb];simp [Lex.blank,one,Lex.put,c0,c1,c2,c3,c4,c5,c6,hb1,hb2,cn9,cn1,c8,hdr,hnd,hb4,c9,Lex.number,Lex.within,hw3,e48],(by omega),(by omega),(by first|omega|(simp;omega))⟩,by kernel_rfl,st.tail⟩
               ·refine WO.yes rfl (WO.val (v:= .bool true) rfl (WO.no rfl (WO.no rfl (WO.no rfl (WO.no rfl (WO.yes rfl (WO.val (v:= .bool true) rfl (WO.yes rfl (WO.val (v:= .bool true) rfl (WO.ak (v:= .bool true) rfl (WO.nil (WP.cond (t:=true) rfl (WP.seq (WP.reg (WO.ak (v:= .slN) rfl (WO.ak (v:= .int .i64 10) rfl (WO.ak (v:= .int .i64 (k:Int)) rfl (WO.nil (WP.ret ?_)))))))))))))))))))
                have hE:Lex.all (s.length+1) 0 s []= .error (10,k):=by
                 rw [hs,bH hb];simp [Lex.blank,one,Lex.put,c0,c1,c2,c3,c4,c5,c6,hb1,hb2,cn9,cn1,c8,hdr,hnd,hb4,Lex.number,Lex.within,hw3,e48]
                rw [hE]
                exact ⟨_,(aj (au (v:= .slN) rfl) (aj (au (v:= .int .i64 10) rfl) (aj (au (v:= .int .i64 (k:Int)) rfl) (ay _ _)))),rfl,st.tail⟩
              ·have hdr:s.drop (k+((s.drop k).takeWhile Lex.digit).length)=[]:=List.drop_of_length_le (by omega)
               refine WO.yes rfl (WO.val (v:= .bool false) rfl (WO.no rfl (WO.no rfl (WO.no rfl (WO.no rfl (WO.no rfl (WO.no rfl (WO.no rfl (WO.no rfl (WO.no rfl (WO.no rfl (WO.yes rfl (WO.val (v:= .bool false) rfl (WO.ak (v:= .bool false) rfl (WO.nil (WP.cond (t:=false) rfl (WP.skip (WP.seq (WP.reg (WO.val (v:=L.str ((s.drop k).takeWhile Lex.digit)) (L.nU rfl rfl rfl (by omega) (by omega) (by rw [Nat.add_sub_cancel_left];exact lK _)) (WO.val (v:= .agg [.int .i64 2,L.str ((s.drop k).takeWhile Lex.digit), .int .i64 (k:Int)]) (L.build rfl) (WO.gJ (rows:=[[.int .i64 2,L.str ((s.drop k).takeWhile Lex.digit), .int .i64 (k:Int)]]) st rfl (by decide) rfl (by simp) (fun bs3 h st=> ?_)))))))))))))))))))))))
               refine WO.gW st 1 rfl rfl rfl (st.aB 0 rfl) (by decide) (by simp;omega) (fun f3 v3 h st=> ?_)
               rw [show (ts.map Tok.row)++[[V.int .i64 2,L.str ((s.drop k).takeWhile Lex.digit),V.int .i64 (k:Int)]]=(ts++[Tok.mk 2 ((s.drop k).takeWhile Lex.digit) k]).map Tok.row from by simp [Tok.row]] at st
               obtain ⟨ab3,rfl⟩:=(st.dK 1 rfl).ne (by simp)
               refine WO.nil (WP.reg (WO.ak (v:= .int .i64 ((k+((s.drop k).takeWhile Lex.digit).length:Nat):Int)) rfl (WO.nil ?_)))
               exact ⟨g,(Nat.lt_succ_self _),k+((s.drop k).takeWhile Lex.digit).length,(ts++[Tok.mk 2 ((s.drop k).takeWhile Lex.digit) k]),f3,(.sl ab3 0 ((ts++[Tok.mk 2 ((s.drop k).takeWhile Lex.digit) k]).map Tok.row).length none),x1,x2,x3,(.bool true),(.int .u8 (b.toNat:Int)),(.bool false),(.bool false),x10,(.bool false),x12,x13,x14,x15,x16,(.bool true),(.int .i64 ((k+((s.drop k).takeWhile Lex.digit).length:Nat):Int)),z20,(.bool false),(.bool false),x23,x24,⟨by rw [hs,bH hb];simp [Lex.blank,one,Lex.put,c0,c1,c2,c3,c4,c5,c6,hb1,hb2,cn9,cn1,c8,hdr,Lex.number,Lex.within,hw3,e48],(by omega),(by omega),(by first|omega|(simp;omega))⟩,by kernel_rfl,st.tail⟩
            ·replace cn1:¬1<((s.drop k).takeWhile Lex.digit).length:=by omega
             refine WO.no rfl (WO.no rfl (WO.val (v:= .bool false) rfl (WO.yes rfl (WO.val (v:= .int .i64 ((k+((s.drop k).takeWhile Lex.digit).length:Nat):Int)) rfl (WO.yes rfl (WO.val (v:=L.str s) rfl (WO.yes rfl (WO.val (v:= .int .i64 (s.length:Int)) (L.jo rfl) (WO.yes rfl (WO.ifV (L.lss rfl rfl) (fun cf=> ?_) (fun cf=> ?_)))))))))))
             ·obtain ⟨bd,hbd⟩:∃b,s[k+((s.drop k).takeWhile Lex.digit).length]? =some b:=⟨_,List.getElem?_eq_getElem (by omega)⟩
              have hdr:=drop_at hbd
              have hnd:=Gi hbd
              refine WO.yes rfl (WO.val (v:= .bool true) rfl (WO.yes rfl (WO.val (v:=L.str s) rfl (WO.yes rfl (WO.val (v:= .int .i64 ((k+((s.drop k).takeWhile Lex.digit).length:Nat):Int)) rfl (WO.yes rfl (WO.val (v:= .int .u8 (bd.toNat:Int)) (L.o5 rfl rfl hbd) (WO.yes rfl (WO.aP rfl (p9 D st) ?_)))))))))
              rintro _ h ⟨rfl,st⟩
              cases hb5:Lex.small bd
              ·refine WO.yes rfl (WO.val (v:= .bool false) rfl (WO.yes rfl (WO.val (v:=L.str s) rfl (WO.yes rfl (WO.val (v:= .int .i64 ((k+((s.drop k).takeWhile Lex.digit).length:Nat):Int)) rfl (WO.yes rfl (WO.val (v:= .int .u8 (bd.toNat:Int)) (L.o5 rfl rfl hbd) (WO.yes rfl (WO.ifV (L.eql rfl rfl) (fun c10=> ?_) (fun c10=> ?_))))))))))
               ·replace c10:bd.toNat=95:=by omega
                refine WO.yes rfl (WO.val (v:= .bool true) rfl (WO.yes rfl (WO.val (v:= .bool true) rfl (WO.ak (v:= .bool true) rfl (WO.nil (WP.cond (t:=true) rfl (WP.seq (WP.reg (WO.ak (v:= .slN) rfl (WO.ak (v:= .int .i64 10) rfl (WO.ak (v:= .int .i64 (k:Int)) rfl (WO.nil (WP.ret ?_)))))))))))))
                have hE:Lex.all (s.length+1) 0 s []= .error (10,k):=by
                 rw [hs,bH hb];simp [Lex.blank,one,Lex.put,c0,c1,c2,c3,c4,c5,c6,hb1,hb2,cn9,cn1,hdr,hnd,hb5,c10,Lex.number,Lex.within,hw3,e48]
                rw [hE]
                exact ⟨_,(aj (au (v:= .slN) rfl) (aj (au (v:= .int .i64 10) rfl) (aj (au (v:= .int .i64 (k:Int)) rfl) (ay _ _)))),rfl,st.tail⟩
               ·replace c10:¬(bd.toNat=95):=by omega
                refine WO.yes rfl (WO.val (v:= .bool false) rfl (WO.yes rfl (WO.val (v:= .bool false) rfl (WO.ak (v:= .bool false) rfl (WO.nil (WP.cond (t:=false) rfl (WP.skip (WP.seq (WP.reg (WO.val (v:=L.str ((s.drop k).takeWhile Lex.digit)) (L.nU rfl rfl rfl (by omega) (by omega) (by rw [Nat.add_sub_cancel_left];exact lK _)) (WO.val (v:= .agg [.int .i64 2,L.str ((s.drop k).takeWhile Lex.digit), .int .i64 (k:Int)]) (L.build rfl) (WO.gJ (rows:=[[.int .i64 2,L.str ((s.drop k).takeWhile Lex.digit), .int .i64 (k:Int)]]) st rfl (by decide) rfl (by simp) (fun bs4 h st=> ?_)))))))))))))
                refine WO.gW st 1 rfl rfl rfl (st.aB 0 rfl) (by decide) (by simp;omega) (fun f4 v4 h st=> ?_)
                rw [show (ts.map Tok.row)++[[V.int .i64 2,L.str ((s.drop k).takeWhile Lex.digit),V.int .i64 (k:Int)]]=(ts++[Tok.mk 2 ((s.drop k).takeWhile Lex.digit) k]).map Tok.row from by simp [Tok.row]] at st
                obtain ⟨ab4,rfl⟩:=(st.dK 1 rfl).ne (by simp)
                refine WO.nil (WP.reg (WO.ak (v:= .int .i64 ((k+((s.drop k).takeWhile Lex.digit).length:Nat):Int)) rfl (WO.nil ?_)))
                exact ⟨g,(Nat.lt_succ_self _),k+((s.drop k).takeWhile Lex.digit).length,(ts++[Tok.mk 2 ((s.drop k).takeWhile Lex.digit) k]),f4,(.sl ab4 0 ((ts++[Tok.mk 2 ((s.drop k).takeWhile Lex.digit) k]).map Tok.row).length none),x1,x2,x3,(.bool true),(.int .u8 (b.toNat:Int)),(.bool false),(.bool false),x10,(.bool false),x12,x13,x14,x15,x16,(.bool true),(.int .i64 ((k+((s.drop k).takeWhile Lex.digit).length:Nat):Int)),z20,(.bool false),(.bool false),x23,x24,⟨by rw [hs,bH hb];simp [Lex.blank,one,Lex.put,c0,c1,c2,c3,c4,c5,c6,hb1,hb2,cn9,cn1,hdr,hnd,hb5,c10,Lex.number,Lex.within,hw3,e48],(by omega),(by omega),(by first|omega|(simp;omega))⟩,by kernel_rfl,st.tail⟩
              ·refine WO.yes rfl (WO.val (v:= .bool true) rfl (WO.no rfl (WO.no rfl (WO.no rfl (WO.no rfl (WO.yes rfl (WO.val (v:= .bool true) rfl (WO.yes rfl (WO.val (v:= .bool true) rfl (WO.ak (v:= .bool true) rfl (WO.nil (WP.cond (t:=true) rfl (WP.seq (WP.reg (WO.ak (v:= .slN) rfl (WO.ak (v:= .int .i64 10) rfl (WO.ak (v:= .int .i64 (k:Int)) rfl (WO.nil (WP.ret ?_)))))))))))))))))))
               have hE:Lex.all (s.length+1) 0 s []= .error (10,k):=by
                rw [hs,bH hb];simp [Lex.blank,one,Lex.put,c0,c1,c2,c3,c4,c5,c6,hb1,hb2,cn9,cn1,hdr,hnd,hb5,Lex.number,Lex.within,hw3,e48]
               rw [hE]
               exact ⟨_,(aj (au (v:= .slN) rfl) (aj (au (v:= .int .i64 10) rfl) (aj (au (v:= .int .i64 (k:Int)) rfl) (ay _ _)))),rfl,st.tail⟩
             ·have hdr:s.drop (k+((s.drop k).takeWhile Lex.digit).length)=[]:=List.drop_of_length_le (by omega)
              refine WO.yes rfl (WO.val (v:= .bool false) rfl (WO.no rfl (WO.no rfl (WO.no rfl (WO.no rfl (WO.no rfl (WO.no rfl (WO.no rfl (WO.no rfl (WO.no rfl (WO.no rfl (WO.yes rfl (WO.val (v:= .bool false) rfl (WO.ak (v:= .bool false) rfl (WO.nil (WP.cond (t:=false) rfl (WP.skip (WP.seq (WP.reg (WO.val (v:=L.str ((s.drop k).takeWhile Lex.digit)) (L.nU rfl rfl rfl (by omega) (by omega) (by rw [Nat.add_sub_cancel_left];exact lK _)) (WO.val (v:= .agg [.int .i64 2,L.str ((s.drop k).takeWhile Lex.digit), .int .i64 (k:Int)]) (L.build rfl) (WO.gJ (rows:=[[.int .i64 2,L.str ((s.drop k).takeWhile Lex.digit), .int .i64 (k:Int)]]) st rfl (by decide) rfl (by simp) (fun bs5 h st=> ?_)))))))))))))))))))))))
              refine WO.gW st 1 rfl rfl rfl (st.aB 0 rfl) (by decide) (by simp;omega) (fun f5 v5 h st=> ?_)
              rw [show (ts.map Tok.row)++[[V.int .i64 2,L.str ((s.drop k).takeWhile Lex.digit),V.int .i64 (k:Int)]]=(ts++[Tok.mk 2 ((s.drop k).takeWhile Lex.digit) k]).map Tok.row from by simp [Tok.row]] at st
              obtain ⟨ab5,rfl⟩:=(st.dK 1 rfl).ne (by simp)
              refine WO.nil (WP.reg (WO.ak (v:= .int .i64 ((k+((s.drop k).takeWhile Lex.digit).length:Nat):Int)) rfl (WO.nil ?_)))
              exact ⟨g,(Nat.lt_succ_self _),k+((s.drop k).takeWhile Lex.digit).length,(ts++[Tok.mk 2 ((s.drop k).takeWhile Lex.digit) k]),f5,(.sl ab5 0 ((ts++[Tok.mk 2 ((s.drop k).takeWhile Lex.digit) k]).map Tok.row).length none),x1,x2,x3,(.bool true),(.int .u8 (b.toNat:Int)),(.bool false),(.bool false),x10,(.bool false),x12,x13,x14,x15,x16,(.bool true),(.int .i64 ((k+((s.drop k).takeWhile Lex.digit).length:Nat):Int)),z20,(.bool false),(.bool false),x23,x24,⟨by rw [hs,bH hb];simp [Lex.blank,one,Lex.put,c0,c1,c2,c3,c4,c5,c6,hb1,hb2,cn9,cn1,hdr,Lex.number,Lex.within,hw3,e48],(by omega),(by omega),(by first|omega|(simp;omega))⟩,by kernel_rfl,st.tail⟩
        ·refine WO.nil (WP.cond (t:=true) rfl (WP.seq (WP.reg (WO.ak (v:= .int .i64 (k:Int)) rfl (WO.nil (WP.Ae (fun env h=>∃z13,env=aO [L.str s,x1,x2,x3, .bool false, .int .i64 (k:Int), .bool true, .int .u8 (b.toNat:Int), .bool false, .bool false,x10, .bool true, .int .i64 ((k+((s.drop k).takeWhile Lex.within).length:Nat):Int),z13,x14,x15,x16,vy,x18,x19,x20,x21,x22,x23,x24] 0 Env.nil∧St (.acc fy 3 vy (ts.map Tok.row)::fs) h) ?_ ?_))))))
         ·refine WP.block (WP.bT (α:=Nat) (fun j env h=>∃x13,(k+j≤s.length∧(s.drop k).takeWhile Lex.within=(s.drop k).take j++(s.drop (k+j)).takeWhile Lex.within)∧env=aO [L.str s,x1,x2,x3, .bool false, .int .i64 (k:Int), .bool true, .int .u8 (b.toNat:Int), .bool false, .bool false,x10, .bool true, .int .i64 ((k+j:Nat):Int),x13,x14,x15,x16,vy,x18,x19,x20,x21,x22,x23,x24] 0 Env.nil∧St (.acc fy 3 vy (ts.map Tok.row)::fs) h) (fun j=>s.length - (k+j)) 0 ?_ ?_)
          ·exact ⟨x13,⟨by omega,by simp⟩,by kernel_rfl,st⟩
          rintro j _ h ⟨x13,⟨hj1,hj2⟩,rfl,st⟩
          refine WP.seq (WP.seq (WP.reg (WO.val (v:= .int .i64 (s.length:Int)) (L.jo rfl) (WO.ifV (L.lss rfl rfl) (fun cj=> ?_) (fun cj=> ?_)))))
          ·obtain ⟨bj,hbj⟩:∃b,s[k+j]? =some b:=⟨_,List.getElem?_eq_getElem (by omega)⟩
           refine WO.yes rfl (WO.val (v:=L.str s) rfl (WO.yes rfl (WO.val (v:= .int .i64 ((k+j:Nat):Int)) rfl (WO.yes rfl (WO.val (v:= .int .u8 (bj.toNat:Int)) (L.o5 rfl rfl hbj) (WO.yes rfl (WO.aP rfl (p9 D st) ?_)))))))
           rintro _ h ⟨rfl,st⟩
           cases hb6:Lex.small bj
           ·refine WO.yes rfl (WO.val (v:= .bool false) rfl (WO.yes rfl (WO.val (v:=L.str s) rfl (WO.yes rfl (WO.val (v:= .int .i64 ((k+j:Nat):Int)) rfl (WO.yes rfl (WO.val (v:= .int .u8 (bj.toNat:Int)) (L.o5 rfl rfl hbj) (WO.yes rfl (WO.aP rfl (yh D st) ?_)))))))))
            rintro _ h ⟨rfl,st⟩
            cases hb7:Lex.digit bj
            ·refine WO.yes rfl (WO.val (v:= .bool false) rfl (WO.yes rfl (WO.val (v:= .bool false) rfl (WO.yes rfl (WO.val (v:=L.str s) rfl (WO.yes rfl (WO.val (v:= .int .i64 ((k+j:Nat):Int)) rfl (WO.yes rfl (WO.val (v:= .int .u8 (bj.toNat:Int)) (L.o5 rfl rfl hbj) (WO.yes rfl (WO.ifV (L.eql rfl rfl) (fun c11=> ?_) (fun c11=> ?_))))))))))))
             ·replace c11:bj.toNat=95:=by omega
              refine WO.yes rfl (WO.val (v:= .bool true) rfl (WO.ak (v:= .bool true) rfl (WO.nil (WP.cond (t:=true) rfl (WP.skip (WP.block (WP.reg (WO.ak (v:= .int .i64 ((k+(j+1):Nat):Int)) (L.bP rfl rfl (by omega) (And.intro (by omega) (by omega))) (WO.nil ?_)))))))))
              have hnx:(s.drop k).takeWhile Lex.within=(s.drop k).take (j+1)++(s.drop (k+(j+1))).takeWhile Lex.within:=by
               rw [hj2,eF hbj (by first|assumption|simp [Lex.within,hb6,hb7,c11]),List.take_add_one,List.getElem?_drop,hbj];simp [Nat.add_assoc]
              exact ⟨j+1,(by omega),(.bool true),⟨by omega,hnx⟩,by kernel_rfl,st⟩
             ·replace c11:¬(bj.toNat=95):=by omega
              refine WO.yes rfl (WO.val (v:= .bool false) rfl (WO.ak (v:= .bool false) rfl (WO.nil (WP.cond (t:=false) rfl (WP.exit ?_)))))
              have hz:(s.drop (k+j)).takeWhile Lex.within=[]:=(jc hbj (by first|assumption|simp [Lex.within,hb6,hb7,c11]))
              have htw:(s.drop k).takeWhile Lex.within=(s.drop k).take j:=by rw [hj2,hz,List.append_nil]
              obtain rfl:((s.drop k).takeWhile Lex.within).length=j:=by rw [htw];simp;omega
              exact ⟨(.bool false),by kernel_rfl,st⟩
            ·refine WO.yes rfl (WO.val (v:= .bool true) rfl (WO.yes rfl (WO.val (v:= .bool true) rfl (WO.no rfl (WO.no rfl (WO.no rfl (WO.no rfl (WO.yes rfl (WO.val (v:= .bool true) rfl (WO.ak (v:= .bool true) rfl (WO.nil (WP.cond (t:=true) rfl (WP.skip (WP.block (WP.reg (WO.ak (v:= .int .i64 ((k+(j+1):Nat):Int)) (L.bP rfl rfl (by omega) (And.intro (by omega) (by omega))) (WO.nil ?_)))))))))))))))))
             have hnx:(s.drop k).takeWhile Lex.within=(s.drop k).take (j+1)++(s.drop (k+(j+1))).takeWhile Lex.within:=by
              rw [hj2,eF hbj (by first|assumption|simp [Lex.within,hb6,hb7]),List.take_add_one,List.getElem?_drop,hbj];simp [Nat.add_assoc]
             exact ⟨j+1,(by omega),(.bool true),⟨by omega,hnx⟩,by kernel_rfl,st⟩
           ·refine WO.yes rfl (WO.val (v:= .bool true) rfl (WO.no rfl (WO.no rfl (WO.no rfl (WO.no rfl (WO.yes rfl (WO.val (v:= .bool true) rfl (WO.yes rfl (WO.val (v:= .bool true) rfl (WO.no rfl (WO.no rfl (WO.no rfl (WO.no rfl (WO.yes rfl (WO.val (v:= .bool true) rfl (WO.ak (v:= .bool true) rfl (WO.nil (WP.cond (t:=true) rfl (WP.skip (WP.block (WP.reg (WO.ak (v:= .int .i64 ((k+(j+1):Nat):Int)) (L.bP rfl rfl (by omega) (And.intro (by omega) (by omega))) (WO.nil ?_)))))))))))))))))))))))
            have hnx:(s.drop k).takeWhile Lex.within=(s.drop k).take (j+1)++(s.drop (k+(j+1))).takeWhile Lex.within:=by
             rw [hj2,eF hbj (by first|assumption|simp [Lex.within,hb6]),List.take_add_one,List.getElem?_drop,hbj];simp [Nat.add_assoc]
            exact ⟨j+1,(by omega),(.bool true),⟨by omega,hnx⟩,by kernel_rfl,st⟩
          ·have lnf:¬k+j<s.length:=by omega
           refine WO.no rfl (WO.no rfl (WO.no rfl (WO.no rfl (WO.no rfl (WO.no rfl (WO.no rfl (WO.no rfl (WO.no rfl (WO.no rfl (WO.no rfl (WO.no rfl (WO.no rfl (WO.no rfl (WO.no rfl (WO.no rfl (WO.ak (v:= .bool false) rfl (WO.nil (WP.cond (t:=false) rfl (WP.exit ?_)))))))))))))))))))
           have hz:(s.drop (k+j)).takeWhile Lex.within=[]:=(by rw [List.drop_of_length_le (by omega)];rfl)
           have htw:(s.drop k).takeWhile Lex.within=(s.drop k).take j:=by rw [hj2,hz,List.append_nil]
           obtain rfl:((s.drop k).takeWhile Lex.within).length=j:=by rw [htw];simp;omega
           exact ⟨(.bool false),by kernel_rfl,st⟩
         ·rintro _ h ⟨z13,rfl,st⟩
          obtain ⟨hw1,hw2,hw3⟩:=lW (f:=Lex.within) hb (by first|assumption|simp [Lex.within,one,c0,c1,c2,c3,c4,c5,c6,hb1])
          refine WP.seq (WP.reg (WO.ak (v:= .int .i64 1) rfl (WO.nil (WP.seq (WP.seq (WP.reg (WO.val (v:=L.str ((s.drop k).takeWhile Lex.within)) (L.nU rfl rfl rfl (by omega) (by omega) (by rw [Nat.add_sub_cancel_left];exact lK _)) (WO.dB rfl (xkey_c D st) ?_))))))))
          rintro _ h ⟨rfl,st⟩
          by_cases hk1:((s.drop k).takeWhile Lex.within)∈Lex.keys
          ·rw [show decide (((s.drop k).takeWhile Lex.within)∈Lex.keys)=true by simp [hk1]]
           refine WO.nil (WP.cond (t:=true) rfl (WP.reg (WO.ak (v:= .int .i64 3) rfl (WO.nil (WP.seq (WP.seq (WP.reg (WO.val (v:= .int .i64 (((s.drop k).takeWhile Lex.within).length:Int)) (L.uV rfl rfl (by omega) (And.intro (by omega) (by omega))) ?_))))))))
           have hkl:=KQ hk1
           refine WO.ifS (L.gtr rfl rfl) (fun cg=>by exfalso;omega) (fun cg=> ?_)
           refine WO.nil (WP.cond (t:=false) rfl (WP.skip (WP.seq (WP.reg (WO.val (v:=L.str ((s.drop k).takeWhile Lex.within)) (L.nU rfl rfl rfl (by omega) (by omega) (by rw [Nat.add_sub_cancel_left];exact lK _)) (WO.val (v:= .agg [.int .i64 3,L.str ((s.drop k).takeWhile Lex.within), .int .i64 (k:Int)]) (L.build rfl) (WO.gJ (rows:=[[.int .i64 3,L.str ((s.drop k).takeWhile Lex.within), .int .i64 (k:Int)]]) st rfl (by decide) rfl (by simp) (fun bs6 h st=> ?_))))))))
           refine WO.gW st 1 rfl rfl rfl (st.aB 0 rfl) (by decide) (by simp;omega) (fun f6 v6 h st=> ?_)
           rw [show (ts.map Tok.row)++[[V.int .i64 3,L.str ((s.drop k).takeWhile Lex.within),V.int .i64 (k:Int)]]=(ts++[Tok.mk 3 ((s.drop k).takeWhile Lex.within) k]).map Tok.row from by simp [Tok.row]] at st
           obtain ⟨ab6,rfl⟩:=(st.dK 1 rfl).ne (by simp)
           refine WO.nil (WP.reg (WO.ak (v:= .int .i64 ((k+((s.drop k).takeWhile Lex.within).length:Nat):Int)) rfl (WO.nil ?_)))
           exact ⟨g,(Nat.lt_succ_self _),k+((s.drop k).takeWhile Lex.within).length,(ts++[Tok.mk 3 ((s.drop k).takeWhile Lex.within) k]),f6,(.sl ab6 0 ((ts++[Tok.mk 3 ((s.drop k).takeWhile Lex.within) k]).map Tok.row).length none),x1,x2,x3,(.bool true),(.int .u8 (b.toNat:Int)),(.bool false),(.bool false),x10,(.bool true),(.int .i64 ((k+((s.drop k).takeWhile Lex.within).length:Nat):Int)),z13,(.bool true),(.bool false),(.int .i64 3),x18,x19,x20,x21,x22,x23,x24,⟨by rw [hs,bH hb];simp [Lex.blank,one,Lex.put,c0,c1,c2,c3,c4,c5,c6,hb1,hk1,Lex.word],(by omega),(by omega),(by first|omega|(simp;omega))⟩,by kernel_rfl,st.tail⟩
          ·rw [show decide (((s.drop k).takeWhile Lex.within)∈Lex.keys)=false by simp [hk1]]
           refine WO.nil (WP.cond (t:=false) rfl (WP.skip (WP.seq (WP.seq (WP.reg (WO.val (v:= .int .i64 (((s.drop k).takeWhile Lex.within).length:Int)) (L.uV rfl rfl (by omega) (And.intro (by omega) (by omega))) (WO.ifS (L.gtr rfl rfl) (fun cg=> ?_) (fun cg=> ?_))))))))
           ·replace cg:20<((s.drop k).takeWhile Lex.within).length:=by omega
            refine WO.nil (WP.cond (t:=true) rfl (WP.seq (WP.reg (WO.ak (v:= .slN) rfl (WO.ak (v:= .int .i64 9) rfl (WO.ak (v:= .int .i64 (k:Int)) rfl (WO.nil (WP.ret ?_))))))))
            have hE:Lex.all (s.length+1) 0 s []= .error (9,k):=by
             rw [hs,bH hb];simp [Lex.blank,one,Lex.put,c0,c1,c2,c3,c4,c5,c6,hb1,hk1,cg,Lex.word]
            rw [hE]
            exact ⟨_,(aj (au (v:= .slN) rfl) (aj (au (v:= .int .i64 9) rfl) (aj (au (v:= .int .i64 (k:Int)) rfl) (ay _ _)))),rfl,st.tail⟩
           ·replace cg:¬20<((s.drop k).takeWhile Lex.within).length:=by omega
            refine WO.nil (WP.cond (t:=false) rfl (WP.skip (WP.seq (WP.reg (WO.val (v:=L.str ((s.drop k).takeWhile Lex.within)) (L.nU rfl rfl rfl (by omega) (by omega) (by rw [Nat.add_sub_cancel_left];exact lK _)) (WO.val (v:= .agg [.int .i64 1,L.str ((s.drop k).takeWhile Lex.within), .int .i64 (k:Int)]) (L.build rfl) (WO.gJ (rows:=[[.int .i64 1,L.str ((s.drop k).takeWhile Lex.within), .int .i64 (k:Int)]]) st rfl (by decide) rfl (by simp) (fun bs7 h st=> ?_))))))))
            refine WO.gW st 1 rfl rfl rfl (st.aB 0 rfl) (by decide) (by simp;omega) (fun f7 v7 h st=> ?_)
            rw [show (ts.map Tok.row)++[[V.int .i64 1,L.str ((s.drop k).takeWhile Lex.within),V.int .i64 (k:Int)]]=(ts++[Tok.mk 1 ((s.drop k).takeWhile Lex.within) k]).map Tok.row from by simp [Tok.row]] at st
            obtain ⟨ab7,rfl⟩:=(st.dK 1 rfl).ne (by simp)
            refine WO.nil (WP.reg (WO.ak (v:= .int .i64 ((k+((s.drop k).takeWhile Lex.within).length:Nat):Int)) rfl (WO.nil ?_)))
            exact ⟨g,(Nat.lt_succ_self _),k+((s.drop k).takeWhile Lex.within).length,(ts++[Tok.mk 1 ((s.drop k).takeWhile Lex.within) k]),f7,(.sl ab7 0 ((ts++[Tok.mk 1 ((s.drop k).takeWhile Lex.within) k]).map Tok.row).length none),x1,x2,x3,(.bool true),(.int .u8 (b.toNat:Int)),(.bool false),(.bool false),x10,(.bool true),(.int .i64 ((k+((s.drop k).takeWhile Lex.within).length:Nat):Int)),z13,(.bool false),(.bool false),(.int .i64 1),x18,x19,x20,x21,x22,x23,x24,⟨by rw [hs,bH hb];simp [Lex.blank,one,Lex.put,c0,c1,c2,c3,c4,c5,c6,hb1,hk1,cg,Lex.word],(by omega),(by omega),(by first|omega|(simp;omega))⟩,by kernel_rfl,st.tail⟩
  ·replace c1:¬(k<s.length):=by omega
   refine WO.nil (WP.cond (t:=false) rfl (WP.exit (WP.seq (WP.reg (WO.val (v:= .int .i64 (s.length:Int)) (L.jo rfl) (WO.val (v:= .agg [.int .i64 0, .str 0 0, .int .i64 (s.length:Int)]) (L.build rfl) (WO.gJ (rows:=[[.int .i64 0, .str 0 0, .int .i64 (s.length:Int)]]) st rfl (by decide) rfl (by simp) (fun bs8 h st=> ?_))))))))
   refine WO.gW st 1 rfl rfl rfl (st.aB 0 rfl) (by decide) (by simp;omega) (fun f8 v8 h st=> ?_)
   rw [show (ts.map Tok.row)++[[V.int .i64 0,V.str 0 0,V.int .i64 (s.length:Int)]]=(ts++[Tok.mk 0 [] s.length]).map Tok.row from by simp [Tok.row];rfl] at st
   obtain ⟨ab8,rfl⟩:=(st.dK 1 rfl).ne (by simp)
   refine WO.ak (v:= .int .i64 0) rfl (WO.ak (v:= .int .i64 0) rfl (WO.nil (WP.ret ?_)))
   have hz:s.drop k=[]:=List.drop_of_length_le (by omega)
   have hE:Lex.all (s.length+1) 0 s []= .ok (ts++[⟨0,[],s.length⟩]):=by
    rw [hs,hz,show k=s.length by omega];rfl
   rw [hE]
   exact ⟨_,(aj (au (v:= .sl ab8 0 (((ts++[Tok.mk 0 [] s.length]).map Tok.row).length) none) rfl) (aj (au (v:= .int .i64 0) rfl) (aj (au (v:= .int .i64 0) rfl) (ay _ _)))),_,rfl,(st.tail).shut (by decide)⟩
end
end Go.Eng.Ytjgmahbgfbkhnaa
namespace Go.Eng.Ytjgmahbgfbkhnaa
open Go.Eng
noncomputable section
variable {c:Ctx}
theorem Gq (D:qZ c) {fs:List Fact} {h:Heap} {p:RP} {i d e a:Nat} {S:Par.SX} (st:St (p.kX i d e a::p.toks::fs) h) (hx:XAt p i e a S):
 aM c 60 [.ptr p.rb 0] h fun v h1=>v= .int .i64 (fV p i:Int)∧St (p.kX i d e a::p.toks::fs) h1:=by
 obtain ⟨t,ht,hrow⟩:=hx.row
 rw [qY ht]
 refine aM.bX D.f60 rfl (WP.seq (WP.reg (WO.ak (v:= .int .i64 0) rfl (WO.nil (WP.seq (WP.draw (WD.val (v:= .ptr p.rb 0) rfl (WD.val (v:= .ptr p.rb 0) rfl (WD.val (v:= .ptr p.rb 0) (L.aA rfl) (WD.val (v:= .sl p.tb p.to p.ts.length p.cap) (L.aG rfl (st.av 0 rfl) rfl) (WD.val (v:= .ptr p.rb 0) rfl (WD.val (v:= .ptr p.rb 0) rfl (WD.val (v:= .ptr p.rb 1) (L.aA rfl) (WD.val (v:= .int .i64 (i:Int)) (L.aG rfl (st.av 0 rfl) rfl) (WD.val (v:= .ptr p.tb (p.to+i * 3)) (L.aC rfl rfl hx.lt) (WD.val (v:= .ptr p.tb (p.to+i * 3+2)) (L.aA rfl) (WD.val (v:= .int .i64 (t.at_:Int)) (L.load rfl ((st.aB 1 rfl).wV hrow (show _=some _ from rfl))) (WD.ak (v:= .int .i64 (t.at_:Int)) rfl (WD.nil (WP.ret ?_))))))))))))))))))))
 exact ⟨_,(aj (au (v:= .int .i64 (t.at_:Int)) rfl) (ay _ _)),(rfl),st⟩
theorem xis_c (D:qZ c) {fs:List Fact} {h:Heap} {p:RP} {i d e a:Nat} {S:Par.SX} {s:List UInt8} (st:St (p.kX i d e a::p.toks::fs) h) (hx:XAt p i e a S):
 aM c 62 [.ptr p.rb 0,L.str s] h fun v h1=>v= .bool (Par.isS s S)∧St (p.kX i d e a::p.toks::fs) h1:=by
 obtain ⟨t,ht,hrow⟩:=hx.row
 rw [hx.isS_eq ht]
 refine aM.bX D.f62 rfl (WP.seq (WP.reg (WO.ak (v:= .bool false) rfl (WO.nil (WP.seq (WP.draw (WD.val (v:= .ptr p.rb 0) rfl (WD.val (v:= .ptr p.rb 0) rfl (WD.val (v:= .ptr p.rb 0) (L.aA rfl) (WD.val (v:= .sl p.tb p.to p.ts.length p.cap) (L.aG rfl (st.av 0 rfl) rfl) (WD.val (v:= .ptr p.rb 0) rfl (WD.val (v:= .ptr p.rb 0) rfl (WD.val (v:= .ptr p.rb 1) (L.aA rfl) (WD.val (v:= .int .i64 (i:Int)) (L.aG rfl (st.av 0 rfl) rfl) (WD.val (v:= .ptr p.tb (p.to+i * 3)) (L.aC rfl rfl hx.lt) (WD.val (v:= .agg [.int .i64 (t.kind:Int),L.str t.text, .int .i64 (t.at_:Int)]) (L.cO rfl ((st.aB 1 rfl).cO hrow)) (WD.dz st L.alloc (fun b1 h st=> ?_))))))))))))))))))
 refine WD.aI (row':=[.int .i64 (t.kind:Int),L.str t.text, .int .i64 (t.at_:Int)]) st 0 rfl rfl rfl rfl rfl rfl rfl (fun h st=>rfl) (fun h st=> ?_)
 refine WD.nil (WP.seq (WP.reg (WO.val (v:= .ptr p.rb 0) rfl (WO.val (v:= .ptr p.rb 3) (L.aA rfl) (WO.val (v:= .int .i64 (e:Int)) (L.aG rfl (st.av 1 rfl) rfl) (WO.ifV (L.eql rfl rfl) (fun c1=> ?_) (fun c1=> ?_)))))))
 ·replace c1:e=0:=by omega
  refine WO.yes rfl (WO.val (v:= .ptr b1 0) (L.aA rfl) (WO.yes rfl (WO.val (v:= .int .i64 (t.kind:Int)) (L.aG rfl (st.av 0 rfl) rfl) (WO.yes rfl (WO.ifV (L.eql rfl rfl) (fun c2=> ?_) (fun c2=> ?_))))))
  ·replace c2:t.kind=4:=by omega
   refine WO.yes rfl (WO.val (v:= .bool true) rfl (WO.no rfl (WO.no rfl (WO.no rfl (WO.yes rfl (WO.val (v:= .bool true) rfl (WO.val (v:= .bool true) rfl (WO.yes rfl (WO.val (v:= .ptr b1 1) (L.aA rfl) (WO.yes rfl (WO.val (v:=L.str t.text) (L.aG rfl (st.av 0 rfl) rfl) (WO.yes rfl (WO.val (v:=L.str s) rfl (WO.yes rfl (WO.ifV (L.seq rfl rfl) (fun c3=> ?_) (fun c3=> ?_))))))))))))))))
   ·refine WO.ak (v:= .bool true) rfl (WO.nil (WP.ret ?_))
    exact ⟨_,(aj (au (v:= .bool true) rfl) (ay _ _)),((by simp [one, *])),st.tail⟩
   ·refine WO.ak (v:= .bool false) rfl (WO.nil (WP.ret ?_))
    exact ⟨_,(aj (au (v:= .bool false) rfl) (ay _ _)),((by simp [one, *])),st.tail⟩
  ·replace c2:¬(t.kind=4):=by omega
   refine WO.yes rfl (WO.val (v:= .bool false) rfl (WO.yes rfl (WO.val (v:= .ptr b1 0) (L.aA rfl) (WO.yes rfl (WO.val (v:= .int .i64 (t.kind:Int)) (L.aG rfl (st.av 0 rfl) rfl) (WO.yes rfl (WO.ifV (L.eql rfl rfl) (fun c4=> ?_) (fun c4=> ?_))))))))
   ·replace c4:t.kind=3:=by omega
    refine WO.yes rfl (WO.val (v:= .bool true) rfl (WO.val (v:= .bool true) rfl (WO.yes rfl (WO.val (v:= .ptr b1 1) (L.aA rfl) (WO.yes rfl (WO.val (v:=L.str t.text) (L.aG rfl (st.av 0 rfl) rfl) (WO.yes rfl (WO.val (v:=L.str s) rfl (WO.yes rfl (WO.ifV (L.seq rfl rfl) (fun c5=> ?_) (fun c5=> ?_)))))))))))
    ·refine WO.ak (v:= .bool true) rfl (WO.nil (WP.ret ?_))
     exact ⟨_,(aj (au (v:= .bool true) rfl) (ay _ _)),((by simp [one, *])),st.tail⟩
    ·refine WO.ak (v:= .bool false) rfl (WO.nil (WP.ret ?_))
     exact ⟨_,(aj (au (v:= .bool false) rfl) (ay _ _)),((by simp [one, *])),st.tail⟩
   ·replace c4:¬(t.kind=3):=by omega
    refine WO.yes rfl (WO.val (v:= .bool false) rfl (WO.val (v:= .bool false) rfl (WO.no rfl (WO.no rfl (WO.no rfl (WO.no rfl (WO.ak (v:= .bool false) rfl (WO.nil (WP.ret ?_)))))))))
    exact ⟨_,(aj (au (v:= .bool false) rfl) (ay _ _)),((by simp [one, *])),st.tail⟩
 ·replace c1:¬(e=0):=by omega
  refine WO.no rfl (WO.no rfl (WO.no rfl (WO.no rfl (WO.no rfl (WO.no rfl (WO.no rfl (WO.no rfl (WO.val (v:= .bool false) rfl (WO.no rfl (WO.no rfl (WO.no rfl (WO.no rfl (WO.ak (v:= .bool false) rfl (WO.nil (WP.ret ?_)))))))))))))))
  exact ⟨_,(aj (au (v:= .bool false) rfl) (ay _ _)),((by simp [one, *])),st.tail⟩
theorem AB (D:qZ c) {fs:List Fact} {h:Heap} {p:RP} {i d e a:Nat} {S:Par.SX} {s:List UInt8} (st:St (p.kX i d e a::p.toks::fs) h) (hx:XAt p i e a S):
 aM c 63 [.ptr p.rb 0,L.str s] h fun v h1=>(v= .bool true∧(∃l,S= .ok l∧e=0∧a=0∧Par.is s l=true∧Left p (i+1) l.tail)∧St (p.kX (i+1) d 0 0::p.toks::fs) h1)∨(v= .bool false∧Par.isS s S=false∧St (p.kX i d e a::p.toks::fs) h1):=by
 refine aM.bX D.f63 rfl (WP.seq (WP.reg (WO.ak (v:= .bool false) rfl (WO.nil (WP.seq (WP.seq (WP.reg (WO.aP rfl (xis_c D st hx) ?_))))))))
 rintro _ h ⟨rfl,st⟩
 cases his:Par.isS s S
 ·refine WO.ak (v:= .bool true) rfl (WO.nil (WP.cond (t:=true) rfl (WP.seq (WP.reg (WO.ak (v:= .bool false) rfl (WO.nil (WP.ret ?_)))))))
  exact ⟨_,(aj (au (v:= .bool false) rfl) (ay _ _)),Or.inr ⟨rfl,rfl,st⟩⟩
 ·obtain ⟨l,hS,he,ha,hi,hl⟩:=hx.isS his
  have hsm:=hx.small
  have hlt:=hl.lt
  refine WO.ak (v:= .bool false) rfl (WO.nil (WP.cond (t:=false) rfl (WP.skip (WP.seq (WP.reg (WO.val (v:= .ptr p.rb 0) rfl (WO.val (v:= .ptr p.rb 1) (L.aA rfl) (WO.val (v:= .int .i64 (i:Int)) (L.aG rfl (st.av 0 rfl) rfl) (WO.val (v:= .int .i64 ((i+1:Nat):Int)) (L.bP rfl rfl (by omega) (And.intro (by omega) (by omega))) (WO.val (v:= .ptr p.rb 0) rfl (WO.val (v:= .ptr p.rb 1) (L.aA rfl) (WO.aI (row':=[.sl p.tb p.to p.ts.length p.cap, .int .i64 ((i+1:Nat):Int), .int .i64 (d:Int), .int .i64 (e:Int), .int .i64 (a:Int)]) st 0 rfl rfl rfl rfl rfl rfl rfl (fun h st=> ?_)))))))))))))
  refine WO.nil (WP.seq (WP.reg (WO.ak (v:= .bool true) rfl (WO.nil (WP.ret ?_)))))
  exact ⟨_,(aj (au (v:= .bool true) rfl) (ay _ _)),Or.inl ⟨rfl,⟨l,hS,he,ha,hi,hl.is hi⟩,by subst he ha;exact st⟩⟩
theorem AJ (D:qZ c) {fs:List Fact} {h:Heap} {p:RP} {i d e a:Nat} {S:Par.SX} {k:Nat} (st:St (p.kX i d e a::p.toks::fs) h) (hx:XAt p i e a S) (hk:k≠0):
 aM c 90 [.ptr p.rb 0, .int .i64 (k:Int)] h fun v h1=>v= .tup []∧∃e' a',e'≠0∧XAt p i e' a' (Par.KS k S)∧St (p.kX i d e' a'::p.toks::fs) h1:=by
 obtain ⟨t,ht,hrow⟩:=hx.row
 refine aM.bX D.f90 rfl (WP.seq (WP.reg (WO.val (v:= .ptr p.rb 0) rfl (WO.val (v:= .ptr p.rb 3) (L.aA rfl) (WO.val (v:= .int .i64 (e:Int)) (L.aG rfl (st.av 0 rfl) rfl) (WO.ifS (L.eql rfl rfl) (fun ce=> ?_) (fun ce=> ?_)))))))
 ·replace ce:e=0:=by omega
  obtain ⟨l1,hS1,ha1,hl1⟩:=hx.good ce
  subst hS1 ha1 ce
  refine WO.nil (WP.cond (t:=true) rfl (WP.seq (WP.reg (WO.val (v:= .ptr p.rb 0) rfl (WO.val (v:= .ptr p.rb 3) (L.aA rfl) (WO.aI (row':=[.sl p.tb p.to p.ts.length p.cap, .int .i64 (i:Int), .int .i64 (d:Int), .int .i64 (k:Int), .int .i64 0]) st 0 rfl rfl rfl rfl rfl rfl rfl (fun h st=> ?_)))))))
  refine WO.nil (WP.draw (WD.val (v:= .ptr p.rb 0) rfl (WD.val (v:= .ptr p.rb 0) rfl (WD.val (v:= .ptr p.rb 0) rfl (WD.val (v:= .ptr p.rb 0) (L.aA rfl) (WD.val (v:= .sl p.tb p.to p.ts.length p.cap) (L.aG rfl (st.av 0 rfl) rfl) (WD.val (v:= .ptr p.rb 0) rfl (WD.val (v:= .ptr p.rb 0) rfl (WD.val (v:= .ptr p.rb 1) (L.aA rfl) (WD.val (v:= .int .i64 (i:Int)) (L.aG rfl (st.av 0 rfl) rfl) (WD.val (v:= .ptr p.tb (p.to+i * 3)) (L.aC rfl rfl (XAt.ok hl1).lt) (WD.val (v:= .ptr p.tb (p.to+i * 3+2)) (L.aA rfl) (WD.val (v:= .int .i64 (fV p i:Int)) (by rw [qY ht];exact L.load rfl ((st.aB 1 rfl).wV hrow (show _=some _ from rfl))) (WD.val (v:= .ptr p.rb 0) rfl (WD.val (v:= .ptr p.rb 4) (L.aA rfl) (WD.aI (row':=[.sl p.tb p.to p.ts.length p.cap, .int .i64 (i:Int), .int .i64 (d:Int), .int .i64 (k:Int), .int .i64 (fV p i:Int)]) st 0 rfl rfl rfl rfl rfl rfl rfl (fun h st=>rfl) (fun h st=> ?_)))))))))))))))))
  refine WD.nil ?_
  exact ⟨_,(ay _ _),rfl,k,_,hk,by rw [hl1.here];exact XAt.err hk hx.lt hx.small,st⟩
 ·replace ce:e≠0:=by omega
  have hbad:=hx.bad ce
  refine WO.nil (WP.cond (t:=false) rfl (WP.skip ?_))
  exact ⟨_,(ay _ _),rfl,e,a,ce,by rw [hbad];exact XAt.err ce hx.lt hx.small,st⟩
theorem AL (D:qZ c) {fs:List Fact} {h:Heap} {p:RP} {i d e a:Nat} {S:Par.SX} {s:List UInt8} (st:St (p.kX i d e a::p.toks::fs) h) (hx:XAt p i e a S):
 aM c 59 [.ptr p.rb 0,L.str s] h fun v h1=>∃(x:Nat) (S':Par.SX) (i' e' a':Nat),v= .tup []∧Stp p S i (Par.must s) x S' i' e' a'∧St (p.kX i' d e' a'::p.toks::fs) h1:=by
 refine aM.bX D.f59 rfl (WP.seq (WP.reg (WO.aP rfl (AB (s:=s) D st hx) ?_)))
 rintro _ h (⟨rfl,⟨l1,hS1,he1,ha1,hi,hl1⟩,stn⟩|⟨rfl,hi,stn⟩)
 ·subst hS1 he1 ha1
  replace st:St ((p.kX (i+1) d 0 0)::p.toks::fs) h:=stn
  have lt1:=hl1.lt
  refine WO.ak (v:= .bool false) rfl (WO.nil (WP.cond (t:=false) rfl (WP.skip ?_)))
  exact ⟨_,(ay _ _),Par.here l1,_,_,_,_,rfl,⟨.ok hl1,Par.Res.Gm (by unfold Par.must;rw [if_pos hi]),by omega⟩,st⟩
 ·replace st:St ((p.kX i d e a)::p.toks::fs) h:=stn
  refine WO.ak (v:= .bool true) rfl (WO.nil (WP.cond (t:=true) rfl (WP.reg (WO.aP rfl (AJ D st hx (by decide)) ?_))))
  rintro _ h ⟨rfl,ef,af,hef,hxf,st⟩
  refine WO.nil ?_
  exact ⟨_,(ay _ _),0,_,_,_,_,rfl,⟨hxf,Par.Res.must_no hi,by omega⟩,st⟩
theorem Gs (D:qZ c) {fs:List Fact} {h:Heap} {p:RP} {i d e a:Nat} {S:Par.SX} (st:St (p.kX i d e a::p.toks::fs) h) (hx:XAt p i e a S):
 aM c 61 [.ptr p.rb 0] h fun v h1=>∃(x:List UInt8) (S':Par.SX) (i' e' a':Nat),v=L.str x∧Stp p S i (Par.name) x S' i' e' a'∧St (p.kX i' d e' a'::p.toks::fs) h1:=by
 obtain ⟨t,ht,hrow⟩:=hx.row
 have hsm:=hx.small
 have hlt:=hx.lt
 refine aM.bX D.f61 rfl (WP.seq (WP.reg (WO.ak (v:= .str 0 0) rfl (WO.nil (WP.seq (WP.draw (WD.val (v:= .ptr p.rb 0) rfl (WD.val (v:= .ptr p.rb 0) rfl (WD.val (v:= .ptr p.rb 0) (L.aA rfl) (WD.val (v:= .sl p.tb p.to p.ts.length p.cap) (L.aG rfl (st.av 0 rfl) rfl) (WD.val (v:= .ptr p.rb 0) rfl (WD.val (v:= .ptr p.rb 0) rfl (WD.val (v:= .ptr p.rb 1) (L.aA rfl) (WD.val (v:= .int .i64 (i:Int)) (L.aG rfl (st.av 0 rfl) rfl) (WD.val (v:= .ptr p.tb (p.to+i * 3)) (L.aC rfl rfl hx.lt) (WD.val (v:= .agg [.int .i64 (t.kind:Int),L.str t.text, .int .i64 (t.at_:Int)]) (L.cO rfl ((st.aB 1 rfl).cO hrow)) (WD.dz st L.alloc (fun b1 h st=> ?_))))))))))))))))))
 refine WD.aI (row':=[.int .i64 (t.kind:Int),L.str t.text, .int .i64 (t.at_:Int)]) st 0 rfl rfl rfl rfl rfl rfl rfl (fun h st=>rfl) (fun h st=> ?_)
 refine WD.nil (WP.seq (WP.seq (WP.reg (WO.val (v:= .ptr p.rb 0) rfl (WO.val (v:= .ptr p.rb 3) (L.aA rfl) (WO.val (v:= .int .i64 (e:Int)) (L.aG rfl (st.av 1 rfl) rfl) (WO.ifV (L.neq rfl rfl) (fun ce=> ?_) (fun ce=> ?_))))))))
 ·replace ce:e≠0:=by omega
  have hbad:=hx.bad ce
  refine WO.no rfl (WO.no rfl (WO.no rfl (WO.ak (v:= .bool true) rfl (WO.nil (WP.cond (t:=true) rfl (WP.seq (WP.reg (WO.aP rfl (AJ D ((st.pick 2 rfl).pick 2 rfl) hx (by decide)) ?_))))))))
  rintro _ h ⟨rfl,ef,af,hef,hxf,st⟩
  refine WO.nil (WP.seq (WP.reg (WO.ak (v:= .str 0 0) rfl (WO.nil (WP.ret ?_)))))
  exact ⟨_,(aj (au (v:= .str 0 0) rfl) (ay _ _)),[],_,_,_,_,rfl,⟨hxf,Par.Res.Gn (fun l hS=>by rw [hbad] at hS;cases hS),by omega⟩,(st.pick 2 rfl).tail⟩
 ·replace ce:e=0:=by omega
  obtain ⟨l1,hS1,ha1,hl1⟩:=hx.good ce
  subst hS1 ha1 ce
  have hx:XAt p i 0 0 (.ok l1):= .ok hl1
  refine WO.yes rfl (WO.val (v:= .ptr b1 0) (L.aA rfl) (WO.yes rfl (WO.val (v:= .int .i64 (t.kind:Int)) (L.aG rfl (st.av 0 rfl) rfl) (WO.yes rfl (WO.ifV (L.neq rfl rfl) (fun ck=> ?_) (fun ck=> ?_))))))
  ·replace ck:t.kind≠1:=by omega
   have hdt:=hx.hd ht
   refine WO.ak (v:= .bool true) rfl (WO.nil (WP.cond (t:=true) rfl (WP.seq (WP.reg (WO.aP rfl (AJ D ((st.pick 2 rfl).pick 2 rfl) (XAt.ok hl1) (by decide)) ?_)))))
   rintro _ h ⟨rfl,ef,af,hef,hxf,st⟩
   refine WO.nil (WP.seq (WP.reg (WO.ak (v:= .str 0 0) rfl (WO.nil (WP.ret ?_)))))
   exact ⟨_,(aj (au (v:= .str 0 0) rfl) (ay _ _)),[],_,_,_,_,rfl,⟨hxf,Par.Res.Gn (fun l hS=>by cases hS;rw [hdt];exact ck),by omega⟩,(st.pick 2 rfl).tail⟩
  ·replace ck:t.kind=1:=by omega
   have hdt:=hx.hd ht
   refine WO.ak (v:= .bool false) rfl (WO.nil (WP.cond (t:=false) rfl (WP.skip (WP.seq (WP.reg (WO.val (v:= .ptr p.rb 0) rfl (WO.val (v:= .ptr p.rb 1) (L.aA rfl) (WO.val (v:= .int .i64 (i:Int)) (L.aG rfl (st.av 1 rfl) rfl) (WO.val (v:= .int .i64 ((i+1:Nat):Int)) (L.bP rfl rfl (by omega) (And.intro (by omega) (by omega))) (WO.val (v:= .ptr p.rb 0) rfl (WO.val (v:= .ptr p.rb 1) (L.aA rfl) (WO.aI (row':=[.sl p.tb p.to p.ts.length p.cap, .int .i64 ((i+1:Nat):Int), .int .i64 (d:Int), .int .i64 0, .int .i64 0]) st 1 rfl rfl rfl rfl rfl rfl rfl (fun h st=> ?_)))))))))))))
   refine WO.nil (WP.seq (WP.reg (WO.val (v:= .ptr b1 1) (L.aA rfl) (WO.ak (v:=L.str t.text) (L.aG rfl (st.av 0 rfl) rfl) (WO.nil (WP.ret ?_))))))
   exact ⟨_,(aj (au (v:=L.str t.text) rfl) (ay _ _)),t.text,_,_,_,_,rfl,⟨.ok (hl1.tail (by rw [hdt];omega)),by rw [←hdt];exact Par.Res.name_ok (by rw [hdt];exact ck),by omega⟩,st.tail⟩
theorem KZ (D:qZ c) {fs:List Fact} {h:Heap} {p:RP} {i d e a:Nat} {S:Par.SX} {s:List UInt8} (st:St (p.kX i d e a::p.toks::fs) h) (hx:XAt p i e a S) (hno:Par.isS s S=false):
 aM c 63 [.ptr p.rb 0,L.str s] h fun v h1=>v= .bool false∧St (p.kX i d e a::p.toks::fs) h1:=by
 obtain ⟨v,h1,hr,hp⟩:=AB (s:=s) D st hx
 refine ⟨v,h1,hr, ?_⟩
 rcases hp with ⟨_,⟨l,rfl,_,_,hi,_⟩,_⟩|⟨hv,_,st⟩
 ·exact absurd (show Par.is s l=false from hno) (by rw [hi];decide)
 ·exact ⟨hv,st⟩
theorem zw (D:qZ c) {fs:List Fact} {h:Heap} {s:List UInt8} (st:St fs h):
 aM c 34 [L.str s] h fun v h1=>match Par.rows s with
  | .ok m=>∃x,v= .tup [x, .int .i64 0, .int .i64 0]∧x.aV=some [x]∧St (.stb (fun h=>Rows 3 h x (m.map Pm.row))::fs) h1
  | .error (e,a)=>e≠0∧v= .tup [.slN, .int .i64 (e:Int), .int .i64 (a:Int)]∧St fs h1:=by
 refine aM.bX D.f34 rfl (WP.seq (WP.reg (WO.ak (v:= .slN) rfl (WO.ak (v:= .int .i64 0) rfl (WO.ak (v:= .int .i64 0) rfl (WO.nil (WP.seq (WP.reg ?_))))))))
 have hc:=xlex_c (s:=s) D st
 cases hsp:Lex.lex s with
 |error z=>
  obtain ⟨ex,ax⟩:=z
  rw [hsp] at hc
  refine WO.aP rfl hc ?_
  rintro _ h ⟨rfl,st⟩
  have hex:=Gl hsp
  refine WO.val (v:= .slN) rfl (WO.val (v:= .int .i64 (ex:Int)) rfl (WO.val (v:= .int .i64 (ax:Int)) rfl (WO.ak (v:= .slN) rfl (WO.ak (v:= .int .i64 (ex:Int)) rfl (WO.ak (v:= .int .i64 (ax:Int)) rfl (WO.nil (WP.seq (WP.seq (WP.reg (WO.ifS (L.neq rfl rfl) (fun c_=> ?_) (fun c_=>by exfalso;omega)))))))))))
  refine WO.nil (WP.cond (t:=true) rfl (WP.seq (WP.reg (WO.ak (v:= .slN) rfl (WO.ak (v:= .int .i64 (ex:Int)) rfl (WO.ak (v:= .int .i64 (ax:Int)) rfl (WO.nil (WP.ret ?_))))))))
  have hE:Par.rows s= .error (ex,ax):=by unfold Par.rows;rw [hsp]
  rw [hE]
  exact ⟨_,(aj (au (v:= .slN) rfl) (aj (au (v:= .int .i64 (ex:Int)) rfl) (aj (au (v:= .int .i64 (ax:Int)) rfl) (ay _ _)))),hex,rfl,st⟩
 |ok ts=>
  rw [hsp] at hc
  refine WO.aP rfl hc ?_
  rintro _ h ⟨y,rfl,st⟩
  obtain ⟨p0,rfl,rfl⟩:=Gj st (Ay hsp ⟨0,0,0,none,ts⟩ rfl).2
  refine WO.val (v:= .sl p0.tb p0.to p0.ts.length p0.cap) rfl (WO.val (v:= .int .i64 0) rfl (WO.val (v:= .int .i64 0) rfl (WO.ak (v:= .sl p0.tb p0.to p0.ts.length p0.cap) rfl (WO.ak (v:= .int .i64 0) rfl (WO.ak (v:= .int .i64 0) rfl (WO.nil (WP.seq (WP.seq (WP.reg (WO.ifS (L.neq rfl rfl) (fun c_=>by exfalso;omega) (fun c_=> ?_)))))))))))
  refine WO.nil (WP.cond (t:=false) rfl (WP.skip (WP.seq (WP.reg (WO.val (v:= .agg [.sl p0.tb p0.to p0.ts.length p0.cap, .int .i64 0, .int .i64 0, .int .i64 0, .int .i64 0]) (L.build rfl) (WO.dz st (L.box (l:=[.sl p0.tb p0.to p0.ts.length p0.cap, .int .i64 0, .int .i64 0, .int .i64 0, .int .i64 0]) rfl rfl) (fun rb h st=> ?_)))))))
  obtain ⟨p,hp,hpr,hpt,hpo,hpc,hlf⟩:∃p:RP,p.ts=p0.ts∧p.rb=rb∧p.tb=p0.tb∧p.to=p0.to∧p.cap=p0.cap∧Left p 0 p.ts:=⟨{p0 with rb:=rb},rfl,rfl,rfl,rfl,rfl,(Ay hsp {p0 with rb:=rb} rfl).1⟩
  rw [←hp] at hsp
  rw [←hp,←hpr,←hpt,←hpo,←hpc] at st
  rw [←hp,←hpr,←hpt,←hpo,←hpc]
  refine WO.nil (WP.seq (WP.reg (WO.ak (v:= .slN) rfl (WO.nil (WP.seq (WP.reg (WO.aP rfl (AL (s:=[108,97,98,101,108,115]) D st (XAt.ok hlf)) ?_)))))))
  rintro _ h ⟨x1,S1,i1,e1,a1,rfl,q1,st⟩
  have ad1:=q1.adv
  have lt1:=q1.at_.lt
  refine WO.nil (WP.seq (WP.block ?_))
  replace st:St (.acc 0 3 .slN (([]:List Pm).map Pm.row)::(p.kX i1 0 e1 a1)::p.toks::fs) h:=st.acc0 3
  have ltS:=q1.at_
  refine WP.bT (α:=Nat) (fun k env h=>∃Sz iz ez az xz fz vz x9 x10 x11 x12 x14 x15,((∀y S',Par.Res Sz (fun l=>Par.dA k l xz) y S'→Par.Res S1 (fun l=>Par.dA l.length l []) y S')∧XAt p iz ez az Sz∧(ez=0→p.ts.length≤iz+k)∧xz.length≤iz+min ez 1)∧env=aO [L.str s, .slN, .int .i64 0, .int .i64 0, .int .i64 0, .bool false, .int .i64 0, .sl p.tb p.to p.ts.length p.cap, .ptr p.rb 0,x9,x10,x11,x12,vz,x14,x15] 0 Env.nil∧St ((p.kX iz 0 ez az)::p.toks:: .acc fz 3 vz (xz.map Pm.row)::fs) h) (fun k=>k) (Par.SX.len S1) ?_ ?_
  ·exact ⟨S1,i1,e1,a1,[],0, .slN, .bot, .bot, .bot, .bot, .bot, .bot,⟨fun _ _ r=>Par.Res.len (F:=fun n l=>Par.dA n l []) r,ltS,ltS.fuel,Nat.zero_le _⟩,by kernel_rfl,((st.pick 2 rfl).pick 2 rfl)⟩
  rintro k _ h ⟨Sz,iz,ez,az,xz,fz,vz,x9,x10,x11,x12,x14,x15,⟨hs,hz,hk,hxl⟩,rfl,st⟩
  have ltz:=hz.lt
  have smz:=hz.small
  refine WP.seq (WP.seq (WP.draw (WD.val (v:= .ptr p.rb 0) rfl (WD.val (v:= .ptr p.rb 0) rfl (WD.val (v:= .ptr p.rb 3) (L.aA rfl) (WD.val (v:= .int .i64 (ez:Int)) (L.aG rfl (st.av 0 rfl) rfl) (WD.ifV (L.eql rfl rfl) (fun _ ce=> ?_) (fun _ ce=> ?_))))))))
  ·replace ce:ez=0:=by omega
   obtain ⟨l2,hS2,ha2,hl2⟩:=hz.good ce
   subst hS2 ha2 ce
   refine WD.val (v:= .bool true) rfl (WD.yes rfl (WD.val (v:= .ptr p.rb 0) rfl (WD.yes rfl (WD.val (v:= .ptr p.rb 0) rfl (WD.yes rfl (WD.val (v:= .ptr p.rb 0) (L.aA rfl) (WD.yes rfl (WD.val (v:= .sl p.tb p.to p.ts.length p.cap) (L.aG rfl (st.av 0 rfl) rfl) (WD.yes rfl (WD.val (v:= .ptr p.rb 0) rfl (WD.yes rfl (WD.val (v:= .ptr p.rb 0) rfl (WD.yes rfl (WD.val (v:= .ptr p.rb 1) (L.aA rfl) (WD.yes rfl (WD.val (v:= .int .i64 (iz:Int)) (L.aG rfl (st.av 0 rfl) rfl) (WD.yes rfl (WD.val (v:= .ptr p.tb (p.to+iz * 3)) (L.aC rfl rfl (XAt.ok hl2).lt) (WD.yes rfl (WD.val (v:= .ptr p.tb (p.to+iz * 3+0)) (L.aA rfl) (WD.yes rfl ?_)))))))))))))))))))))
   obtain ⟨t,ht,hrow⟩:=(XAt.ok hl2).row
   have hdt:=(XAt.ok hl2).hd ht
   refine WD.val (v:= .int .i64 ((Par.hd l2).kind:Int)) (by rw [hdt];exact L.load rfl ((st.aB 1 rfl).wV hrow (show _=some _ from rfl))) (WD.yes rfl (WD.ifV (L.neq rfl rfl) (fun _ ckd=> ?_) (fun _ ckd=> ?_)))
   ·replace ckd:(Par.hd l2).kind≠0:=by omega
    obtain ⟨k,rfl⟩:∃m,k=m+1:=⟨k - 1,by omega⟩
    refine WD.ak (v:= .bool true) rfl (WD.nil (WP.cond (t:=true) rfl (WP.skip (WP.block (WP.seq (WP.reg (WO.dB rfl (Gq D st (XAt.ok hl2)) ?_)))))))
    rintro _ h ⟨rfl,st⟩
    refine WO.nil (WP.seq (WP.reg (WO.dB rfl (Gs D st (XAt.ok hl2)) ?_)))
    rintro _ h ⟨x3,S3,i3,e3,a3,rfl,q3,st⟩
    have ad3:=q3.adv
    have lt3:=q3.at_.lt
    refine WO.nil (WP.seq (WP.seq (WP.reg (WO.aP rfl (xis_c (s:=[60]) D st q3.at_) ?_))))
    rintro _ h ⟨rfl,st⟩
    cases hi1:Par.isS [60] S3
    ·refine WO.ak (v:= .bool true) rfl (WO.nil (WP.cond (t:=true) rfl (WP.reg (WO.val (v:= .agg [L.str x3, .str 0 0, .int .i64 (fV p iz:Int)]) (L.build rfl) (WO.gJ (rows:=[[L.str x3, .str 0 0, .int .i64 (fV p iz:Int)]]) st rfl (by decide) rfl (by simp) (fun bs1 h st=> ?_))))))
     refine WO.gW st 3 rfl rfl rfl (st.aB 0 rfl) (by decide) (by simp;omega) (fun f4 v4 h st=> ?_)
     rw [show (xz.map Pm.row)++[[L.str x3,V.str 0 0,V.int .i64 (fV p iz:Int)]]=(xz++[Pm.mk x3 [] (fV p iz)]).map Pm.row from by simp [Pm.row];rfl] at st
     obtain ⟨ab4,rfl⟩:=(st.dK 3 rfl).ne (by simp)
     refine WO.nil (WP.seq (WP.block ?_))
     have hR:=Par.zq (k:=S3.len) (last:=x3) (x:=xz) (al:=true) hi1 (fun l e=>by have:=q3.at_;rw [e] at this ⊢;exact List.length_pos_iff.2 this.ok0.2.2.ne)
     replace hR:=Par.Res.len (F:=fun k l=>Par.jC k l x3 xz true) hR
     refine WP.bT (α:=Nat) (fun u env h=>∃x14 x15,True∧env=aO [L.str s, .slN, .int .i64 0, .int .i64 0, .int .i64 0, .bool false, .int .i64 0, .sl p.tb p.to p.ts.length p.cap, .ptr p.rb 0, .bool true, .bool true,L.str x3, .int .i64 (fV p iz:Int), .sl ab4 0 (((xz++[Pm.mk x3 [] (fV p iz)]).map Pm.row).length) none,x14,x15] 0 Env.nil∧St (.stb (fun h=>Rows 3 h (.sl bs1 0 1 (some 1)) [[L.str x3, .str 0 0, .int .i64 (fV p iz:Int)]])::(p.kX i3 0 e3 a3)::p.toks:: .acc f4 3 (.sl ab4 0 ((xz++[Pm.mk x3 [] (fV p iz)]).map Pm.row).length none) ((xz++[Pm.mk x3 [] (fV p iz)]).map Pm.row)::fs) h) (fun u=>u) 0 ?_ ?_
     ·exact ⟨x14,x15,trivial,by kernel_rfl,st⟩
     rintro u _ h ⟨x14,x15,hpre,rfl,st⟩
     refine WP.seq (WP.seq (WP.reg (WO.dB rfl (KZ D ((st.pick 2 rfl).pick 2 rfl) q3.at_ hi1) ?_)))
     rintro _ h ⟨rfl,st⟩
     refine WO.nil (WP.cond (t:=false) rfl (WP.exit (WP.reg (WO.aP rfl (AL (s:=[59]) D st q3.at_) ?_))))
     rintro _ h ⟨x5,S5,i5,e5,a5,rfl,q5,st⟩
     have ad5:=q5.adv
     have lt5:=q5.at_.lt
     refine WO.nil ?_
     exact ⟨k,(Nat.lt_succ_self _),S5,i5,e5,a5,(xz++[Pm.mk x3 [] (fV p iz)]),f4,(.sl ab4 0 ((xz++[Pm.mk x3 [] (fV p iz)]).map Pm.row).length none),(.bool true),(.bool true),(L.str x3),(.int .i64 (fV p iz:Int)),(.bool false),x15,⟨fun y S' r=>hs y S' (Par.su ckd hl2.here q3.res hR q5.res r),q5.at_,(by omega),(by first|omega|(simp;omega))⟩,by kernel_rfl,(st.pick 2 rfl).tail⟩
    ·refine WO.ak (v:= .bool false) rfl (WO.nil (WP.cond (t:=false) rfl (WP.skip (WP.seq (WP.block (WP.bT (α:=Nat) (fun k2 env h=>∃Sq iq eq aq lq xq al fq vq x12 x14 x15,((∀y S',Par.Res Sq (fun l=>Par.jC k2 l lq xq al) y S'→Par.Res S3 (fun l=>Par.jC l.length l x3 xz true) y S')∧XAt p iq eq aq Sq∧(eq=0→p.ts.length≤iq+k2)∧xq.length≤iq+min eq 1∧(al=true→Par.isS [60] Sq=true)∧iz+1≤iq+min eq 1)∧env=aO [L.str s, .slN, .int .i64 0, .int .i64 0, .int .i64 0, .bool false, .int .i64 0, .sl p.tb p.to p.ts.length p.cap, .ptr p.rb 0, .bool true, .bool false,L.str lq,x12,vq,x14,x15] 0 Env.nil∧St ((p.kX iq 0 eq aq)::p.toks:: .acc fq 3 vq (xq.map Pm.row)::fs) h) (fun k2=>k2) (Par.SX.len S3) ?_ ?_))))))
     ·exact ⟨S3,i3,e3,a3,x3,xz,true,fz,vz,(.int .i64 (fV p iz:Int)),x14,x15,⟨fun _ _ r=>Par.Res.len (F:=fun k l=>Par.jC k l x3 xz true) r,q3.at_,q3.at_.fuel,(by omega),(fun _=>hi1),ad3⟩,by kernel_rfl,st⟩
     rintro k2 _ h ⟨Sq,iq,eq,aq,lq,xq,al,fq,vq,x12,x14,x15,⟨hs2,hq,hk2,hxl2,hal,hadq⟩,rfl,st⟩
     have ltq:=hq.lt
     have smq:=hq.small
     refine WP.seq (WP.seq (WP.reg (WO.dB rfl (AB (s:=[60]) D st hq) ?_)))
     rintro _ h (⟨rfl,⟨l6,hS6,he6,ha6,hi2,hl6⟩,stn⟩|⟨rfl,hi2,stn⟩)
     ·subst hS6 he6 ha6
      replace st:St ((p.kX (iq+1) 0 0 0)::p.toks:: .acc fq 3 vq (xq.map Pm.row)::fs) h:=stn
      have lt6:=hl6.lt
      obtain ⟨k2,rfl⟩:∃m,k2=m+1:=⟨k2 - 1,by omega⟩
      refine WO.nil (WP.cond (t:=true) rfl (WP.skip (WP.block (WP.seq (WP.reg (WO.dB rfl (Gq D st (XAt.ok hl6)) ?_))))))
      rintro _ h ⟨rfl,st⟩
      refine WO.nil (WP.seq (WP.reg (WO.dB rfl (Gs D st (XAt.ok hl6)) ?_)))
      rintro _ h ⟨x7,S7,i7,e7,a7,rfl,q7,st⟩
      have ad7:=q7.adv
      have lt7:=q7.at_.lt
      refine WO.nil (WP.seq (WP.reg (WO.val (v:= .agg [L.str lq,L.str x7, .int .i64 (fV p (iq+1):Int)]) (L.build rfl) (WO.gJ (rows:=[[L.str lq,L.str x7, .int .i64 (fV p (iq+1):Int)]]) st rfl (by decide) rfl (by simp) (fun bs2 h st=> ?_)))))
      refine WO.gW st 3 rfl rfl rfl (st.aB 0 rfl) (by decide) (by simp;omega) (fun f8 v8 h st=> ?_)
      rw [show (xq.map Pm.row)++[[L.str lq,L.str x7,V.int .i64 (fV p (iq+1):Int)]]=(xq++[Pm.mk lq x7 (fV p (iq+1))]).map Pm.row from by simp [Pm.row]] at st
      obtain ⟨ab8,rfl⟩:=(st.dK 3 rfl).ne (by simp)
      refine WO.nil (WP.reg (WO.ak (v:=L.str x7) rfl (WO.nil ?_)))
      exact ⟨k2,(Nat.lt_succ_self _),S7,i7,e7,a7,x7,(xq++[Pm.mk lq x7 (fV p (iq+1))]),false,f8,(.sl ab8 0 ((xq++[Pm.mk lq x7 (fV p (iq+1))]).map Pm.row).length none),(.int .i64 (fV p (iq+1):Int)),(.bool true),(L.str x7),⟨fun y S' r=>hs2 y S' (Par.IU hi2 hl6.here q7.res r),q7.at_,(by omega),(by simp;omega),(by intro hf;cases hf),(by omega)⟩,by kernel_rfl,st.tail⟩
     ·replace st:St ((p.kX iq 0 eq aq)::p.toks:: .acc fq 3 vq (xq.map Pm.row)::fs) h:=stn
      have hR:=hs2 _ _ (Par.zq hi2 (fun l e=>by subst e;have:=hq.ok0.1;omega))
      obtain rfl:al=false:=by cases al with
       |false=>rfl
       |true=>exact absurd (hal rfl) (by rw [hi2];decide)
      refine WO.nil (WP.cond (t:=false) rfl (WP.exit (WP.reg (WO.aP rfl (AL (s:=[59]) D st hq) ?_))))
      rintro _ h ⟨x9,S9,i9,e9,a9,rfl,q9,st⟩
      have ad9:=q9.adv
      have lt9:=q9.at_.lt
      refine WO.nil ?_
      exact ⟨k,(Nat.lt_succ_self _),S9,i9,e9,a9,xq,fq,vq,(.bool true),(.bool false),(L.str lq),x12,(.bool false),x15,⟨fun y S' r=>hs y S' (Par.su ckd hl2.here q3.res hR q9.res r),q9.at_,(by omega),(by first|omega|(simp;omega))⟩,by kernel_rfl,st⟩
   ·replace ckd:(Par.hd l2).kind=0:=by omega
    obtain ⟨k,rfl⟩:∃m,k=m+1:=⟨k - 1,by omega⟩
    refine WD.ak (v:= .bool false) rfl (WD.nil (WP.cond (t:=false) rfl (WP.exit (WP.seq (WP.seq (WP.reg (WO.val (v:= .ptr p.rb 0) rfl (WO.val (v:= .ptr p.rb 3) (L.aA rfl) (WO.val (v:= .int .i64 0) (L.aG rfl (st.av 0 rfl) rfl) (WO.ifS (L.neq rfl rfl) (fun ce=>by exfalso;omega) (fun ce=> ?_)))))))))))
    refine WO.nil (WP.cond (t:=false) rfl (WP.skip (WP.seq (WP.reg (WO.ak (v:=vz) rfl (WO.ak (v:= .int .i64 0) rfl (WO.ak (v:= .int .i64 0) rfl (WO.nil (WP.ret ?_)))))))))
    have hF:=Par.Res.out (Par.Res.cast (fun l _=>Par.zu l) (q1.res.bn (hs xz _ (Par.C9 ckd))))
    have hE:Par.rows s= .ok xz:=by unfold Par.rows;rw [hsp];simp only [hF]
    rw [hE]
    exact ⟨_,(aj (au (v:=vz) rfl) (aj (au (v:= .int .i64 0) rfl) (aj (au (v:= .int .i64 0) rfl) (ay _ _)))),vz,rfl,(st.dK 2 rfl).cells,(st.tail.tail).shut (by decide)⟩
  ·replace ce:ez≠0:=by omega
   have hbad:=hz.bad ce
   refine WD.val (v:= .bool false) rfl (WD.no rfl (WD.no rfl (WD.no rfl (WD.no rfl (WD.no rfl (WD.no rfl (WD.no rfl (WD.no rfl (WD.no rfl (WD.no rfl (WD.no rfl (WD.no rfl (WD.ak (v:= .bool false) rfl (WD.nil (WP.cond (t:=false) rfl (WP.exit (WP.seq (WP.seq (WP.reg (WO.val (v:= .ptr p.rb 0) rfl (WO.val (v:= .ptr p.rb 3) (L.aA rfl) (WO.val (v:= .int .i64 (ez:Int)) (L.aG rfl (st.av 0 rfl) rfl) (WO.ifS (L.neq rfl rfl) (fun ce=> ?_) (fun ce=>by exfalso;omega))))))))))))))))))))))))
   refine WO.nil (WP.cond (t:=true) rfl (WP.seq (WP.draw (WD.val (v:= .ptr p.rb 0) rfl (WD.val (v:= .ptr p.rb 0) rfl (WD.val (v:= .ptr p.rb 3) (L.aA rfl) (WD.val (v:= .int .i64 (ez:Int)) (L.aG rfl (st.av 0 rfl) rfl) (WD.val (v:= .ptr p.rb 0) rfl (WD.val (v:= .ptr p.rb 0) rfl (WD.val (v:= .ptr p.rb 4) (L.aA rfl) (WD.val (v:= .int .i64 (az:Int)) (L.aG rfl (st.av 0 rfl) rfl) (WD.ak (v:= .slN) rfl (WD.ak (v:= .int .i64 (ez:Int)) rfl (WD.ak (v:= .int .i64 (az:Int)) rfl (WD.nil (WP.ret ?_))))))))))))))))
   have hZ:Par.Res Sz (fun l=>Par.dA k l xz) xz (.error (ez,az)):=by rw [hbad];rfl
   have hF:=Par.Res.out (Par.Res.cast (fun l _=>Par.zu l) (q1.res.bn (hs xz _ hZ)))
   have hE:Par.rows s= .error (ez,az):=by unfold Par.rows;rw [hsp];simp only [hF]
   rw [hE]
   exact ⟨_,(aj (au (v:= .slN) rfl) (aj (au (v:= .int .i64 (ez:Int)) rfl) (aj (au (v:= .int .i64 (az:Int)) rfl) (ay _ _)))),(by omega),rfl,st.tail.tail.tail⟩
end
end Go.Eng.Ytjgmahbgfbkhnaa
