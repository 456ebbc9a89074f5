/- Part of a proof of a law: rules of an evaluator, contracts, plain laws. No condition of its own. -/
import Derived.Test.YtjobofnpmmjeoaaDoorConA
import Derived.Test.YtjobofnpmmjeoaaDoorSymB
import Derived.Test.YtjobofnpmmjeoaaDoorCodeA
set_option linter.unusedVariables false
set_option linter.unusedSimpArgs false
namespace Go.Eng.YtjobofnpmmjeoaaDoor.Pq
open Go.Eng
noncomputable section
variable {c:Ctx}
def OneOk (c:Ctx) (p:RP) (d g:Nat) (caps:List V) {α β:Type} (one:α→List Tok→Par.R α) (I:α→β→List Fact) (sz:α→Nat):Prop:=∀{fs:List Fact} {h:Heap} {i:Nat} {l:List Tok} (x:α) (w:β),St (p.box i d::p.toks::(I x w++fs)) h→Left p i l→sz x≤i→
 gG c g caps h (aN p 83 (one x l) (fun y i1 v h1=>i<i1∧sz y≤i1∧∃w,St (p.box i1 d::p.toks::(I y w++fs)) h1) (St fs))
theorem y8 (D:fZ c) {α β:Type} {p:RP} {d g:Nat} {caps:List V} {one:α→List Tok→Par.R α} {I:α→β→List Fact} {sz:α→Nat} (hone:OneOk c p d g caps one I sz) {e:List UInt8} {fs:List Fact} {h:Heap} {i:Nat} {l:List Tok} (x:α) (w:β) (st:St (p.box i d::p.toks::(I x w++fs)) h) (hl:Left p i l) (hsz:sz x≤i):
 gG c 50 [.ptr p.rb 0,L.str e, .fn g [] caps] h (aN p 83 (Par.several one e l x) (fun y i1 v h1=>i<i1∧sz y≤i1∧∃w,St (p.box i1 d::p.toks::(I y w++fs)) h1) (St fs)):=by
 have hdrop:∀(x:α) (w:β) (h:Heap),St (I x w++fs) h→St fs h:=fun x w h s=>s.sub (List.sublist_append_right _ _)
 refine gG.eZ D.f50 rfl (WP.seq (WP.reg (WO.aA (v:= .int .i64 0) rfl (WO.nil (WP.block (WP.iW (α:=Nat) (fun k env h=>∃lz iz xz wz nz x3 x5,(Par.several one e l x=Par.bU one e k nz lz xz∧lz.length≤k∧Left p iz lz∧i≤iz∧nz+lz.length≤l.length∧sz xz≤iz)∧env=dx [.ptr p.rb 0,L.str e, .fn g [] caps,x3, .int .i64 (nz:Int),x5] 0 Env.nil∧St ((p.box iz d)::p.toks::(I xz wz++fs)) h) (fun k=>k) l.length ?_ ?_))))))
 ·exact ⟨l,i,x,w,0, .bot, .bot,⟨rfl,Nat.le_refl _,hl,Nat.le_refl _,by omega,hsz⟩,by kernel_rfl,st⟩
 rintro k _ h ⟨lz,iz,xz,wz,nz,x3,x5,⟨hs,hk,hlz,hii,hnz,hszz⟩,rfl,st⟩
 have hlp:=List.length_pos_iff.2 hlz.ne
 obtain ⟨k,rfl⟩:∃m,k=m+1:=⟨k - 1,by omega⟩
 refine WP.seq (WP.seq (WP.reg (WO.bR rfl (kP D st hlz) ?_)))
 rintro _ h (⟨rfl,hi,hl0,st⟩|⟨rfl,hi,st⟩)
 ·replace st:St ((p.box (iz+1:Nat) d)::p.toks::(I xz wz++fs)) h:=st
  refine WO.aA (v:= .bool false) rfl (WO.nil (WP.cond (t:=false) rfl (WP.exit ?_)))
  exact ⟨_,(aG _ _),aN.ok (x:=xz) (l:=lz.tail) (by rw [hs];simp [Par.bU,hi]) hl0 ⟨(by have:=hlz.len;omega),(by omega),wz,st⟩⟩
 ·replace st:St ((p.box iz d)::p.toks::(I xz wz++fs)) h:=st
  refine WO.aA (v:= .bool true) rfl (WO.nil (WP.cond (t:=true) rfl (WP.skip (WP.seq (WP.block (WP.seq (WP.seq (WP.reg (WO.ifS (L.gtr rfl rfl) (fun c1=> ?_) (fun c1=> ?_))))))))))
  ·replace c1:nz≠0:=by omega
   refine WO.nil (WP.cond (t:=true) rfl (WP.reg (WO.bC rfl (eH (s:=[44]) D st hlz) (fun e a h hm st=> ?_) ?_)))
   ·exact aN.pan (by rw [hs];simp [Par.bU,hm,hi,c1]) (hdrop _ _ _ st)
   rintro a1 l1 _ h i1 m1 hl1 ⟨rfl,st⟩
   refine WO.nil (WP.reg ?_)
   replace hszz:sz xz≤i1:=(by have _:=hlz.len;have _:=hlz.lt;have _:=hl.len;have _:=hl.small;have _:=hl1.len;have _:=hl1.lt;have _:=Par.aV m1;omega)
   refine WO.yI rfl rfl (hone xz wz st hl1 hszz) (fun e a h hm st=> ?_) ?_
   ·exact aN.pan (by rw [hs];simp [Par.bU,hm,hi,c1,m1]) st
   rintro y2 l2 _ h i2 m2 hl2 ⟨hlt2,hsz2,w2,st⟩
   refine WO.nil (WP.reg (WO.aA (v:= .int .i64 ((nz+1:Nat):Int)) (L.kC rfl rfl (by omega) (by have _:=hlz.len;have _:=hlz.lt;have _:=hl.len;have _:=hl.small;have _:=hl1.len;have _:=hl1.lt;have _:=Par.aV m1;have _:=hl2.len;have _:=hl2.lt;exact And.intro (by omega) (by omega))) (WO.nil ?_)))
   exact ⟨k,(Nat.lt_succ_self _),l2,i2,y2,w2,(nz+1),(.bool true),(.bool true),⟨by rw [hs];simp [Par.bU,hi,c1,m1,m2],(by have _:=hlz.len;have _:=hlz.lt;have _:=hl.len;have _:=hl.small;have _:=hl1.len;have _:=hl1.lt;have _:=Par.aV m1;have _:=hl2.len;have _:=hl2.lt;omega),hl2,(by have _:=hlz.len;have _:=hlz.lt;have _:=hl.len;have _:=hl.small;have _:=hl1.len;have _:=hl1.lt;have _:=Par.aV m1;have _:=hl2.len;have _:=hl2.lt;omega),(by have _:=hlz.len;have _:=hlz.lt;have _:=hl.len;have _:=hl.small;have _:=hl1.len;have _:=hl1.lt;have _:=Par.aV m1;have _:=hl2.len;have _:=hl2.lt;omega),hsz2⟩,by kernel_rfl,st⟩
  ·replace c1:nz=0:=by omega
   refine WO.nil (WP.cond (t:=false) rfl (WP.skip (WP.reg (WO.yI rfl rfl (hone xz wz st hlz hszz) (fun e a h hm st=> ?_) ?_))))
   ·exact aN.pan (by rw [hs];simp [Par.bU,hm,hi,c1]) st
   rintro y3 l3 _ h i3 m3 hl3 ⟨hlt3,hsz3,w3,st⟩
   refine WO.nil (WP.reg (WO.aA (v:= .int .i64 ((nz+1:Nat):Int)) (L.kC rfl rfl (by omega) (by have _:=hlz.len;have _:=hlz.lt;have _:=hl.len;have _:=hl.small;have _:=hl3.len;have _:=hl3.lt;exact And.intro (by omega) (by omega))) (WO.nil ?_)))
   exact ⟨k,(Nat.lt_succ_self _),l3,i3,y3,w3,(nz+1),(.bool true),(.bool false),⟨by rw [hs];simp [Par.bU,hi,c1,m3],(by have _:=hlz.len;have _:=hlz.lt;have _:=hl.len;have _:=hl.small;have _:=hl3.len;have _:=hl3.lt;omega),hl3,(by have _:=hlz.len;have _:=hlz.lt;have _:=hl.len;have _:=hl.small;have _:=hl3.len;have _:=hl3.lt;omega),(by have _:=hlz.len;have _:=hlz.lt;have _:=hl.len;have _:=hl.small;have _:=hl3.len;have _:=hl3.lt;omega),hsz3⟩,by kernel_rfl,st⟩
def Cr (p:RP) (rv pb:Nat) (row:V→List V) (r:Nat) {α:Type} (rows:α→List (List V)) (x:α) (w:Nat×V):List Fact:=[.box rv [.ptr p.rb 0], .box pb (row w.2), .acc w.1 r w.2 (rows x)]
theorem parm_c (D:fZ c) {p:RP} {d rv pb at_:Nat} {nm:List UInt8} {fs:List Fact} {h:Heap} {i:Nat} {l:List Tok} (x:List Pm) (w:Nat×V) (st:St (p.box i d::p.toks::(Cr p rv pb (fun v=>[L.str nm,v, .bool false,L.str [],L.str [], .slN, .slN, .int .i64 (at_:Int)]) 3 (fun x:List Pm=>x.map Pm.row) x w++fs)) h) (hl:Left p i l) (hx:x.length≤i):
 gG c 51 [.ptr rv 0, .ptr pb 0] h (aN p 83 (Par.pO x l) (fun y i1 v h1=>i<i1∧y.length≤i1∧∃w,St (p.box i1 d::p.toks::(Cr p rv pb (fun v=>[L.str nm,v, .bool false,L.str [],L.str [], .slN, .slN, .int .i64 (at_:Int)]) 3 (fun x:List Pm=>x.map Pm.row) y w++fs)) h1) (St fs)):=by
 refine gG.eZ D.f51 rfl (WP.seq (WP.draw (WD.val (v:= .ptr p.rb 0) (L.ay rfl (st.aj 2 rfl) rfl) (WD.val (v:= .ptr p.rb 0) (L.ay rfl (st.aj 2 rfl) rfl) (WD.dQ st L.alloc (fun qb h st=> ?_))))))
 refine WD.bR rfl (vH D ((st.pick 2 rfl).pick 2 rfl) hl) (fun _ h hp=> ?_) ?_
 ·obtain ⟨rfl,st⟩:=hp
  exact bB (by first|exact au (L.ay rfl (st.aj 0 rfl) rfl)|exact aC st 0 rfl|exact au (L.aI rfl (st.aj 0 rfl) rfl rfl rfl)|exact au (L.ay rfl (st.aj 2 rfl) rfl)|exact aC st 2 rfl|exact au (L.aI rfl (st.aj 2 rfl) rfl rfl rfl)|exact au (L.ay rfl (st.aj 3 rfl) rfl)|exact aC st 3 rfl|exact au (L.aI rfl (st.aj 3 rfl) rfl rfl rfl)|exact au (L.ay rfl (st.aj 4 rfl) rfl)|exact aC st 4 rfl|exact au (L.aI rfl (st.aj 4 rfl) rfl rfl rfl)) (bB (by first|exact au (L.ay rfl (st.aj 0 rfl) rfl)|exact aC st 0 rfl|exact au (L.aI rfl (st.aj 0 rfl) rfl rfl rfl)|exact au (L.ay rfl (st.aj 2 rfl) rfl)|exact aC st 2 rfl|exact au (L.aI rfl (st.aj 2 rfl) rfl rfl rfl)|exact au (L.ay rfl (st.aj 3 rfl) rfl)|exact aC st 3 rfl|exact au (L.aI rfl (st.aj 3 rfl) rfl rfl rfl)|exact au (L.ay rfl (st.aj 4 rfl) rfl)|exact aC st 4 rfl|exact au (L.aI rfl (st.aj 4 rfl) rfl rfl rfl)) (dm _ _))
 rintro _ h ⟨rfl,st⟩
 refine WD.val (v:= .int .i64 (Par.here l:Int)) rfl (WD.bC rfl (jV D st hl) (fun e a h hm st=> ?_) (fun _ _ h _ hp=> ?_) ?_)
 ·exact aN.pan (by simp [Par.pO,hm]) (st.tail.tail.tail.tail)
 ·obtain ⟨rfl,st⟩:=hp
  exact bB (by first|exact au (L.ay rfl (st.aj 0 rfl) rfl)|exact aC st 0 rfl|exact au (L.aI rfl (st.aj 0 rfl) rfl rfl rfl)|exact au (L.ay rfl (st.aj 2 rfl) rfl)|exact aC st 2 rfl|exact au (L.aI rfl (st.aj 2 rfl) rfl rfl rfl)|exact au (L.ay rfl (st.aj 3 rfl) rfl)|exact aC st 3 rfl|exact au (L.aI rfl (st.aj 3 rfl) rfl rfl rfl)|exact au (L.ay rfl (st.aj 4 rfl) rfl)|exact aC st 4 rfl|exact au (L.aI rfl (st.aj 4 rfl) rfl rfl rfl)) (dm _ _)
 rintro a1 l1 _ h i1 m1 hl1 ⟨rfl,st⟩
 refine WD.val (v:= .agg [L.str a1, .str 0 0, .int .i64 (Par.here l:Int)]) (L.build rfl) (WD.aH (row':=[L.str a1, .str 0 0, .int .i64 (Par.here l:Int)]) st 2 rfl rfl rfl rfl rfl rfl rfl (fun h st=>rfl) (fun h st=> ?_))
 refine WD.nil (WP.seq (WP.reg (WO.val (v:= .ptr p.rb 0) (L.ay rfl (st.aj 3 rfl) rfl) (WO.bC rfl (eH (s:=[58]) D st hl1) (fun e a h hm st=> ?_) ?_))))
 ·exact aN.pan (by simp [Par.pO,hm,m1]) (st.tail.tail.tail.tail)
 rintro a2 l2 _ h i2 m2 hl2 ⟨rfl,st⟩
 refine WO.nil (WP.seq (WP.reg (WO.val (v:= .ptr p.rb 0) (L.ay rfl (st.aj 3 rfl) rfl) (WO.bC rfl (jV D st hl2) (fun e a h hm st=> ?_) ?_))))
 ·exact aN.pan (by simp [Par.pO,hm,m1,m2]) (st.tail.tail.tail.tail)
 rintro a3 l3 _ h i3 m3 hl3 ⟨rfl,st⟩
 refine WO.val (v:= .ptr qb 1) (L.ak rfl) (WO.aH (row':=[L.str a1,L.str a3, .int .i64 (Par.here l:Int)]) st 2 rfl rfl rfl rfl rfl rfl rfl (fun h st=> ?_))
 refine WO.nil (WP.reg (WO.val (v:= .ptr pb 1) (L.ak rfl) (WO.val (v:=w.2) (L.ay rfl (st.aj 4 rfl) rfl) (WO.val (v:= .agg [L.str a1,L.str a3, .int .i64 (Par.here l:Int)]) (L.aI rfl (st.aj 2 rfl) rfl rfl rfl) (WO.oO (rows:=[[L.str a1,L.str a3, .int .i64 (Par.here l:Int)]]) st rfl (by decide) rfl (by simp) (fun bs1 h st=> ?_))))))
 refine WO.Bv st 6 rfl rfl rfl (st.aF 0 rfl) (by decide) (by have:=hl.lt;have:=hl.small;simp;omega) (fun f4 v4 h st=> ?_)
 rw [show (x.map Pm.row)++[[L.str a1,L.str a3,V.int .i64 (Par.here l:Int)]]=(x++[Pm.mk a1 a3 (Par.here l)]).map Pm.row from by simp [Pm.row]] at st
 obtain ⟨ab4,rfl⟩:=(st.dS 6 rfl).ne (by simp)
 refine WO.val (v:= .ptr pb 1) (L.ak rfl) (WO.aH (row':=[L.str nm, .sl ab4 0 (((x++[Pm.mk a1 a3 (Par.here l)]).map Pm.row).length) none, .bool false,L.str [],L.str [], .slN, .slN, .int .i64 (at_:Int)]) st 5 rfl rfl rfl rfl rfl rfl rfl (fun h st=> ?_))
 refine WO.nil ?_
 exact ⟨_,(aG _ _),aN.ok (x:=x++[Pm.mk a1 a3 (Par.here l)]) (l:=l3) (by simp [Par.pO,m1,m2,m3]) hl3 ⟨(by have _:=hl.len;have _:=hl.lt;have _:=Par.dF m1;have _:=hl1.len;have _:=Par.aV m2;have _:=hl2.len;have _:=Par.dF m3;have _:=hl3.len;omega),(by have _:=hl.len;have _:=hl.lt;have _:=Par.dF m1;have _:=hl1.len;have _:=Par.aV m2;have _:=hl2.len;have _:=Par.dF m3;have _:=hl3.len;simp;omega),(f4, .sl ab4 0 ((x++[Pm.mk a1 a3 (Par.here l)]).map Pm.row).length none),(st.tail.pick 2 rfl).tail⟩⟩
theorem use_c (D:fZ c) {p:RP} {d rv pb at_:Nat} {nm rs pc:List UInt8} {vp:V} {has:Bool} {fs:List Fact} {h:Heap} {i:Nat} {l:List Tok} (x:List (List UInt8)) (w:Nat×V) (st:St (p.box i d::p.toks::(Cr p rv pb (fun v=>[L.str nm,vp, .bool has,L.str rs,L.str pc,v, .slN, .int .i64 (at_:Int)]) 1 (fun x:List (List UInt8)=>x.map fH) x w++fs)) h) (hl:Left p i l) (hx:x.length≤i):
 gG c 52 [.ptr pb 0, .ptr rv 0] h (aN p 83 (Par.use x l) (fun y i1 v h1=>i<i1∧y.length≤i1∧∃w,St (p.box i1 d::p.toks::(Cr p rv pb (fun v=>[L.str nm,vp, .bool has,L.str rs,L.str pc,v, .slN, .int .i64 (at_:Int)]) 1 (fun x:List (List UInt8)=>x.map fH) y w++fs)) h1) (St fs)):=by
 refine gG.eZ D.f52 rfl (WP.draw (WD.val (v:= .ptr pb 5) (L.ak rfl) (WD.val (v:=w.2) (L.ay rfl (st.aj 3 rfl) rfl) (WD.val (v:= .ptr p.rb 0) (L.ay rfl (st.aj 2 rfl) rfl) (WD.bC rfl (jV D st hl) (fun e a h hm st=> ?_) (fun _ _ h _ hp=> ?_) ?_)))))
 ·exact aN.pan (by simp [Par.use,hm]) (st.tail.tail.tail)
 ·obtain ⟨rfl,st⟩:=hp
  exact bB (by first|exact au (L.ay rfl (st.aj 0 rfl) rfl)|exact aC st 0 rfl|exact au (L.aI rfl (st.aj 0 rfl) rfl rfl rfl)|exact au (L.ay rfl (st.aj 2 rfl) rfl)|exact aC st 2 rfl|exact au (L.aI rfl (st.aj 2 rfl) rfl rfl rfl)|exact au (L.ay rfl (st.aj 3 rfl) rfl)|exact aC st 3 rfl|exact au (L.aI rfl (st.aj 3 rfl) rfl rfl rfl)) (dm _ _)
 rintro a1 l1 _ h i1 m1 hl1 ⟨rfl,st⟩
 refine WD.oO (rows:=[[L.str a1]]) st rfl (by decide) rfl (by simp) (fun bs1 h _ st=> ?_)
 refine WD.Bv st 5 rfl rfl rfl (st.aF 0 rfl) (by decide) (by have:=hl.lt;have:=hl.small;simp;omega) (fun _ _ h st=>rfl) (fun f2 v2 h st=> ?_)
 rw [show (x.map fH)++[[L.str a1]]=(x++[a1]).map fH from by simp [fH]] at st
 obtain ⟨ab2,rfl⟩:=(st.dS 5 rfl).ne (by simp)
 refine WD.val (v:= .ptr pb 5) (L.ak rfl) (WD.aH (row':=[L.str nm,vp, .bool has,L.str rs,L.str pc, .sl ab2 0 (((x++[a1]).map fH).length) none, .slN, .int .i64 (at_:Int)]) st 4 rfl rfl rfl rfl rfl rfl rfl (fun h st=>rfl) (fun h st=> ?_))
 refine WD.nil ?_
 exact ⟨_,(aG _ _),aN.ok (x:=x++[a1]) (l:=l1) (by simp [Par.use,m1]) hl1 ⟨(by have _:=hl.len;have _:=hl.lt;have _:=Par.dF m1;have _:=hl1.len;omega),(by have _:=hl.len;have _:=hl.lt;have _:=Par.dF m1;have _:=hl1.len;simp;omega),(f2, .sl ab2 0 ((x++[a1]).map fH).length none),st.tail⟩⟩
theorem proc_c (D:fZ c) {fs:List Fact} {h:Heap} {p:RP} {i d:Nat} {l:List Tok} (st:St (p.box i d::p.toks::fs) h) (hl:Left p i l) (hd:d≤40):
 gG c 41 [.ptr p.rb 0] h (aN p 83 (Par.proc d l) (fun a i1 v h1=>∃row,v= .agg row∧row.length=8∧i<i1∧St (.stb (fun h=>PrR h a row)::p.box i1 d::p.toks::fs) h1) (St fs)):=by
 refine gG.eZ D.f41 rfl (WP.seq (WP.reg (WO.dQ st (L.box (l:=[.ptr p.rb 0]) rfl rfl) (fun rv h st=> ?_))))
 refine WO.dQ st L.alloc (fun rb_ h st=> ?_)
 refine WO.nil (WP.seq (WP.draw (WD.val (v:= .ptr p.rb 0) (L.ay rfl (st.aj 1 rfl) rfl) (WD.val (v:= .ptr p.rb 0) (L.ay rfl (st.aj 1 rfl) rfl) (WD.dQ st L.alloc (fun pb h st=> ?_))))))
 refine WD.bR rfl (vH D ((st.pick 4 rfl).pick 4 rfl) hl) (fun _ h hp=> ?_) ?_
 ·obtain ⟨rfl,st⟩:=hp
  exact bB (by first|exact au (L.ay rfl (st.aj 0 rfl) rfl)|exact aC st 0 rfl|exact au (L.aI rfl (st.aj 0 rfl) rfl rfl rfl)|exact au (L.ay rfl (st.aj 2 rfl) rfl)|exact aC st 2 rfl|exact au (L.aI rfl (st.aj 2 rfl) rfl rfl rfl)|exact au (L.ay rfl (st.aj 3 rfl) rfl)|exact aC st 3 rfl|exact au (L.aI rfl (st.aj 3 rfl) rfl rfl rfl)|exact au (L.ay rfl (st.aj 4 rfl) rfl)|exact aC st 4 rfl|exact au (L.aI rfl (st.aj 4 rfl) rfl rfl rfl)) (bB (by first|exact au (L.ay rfl (st.aj 0 rfl) rfl)|exact aC st 0 rfl|exact au (L.aI rfl (st.aj 0 rfl) rfl rfl rfl)|exact au (L.ay rfl (st.aj 2 rfl) rfl)|exact aC st 2 rfl|exact au (L.aI rfl (st.aj 2 rfl) rfl rfl rfl)|exact au (L.ay rfl (st.aj 3 rfl) rfl)|exact aC st 3 rfl|exact au (L.aI rfl (st.aj 3 rfl) rfl rfl rfl)|exact au (L.ay rfl (st.aj 4 rfl) rfl)|exact aC st 4 rfl|exact au (L.aI rfl (st.aj 4 rfl) rfl rfl rfl)) (dm _ _))
 rintro _ h ⟨rfl,st⟩
 refine WD.val (v:= .int .i64 (Par.here l:Int)) rfl (WD.bC rfl (jV D st hl) (fun e a h hm st=> ?_) (fun _ _ h _ hp=> ?_) ?_)
 ·exact aN.pan (by simp [Par.proc,Par.dW,hm]) (st.tail.tail.tail)
 ·obtain ⟨rfl,st⟩:=hp
  exact bB (by first|exact au (L.ay rfl (st.aj 0 rfl) rfl)|exact aC st 0 rfl|exact au (L.aI rfl (st.aj 0 rfl) rfl rfl rfl)|exact au (L.ay rfl (st.aj 2 rfl) rfl)|exact aC st 2 rfl|exact au (L.aI rfl (st.aj 2 rfl) rfl rfl rfl)|exact au (L.ay rfl (st.aj 3 rfl) rfl)|exact aC st 3 rfl|exact au (L.aI rfl (st.aj 3 rfl) rfl rfl rfl)|exact au (L.ay rfl (st.aj 4 rfl) rfl)|exact aC st 4 rfl|exact au (L.aI rfl (st.aj 4 rfl) rfl rfl rfl)) (dm _ _)
 rintro a1 l1 _ h i1 m1 hl1 ⟨rfl,st⟩
 refine WD.val (v:= .agg [L.str a1, .slN, .bool false, .str 0 0, .str 0 0, .slN, .slN, .int .i64 (Par.here l:Int)]) (L.build rfl) (WD.aH (row':=[L.str a1, .slN, .bool false, .str 0 0, .str 0 0, .slN, .slN, .int .i64 (Par.here l:Int)]) st 2 rfl rfl rfl rfl rfl rfl rfl (fun h st=>rfl) (fun h st=> ?_))
 refine WD.nil (WP.seq (WP.reg (WO.val (v:= .ptr p.rb 0) (L.ay rfl (st.aj 4 rfl) rfl) (WO.bC rfl (eH (s:=[40]) D st hl1) (fun e a h hm st=> ?_) ?_))))
 ·exact aN.pan (by simp [Par.proc,Par.dW,hm,m1]) (st.tail.tail.tail)
 rintro a2 l2 _ h i2 m2 hl2 ⟨rfl,st⟩
 refine WO.nil (WP.seq (WP.reg (WO.val (v:= .ptr p.rb 0) (L.ay rfl (st.aj 4 rfl) rfl) (WO.val (v:= .fn 51 [] [.ptr rv 0, .ptr pb 0]) rfl ?_))))
 replace st:St (.acc 0 3 .slN (([]:List Pm).map Pm.row)::(p.box i2 d)::p.toks:: .box pb [L.str a1, .slN, .bool false, .str 0 0, .str 0 0, .slN, .slN, .int .i64 (Par.here l:Int)]:: .box rb_ [.str 0 0, .slN, .bool false, .str 0 0, .str 0 0, .slN, .slN, .int .i64 0]:: .box rv [.ptr p.rb 0]::fs) h:=st.acc0 3
 refine WO.bC rfl (y8 (I:=Cr p rv pb (fun v=>[L.str a1,v, .bool false, .str 0 0, .str 0 0, .slN, .slN, .int .i64 (Par.here l:Int)]) 3 (fun x:List Pm=>x.map Pm.row)) (one:=Par.pO) (sz:=List.length) (fs:= .box rb_ [.str 0 0, .slN, .bool false, .str 0 0, .str 0 0, .slN, .slN, .int .i64 0]::fs) (e:=[41]) D (fun x w st hl hx=>parm_c (nm:=a1) (at_:=Par.here l) D x w st hl hx) ([]:List Pm) (0, .slN) ((((st.pick 3 rfl).pick 5 rfl).pick 4 rfl).pick 4 rfl) hl2 (Nat.zero_le _)) (fun e a h hm st=> ?_) ?_
 ·exact aN.pan (by simp [Par.proc,Par.dW,hm,m1,m2]) (st.tail)
 rintro a3 l3 _ h i3 m3 hl3 ⟨hlt3,hsz3,⟨f3,v3⟩,st⟩
 refine WO.nil (WP.seq (WP.seq (WP.reg (WO.val (v:= .ptr p.rb 0) (L.ay rfl (st.aj 2 rfl) rfl) (WO.eG rfl (kP (s:=[45,62]) D st hl3) ?_)))))
 rintro _ h (⟨rfl,hi4,hl4,st⟩|⟨rfl,hi4,st⟩)
 ·replace st:St ((p.box (i3+1:Nat) d)::p.toks:: .box rv [.ptr p.rb 0]:: .box pb [L.str a1,v3, .bool false, .str 0 0, .str 0 0, .slN, .slN, .int .i64 (Par.here l:Int)]:: .acc f3 3 v3 (a3.map Pm.row):: .box rb_ [.str 0 0, .slN, .bool false, .str 0 0, .str 0 0, .slN, .slN, .int .i64 0]::fs) h:=st
  refine WO.nil (WP.cond (t:=true) rfl (WP.reg (WO.val (v:= .ptr p.rb 0) (L.ay rfl (st.aj 2 rfl) rfl) (WO.bC rfl (jV D st hl4) (fun e a h hm st=> ?_) ?_))))
  ·exact aN.pan (by simp [Par.proc,Par.dW,hm,m1,m2,m3,hi4]) (st.tail.tail.tail.tail)
  rintro a5 l5 _ h i5 m5 hl5 ⟨rfl,st⟩
  refine WO.val (v:= .ptr pb 2) (L.ak rfl) (WO.aH (row':=[L.str a1,v3, .bool true, .str 0 0, .str 0 0, .slN, .slN, .int .i64 (Par.here l:Int)]) st 3 rfl rfl rfl rfl rfl rfl rfl (fun h st=> ?_))
  refine WO.val (v:= .ptr pb 3) (L.ak rfl) (WO.aH (row':=[L.str a1,v3, .bool true,L.str a5, .str 0 0, .slN, .slN, .int .i64 (Par.here l:Int)]) st 3 rfl rfl rfl rfl rfl rfl rfl (fun h st=> ?_))
  refine WO.nil (WP.seq (WP.reg (WO.val (v:= .ptr p.rb 0) (L.ay rfl (st.aj 2 rfl) rfl) (WO.bC rfl (eH (s:=[112,99]) D st hl5) (fun e a h hm st=> ?_) ?_))))
  ·exact aN.pan (by simp [Par.proc,Par.dW,hm,m1,m2,m3,hi4,m5]) (st.tail.tail.tail.tail)
  rintro a6 l6 _ h i6 m6 hl6 ⟨rfl,st⟩
  refine WO.nil (WP.seq (WP.reg (WO.val (v:= .ptr p.rb 0) (L.ay rfl (st.aj 2 rfl) rfl) (WO.bC rfl (jV D st hl6) (fun e a h hm st=> ?_) ?_))))
  ·exact aN.pan (by simp [Par.proc,Par.dW,hm,m1,m2,m3,hi4,m5,m6]) (st.tail.tail.tail.tail)
  rintro a7 l7 _ h i7 m7 hl7 ⟨rfl,st⟩
  refine WO.val (v:= .ptr pb 4) (L.ak rfl) (WO.aH (row':=[L.str a1,v3, .bool true,L.str a5,L.str a7, .slN, .slN, .int .i64 (Par.here l:Int)]) st 3 rfl rfl rfl rfl rfl rfl rfl (fun h st=> ?_))
  refine WO.nil (WP.seq (WP.reg (WO.val (v:= .ptr p.rb 0) (L.ay rfl (st.aj 2 rfl) rfl) (WO.bC rfl (eH (s:=[117,115,101,115]) D st hl7) (fun e a h hm st=> ?_) ?_))))
  ·exact aN.pan (by simp [Par.proc,Par.dW,hm,m1,m2,m3,hi4,m5,m6,m7]) (st.tail.tail.tail.tail)
  rintro a8 l8 _ h i8 m8 hl8 ⟨rfl,st⟩
  refine WO.nil (WP.seq (WP.reg (WO.val (v:= .ptr p.rb 0) (L.ay rfl (st.aj 2 rfl) rfl) (WO.bC rfl (eH (s:=[123]) D st hl8) (fun e a h hm st=> ?_) ?_))))
  ·exact aN.pan (by simp [Par.proc,Par.dW,hm,m1,m2,m3,hi4,m5,m6,m7,m8]) (st.tail.tail.tail.tail)
  rintro a9 l9 _ h i9 m9 hl9 ⟨rfl,st⟩
  refine WO.nil (WP.seq (WP.reg (WO.val (v:= .ptr p.rb 0) (L.ay rfl (st.aj 2 rfl) rfl) (WO.val (v:= .fn 52 [] [.ptr pb 0, .ptr rv 0]) rfl ?_))))
  replace st:St (.acc 0 1 .slN (([]:List (List UInt8)).map fH)::(p.box i9 d)::p.toks:: .box rv [.ptr p.rb 0]:: .box pb [L.str a1,v3, .bool true,L.str a5,L.str a7, .slN, .slN, .int .i64 (Par.here l:Int)]:: .acc f3 3 v3 (a3.map Pm.row):: .box rb_ [.str 0 0, .slN, .bool false, .str 0 0, .str 0 0, .slN, .slN, .int .i64 0]::fs) h:=st.acc0 1
  refine WO.bC rfl (y8 (I:=Cr p rv pb (fun v=>[L.str a1,v3, .bool true,L.str a5,L.str a7,v, .slN, .int .i64 (Par.here l:Int)]) 1 (fun x:List (List UInt8)=>x.map fH)) (one:=Par.use) (sz:=List.length) (fs:= .acc f3 3 v3 (a3.map Pm.row):: .box rb_ [.str 0 0, .slN, .bool false, .str 0 0, .str 0 0, .slN, .slN, .int .i64 0]::fs) (e:=[125]) D (fun x w st hl hx=>use_c (nm:=a1) (at_:=Par.here l) (vp:=v3) (has:=true) (rs:=a5) (pc:=a7) D x w st hl hx) ([]:List (List UInt8)) (0, .slN) ((((st.pick 4 rfl).pick 4 rfl).pick 4 rfl).pick 4 rfl) hl9 (Nat.zero_le _)) (fun e a h hm st=> ?_) ?_
  ·exact aN.pan (by simp [Par.proc,Par.dW,hm,m1,m2,m3,hi4,m5,m6,m7,m8,m9]) (st.tail.tail)
  rintro a10 l10 _ h i10 m10 hl10 ⟨hlt10,hsz10,⟨f10,v10⟩,st⟩
  refine WO.nil (WP.seq (WP.reg (WO.val (v:= .ptr p.rb 0) (L.ay rfl (st.aj 2 rfl) rfl) (WO.bC rfl (blk_c D st hl10 (by omega)) (fun e a h hm st=> ?_) ?_))))
  ·exact aN.pan (by simp [Par.proc,Par.dW,hm,m1,m2,m3,hi4,m5,m6,m7,m8,m9,m10]) (st.tail.tail.tail.tail.tail)
  rintro a11 l11 v11 h i11 m11 hl11 ⟨hlt11,hc11,st⟩
  refine WO.val (v:= .ptr pb 6) (L.ak rfl) (WO.aH (row':=[L.str a1,v3, .bool true,L.str a5,L.str a7,v10,v11, .int .i64 (Par.here l:Int)]) st 4 rfl rfl hc11 rfl rfl rfl rfl (fun h st=> ?_))
  refine WO.nil (WP.seq (WP.reg (WO.val (v:= .agg [L.str a1,v3, .bool true,L.str a5,L.str a7,v10,v11, .int .i64 (Par.here l:Int)]) (L.aI rfl (st.aj 4 rfl) rfl rfl rfl) (WO.aH (row':=[L.str a1,v3, .bool true,L.str a5,L.str a7,v10,v11, .int .i64 (Par.here l:Int)]) st 7 rfl rfl rfl rfl rfl rfl rfl (fun h st=> ?_)))))
  refine WO.nil (WP.ret ?_)
  have s1:St (.stb (fun h=>Rows 3 h v3 (a3.map Pm.row)):: .acc f10 1 v10 (a10.map fH):: .stb (fun h=>pJ h v11 a11)::p.box i11 d::p.toks::fs) h:=((((((st.pick 3 rfl).tail.pick 3 rfl).tail.pick 5 rfl).tail.pick 3 rfl).pick 4 rfl)).shut (by decide)
  have s2:St (.stb (fun h=>Rows 1 h v10 (a10.map fH)):: .stb (fun h=>Rows 3 h v3 (a3.map Pm.row)):: .stb (fun h=>pJ h v11 a11)::p.box i11 d::p.toks::fs) h:=(s1.pick 1 rfl).shut (by decide)
  exact ⟨_,(av (dB (l:=[L.str a1,v3, .bool true,L.str a5,L.str a7,v10,v11, .int .i64 (Par.here l:Int)]) rfl (L.dP (st.aj 7 rfl) rfl rfl rfl)) (aG _ _)),aN.ok (x:=(Pr.mk a1 a3 true a5 a7 a10 a11 (Par.here l))) (l:=l11) (by simp [Par.proc,Par.dW,m1,m2,m3,hi4,m5,m6,m7,m8,m9,m10,m11]) hl11 ⟨[L.str a1,v3, .bool true,L.str a5,L.str a7,v10,v11, .int .i64 (Par.here l:Int)],rfl,rfl,(by have _:=hl.len;have _:=hl.lt;have _:=hl.len;have _:=hl.lt;have _:=Par.dF m1;have _:=hl1.len;have _:=Par.aV m2;have _:=hl2.len;have _:=hlt3;have _:=hl3.len;have _:=hl3.lt;have _:=Par.gu hi4;have _:=List.length_tail (l:=l3);have _:=hl4.len;have _:=Par.dF m5;have _:=hl5.len;have _:=Par.aV m6;have _:=hl6.len;have _:=Par.dF m7;have _:=hl7.len;have _:=Par.aV m8;have _:=hl8.len;have _:=Par.aV m9;have _:=hl9.len;have _:=hlt10;have _:=hl10.len;have _:=hl10.lt;have _:=hl11.len;have _:=hlt11;omega),s2.and.and.kI (fun h hx=>⟨_,_,_,rfl,hx.1.2,hx.1.1,hx.2⟩)⟩⟩
 ·replace st:St ((p.box i3 d)::p.toks:: .box rv [.ptr p.rb 0]:: .box pb [L.str a1,v3, .bool false, .str 0 0, .str 0 0, .slN, .slN, .int .i64 (Par.here l:Int)]:: .acc f3 3 v3 (a3.map Pm.row):: .box rb_ [.str 0 0, .slN, .bool false, .str 0 0, .str 0 0, .slN, .slN, .int .i64 0]::fs) h:=st
  refine WO.nil (WP.cond (t:=false) rfl (WP.skip (WP.seq (WP.reg (WO.val (v:= .ptr p.rb 0) (L.ay rfl (st.aj 2 rfl) rfl) (WO.bC rfl (eH (s:=[112,99]) D st hl3) (fun e a h hm st=> ?_) ?_))))))
  ·exact aN.pan (by simp [Par.proc,Par.dW,hm,m1,m2,m3,hi4]) (st.tail.tail.tail.tail)
  rintro a12 l12 _ h i12 m12 hl12 ⟨rfl,st⟩
  refine WO.nil (WP.seq (WP.reg (WO.val (v:= .ptr p.rb 0) (L.ay rfl (st.aj 2 rfl) rfl) (WO.bC rfl (jV D st hl12) (fun e a h hm st=> ?_) ?_))))
  ·exact aN.pan (by simp [Par.proc,Par.dW,hm,m1,m2,m3,hi4,m12]) (st.tail.tail.tail.tail)
  rintro a13 l13 _ h i13 m13 hl13 ⟨rfl,st⟩
  refine WO.val (v:= .ptr pb 4) (L.ak rfl) (WO.aH (row':=[L.str a1,v3, .bool false, .str 0 0,L.str a13, .slN, .slN, .int .i64 (Par.here l:Int)]) st 3 rfl rfl rfl rfl rfl rfl rfl (fun h st=> ?_))
  refine WO.nil (WP.seq (WP.reg (WO.val (v:= .ptr p.rb 0) (L.ay rfl (st.aj 2 rfl) rfl) (WO.bC rfl (eH (s:=[117,115,101,115]) D st hl13) (fun e a h hm st=> ?_) ?_))))
  ·exact aN.pan (by simp [Par.proc,Par.dW,hm,m1,m2,m3,hi4,m12,m13]) (st.tail.tail.tail.tail)
  rintro a14 l14 _ h i14 m14 hl14 ⟨rfl,st⟩
  refine WO.nil (WP.seq (WP.reg (WO.val (v:= .ptr p.rb 0) (L.ay rfl (st.aj 2 rfl) rfl) (WO.bC rfl (eH (s:=[123]) D st hl14) (fun e a h hm st=> ?_) ?_))))
  ·exact aN.pan (by simp [Par.proc,Par.dW,hm,m1,m2,m3,hi4,m12,m13,m14]) (st.tail.tail.tail.tail)
  rintro a15 l15 _ h i15 m15 hl15 ⟨rfl,st⟩
  refine WO.nil (WP.seq (WP.reg (WO.val (v:= .ptr p.rb 0) (L.ay rfl (st.aj 2 rfl) rfl) (WO.val (v:= .fn 52 [] [.ptr pb 0, .ptr rv 0]) rfl ?_))))
  replace st:St (.acc 0 1 .slN (([]:List (List UInt8)).map fH)::(p.box i15 d)::p.toks:: .box rv [.ptr p.rb 0]:: .box pb [L.str a1,v3, .bool false, .str 0 0,L.str a13, .slN, .slN, .int .i64 (Par.here l:Int)]:: .acc f3 3 v3 (a3.map Pm.row):: .box rb_ [.str 0 0, .slN, .bool false, .str 0 0, .str 0 0, .slN, .slN, .int .i64 0]::fs) h:=st.acc0 1
  refine WO.bC rfl (y8 (I:=Cr p rv pb (fun v=>[L.str a1,v3, .bool false, .str 0 0,L.str a13,v, .slN, .int .i64 (Par.here l:Int)]) 1 (fun x:List (List UInt8)=>x.map fH)) (one:=Par.use) (sz:=List.length) (fs:= .acc f3 3 v3 (a3.map Pm.row):: .box rb_ [.str 0 0, .slN, .bool false, .str 0 0, .str 0 0, .slN, .slN, .int .i64 0]::fs) (e:=[125]) D (fun x w st hl hx=>use_c (nm:=a1) (at_:=Par.here l) (vp:=v3) (has:=false) (rs:=[]) (pc:=a13) D x w st hl hx) ([]:List (List UInt8)) (0, .slN) ((((st.pick 4 rfl).pick 4 rfl).pick 4 rfl).pick 4 rfl) hl15 (Nat.zero_le _)) (fun e a h hm st=> ?_) ?_
  ·exact aN.pan (by simp [Par.proc,Par.dW,hm,m1,m2,m3,hi4,m12,m13,m14,m15]) (st.tail.tail)
  rintro a16 l16 _ h i16 m16 hl16 ⟨hlt16,hsz16,⟨f16,v16⟩,st⟩
  refine WO.nil (WP.seq (WP.reg (WO.val (v:= .ptr p.rb 0) (L.ay rfl (st.aj 2 rfl) rfl) (WO.bC rfl (blk_c D st hl16 (by omega)) (fun e a h hm st=> ?_) ?_))))
  ·exact aN.pan (by simp [Par.proc,Par.dW,hm,m1,m2,m3,hi4,m12,m13,m14,m15,m16]) (st.tail.tail.tail.tail.tail)
  rintro a17 l17 v17 h i17 m17 hl17 ⟨hlt17,hc17,st⟩
  refine WO.val (v:= .ptr pb 6) (L.ak rfl) (WO.aH (row':=[L.str a1,v3, .bool false, .str 0 0,L.str a13,v16,v17, .int .i64 (Par.here l:Int)]) st 4 rfl rfl hc17 rfl rfl rfl rfl (fun h st=> ?_))
  refine WO.nil (WP.seq (WP.reg (WO.val (v:= .agg [L.str a1,v3, .bool false, .str 0 0,L.str a13,v16,v17, .int .i64 (Par.here l:Int)]) (L.aI rfl (st.aj 4 rfl) rfl rfl rfl) (WO.aH (row':=[L.str a1,v3, .bool false, .str 0 0,L.str a13,v16,v17, .int .i64 (Par.here l:Int)]) st 7 rfl rfl rfl rfl rfl rfl rfl (fun h st=> ?_)))))
  refine WO.nil (WP.ret ?_)
  have s1:St (.stb (fun h=>Rows 3 h v3 (a3.map Pm.row)):: .acc f16 1 v16 (a16.map fH):: .stb (fun h=>pJ h v17 a17)::p.box i17 d::p.toks::fs) h:=((((((st.pick 3 rfl).tail.pick 3 rfl).tail.pick 5 rfl).tail.pick 3 rfl).pick 4 rfl)).shut (by decide)
  have s2:St (.stb (fun h=>Rows 1 h v16 (a16.map fH)):: .stb (fun h=>Rows 3 h v3 (a3.map Pm.row)):: .stb (fun h=>pJ h v17 a17)::p.box i17 d::p.toks::fs) h:=(s1.pick 1 rfl).shut (by decide)
  exact ⟨_,(av (dB (l:=[L.str a1,v3, .bool false, .str 0 0,L.str a13,v16,v17, .int .i64 (Par.here l:Int)]) rfl (L.dP (st.aj 7 rfl) rfl rfl rfl)) (aG _ _)),aN.ok (x:=(Pr.mk a1 a3 false ([]) a13 a16 a17 (Par.here l))) (l:=l17) (by simp [Par.proc,Par.dW,m1,m2,m3,hi4,m12,m13,m14,m15,m16,m17]) hl17 ⟨[L.str a1,v3, .bool false, .str 0 0,L.str a13,v16,v17, .int .i64 (Par.here l:Int)],rfl,rfl,(by have _:=hl.len;have _:=hl.lt;have _:=hl.len;have _:=hl.lt;have _:=Par.dF m1;have _:=hl1.len;have _:=Par.aV m2;have _:=hl2.len;have _:=hlt3;have _:=hl3.len;have _:=hl3.lt;have _:=Par.aV m12;have _:=hl12.len;have _:=Par.dF m13;have _:=hl13.len;have _:=Par.aV m14;have _:=hl14.len;have _:=Par.aV m15;have _:=hl15.len;have _:=hlt16;have _:=hl16.len;have _:=hl16.lt;have _:=hl17.len;have _:=hlt17;omega),s2.and.and.kI (fun h hx=>⟨_,_,_,rfl,hx.1.2,hx.1.1,hx.2⟩)⟩⟩
theorem JH (D:fZ c) {fs:List Fact} {h:Heap} {p:RP} {i d:Nat} {l:List Tok} (st:St (p.box i d::p.toks::fs) h) (hl:Left p i l):
 gG c 40 [.ptr p.rb 0] h (aN p 83 (Par.lH l) (fun a i1 v h1=>v= .agg (Vr.row a)∧i<i1∧St (p.box i1 d::p.toks::fs) h1) (St fs)):=by
 refine gG.eZ D.f40 rfl (WP.seq (WP.reg (WO.dQ st L.alloc (fun rb_ h st=> ?_))))
 refine WO.nil (WP.seq (WP.reg (WO.bR rfl (vH D ((st.pick 2 rfl).pick 2 rfl) hl) ?_)))
 rintro _ h ⟨rfl,st⟩
 refine WO.val (v:= .int .i64 (Par.here l:Int)) rfl (WO.bC rfl (jV D st hl) (fun e a h hm st=> ?_) ?_)
 ·exact aN.pan (by simp [Par.lH,Par.iG,hm]) (st.tail)
 rintro a1 l1 _ h i1 m1 hl1 ⟨rfl,st⟩
 refine WO.val (v:= .agg [L.str a1, .str 0 0, .int .i64 0, .int .i64 (Par.here l:Int)]) (L.build rfl) (WO.dQ st L.alloc (fun vb h st=> ?_))
 refine WO.aH (row':=[L.str a1, .str 0 0, .int .i64 0, .int .i64 (Par.here l:Int)]) st 0 rfl rfl rfl rfl rfl rfl rfl (fun h st=> ?_)
 refine WO.nil (WP.seq (WP.reg (WO.bC rfl (eH (s:=[58]) D ((st.pick 2 rfl).pick 2 rfl) hl1) (fun e a h hm st=> ?_) ?_)))
 ·exact aN.pan (by simp [Par.lH,Par.iG,hm,m1]) (st.tail.tail)
 rintro a2 l2 _ h i2 m2 hl2 ⟨rfl,st⟩
 refine WO.nil (WP.seq (WP.reg (WO.bC rfl (jV D st hl2) (fun e a h hm st=> ?_) ?_)))
 ·exact aN.pan (by simp [Par.lH,Par.iG,hm,m1,m2]) (st.tail.tail)
 rintro a3 l3 _ h i3 m3 hl3 ⟨rfl,st⟩
 refine WO.val (v:= .ptr vb 1) (L.ak rfl) (WO.aH (row':=[L.str a1,L.str a3, .int .i64 0, .int .i64 (Par.here l:Int)]) st 2 rfl rfl rfl rfl rfl rfl rfl (fun h st=> ?_))
 refine WO.nil (WP.seq (WP.reg (WO.bC rfl (eH (s:=[61]) D st hl3) (fun e a h hm st=> ?_) ?_)))
 ·exact aN.pan (by simp [Par.lH,Par.iG,hm,m1,m2,m3]) (st.tail.tail)
 rintro a4 l4 _ h i4 m4 hl4 ⟨rfl,st⟩
 refine WO.nil (WP.seq (WP.reg (WO.eG rfl (kP (s:=[45]) D st hl4) ?_)))
 rintro _ h (⟨rfl,hi5,hl5,st⟩|⟨rfl,hi5,st⟩)
 ·replace st:St ((p.box (i4+1:Nat) d)::p.toks:: .box vb [L.str a1,L.str a3, .int .i64 0, .int .i64 (Par.here l:Int)]:: .box rb_ [.str 0 0, .str 0 0, .int .i64 0, .int .i64 0]::fs) h:=st
  refine WO.nil (WP.seq (WP.reg (WO.bC rfl (BM D st hl5) (fun e a h hm st=> ?_) ?_)))
  ·exact aN.pan (by simp [Par.lH,Par.iG,hm,m1,m2,m3,m4,hi5]) (st.tail.tail)
  rintro a6 l6 _ h i6 m6 hl6 ⟨rfl,st⟩
  refine WO.val (v:= .ptr vb 2) (L.ak rfl) (WO.aH (row':=[L.str a1,L.str a3, .int .i64 (a6:Int), .int .i64 (Par.here l:Int)]) st 2 rfl rfl rfl rfl rfl rfl rfl (fun h st=> ?_))
  refine WO.nil (WP.seq (WP.seq (WP.reg (WO.aA (v:= .bool true) rfl (WO.nil (WP.cond (t:=true) rfl (WP.reg (WO.val (v:= .ptr vb 2) (L.ak rfl) (WO.val (v:= .int .i64 (a6:Int)) (L.ay rfl (st.aj 2 rfl) rfl) ?_)))))))))
  have hnb:=Par.Mi hl5 m6
  refine WO.val (v:= .int .i64 (-(a6:Int))) (L.neg64 rfl rfl (And.intro (by omega) (by omega))) (WO.val (v:= .ptr vb 2) (L.ak rfl) (WO.aH (row':=[L.str a1,L.str a3, .int .i64 (-(a6:Int)), .int .i64 (Par.here l:Int)]) st 2 rfl rfl rfl rfl rfl rfl rfl (fun h st=> ?_)))
  refine WO.nil (WP.seq (WP.reg (WO.bC rfl (eH (s:=[59]) D st hl6) (fun e a h hm st=> ?_) ?_)))
  ·exact aN.pan (by simp [Par.lH,Par.iG,hm,m1,m2,m3,m4,hi5,m6]) (st.tail.tail)
  rintro a7 l7 _ h i7 m7 hl7 ⟨rfl,st⟩
  refine WO.nil (WP.seq (WP.reg (WO.val (v:= .agg [L.str a1,L.str a3, .int .i64 (-(a6:Int)), .int .i64 (Par.here l:Int)]) (L.aI rfl (st.aj 2 rfl) rfl rfl rfl) (WO.aH (row':=[L.str a1,L.str a3, .int .i64 (-(a6:Int)), .int .i64 (Par.here l:Int)]) st 3 rfl rfl rfl rfl rfl rfl rfl (fun h st=> ?_)))))
  refine WO.nil (WP.ret ?_)
  exact ⟨_,(av (dB (l:=[L.str a1,L.str a3, .int .i64 (-(a6:Int)), .int .i64 (Par.here l:Int)]) rfl (L.dP (st.aj 3 rfl) rfl rfl rfl)) (aG _ _)),aN.ok (x:=Vr.mk a1 a3 (-(a6:Int)) (Par.here l)) (l:=l7) (by simp [Par.lH,Par.iG,m1,m2,m3,m4,hi5,m6,m7]) hl7 ⟨rfl,(by have _:=hl.len;have _:=hl.lt;have _:=Par.dF m1;have _:=hl1.len;have _:=Par.aV m2;have _:=hl2.len;have _:=Par.dF m3;have _:=hl3.len;have _:=Par.aV m4;have _:=hl4.len;have _:=Par.gu hi5;have _:=List.length_tail (l:=l4);have _:=hl5.len;have _:=Par.wC m6;have _:=hl6.len;have _:=Par.aV m7;have _:=hl7.len;omega),((st.pick 2 rfl).tail.pick 2 rfl).tail⟩⟩
 ·replace st:St ((p.box i4 d)::p.toks:: .box vb [L.str a1,L.str a3, .int .i64 0, .int .i64 (Par.here l:Int)]:: .box rb_ [.str 0 0, .str 0 0, .int .i64 0, .int .i64 0]::fs) h:=st
  refine WO.nil (WP.seq (WP.reg (WO.bC rfl (BM D st hl4) (fun e a h hm st=> ?_) ?_)))
  ·exact aN.pan (by simp [Par.lH,Par.iG,hm,m1,m2,m3,m4,hi5]) (st.tail.tail)
  rintro a8 l8 _ h i8 m8 hl8 ⟨rfl,st⟩
  refine WO.val (v:= .ptr vb 2) (L.ak rfl) (WO.aH (row':=[L.str a1,L.str a3, .int .i64 (a8:Int), .int .i64 (Par.here l:Int)]) st 2 rfl rfl rfl rfl rfl rfl rfl (fun h st=> ?_))
  refine WO.nil (WP.seq (WP.seq (WP.reg (WO.aA (v:= .bool false) rfl (WO.nil (WP.cond (t:=false) rfl (WP.skip (WP.seq (WP.reg (WO.bC rfl (eH (s:=[59]) D st hl8) (fun e a h hm st=> ?_) ?_))))))))))
  ·exact aN.pan (by simp [Par.lH,Par.iG,hm,m1,m2,m3,m4,hi5,m8]) (st.tail.tail)
  rintro a9 l9 _ h i9 m9 hl9 ⟨rfl,st⟩
  refine WO.nil (WP.seq (WP.reg (WO.val (v:= .agg [L.str a1,L.str a3, .int .i64 (a8:Int), .int .i64 (Par.here l:Int)]) (L.aI rfl (st.aj 2 rfl) rfl rfl rfl) (WO.aH (row':=[L.str a1,L.str a3, .int .i64 (a8:Int), .int .i64 (Par.here l:Int)]) st 3 rfl rfl rfl rfl rfl rfl rfl (fun h st=> ?_)))))
  refine WO.nil (WP.ret ?_)
  exact ⟨_,(av (dB (l:=[L.str a1,L.str a3, .int .i64 (a8:Int), .int .i64 (Par.here l:Int)]) rfl (L.dP (st.aj 3 rfl) rfl rfl rfl)) (aG _ _)),aN.ok (x:=Vr.mk a1 a3 (a8:Int) (Par.here l)) (l:=l9) (by simp [Par.lH,Par.iG,m1,m2,m3,m4,hi5,m8,m9]) hl9 ⟨rfl,(by have _:=hl.len;have _:=hl.lt;have _:=Par.dF m1;have _:=hl1.len;have _:=Par.aV m2;have _:=hl2.len;have _:=Par.dF m3;have _:=hl3.len;have _:=Par.aV m4;have _:=hl4.len;have _:=Par.wC m8;have _:=hl8.len;have _:=Par.aV m9;have _:=hl9.len;omega),((st.pick 2 rfl).tail.pick 2 rfl).tail⟩⟩
theorem H9 (D:fZ c) {fs:List Fact} {h:Heap} {p:RP} {i d:Nat} {l:List Tok} (st:St (p.box i d::p.toks::fs) h) (hl:Left p i l) (hd:d≤40):
 gG c 23 [.ptr p.rb 0] h (aN p 83 (Par.gT d l) (fun a i1 v h1=>∃row,v= .agg row∧row.length=5∧St (.stb (fun h=>uD h a row)::p.box i1 d::p.toks::fs) h1) (St fs)):=by
 refine gG.eZ D.f23 rfl (WP.seq (WP.reg (WO.dQ st L.alloc (fun rb_ h st=> ?_))))
 refine WO.nil (WP.seq (WP.reg (WO.bC rfl (eH (s:=[109,111,100,117,108,101]) D ((st.pick 2 rfl).pick 2 rfl) hl) (fun e a h hm st=> ?_) ?_)))
 ·exact aN.pan (by simp [Par.gT,hm]) (st.tail)
 rintro a1 l1 _ h i1 m1 hl1 ⟨rfl,st⟩
 refine WO.nil (WP.seq (WP.reg (WO.bR rfl (vH D st hl1) ?_)))
 rintro _ h ⟨rfl,st⟩
 refine WO.val (v:= .int .i64 (Par.here l1:Int)) rfl (WO.bC rfl (jV D st hl1) (fun e a h hm st=> ?_) ?_)
 ·exact aN.pan (by simp [Par.gT,hm,m1]) (st.tail)
 rintro a2 l2 _ h i2 m2 hl2 ⟨rfl,st⟩
 refine WO.val (v:= .agg [L.str a2, .int .i64 (Par.here l1:Int), .slN, .slN, .slN]) (L.build rfl) (WO.dQ st L.alloc (fun mb h st=> ?_))
 refine WO.aH (row':=[L.str a2, .int .i64 (Par.here l1:Int), .slN, .slN, .slN]) st 0 rfl rfl rfl rfl rfl rfl rfl (fun h st=> ?_)
 refine WO.nil (WP.seq (WP.reg (WO.bC rfl (eH (s:=[59]) D ((st.pick 2 rfl).pick 2 rfl) hl2) (fun e a h hm st=> ?_) ?_)))
 ·exact aN.pan (by simp [Par.gT,hm,m1,m2]) (st.tail.tail)
 rintro a3 l3 _ h i3 m3 hl3 ⟨rfl,st⟩
 refine WO.nil (WP.seq (WP.block ?_))
 replace st:St (.acc 0 2 .slN (([]:List Im).map Im.row)::(p.box i3 d)::p.toks:: .box mb [L.str a2, .int .i64 (Par.here l1:Int), .slN, .slN, .slN]:: .box rb_ [.str 0 0, .int .i64 0, .slN, .slN, .slN]::fs) h:=st.acc0 2
 refine WP.iW (α:=Nat) (fun k env h=>∃lz iz xz fz vz x2,(Par.fq l3.length l3 []=Par.fq k lz xz∧lz.length≤k∧Left p iz lz∧xz.length≤iz)∧env=dx [.ptr p.rb 0, .ptr rb_ 0,x2, .ptr mb 0] 0 Env.nil∧St (.box mb [L.str a2, .int .i64 (Par.here l1:Int),vz, .slN, .slN]:: .acc fz 2 vz (xz.map Im.row):: .box rb_ [.str 0 0, .int .i64 0, .slN, .slN, .slN]::(p.box iz d)::p.toks::fs) h) (fun k=>k) l3.length ?_ ?_
 ·exact ⟨l3,i3,[],0, .slN, .bot,⟨rfl,Nat.le_refl _,hl3,Nat.zero_le _⟩,by kernel_rfl,(((st.pick 4 rfl).pick 1 rfl).pick 4 rfl)⟩
 rintro k _ h ⟨lz,iz,xz,fz,vz,x2,⟨hs,hk,hlz,hxz⟩,rfl,st⟩
 have hlp:=List.length_pos_iff.2 hlz.ne
 obtain ⟨k,rfl⟩:∃m,k=m+1:=⟨k - 1,by omega⟩
 refine WP.seq (WP.seq (WP.reg (WO.eG rfl (kP (s:=[105,109,112,111,114,116]) D ((st.pick 4 rfl).pick 4 rfl) hlz) ?_)))
 rintro _ h (⟨rfl,hi4,hl4,st⟩|⟨rfl,hi4,st⟩)
 ·replace st:St ((p.box (iz+1:Nat) d)::p.toks:: .box mb [L.str a2, .int .i64 (Par.here l1:Int),vz, .slN, .slN]:: .acc fz 2 vz (xz.map Im.row):: .box rb_ [.str 0 0, .int .i64 0, .slN, .slN, .slN]::fs) h:=st
  refine WO.nil (WP.cond (t:=true) rfl (WP.skip (WP.block (WP.seq (WP.draw (WD.val (v:= .ptr mb 2) (L.ak rfl) (WD.val (v:=vz) (L.ay rfl (st.aj 2 rfl) rfl) (WD.val (v:= .ptr p.rb 0) rfl (WD.val (v:= .ptr p.rb 0) rfl (WD.bR rfl (vH D st hl4) (fun _ h hp=> ?_) ?_))))))))))
  ·obtain ⟨rfl,st⟩:=hp
   exact bB (by first|exact au (L.ay rfl (st.aj 0 rfl) rfl)|exact aC st 0 rfl|exact au (L.aI rfl (st.aj 0 rfl) rfl rfl rfl)|exact au (L.ay rfl (st.aj 2 rfl) rfl)|exact aC st 2 rfl|exact au (L.aI rfl (st.aj 2 rfl) rfl rfl rfl)|exact au (L.ay rfl (st.aj 4 rfl) rfl)|exact aC st 4 rfl|exact au (L.aI rfl (st.aj 4 rfl) rfl rfl rfl)) (dm _ _)
  rintro _ h ⟨rfl,st⟩
  refine WD.val (v:= .int .i64 (Par.here lz.tail:Int)) rfl (WD.bC rfl (jV D st hl4) (fun e a h hm st=> ?_) (fun _ _ h _ hp=> ?_) ?_)
  ·exact aN.pan (by simp [Par.gT,Par.fq,hm,m1,m2,m3,hs,hi4]) (st.tail.tail.tail)
  ·obtain ⟨rfl,st⟩:=hp
   exact bB (by first|exact au (L.ay rfl (st.aj 0 rfl) rfl)|exact aC st 0 rfl|exact au (L.aI rfl (st.aj 0 rfl) rfl rfl rfl)|exact au (L.ay rfl (st.aj 2 rfl) rfl)|exact aC st 2 rfl|exact au (L.aI rfl (st.aj 2 rfl) rfl rfl rfl)|exact au (L.ay rfl (st.aj 4 rfl) rfl)|exact aC st 4 rfl|exact au (L.aI rfl (st.aj 4 rfl) rfl rfl rfl)) (dm _ _)
  rintro a5 l5 _ h i5 m5 hl5 ⟨rfl,st⟩
  refine WD.val (v:= .agg [L.str a5, .int .i64 (Par.here lz.tail:Int)]) (L.build rfl) (WD.oO (rows:=[[L.str a5, .int .i64 (Par.here lz.tail:Int)]]) st rfl (by decide) rfl (by simp) (fun bs1 h _ st=> ?_))
  refine WD.Bv st 4 rfl rfl rfl (st.aF 0 rfl) (by decide) (by have:=hlz.small;have:=hlz.lt;simp;omega) (fun _ _ h st=>rfl) (fun f6 v6 h st=> ?_)
  rw [show (xz.map Im.row)++[[L.str a5,V.int .i64 (Par.here lz.tail:Int)]]=(xz++[Im.mk a5 (Par.here lz.tail)]).map Im.row from by simp [Im.row]] at st
  obtain ⟨ab6,rfl⟩:=(st.dS 4 rfl).ne (by simp)
  refine WD.val (v:= .ptr mb 2) (L.ak rfl) (WD.aH (row':=[L.str a2, .int .i64 (Par.here l1:Int), .sl ab6 0 (((xz++[Im.mk a5 (Par.here lz.tail)]).map Im.row).length) none, .slN, .slN]) st 3 rfl rfl rfl rfl rfl rfl rfl (fun h st=>rfl) (fun h st=> ?_))
  refine WD.nil (WP.reg (WO.bC rfl (eH (s:=[59]) D ((st.pick 2 rfl).pick 2 rfl) hl5) (fun e a h hm st=> ?_) ?_))
  ·exact aN.pan (by simp [Par.gT,Par.fq,hm,m1,m2,m3,hs,hi4,m5]) (st.tail.tail.tail.tail)
  rintro a7 l7 _ h i7 m7 hl7 ⟨rfl,st⟩
  refine WO.nil ?_
  exact ⟨k,(Nat.lt_succ_self _),l7,i7,(xz++[Im.mk a5 (Par.here lz.tail)]),f6,(.sl ab6 0 ((xz++[Im.mk a5 (Par.here lz.tail)]).map Im.row).length none),(.bool true),⟨by rw [hs];simp [Par.fq,hi4,m5,m7],(by have _:=hlz.len;have _:=hlz.lt;have _:=Par.gu hi4;have _:=List.length_tail (l:=lz);have _:=hl4.len;have _:=Par.dF m5;have _:=hl5.len;have _:=Par.aV m7;have _:=hl7.len;omega),hl7,(by have _:=hlz.len;have _:=hlz.lt;have _:=Par.gu hi4;have _:=List.length_tail (l:=lz);have _:=hl4.len;have _:=Par.dF m5;have _:=hl5.len;have _:=Par.aV m7;have _:=hl7.len;simp;omega)⟩,by kernel_rfl,((((st.pick 2 rfl).tail.pick 4 rfl).pick 4 rfl).pick 4 rfl)⟩
 ·replace st:St ((p.box iz d)::p.toks:: .box mb [L.str a2, .int .i64 (Par.here l1:Int),vz, .slN, .slN]:: .acc fz 2 vz (xz.map Im.row):: .box rb_ [.str 0 0, .int .i64 0, .slN, .slN, .slN]::fs) h:=st
  refine WO.nil (WP.cond (t:=false) rfl (WP.exit (WP.seq (WP.block ?_))))
  replace st:St (.acc 0 4 .slN (([]:List Vr).map Vr.row)::(p.box iz d)::p.toks:: .box mb [L.str a2, .int .i64 (Par.here l1:Int),vz, .slN, .slN]:: .acc fz 2 vz (xz.map Im.row):: .box rb_ [.str 0 0, .int .i64 0, .slN, .slN, .slN]::fs) h:=st.acc0 4
  replace st:St (.acc 0 8 .slN ([]):: .acc 0 4 .slN (([]:List Vr).map Vr.row)::(p.box iz d)::p.toks:: .box mb [L.str a2, .int .i64 (Par.here l1:Int),vz, .slN, .slN]:: .acc fz 2 vz (xz.map Im.row):: .box rb_ [.str 0 0, .int .i64 0, .slN, .slN, .slN]::fs) h:=st.acc0 8
  replace st:St (.stb (fun h=>cB h ([]) ([])):: .acc 0 8 .slN ([]):: .acc 0 4 .slN (([]:List Vr).map Vr.row)::(p.box iz d)::p.toks:: .box mb [L.str a2, .int .i64 (Par.here l1:Int),vz, .slN, .slN]:: .acc fz 2 vz (xz.map Im.row):: .box rb_ [.str 0 0, .int .i64 0, .slN, .slN, .slN]::fs) h:=(St.pure st (Q:=True) trivial).kI (Q:=fun h=>cB h [] []) (fun _ _=>cB.nil)
  refine WP.iW (α:=Nat) (fun g env h=>∃ly iy vsy psy rsy fv vv fp vp x4 x5,(Par.bO d lz.length lz [] []=Par.bO d g ly vsy psy∧ly.length≤g∧Left p iy ly∧vsy.length≤iy∧rsy.length≤iy)∧env=dx [.ptr p.rb 0, .ptr rb_ 0, .bool false, .ptr mb 0,x4,x5] 0 Env.nil∧St (.box mb [L.str a2, .int .i64 (Par.here l1:Int),vz,vv,vp]:: .acc fz 2 vz (xz.map Im.row):: .acc fv 4 vv (vsy.map Vr.row):: .acc fp 8 vp rsy:: .stb (fun h=>cB h psy rsy):: .box rb_ [.str 0 0, .int .i64 0, .slN, .slN, .slN]::(p.box iy d)::p.toks::fs) h) (fun g=>g) lz.length ?_ ?_
  ·exact ⟨lz,iz,[],[],[],0, .slN,0, .slN, .bot, .bot,⟨rfl,Nat.le_refl _,hlz,Nat.zero_le _,Nat.zero_le _⟩,by kernel_rfl,((((((st.pick 7 rfl).pick 1 rfl).pick 2 rfl).pick 3 rfl).pick 7 rfl).pick 7 rfl)⟩
  rintro g _ h ⟨ly,iy,vsy,psy,rsy,fv,vv,fp,vp,x4,x5,⟨ht,hg,hly,hvy,hry⟩,rfl,st⟩
  have hlp2:=List.length_pos_iff.2 hly.ne
  obtain ⟨g,rfl⟩:∃m,g=m+1:=⟨g - 1,by omega⟩
  refine WP.seq (WP.seq (WP.reg (WO.bR rfl (vH D ((st.pick 7 rfl).pick 7 rfl) hly) ?_)))
  rintro _ h ⟨rfl,st⟩
  refine WO.val (v:= .int .i64 ((Par.hd ly).kind:Int)) rfl (WO.ifS (L.neq rfl rfl) (fun c1=> ?_) (fun c1=> ?_))
  ·replace c1:(Par.hd ly).kind≠0:=by omega
   refine WO.nil (WP.cond (t:=true) rfl (WP.skip (WP.block (WP.seq (WP.reg (WO.eG rfl (kP (s:=[118,97,114]) D st hly) ?_))))))
   rintro _ h (⟨rfl,hi8,hl8,st⟩|⟨rfl,hi8,st⟩)
   ·replace st:St ((p.box (iy+1:Nat) d)::p.toks:: .box mb [L.str a2, .int .i64 (Par.here l1:Int),vz,vv,vp]:: .acc fz 2 vz (xz.map Im.row):: .acc fv 4 vv (vsy.map Vr.row):: .acc fp 8 vp rsy:: .stb (fun h=>cB h psy rsy):: .box rb_ [.str 0 0, .int .i64 0, .slN, .slN, .slN]::fs) h:=st
    refine WO.nil (WP.cond (t:=true) rfl (WP.draw (WD.val (v:= .ptr mb 3) (L.ak rfl) (WD.val (v:=vv) (L.ay rfl (st.aj 2 rfl) rfl) (WD.val (v:= .ptr p.rb 0) rfl (WD.bC rfl (JH D st hl8) (fun e a h hm st=> ?_) (fun _ _ h _ hp=> ?_) ?_))))))
    ·exact aN.pan (by simp [Par.gT,Par.fq,Par.bO,hm,m1,m2,m3,hs,hi4,ht,c1,hi8]) (st.tail.tail.tail.tail.tail.tail)
    ·obtain ⟨rfl,hlt9,st⟩:=hp
     exact bB (by first|exact au (L.ay rfl (st.aj 0 rfl) rfl)|exact aC st 0 rfl|exact au (L.aI rfl (st.aj 0 rfl) rfl rfl rfl)|exact au (L.ay rfl (st.aj 2 rfl) rfl)|exact aC st 2 rfl|exact au (L.aI rfl (st.aj 2 rfl) rfl rfl rfl)|exact au (L.ay rfl (st.aj 7 rfl) rfl)|exact aC st 7 rfl|exact au (L.aI rfl (st.aj 7 rfl) rfl rfl rfl)) (dm _ _)
    rintro a9 l9 _ h i9 m9 hl9 ⟨rfl,hlt9,st⟩
    refine WD.oO (rows:=[[L.str a9.name,L.str a9.label, .int .i64 a9.init, .int .i64 (a9.at_:Int)]]) st rfl (by decide) rfl (by simp) (fun bs2 h _ st=> ?_)
    refine WD.Bv st 5 rfl rfl rfl (st.aF 0 rfl) (by decide) (by have:=hly.small;have:=hly.lt;simp;omega) (fun _ _ h st=>rfl) (fun f10 v10 h st=> ?_)
    rw [show (vsy.map Vr.row)++[[L.str a9.name,L.str a9.label,V.int .i64 a9.init,V.int .i64 (a9.at_:Int)]]=(vsy++[a9]).map Vr.row from by simp [Vr.row]] at st
    obtain ⟨ab10,rfl⟩:=(st.dS 5 rfl).ne (by simp)
    refine WD.val (v:= .ptr mb 3) (L.ak rfl) (WD.aH (row':=[L.str a2, .int .i64 (Par.here l1:Int),vz, .sl ab10 0 (((vsy++[a9]).map Vr.row).length) none,vp]) st 3 rfl rfl rfl rfl rfl rfl rfl (fun h st=>rfl) (fun h st=> ?_))
    refine WD.nil ?_
    exact ⟨g,(Nat.lt_succ_self _),l9,i9,(vsy++[a9]),psy,rsy,f10,(.sl ab10 0 ((vsy++[a9]).map Vr.row).length none),fp,vp,(.bool true),(.bool true),⟨by rw [ht];simp [Par.bO,c1,hi8,m9],(by have _:=hly.len;have _:=hly.lt;have _:=Par.gu hi8;have _:=List.length_tail (l:=ly);have _:=hl8.len;have _:=hl9.len;have _:=hlt9;omega),hl9,(by have _:=hly.len;have _:=hly.lt;have _:=Par.gu hi8;have _:=List.length_tail (l:=ly);have _:=hl8.len;have _:=hl9.len;have _:=hlt9;simp;omega),(by have _:=hly.len;have _:=hly.lt;have _:=Par.gu hi8;have _:=List.length_tail (l:=ly);have _:=hl8.len;have _:=hl9.len;have _:=hlt9;simp;omega)⟩,by kernel_rfl,((((((st.tail.pick 7 rfl).pick 7 rfl).pick 7 rfl).pick 7 rfl).pick 7 rfl).pick 7 rfl)⟩
   ·replace st:St ((p.box iy d)::p.toks:: .box mb [L.str a2, .int .i64 (Par.here l1:Int),vz,vv,vp]:: .acc fz 2 vz (xz.map Im.row):: .acc fv 4 vv (vsy.map Vr.row):: .acc fp 8 vp rsy:: .stb (fun h=>cB h psy rsy):: .box rb_ [.str 0 0, .int .i64 0, .slN, .slN, .slN]::fs) h:=st
    refine WO.nil (WP.cond (t:=false) rfl (WP.seq (WP.reg (WO.bC rfl (eH (s:=[112,114,111,99]) D st hly) (fun e a h hm st=> ?_) ?_))))
    ·exact aN.pan (by simp [Par.gT,Par.fq,Par.bO,hm,m1,m2,m3,hs,hi4,ht,c1,hi8]) (st.tail.tail.tail.tail.tail.tail)
    rintro a11 l11 _ h i11 m11 hl11 ⟨rfl,st⟩
    refine WO.nil (WP.draw (WD.val (v:= .ptr mb 4) (L.ak rfl) (WD.val (v:=vp) (L.ay rfl (st.aj 2 rfl) rfl) (WD.val (v:= .ptr p.rb 0) rfl (WD.bC rfl (proc_c D st hl11 hd) (fun e a h hm st=> ?_) (fun _ _ h _ hp=> ?_) ?_)))))
    ·exact aN.pan (by simp [Par.gT,Par.fq,Par.bO,hm,m1,m2,m3,hs,hi4,ht,c1,hi8,m11]) (st.tail.tail.tail.tail.tail.tail)
    ·obtain ⟨row12,rfl,hr12,hlt12,st⟩:=hp
     exact bB (by first|exact au (L.ay rfl (st.aj 1 rfl) rfl)|exact aC st 1 rfl|exact au (L.aI rfl (st.aj 1 rfl) rfl rfl rfl)|exact au (L.ay rfl (st.aj 3 rfl) rfl)|exact aC st 3 rfl|exact au (L.aI rfl (st.aj 3 rfl) rfl rfl rfl)|exact au (L.ay rfl (st.aj 8 rfl) rfl)|exact aC st 8 rfl|exact au (L.aI rfl (st.aj 8 rfl) rfl rfl rfl)) (dm _ _)
    rintro a12 l12 _ h i12 m12 hl12 ⟨row12,rfl,hr12,hlt12,st⟩
    refine WD.oO (rows:=[row12]) st (Gs rfl hr12) (by decide) rfl (by simpa using hr12) (fun bs3 h _ st=> ?_)
    refine WD.Bv st 7 rfl rfl rfl (st.aF 0 rfl) (by decide) (by have:=hly.small;have:=hly.lt;simp;omega) (fun _ _ h st=>rfl) (fun f13 v13 h st=> ?_)
    obtain ⟨ab13,rfl⟩:=(st.dS 7 rfl).ne (by simp)
    replace st:=((((st.pick 8 rfl).pick 2 rfl)).and).kI (fun h hx=>hx.2.snoc hx.1)
    refine WD.val (v:= .ptr mb 4) (L.ak rfl) (WD.aH (row':=[L.str a2, .int .i64 (Par.here l1:Int),vz,vv, .sl ab13 0 ((rsy++[row12]).length) none]) st 4 rfl rfl rfl rfl rfl rfl rfl (fun h st=>rfl) (fun h st=> ?_))
    refine WD.nil ?_
    exact ⟨g,(Nat.lt_succ_self _),l12,i12,vsy,(psy++[a12]),(rsy++[row12]),fv,vv,f13,(.sl ab13 0 (rsy++[row12]).length none),(.bool true),(.bool false),⟨by rw [ht];simp [Par.bO,c1,hi8,m11,m12],(by have _:=hly.len;have _:=hly.lt;have _:=Par.aV m11;have _:=hl11.len;have _:=hl12.len;have _:=hlt12;omega),hl12,(by have _:=hly.len;have _:=hly.lt;have _:=Par.aV m11;have _:=hl11.len;have _:=hl12.len;have _:=hlt12;simp;omega),(by have _:=hly.len;have _:=hly.lt;have _:=Par.aV m11;have _:=hl11.len;have _:=hl12.len;have _:=hlt12;simp;omega)⟩,by kernel_rfl,(((((((st.pick 1 rfl).tail.pick 7 rfl).pick 1 rfl).pick 7 rfl).pick 7 rfl).pick 7 rfl).pick 7 rfl)⟩
  ·replace c1:(Par.hd ly).kind=0:=by omega
   refine WO.nil (WP.cond (t:=false) rfl (WP.exit (WP.seq (WP.reg (WO.val (v:= .agg [L.str a2, .int .i64 (Par.here l1:Int),vz,vv,vp]) (L.aI rfl (st.aj 2 rfl) rfl rfl rfl) (WO.aH (row':=[L.str a2, .int .i64 (Par.here l1:Int),vz,vv,vp]) st 7 rfl rfl rfl rfl rfl rfl rfl (fun h st=> ?_)))))))
   refine WO.nil (WP.ret ?_)
   have hav:CS vv:=by first|exact (st.dS 0 rfl).open_|exact (st.dS 1 rfl).open_|exact (st.dS 2 rfl).open_|exact (st.dS 3 rfl).open_|exact (st.dS 4 rfl).open_|exact (st.dS 5 rfl).open_
   have hap:CS vp:=by first|exact (st.dS 0 rfl).open_|exact (st.dS 1 rfl).open_|exact (st.dS 2 rfl).open_|exact (st.dS 3 rfl).open_|exact (st.dS 4 rfl).open_|exact (st.dS 5 rfl).open_
   have s1:St (.stb (fun h=>Rows 2 h vz (xz.map Im.row)):: .acc fv 4 vv (vsy.map Vr.row):: .acc fp 8 vp rsy:: .stb (fun h=>cB h psy rsy)::p.box iy d::p.toks::fs) h:=(((((((st.pick 2 rfl).tail.pick 6 rfl).tail.pick 5 rfl).pick 5 rfl).pick 5 rfl).pick 5 rfl)).shut (by decide)
   have s2:St (.stb (fun h=>Rows 4 h vv (vsy.map Vr.row)):: .stb (fun h=>Rows 2 h vz (xz.map Im.row)):: .acc fp 8 vp rsy:: .stb (fun h=>cB h psy rsy)::p.box iy d::p.toks::fs) h:=(s1.pick 1 rfl).shut (by decide)
   have s3:St (.stb (fun h=>Rows 8 h vp rsy):: .stb (fun h=>Rows 4 h vv (vsy.map Vr.row)):: .stb (fun h=>Rows 2 h vz (xz.map Im.row)):: .stb (fun h=>cB h psy rsy)::p.box iy d::p.toks::fs) h:=(s2.pick 2 rfl).shut (by decide)
   exact ⟨_,(av (dB (l:=[L.str a2, .int .i64 (Par.here l1:Int),vz,vv,vp]) rfl (L.dP (st.aj 7 rfl) rfl rfl rfl)) (aG _ _)),aN.ok (x:=Md.mk a2 (Par.here l1) xz vsy psy) (l:=ly) (by simp [Par.gT,Par.fq,Par.bO,m1,m2,m3,hs,hi4,ht,c1]) hly ⟨[L.str a2, .int .i64 (Par.here l1:Int),vz,vv,vp],rfl,rfl,s3.and.and.and.kI (fun h hx=>⟨⟨_,_,_,rfl,hx.1.2,hx.1.1.2,_,hx.1.1.1,hx.2⟩,_,_,_,_,_,rfl,hav,hap⟩)⟩⟩
theorem Ia (D:fZ c) {fs:List Fact} {h:Heap} {p:RP} {i d:Nat} {l:List Tok} (st:St (p.box i d::p.toks::fs) h) (hl:Left p i l):
 gG c 21 [.ptr p.rb 0] h (aN p 83 (Par.labels l) (fun a i1 v h1=>v.bW=some [v]∧St (.stb (fun h=>Rows 3 h v (a.map Pm.row))::p.box i1 d::p.toks::fs) h1) (St fs)):=by
 refine gG.eZ D.f21 rfl (WP.seq (WP.reg (WO.aA (v:= .slN) rfl (WO.nil (WP.seq (WP.reg (WO.bC rfl (eH (s:=[108,97,98,101,108,115]) D st hl) (fun e a h hm st=> ?_) ?_)))))))
 ·exact aN.pan (by simp [Par.labels,hm]) (st)
 rintro a1 l1 _ h i1 m1 hl1 ⟨rfl,st⟩
 refine WO.nil (WP.seq (WP.reg (WO.aA (v:= .slN) rfl (WO.nil (WP.seq (WP.block ?_))))))
 replace st:St (.acc 0 3 .slN (([]:List Pm).map Pm.row)::(p.box i1 d)::p.toks::fs) h:=st.acc0 3
 refine WP.iW (α:=Nat) (fun g env h=>∃ly iy xy fy vy x2 x3 x4 x5 x7 x8 x9,(Par.gH l1.length l1 []=Par.gH g ly xy∧ly.length≤g∧Left p iy ly∧xy.length≤iy)∧env=dx [.ptr p.rb 0, .slN,x2,x3,x4,x5,vy,x7,x8,x9] 0 Env.nil∧St (.acc fy 3 vy (xy.map Pm.row)::(p.box iy d)::p.toks::fs) h) (fun g=>g) l1.length ?_ ?_
 ·exact ⟨l1,i1,[],0, .slN, .bot, .bot, .bot, .bot, .bot, .bot, .bot,⟨rfl,Nat.le_refl _,hl1,Nat.zero_le _⟩,by kernel_rfl,st⟩
 rintro g _ h ⟨ly,iy,xy,fy,vy,x2,x3,x4,x5,x7,x8,x9,⟨ht,hg,hly,hxy⟩,rfl,st⟩
 have hlp2:=List.length_pos_iff.2 hly.ne
 obtain ⟨g,rfl⟩:∃m,g=m+1:=⟨g - 1,by omega⟩
 refine WP.seq (WP.seq (WP.reg (WO.bR rfl (vH D ((st.pick 2 rfl).pick 2 rfl) hly) ?_)))
 rintro _ h ⟨rfl,st⟩
 refine WO.val (v:= .int .i64 ((Par.hd ly).kind:Int)) rfl (WO.ifS (L.neq rfl rfl) (fun c1=> ?_) (fun c1=> ?_))
 ·replace c1:(Par.hd ly).kind≠0:=by omega
  refine WO.nil (WP.cond (t:=true) rfl (WP.skip (WP.block (WP.seq (WP.reg (WO.bR rfl (vH D st hly) ?_))))))
  rintro _ h ⟨rfl,st⟩
  refine WO.val (v:= .int .i64 (Par.here ly:Int)) rfl (WO.bC rfl (jV D st hly) (fun e a h hm st=> ?_) ?_)
  ·exact aN.pan (by simp [Par.labels,Par.gH,hm,m1,ht,c1]) (st.tail)
  rintro a2 l2 _ h i2 m2 hl2 ⟨rfl,st⟩
  refine WO.aA (v:= .int .i64 (Par.here ly:Int)) rfl (WO.aA (v:=L.str a2) rfl (WO.nil (WP.seq (WP.reg (WO.aA (v:= .bool true) rfl (WO.nil (WP.seq (WP.block (WP.iW (α:=Nat) (fun k env h=>∃lz iz ls xz al fz vz x3 x5,(Par.oq l2.length l2 a2 xy true=Par.oq k lz ls xz al∧lz.length≤k∧Left p iz lz∧xz.length<iz∧iy<iz)∧env=dx [.ptr p.rb 0, .slN, .bool true,x3,L.str ls,x5,vz, .bool al,x8, .int .i64 (Par.here ly:Int)] 0 Env.nil∧St (.acc fz 3 vz (xz.map Pm.row)::(p.box iz d)::p.toks::fs) h) (fun k=>k) l2.length ?_ ?_)))))))))
  ·exact ⟨l2,i2,a2,xy,true,fy,vy,x3,x5,⟨rfl,Nat.le_refl _,hl2,(by have _:=hly.len;have _:=hly.lt;have _:=Par.dF m2;have _:=hl2.len;omega),(by have _:=hly.len;have _:=hly.lt;have _:=Par.dF m2;have _:=hl2.len;omega)⟩,by kernel_rfl,(st.pick 2 rfl)⟩
  rintro k _ h ⟨lz,iz,ls,xz,al,fz,vz,x3,x5,⟨hs,hk,hlz,hxz,hiz⟩,rfl,st⟩
  have hlp:=List.length_pos_iff.2 hlz.ne
  obtain ⟨k,rfl⟩:∃m,k=m+1:=⟨k - 1,by omega⟩
  refine WP.seq (WP.seq (WP.reg (WO.eG rfl (kP (s:=[60]) D ((st.pick 2 rfl).pick 2 rfl) hlz) ?_)))
  rintro _ h (⟨rfl,hi3,hl3,st⟩|⟨rfl,hi3,st⟩)
  ·replace st:St ((p.box (iz+1:Nat) d)::p.toks:: .acc fz 3 vz (xz.map Pm.row)::fs) h:=st
   refine WO.nil (WP.cond (t:=true) rfl (WP.skip (WP.block (WP.seq (WP.reg (WO.bR rfl (vH D st hl3) ?_))))))
   rintro _ h ⟨rfl,st⟩
   refine WO.val (v:= .int .i64 (Par.here lz.tail:Int)) rfl (WO.bC rfl (jV D st hl3) (fun e a h hm st=> ?_) ?_)
   ·exact aN.pan (by simp [Par.labels,Par.gH,Par.oq,hm,m1,ht,c1,m2,hs,hi3]) (st.tail)
   rintro a4 l4 _ h i4 m4 hl4 ⟨rfl,st⟩
   refine WO.val (v:= .agg [L.str ls,L.str a4, .int .i64 (Par.here lz.tail:Int)]) (L.build rfl) (WO.dQ st L.alloc (fun b1 h st=> ?_))
   refine WO.aH (row':=[L.str ls,L.str a4, .int .i64 (Par.here lz.tail:Int)]) st 0 rfl rfl rfl rfl rfl rfl rfl (fun h st=> ?_)
   refine WO.nil (WP.seq (WP.reg (WO.val (v:= .agg [L.str ls,L.str a4, .int .i64 (Par.here lz.tail:Int)]) (L.aI rfl (st.aj 0 rfl) rfl rfl rfl) (WO.oO (rows:=[[L.str ls,L.str a4, .int .i64 (Par.here lz.tail:Int)]]) st rfl (by decide) rfl (by simp) (fun bs1 h st=> ?_)))))
   refine WO.zF st 4 rfl rfl rfl (st.aF 0 rfl) (by decide) (by have:=hlz.small;have:=hlz.lt;simp;omega) (fun f5 v5 h st=> ?_)
   rw [show (xz.map Pm.row)++[[L.str ls,L.str a4,V.int .i64 (Par.here lz.tail:Int)]]=(xz++[Pm.mk ls a4 (Par.here lz.tail)]).map Pm.row from by simp [Pm.row]] at st
   obtain ⟨ab5,rfl⟩:=(st.dS 4 rfl).ne (by simp)
   refine WO.nil (WP.reg (WO.val (v:= .ptr b1 1) (L.ak rfl) (WO.aA (v:=L.str a4) (L.ay rfl (st.aj 1 rfl) rfl) (WO.aA (v:= .bool false) rfl (WO.nil ?_)))))
   exact ⟨k,(Nat.lt_succ_self _),l4,i4,a4,(xz++[Pm.mk ls a4 (Par.here lz.tail)]),false,f5,(.sl ab5 0 ((xz++[Pm.mk ls a4 (Par.here lz.tail)]).map Pm.row).length none),(.bool true),(.ptr b1 0),⟨by rw [hs];simp [Par.oq,hi3,m4],(by have _:=hly.len;have _:=hly.lt;have _:=hlz.len;have _:=hlz.lt;have _:=Par.gu hi3;have _:=List.length_tail (l:=lz);have _:=hl3.len;have _:=Par.dF m4;have _:=hl4.len;omega),hl4,(by have _:=hly.len;have _:=hly.lt;have _:=hlz.len;have _:=hlz.lt;have _:=Par.gu hi3;have _:=List.length_tail (l:=lz);have _:=hl3.len;have _:=Par.dF m4;have _:=hl4.len;simp;omega),(by have _:=hly.len;have _:=hly.lt;have _:=hlz.len;have _:=hlz.lt;have _:=Par.gu hi3;have _:=List.length_tail (l:=lz);have _:=hl3.len;have _:=Par.dF m4;have _:=hl4.len;omega)⟩,by kernel_rfl,(st.tail.tail.pick 2 rfl)⟩
  ·replace st:St ((p.box iz d)::p.toks:: .acc fz 3 vz (xz.map Pm.row)::fs) h:=st
   refine WO.nil (WP.cond (t:=false) rfl (WP.exit (WP.seq (WP.seq (WP.reg ?_)))))
   cases al
   ·refine WO.aA (v:= .bool false) rfl (WO.nil (WP.cond (t:=false) rfl (WP.skip (WP.reg (WO.bC rfl (eH (s:=[59]) D st hlz) (fun e a h hm st=> ?_) ?_)))))
    ·exact aN.pan (by simp [Par.labels,Par.gH,Par.oq,hm,m1,ht,c1,m2,hs,hi3]) (st.tail)
    rintro a6 l6 _ h i6 m6 hl6 ⟨rfl,st⟩
    refine WO.nil ?_
    exact ⟨g,(Nat.lt_succ_self _),l6,i6,xz,fz,vz,(.bool true),(.bool false),(L.str ls),x5,(.bool false),(.bool false),(.int .i64 (Par.here ly:Int)),⟨by rw [ht];simp [Par.gH,Par.oq,c1,m2,hs,hi3,m6],(by have _:=hly.len;have _:=hly.lt;have _:=hlz.len;have _:=hlz.lt;have _:=Par.aV m6;have _:=hl6.len;omega),hl6,(by have _:=hly.len;have _:=hly.lt;have _:=hlz.len;have _:=hlz.lt;have _:=Par.aV m6;have _:=hl6.len;simp;omega)⟩,by kernel_rfl,(st.pick 2 rfl)⟩
   ·refine WO.aA (v:= .bool true) rfl (WO.nil (WP.cond (t:=true) rfl (WP.reg (WO.val (v:= .agg [L.str ls, .str 0 0, .int .i64 (Par.here ly:Int)]) (L.build rfl) (WO.oO (rows:=[[L.str ls, .str 0 0, .int .i64 (Par.here ly:Int)]]) st rfl (by decide) rfl (by simp) (fun bs2 h st=> ?_))))))
    refine WO.zF st 3 rfl rfl rfl (st.aF 0 rfl) (by decide) (by have:=hlz.small;have:=hlz.lt;simp;omega) (fun f7 v7 h st=> ?_)
    rw [show (xz.map Pm.row)++[[L.str ls,V.str 0 0,V.int .i64 (Par.here ly:Int)]]=(xz++[Pm.mk ls [] (Par.here ly)]).map Pm.row from by simp [Pm.row];rfl] at st
    obtain ⟨ab7,rfl⟩:=(st.dS 3 rfl).ne (by simp)
    refine WO.nil (WP.reg (WO.bC rfl (eH (s:=[59]) D ((st.pick 2 rfl).pick 2 rfl) hlz) (fun e a h hm st=> ?_) ?_))
    ·exact aN.pan (by simp [Par.labels,Par.gH,Par.oq,hm,m1,ht,c1,m2,hs,hi3]) (st.tail.tail)
    rintro a8 l8 _ h i8 m8 hl8 ⟨rfl,st⟩
    refine WO.nil ?_
    exact ⟨g,(Nat.lt_succ_self _),l8,i8,(xz++[Pm.mk ls [] (Par.here ly)]),f7,(.sl ab7 0 ((xz++[Pm.mk ls [] (Par.here ly)]).map Pm.row).length none),(.bool true),(.bool false),(L.str ls),x5,(.bool true),(.bool true),(.int .i64 (Par.here ly:Int)),⟨by rw [ht];simp [Par.gH,Par.oq,c1,m2,hs,hi3,m8],(by have _:=hly.len;have _:=hly.lt;have _:=hlz.len;have _:=hlz.lt;have _:=Par.aV m8;have _:=hl8.len;omega),hl8,(by have _:=hly.len;have _:=hly.lt;have _:=hlz.len;have _:=hlz.lt;have _:=Par.aV m8;have _:=hl8.len;simp;omega)⟩,by kernel_rfl,((st.pick 2 rfl).tail.pick 2 rfl)⟩
 ·replace c1:(Par.hd ly).kind=0:=by omega
  refine WO.nil (WP.cond (t:=false) rfl (WP.exit (WP.seq (WP.reg (WO.aA (v:=vy) rfl (WO.nil (WP.ret ?_)))))))
  have hac:=(st.dS 2 rfl).cells
  exact ⟨_,(av (aB (v:=vy) rfl) (aG _ _)),aN.ok (x:=xy) (l:=ly) (by simp [Par.labels,Par.gH,Par.oq,m1,ht,c1]) hly ⟨hac,((st.pick 2 rfl)).shut (by decide)⟩⟩
end
end Go.Eng.YtjobofnpmmjeoaaDoor.Pq
namespace Go.Eng.YtjobofnpmmjeoaaDoor.Pq
open Go.Eng
noncomputable section
variable {c:Ctx}
structure uE (c:Ctx):Prop where
 is_:∃fs more,c=Ctx.of fs gY more∧T.get 20 fs=none∧T.get 22 fs=none
 idx:∀{fs:List Fact} {h:Heap} {l:List UInt8} {b:UInt8},St fs h→bZ c 56 [L.str l, .int .u8 (b.toNat:Int)] h fun v h1=>v= .int .i64 (Lib.indexByte l b)∧St fs h1
theorem readL_c (D:fZ c) (DD:uE c) {fs:List Fact} {h:Heap} {p:RP} (st:St (p.toks::fs) h) (hl:Left p 0 p.ts):
 bZ c 20 [.sl p.tb p.to p.ts.length p.cap, .fn 21 [] []] h fun v h1=>match Par.labels p.ts with
  | .ok (m,_)=>∃x,v= .tup [x, .int .i64 0, .int .i64 0]∧x.bW=some [x]∧St (.stb (fun h=>Rows 3 h x (m.map Pm.row))::fs) h1
  | .error (e,a)=>v= .tup [.slN, .int .i64 (e:Int), .int .i64 (a:Int)]∧St fs h1:=by
 obtain ⟨fs_,more,hmore,h20_,h22_⟩:=DD.is_
 refine bZ.funD hmore (f:=20) (F:=d20) h20_ rfl rfl rfl rfl (WP.reg (WO.dQ st L.alloc (fun xb h st=> ?_)))
 refine WO.dQ st L.alloc (fun eb h st=> ?_)
 refine WO.dQ st L.alloc (fun ab h st=> ?_)
 refine WO.nil ?_
 show WO _ _ _ _ _ _
 refine WO.val (v:= .agg [.sl p.tb p.to p.ts.length p.cap, .int .i64 0, .int .i64 0]) (L.build rfl) (WO.boxF st (L.box (l:=[.sl p.tb p.to p.ts.length p.cap, .int .i64 0, .int .i64 0]) rfl rfl) (fun rb h st=> ?_))
 replace st:St (({p with rb:=rb}:RP).box 0 0::({p with rb:=rb}:RP).toks:: .box ab [.int .i64 0]:: .box eb [.int .i64 0]:: .box xb [.slN]::fs) h:=((st.pick 4 rfl).pick 1 rfl)
 cases hsp:Par.labels p.ts with
 |error x=>
  obtain ⟨e,a⟩:=x
  refine WO.yI rfl rfl (Ia D st (hl.rb_ rb)) (fun e1 a1 h hm st=> ?_) (fun x l v h i hm=>by rw [hsp] at hm;cases hm)
  rw [hsp] at hm;cases hm
  refine QD.pan_ [.ptr xb 0, .ptr eb 0, .ptr ab 0] rfl rfl rfl (WP.block (WP.seq (WP.reg (WO.aA (v:= .bool false) rfl (WO.nil (WP.cond (t:=false) rfl (WP.seq (WP.reg (WO.val (v:= .tup [.agg [.int .i64 (e:Int), .int .i64 (a:Int)], .bool true]) rfl (WO.aA (v:= .bool true) rfl (WO.aA (v:= .agg [.int .i64 (e:Int), .int .i64 (a:Int)]) rfl (WO.nil (WP.cond (t:=true) rfl (WP.seq (WP.reg (WO.dQ st L.alloc (fun b1 h st=> ?_)))))))))))))))))
  refine WO.aH (row':=[.int .i64 (e:Int), .int .i64 (a:Int)]) st 0 rfl rfl rfl rfl rfl rfl rfl (fun h st=> ?_)
  refine WO.nil (WP.seq (WP.reg (WO.aA (v:= .slN) rfl (WO.nil (WP.draw (WD.val (v:= .slN) rfl (WD.val (v:= .ptr b1 0) (L.ak rfl) (WD.val (v:= .int .i64 (e:Int)) (L.ay rfl (st.aj 0 rfl) rfl) (WD.val (v:= .ptr b1 1) (L.ak rfl) (WD.val (v:= .int .i64 (a:Int)) (L.ay rfl (st.aj 0 rfl) rfl) (WD.aH (row':=[.slN]) st 3 rfl rfl rfl rfl rfl rfl rfl (fun h st=>bB (by first|exact au (L.ay rfl (st.aj 0 rfl) rfl)|exact aC st 0 rfl|exact au (L.aI rfl (st.aj 0 rfl) rfl rfl rfl)|exact au (L.ay rfl (st.aj 1 rfl) rfl)|exact aC st 1 rfl|exact au (L.aI rfl (st.aj 1 rfl) rfl rfl rfl)|exact au (L.ay rfl (st.aj 2 rfl) rfl)|exact aC st 2 rfl|exact au (L.aI rfl (st.aj 2 rfl) rfl rfl rfl)|exact au (L.ay rfl (st.aj 3 rfl) rfl)|exact aC st 3 rfl|exact au (L.aI rfl (st.aj 3 rfl) rfl rfl rfl)) (bB (by first|exact au (L.ay rfl (st.aj 0 rfl) rfl)|exact aC st 0 rfl|exact au (L.aI rfl (st.aj 0 rfl) rfl rfl rfl)|exact au (L.ay rfl (st.aj 1 rfl) rfl)|exact aC st 1 rfl|exact au (L.aI rfl (st.aj 1 rfl) rfl rfl rfl)|exact au (L.ay rfl (st.aj 2 rfl) rfl)|exact aC st 2 rfl|exact au (L.aI rfl (st.aj 2 rfl) rfl rfl rfl)|exact au (L.ay rfl (st.aj 3 rfl) rfl)|exact aC st 3 rfl|exact au (L.aI rfl (st.aj 3 rfl) rfl rfl rfl)) (dm _ _))) (fun h st=> ?_))))))))))))
  refine WD.aH (row':=[.int .i64 (e:Int)]) st 2 rfl rfl rfl rfl rfl rfl rfl (fun h st=>bB (by first|exact au (L.ay rfl (st.aj 0 rfl) rfl)|exact aC st 0 rfl|exact au (L.aI rfl (st.aj 0 rfl) rfl rfl rfl)|exact au (L.ay rfl (st.aj 1 rfl) rfl)|exact aC st 1 rfl|exact au (L.aI rfl (st.aj 1 rfl) rfl rfl rfl)|exact au (L.ay rfl (st.aj 2 rfl) rfl)|exact aC st 2 rfl|exact au (L.aI rfl (st.aj 2 rfl) rfl rfl rfl)|exact au (L.ay rfl (st.aj 3 rfl) rfl)|exact aC st 3 rfl|exact au (L.aI rfl (st.aj 3 rfl) rfl rfl rfl)) (dm _ _)) (fun h st=> ?_)
  refine WD.aH (row':=[.int .i64 (a:Int)]) st 1 rfl rfl rfl rfl rfl rfl rfl (fun h st=>rfl) (fun h st=> ?_)
  refine WD.nil ?_
  exact ⟨.inl rfl,_,(av (jO (v:= .slN) rfl (L.jf (st.aj 3 rfl) rfl)) (av (jO (v:= .int .i64 (e:Int)) rfl (L.jf (st.aj 2 rfl) rfl)) (av (jO (v:= .int .i64 (a:Int)) rfl (L.jf (st.aj 1 rfl) rfl)) (aG _ _)))),rfl,st.tail.tail.tail.tail⟩
 |ok x=>
  obtain ⟨m,lx⟩:=x
  refine WO.yI rfl rfl (Ia D st (hl.rb_ rb)) (fun e1 a1 h hm=>by rw [hsp] at hm;cases hm) (fun x l v h i hm=> ?_)
  rw [hsp] at hm;cases hm
  rintro hlx ⟨hcv,st⟩
  refine WO.aH (row':=[v]) st 5 rfl rfl hcv rfl rfl rfl rfl (fun h st=> ?_)
  refine WO.aH (row':=[.int .i64 0]) st 4 rfl rfl rfl rfl rfl rfl rfl (fun h st=> ?_)
  refine WO.aH (row':=[.int .i64 0]) st 3 rfl rfl rfl rfl rfl rfl rfl (fun h st=> ?_)
  refine WO.nil (QD.nrm_ [.ptr xb 0, .ptr eb 0, .ptr ab 0] rfl rfl (WP.block (WP.seq (WP.reg (WO.aA (v:= .bool true) rfl (WO.nil (WP.cond (t:=true) rfl (WP.reg (WO.nil ?_)))))))))
  exact ⟨.inl rfl,_,(av (jO (v:=v) rfl (L.jf (st.aj 5 rfl) rfl)) (av (jO (v:= .int .i64 0) rfl (L.jf (st.aj 4 rfl) rfl)) (av (jO (v:= .int .i64 0) rfl (L.jf (st.aj 3 rfl) rfl)) (aG _ _)))),v,rfl,hcv,(((((st.pick 1 rfl).tail.pick 1 rfl).tail.pick 1 rfl).tail.pick 1 rfl).tail.pick 1 rfl).tail⟩
theorem readM_c (D:fZ c) (DD:uE c) {fs:List Fact} {h:Heap} {p:RP} (st:St (p.toks::fs) h) (hl:Left p 0 p.ts):
 bZ c 22 [.sl p.tb p.to p.ts.length p.cap, .fn 23 [] []] h fun v h1=>match Par.gT 0 p.ts with
  | .ok (m,_)=>∃row,v= .tup [.agg row, .int .i64 0, .int .i64 0]∧row.length=5∧St (.stb (fun h=>uD h m row)::fs) h1
  | .error (e,a)=>v= .tup [.agg [.str 0 0, .int .i64 0, .slN, .slN, .slN], .int .i64 (e:Int), .int .i64 (a:Int)]∧St fs h1:=by
 obtain ⟨fs_,more,hmore,h20_,h22_⟩:=DD.is_
 refine bZ.funD hmore (f:=22) (F:=d22) h22_ rfl rfl rfl rfl (WP.reg (WO.dQ st L.alloc (fun xb h st=> ?_)))
 refine WO.dQ st L.alloc (fun eb h st=> ?_)
 refine WO.dQ st L.alloc (fun ab h st=> ?_)
 refine WO.nil ?_
 show WO _ _ _ _ _ _
 refine WO.val (v:= .agg [.sl p.tb p.to p.ts.length p.cap, .int .i64 0, .int .i64 0]) (L.build rfl) (WO.boxF st (L.box (l:=[.sl p.tb p.to p.ts.length p.cap, .int .i64 0, .int .i64 0]) rfl rfl) (fun rb h st=> ?_))
 replace st:St (({p with rb:=rb}:RP).box 0 0::({p with rb:=rb}:RP).toks:: .box ab [.int .i64 0]:: .box eb [.int .i64 0]:: .box xb [.str 0 0, .int .i64 0, .slN, .slN, .slN]::fs) h:=((st.pick 4 rfl).pick 1 rfl)
 cases hsp:Par.gT 0 p.ts with
 |error x=>
  obtain ⟨e,a⟩:=x
  refine WO.yI rfl rfl (H9 D st (hl.rb_ rb) (Nat.zero_le _)) (fun e1 a1 h hm st=> ?_) (fun x l v h i hm=>by rw [hsp] at hm;cases hm)
  rw [hsp] at hm;cases hm
  refine QD.pan_ [.ptr xb 0, .ptr eb 0, .ptr ab 0] rfl rfl rfl (WP.block (WP.seq (WP.reg (WO.aA (v:= .bool false) rfl (WO.nil (WP.cond (t:=false) rfl (WP.seq (WP.reg (WO.val (v:= .tup [.agg [.int .i64 (e:Int), .int .i64 (a:Int)], .bool true]) rfl (WO.aA (v:= .bool true) rfl (WO.aA (v:= .agg [.int .i64 (e:Int), .int .i64 (a:Int)]) rfl (WO.nil (WP.cond (t:=true) rfl (WP.seq (WP.reg (WO.dQ st L.alloc (fun b1 h st=> ?_)))))))))))))))))
  refine WO.aH (row':=[.int .i64 (e:Int), .int .i64 (a:Int)]) st 0 rfl rfl rfl rfl rfl rfl rfl (fun h st=> ?_)
  refine WO.nil (WP.seq (WP.reg (WO.dQ st L.alloc (fun b2 h st=> ?_))))
  refine WO.nil (WP.draw (WD.val (v:= .agg [.str 0 0, .int .i64 0, .slN, .slN, .slN]) (L.aI rfl (st.aj 0 rfl) rfl rfl rfl) (WD.val (v:= .ptr b1 0) (L.ak rfl) (WD.val (v:= .int .i64 (e:Int)) (L.ay rfl (st.aj 1 rfl) rfl) (WD.val (v:= .ptr b1 1) (L.ak rfl) (WD.val (v:= .int .i64 (a:Int)) (L.ay rfl (st.aj 1 rfl) rfl) (WD.aH (row':=[.str 0 0, .int .i64 0, .slN, .slN, .slN]) st 4 rfl rfl rfl rfl rfl rfl rfl (fun h st=>bB (by first|exact au (L.ay rfl (st.aj 0 rfl) rfl)|exact aC st 0 rfl|exact au (L.aI rfl (st.aj 0 rfl) rfl rfl rfl)|exact au (L.ay rfl (st.aj 1 rfl) rfl)|exact aC st 1 rfl|exact au (L.aI rfl (st.aj 1 rfl) rfl rfl rfl)|exact au (L.ay rfl (st.aj 2 rfl) rfl)|exact aC st 2 rfl|exact au (L.aI rfl (st.aj 2 rfl) rfl rfl rfl)|exact au (L.ay rfl (st.aj 3 rfl) rfl)|exact aC st 3 rfl|exact au (L.aI rfl (st.aj 3 rfl) rfl rfl rfl)|exact au (L.ay rfl (st.aj 4 rfl) rfl)|exact aC st 4 rfl|exact au (L.aI rfl (st.aj 4 rfl) rfl rfl rfl)) (bB (by first|exact au (L.ay rfl (st.aj 0 rfl) rfl)|exact aC st 0 rfl|exact au (L.aI rfl (st.aj 0 rfl) rfl rfl rfl)|exact au (L.ay rfl (st.aj 1 rfl) rfl)|exact aC st 1 rfl|exact au (L.aI rfl (st.aj 1 rfl) rfl rfl rfl)|exact au (L.ay rfl (st.aj 2 rfl) rfl)|exact aC st 2 rfl|exact au (L.aI rfl (st.aj 2 rfl) rfl rfl rfl)|exact au (L.ay rfl (st.aj 3 rfl) rfl)|exact aC st 3 rfl|exact au (L.aI rfl (st.aj 3 rfl) rfl rfl rfl)|exact au (L.ay rfl (st.aj 4 rfl) rfl)|exact aC st 4 rfl|exact au (L.aI rfl (st.aj 4 rfl) rfl rfl rfl)) (dm _ _))) (fun h st=> ?_))))))))
  refine WD.aH (row':=[.int .i64 (e:Int)]) st 3 rfl rfl rfl rfl rfl rfl rfl (fun h st=>bB (by first|exact au (L.ay rfl (st.aj 0 rfl) rfl)|exact aC st 0 rfl|exact au (L.aI rfl (st.aj 0 rfl) rfl rfl rfl)|exact au (L.ay rfl (st.aj 1 rfl) rfl)|exact aC st 1 rfl|exact au (L.aI rfl (st.aj 1 rfl) rfl rfl rfl)|exact au (L.ay rfl (st.aj 2 rfl) rfl)|exact aC st 2 rfl|exact au (L.aI rfl (st.aj 2 rfl) rfl rfl rfl)|exact au (L.ay rfl (st.aj 3 rfl) rfl)|exact aC st 3 rfl|exact au (L.aI rfl (st.aj 3 rfl) rfl rfl rfl)|exact au (L.ay rfl (st.aj 4 rfl) rfl)|exact aC st 4 rfl|exact au (L.aI rfl (st.aj 4 rfl) rfl rfl rfl)) (dm _ _)) (fun h st=> ?_)
  refine WD.aH (row':=[.int .i64 (a:Int)]) st 2 rfl rfl rfl rfl rfl rfl rfl (fun h st=>rfl) (fun h st=> ?_)
  refine WD.nil ?_
  exact ⟨.inl rfl,_,(av (dB (l:=[.str 0 0, .int .i64 0, .slN, .slN, .slN]) rfl (L.dP (st.aj 4 rfl) rfl rfl rfl)) (av (jO (v:= .int .i64 (e:Int)) rfl (L.jf (st.aj 3 rfl) rfl)) (av (jO (v:= .int .i64 (a:Int)) rfl (L.jf (st.aj 2 rfl) rfl)) (aG _ _)))),rfl,st.tail.tail.tail.tail.tail⟩
 |ok x=>
  obtain ⟨m,lx⟩:=x
  refine WO.yI rfl rfl (H9 D st (hl.rb_ rb) (Nat.zero_le _)) (fun e1 a1 h hm=>by rw [hsp] at hm;cases hm) (fun x l v h i hm=> ?_)
  rw [hsp] at hm;cases hm
  rintro hlx ⟨rowm,rfl,hrow,st⟩
  refine WO.aH (row':=rowm) st 5 rfl rfl rfl (by rw [fF];exact hrow) rfl rfl (yG hrow) (fun h st=> ?_)
  refine WO.aH (row':=[.int .i64 0]) st 4 rfl rfl rfl rfl rfl rfl rfl (fun h st=> ?_)
  refine WO.aH (row':=[.int .i64 0]) st 3 rfl rfl rfl rfl rfl rfl rfl (fun h st=> ?_)
  refine WO.nil (QD.nrm_ [.ptr xb 0, .ptr eb 0, .ptr ab 0] rfl rfl (WP.block (WP.seq (WP.reg (WO.aA (v:= .bool true) rfl (WO.nil (WP.cond (t:=true) rfl (WP.reg (WO.nil ?_)))))))))
  exact ⟨.inl rfl,_,(av (dB (l:=rowm) rfl (L.dP (st.aj 5 rfl) rfl (by rw [fF,hrow];rfl) (qf hrow))) (av (jO (v:= .int .i64 0) rfl (L.jf (st.aj 4 rfl) rfl)) (av (jO (v:= .int .i64 0) rfl (L.jf (st.aj 3 rfl) rfl)) (aG _ _)))),rowm,rfl,hrow,(((((st.pick 1 rfl).tail.pick 1 rfl).tail.pick 1 rfl).tail.pick 1 rfl).tail.pick 1 rfl).tail⟩
end
end Go.Eng.YtjobofnpmmjeoaaDoor.Pq
namespace Go.Eng.YtjobofnpmmjeoaaDoor.Pq
open Go.Eng
noncomputable section
variable {c:Ctx}
theorem K4 (D:fZ c) {fs:List Fact} {h:Heap} {b:UInt8} (st:St fs h):
 bZ c 26 [.int .u8 (b.toNat:Int)] h fun v h1=>v= .bool (Lex.small b)∧St fs h1:=by
 refine bZ.eZ D.f26 rfl (WP.seq (WP.reg (WO.aA (v:= .bool false) rfl (WO.nil (WP.seq (WP.reg (WO.ifV (L.geq rfl rfl) (fun c1=> ?_) (fun c1=> ?_))))))))
 ·replace c1:b.toNat≥97:=by omega
  refine WO.yes rfl (WO.val (v:= .int .u8 (b.toNat:Int)) rfl (WO.yes rfl (WO.ifV (L.leq rfl rfl) (fun c2=> ?_) (fun c2=> ?_))))
  ·replace c2:b.toNat≤122:=by omega
   refine WO.aA (v:= .bool true) rfl (WO.nil (WP.ret ?_))
   exact ⟨_,(av (aB (v:= .bool true) rfl) (aG _ _)),(by simp [Lex.small,one, *]<;>omega),st⟩
  ·replace c2:¬(b.toNat≤122):=by omega
   refine WO.aA (v:= .bool false) rfl (WO.nil (WP.ret ?_))
   exact ⟨_,(av (aB (v:= .bool false) rfl) (aG _ _)),(by simp [Lex.small,one, *]<;>omega),st⟩
 ·replace c1:¬(b.toNat≥97):=by omega
  refine WO.no rfl (WO.no rfl (WO.aA (v:= .bool false) rfl (WO.nil (WP.ret ?_))))
  exact ⟨_,(av (aB (v:= .bool false) rfl) (aG _ _)),(by simp [Lex.small,one, *]<;>omega),st⟩
theorem Fv (D:fZ c) {fs:List Fact} {h:Heap} {b:UInt8} (st:St fs h):
 bZ c 29 [.int .u8 (b.toNat:Int)] h fun v h1=>v= .bool (Lex.digit b)∧St fs h1:=by
 refine bZ.eZ D.f29 rfl (WP.seq (WP.reg (WO.aA (v:= .bool false) rfl (WO.nil (WP.seq (WP.reg (WO.ifV (L.geq rfl rfl) (fun c1=> ?_) (fun c1=> ?_))))))))
 ·replace c1:b.toNat≥48:=by omega
  refine WO.yes rfl (WO.val (v:= .int .u8 (b.toNat:Int)) rfl (WO.yes rfl (WO.ifV (L.leq rfl rfl) (fun c2=> ?_) (fun c2=> ?_))))
  ·replace c2:b.toNat≤57:=by omega
   refine WO.aA (v:= .bool true) rfl (WO.nil (WP.ret ?_))
   exact ⟨_,(av (aB (v:= .bool true) rfl) (aG _ _)),(by simp [Lex.digit,one, *]<;>omega),st⟩
  ·replace c2:¬(b.toNat≤57):=by omega
   refine WO.aA (v:= .bool false) rfl (WO.nil (WP.ret ?_))
   exact ⟨_,(av (aB (v:= .bool false) rfl) (aG _ _)),(by simp [Lex.digit,one, *]<;>omega),st⟩
 ·replace c1:¬(b.toNat≥48):=by omega
  refine WO.no rfl (WO.no rfl (WO.aA (v:= .bool false) rfl (WO.nil (WP.ret ?_))))
  exact ⟨_,(av (aB (v:= .bool false) rfl) (aG _ _)),(by simp [Lex.digit,one, *]<;>omega),st⟩
theorem Ct (D:fZ c) {fs:List Fact} {h:Heap} {b:UInt8} (st:St fs h):
 bZ c 27 [.int .u8 (b.toNat:Int)] h fun v h1=>v= .bool (Lex.within b)∧St fs h1:=by
 refine bZ.eZ D.f27 rfl (WP.seq (WP.reg (WO.aA (v:= .bool false) rfl (WO.nil (WP.seq (WP.reg (WO.bR rfl (K4 D st) ?_)))))))
 rintro _ h ⟨rfl,st⟩
 cases hb1:Lex.small b
 ·refine WO.yes rfl (WO.val (v:= .int .u8 (b.toNat:Int)) rfl (WO.yes rfl (WO.bR rfl (Fv D st) ?_)))
  rintro _ h ⟨rfl,st⟩
  cases hb2:Lex.digit b
  ·refine WO.val (v:= .bool false) rfl (WO.yes rfl (WO.val (v:= .int .u8 (b.toNat:Int)) rfl (WO.yes rfl (WO.ifV (L.eql rfl rfl) (fun c1=> ?_) (fun c1=> ?_)))))
   ·replace c1:b.toNat=95:=by omega
    refine WO.aA (v:= .bool true) rfl (WO.nil (WP.ret ?_))
    exact ⟨_,(av (aB (v:= .bool true) rfl) (aG _ _)),(by simp [Lex.within,one, *]),st⟩
   ·replace c1:¬(b.toNat=95):=by omega
    refine WO.aA (v:= .bool false) rfl (WO.nil (WP.ret ?_))
    exact ⟨_,(av (aB (v:= .bool false) rfl) (aG _ _)),(by simp [Lex.within,one, *]),st⟩
  ·refine WO.val (v:= .bool true) rfl (WO.no rfl (WO.no rfl (WO.aA (v:= .bool true) rfl (WO.nil (WP.ret ?_)))))
   exact ⟨_,(av (aB (v:= .bool true) rfl) (aG _ _)),(by simp [Lex.within,one, *]),st⟩
 ·refine WO.no rfl (WO.no rfl (WO.val (v:= .bool true) rfl (WO.no rfl (WO.no rfl (WO.aA (v:= .bool true) rfl (WO.nil (WP.ret ?_)))))))
  exact ⟨_,(av (aB (v:= .bool true) rfl) (aG _ _)),(by simp [Lex.within,one, *]),st⟩
theorem notnl_c (D:fZ c) {fs:List Fact} {h:Heap} {b:UInt8} (st:St fs h):
 bZ c 25 [.int .u8 (b.toNat:Int)] h fun v h1=>v= .bool (Lex.j6 b)∧St fs h1:=by
 refine bZ.eZ D.f25 rfl (WP.seq (WP.reg (WO.aA (v:= .bool false) rfl (WO.nil (WP.seq (WP.reg (WO.ifS (L.neq rfl rfl) (fun c1=> ?_) (fun c1=> ?_))))))))
 ·replace c1:b.toNat≠10:=by omega
  refine WO.nil (WP.ret ?_)
  exact ⟨_,(av (aB (v:= .bool true) rfl) (aG _ _)),(by simp [Lex.j6,one, *]),st⟩
 ·replace c1:¬(b.toNat≠10):=by omega
  refine WO.nil (WP.ret ?_)
  exact ⟨_,(av (aB (v:= .bool false) rfl) (aG _ _)),(by simp [Lex.j6,one, *]),st⟩
theorem PE (D:fZ c) {isf:UInt8→Bool} {g:Nat} (hone:∀{fs:List Fact} {h:Heap} {b:UInt8},St fs h→bZ c g [.int .u8 (b.toNat:Int)] h fun v h1=>v= .bool (isf b)∧St fs h1) {fs:List Fact} {h:Heap} {ab sb pos:Nat} {s:List UInt8} (st:St (.box ab [.int .i64 (pos:Int)]:: .box sb [L.str s]::fs) h) (hp:pos≤s.length) (hs:s.length<4294967296):
 bZ c 24 [.fn g [] [], .ptr ab 0, .ptr sb 0] h fun v h1=>v=L.str ((s.drop pos).takeWhile isf)∧St (.box ab [.int .i64 ((pos+((s.drop pos).takeWhile isf).length:Nat):Int)]:: .box sb [L.str s]::fs) h1:=by
 refine bZ.eZ D.f24 rfl (WP.seq (WP.reg (WO.aA (v:= .str 0 0) rfl (WO.nil (WP.seq (WP.reg (WO.aA (v:= .int .i64 (pos:Int)) (L.ay rfl (st.aj 0 rfl) rfl) (WO.nil (WP.seq (WP.block (WP.iW (α:=Nat) (fun k env h=>∃x4,(pos+k≤s.length∧(s.drop pos).takeWhile isf=(s.drop pos).take k++(s.drop (pos+k)).takeWhile isf)∧env=dx [.fn g [] [], .ptr ab 0, .ptr sb 0, .str 0 0,x4, .int .i64 (pos:Int)] 0 Env.nil∧St (.box ab [.int .i64 ((pos+k:Nat):Int)]:: .box sb [L.str s]::fs) h) (fun k=>s.length - (pos+k)) 0 ?_ ?_)))))))))))
 ·exact ⟨.bot,⟨hp,by simp⟩,by kernel_rfl,st⟩
 rintro k _ h ⟨x4,⟨hk1,hk2⟩,rfl,st⟩
 refine WP.seq (WP.seq (WP.reg (WO.val (v:= .int .i64 ((pos+k:Nat):Int)) (L.ay rfl (st.aj 0 rfl) rfl) (WO.val (v:=L.str s) (L.ay rfl (st.aj 1 rfl) rfl) (WO.val (v:= .int .i64 (s.length:Int)) (L.yE rfl) (WO.ifV (L.lss rfl rfl) (fun c1=> ?_) (fun c1=> ?_)))))))
 ·replace c1:(pos+k)<s.length:=by omega
  refine WO.yes rfl (WO.val (v:= .fn g [] []) rfl (WO.yes rfl (WO.val (v:=L.str s) (L.ay rfl (st.aj 1 rfl) rfl) (WO.yes rfl (WO.val (v:= .int .i64 ((pos+k:Nat):Int)) (L.ay rfl (st.aj 0 rfl) rfl) (WO.yes rfl ?_))))))
  obtain ⟨b,hb⟩:∃b,s[pos+k]? =some b:=⟨_,List.getElem?_eq_getElem c1⟩
  refine WO.val (v:= .int .u8 (b.toNat:Int)) (L.E5 rfl rfl hb) (WO.yes rfl (WO.Ou rfl rfl (hone st) ?_))
  rintro _ h ⟨rfl,st⟩
  cases hb1:isf b
  ·refine WO.aA (v:= .bool false) rfl (WO.nil (WP.cond (t:=false) rfl (WP.exit (WP.seq (WP.reg (WO.val (v:=L.str s) (L.ay rfl (st.aj 1 rfl) rfl) (WO.val (v:= .int .i64 ((pos+k:Nat):Int)) (L.ay rfl (st.aj 0 rfl) rfl) (WO.aA (v:=L.str ((s.drop pos).take (pos+k - pos))) (L.Jk rfl rfl rfl (by omega) (by omega)) (WO.nil (WP.ret ?_))))))))))
   have hz:(s.drop (pos+k)).takeWhile isf=[]:=BF hb hb1
   have htw:(s.drop pos).takeWhile isf=(s.drop pos).take k:=by rw [hk2,hz,List.append_nil]
   have hkl:((s.drop pos).takeWhile isf).length=k:=by rw [htw];simp;omega
   rw [hkl,htw]
   exact ⟨_,(av (aB (v:=L.str ((s.drop pos).take (pos+k - pos))) rfl) (aG _ _)),(by rw [show pos+k - pos=k by omega];rfl),st⟩
  ·refine WO.aA (v:= .bool true) rfl (WO.nil (WP.cond (t:=true) rfl (WP.skip (WP.block (WP.reg (WO.val (v:= .int .i64 ((pos+k:Nat):Int)) (L.ay rfl (st.aj 0 rfl) rfl) (WO.val (v:= .int .i64 ((pos+(k+1):Nat):Int)) (L.kC rfl rfl (by omega) (And.intro (by omega) (by omega))) (WO.aH (row':=[.int .i64 ((pos+(k+1):Nat):Int)]) st 0 rfl rfl rfl rfl rfl rfl rfl (fun h st=> ?_)))))))))
   refine WO.nil ?_
   have hnx:(s.drop pos).takeWhile isf=(s.drop pos).take (k+1)++(s.drop (pos+(k+1))).takeWhile isf:=by
    rw [hk2,tT hb hb1,List.take_add_one,List.getElem?_drop,hb];simp [Nat.add_assoc]
   exact ⟨k+1,(by omega),(.bool true),⟨by omega,hnx⟩,by kernel_rfl,st⟩
 ·replace c1:¬((pos+k)<s.length):=by omega
  refine WO.no rfl (WO.no rfl (WO.no rfl (WO.no rfl (WO.no rfl (WO.aA (v:= .bool false) rfl (WO.nil (WP.cond (t:=false) rfl (WP.exit (WP.seq (WP.reg (WO.val (v:=L.str s) (L.ay rfl (st.aj 1 rfl) rfl) (WO.val (v:= .int .i64 ((pos+k:Nat):Int)) (L.ay rfl (st.aj 0 rfl) rfl) (WO.aA (v:=L.str ((s.drop pos).take (pos+k - pos))) (L.Jk rfl rfl rfl (by omega) (by omega)) (WO.nil (WP.ret ?_)))))))))))))))
  have hz:(s.drop (pos+k)).takeWhile isf=[]:=(by rw [List.drop_of_length_le (by omega)];rfl)
  have htw:(s.drop pos).takeWhile isf=(s.drop pos).take k:=by rw [hk2,hz,List.append_nil]
  have hkl:((s.drop pos).takeWhile isf).length=k:=by rw [htw];simp;omega
  rw [hkl,htw]
  exact ⟨_,(av (aB (v:=L.str ((s.drop pos).take (pos+k - pos))) rfl) (aG _ _)),(by rw [show pos+k - pos=k by omega];rfl),st⟩
theorem index_c (D:fZ c) {fs:List Fact} {h:Heap} {b o:Nat} {cap:Option Nat} {ss:List (List UInt8)} {x:List UInt8} (st:St (.stb (fun h=>Rows 1 h (.sl b o ss.length cap) (ss.map fH))::fs) h) (hsm:ss.length<4294967296):
 bZ c 61 [.sl b o ss.length cap,L.str x] h fun v h1=>((∃k:Nat,v= .int .i64 (k:Int)∧ss[k]? =some x∧∀j y,ss[j]? =some y→j<k→y≠x)∨(v= .int .i64 (-1)∧∀y∈ss,y≠x))∧St fs h1:=by
 refine bZ.eZ D.f61 rfl (WP.seq (WP.reg (WO.aA (v:= .int .i64 0) rfl (WO.nil (WP.seq (WP.seq (WP.reg (WO.aA (v:= .int .i64 (ss.length:Int)) (L.llen rfl) (WO.aA (v:= .int .i64 0) rfl (WO.nil (WP.block (WP.iW (α:=Nat) (fun k env h=>∃x2 x5 x6 x7,(k≤ss.length∧∀j y,ss[j]? =some y→j<k→y≠x)∧env=dx [.sl b o ss.length cap,L.str x,x2, .int .i64 (k:Int), .int .i64 (ss.length:Int),x5,x6,x7] 0 Env.nil∧St (.stb (fun h=>Rows 1 h (.sl b o ss.length cap) (ss.map fH))::fs) h) (fun k=>ss.length - k) 0 ?_ ?_))))))))))))
 ·exact ⟨(.int .i64 0), .bot, .bot, .bot,⟨Nat.zero_le _,fun _ _ _ h=>absurd h (Nat.not_lt_zero _)⟩,by kernel_rfl,st⟩
 rintro k _ h ⟨x2,x5,x6,x7,⟨hk,hno⟩,rfl,st⟩
 refine WP.seq (WP.reg (WO.ifS (L.lss rfl rfl) (fun c1=> ?_) (fun c1=> ?_)))
 ·replace c1:k<ss.length:=by omega
  refine WO.nil (WP.seq (WP.cond (t:=true) rfl (WP.skip (WP.seq (WP.block (WP.seq (WP.reg (WO.aA (v:= .int .i64 (k:Int)) rfl (WO.nil (WP.seq (WP.reg ?_)))))))))))
  obtain ⟨y,ho⟩:∃y,ss[k]? =some y:=⟨_,List.getElem?_eq_getElem c1⟩
  refine WO.val (L.bI rfl rfl c1) (WO.val (v:=L.str y) (L.load rfl ((st.aF 0 rfl).jG (by rw [List.getElem?_map,ho];rfl))) ?_)
  refine WO.ifS (L.seq rfl rfl) (fun c2=> ?_) (fun c2=> ?_)
  ·refine WO.nil (WP.cond (t:=true) rfl (WP.seq (WP.reg (WO.aA (v:= .int .i64 (k:Int)) rfl (WO.nil (WP.ret ?_))))))
   exact ⟨_,(av (aB (v:= .int .i64 (k:Int)) rfl) (aG _ _)),Or.inl ⟨k,rfl,by rw [ho,c2],hno⟩,st.tail⟩
  ·refine WO.nil (WP.cond (t:=false) rfl (WP.skip (WP.reg (WO.aA (v:= .int .i64 ((k+1:Nat):Int)) (L.kC rfl rfl (by omega) (And.intro (by omega) (by omega))) (WO.nil ?_)))))
   have hno':∀j y,ss[j]? =some y→j<k+1→y≠x:=by
    intro j y hj hlt
    rcases Nat.lt_succ_iff_lt_or_eq.1 hlt with hlt|rfl
    ·exact hno j y hj hlt
    ·rw [ho] at hj;cases hj;exact fun e=>c2 e.symm
   exact ⟨k+1,(by omega),x2,(.bool true),(.int .i64 (k:Int)),(.bool false),⟨by omega,hno'⟩,by kernel_rfl,st⟩
 ·replace c1:¬(k<ss.length):=by omega
  refine WO.nil (WP.seq (WP.cond (t:=false) rfl (WP.exit (WP.seq (WP.reg (WO.aA (v:= .int .i64 (-1)) rfl (WO.nil (WP.ret (⟨_,(av (aB (v:= .int .i64 (-1)) rfl) (aG _ _)),Or.inr ⟨rfl,fun y hy=> ?_⟩,st.tail⟩)))))))))
  obtain ⟨j,hj⟩:=List.mem_iff_getElem?.1 hy
  exact hno j y hj (by have:=(List.getElem?_eq_some_iff.1 hj).1;omega)
theorem JI (D:fZ c) {fs:List Fact} {h:Heap} {b o:Nat} {cap:Option Nat} {ss:List (List UInt8)} {x:List UInt8} (st:St (.stb (fun h=>Rows 1 h (.sl b o ss.length cap) (ss.map fH))::fs) h) (hsm:ss.length<4294967296):
 bZ c 54 [.sl b o ss.length cap,L.str x] h fun v h1=>v= .bool (decide (x∈ss))∧St fs h1:=by
 refine bZ.eZ D.f54 rfl (WP.seq (WP.reg (WO.aA (v:= .bool false) rfl (WO.nil (WP.seq (WP.reg (WO.bR rfl (index_c D st hsm) ?_)))))))
 rintro _ h ⟨(⟨k,rfl,hk,hno⟩|⟨rfl,hno⟩),st⟩
 ·replace st:St fs h:=st
  refine WO.ifS (L.geq rfl rfl) (fun c1=> ?_) (fun c1=>by exfalso;omega)
  refine WO.nil (WP.ret ?_)
  exact ⟨_,(av (aB (v:= .bool true) rfl) (aG _ _)),(by simp [one];exact List.mem_of_getElem? hk),st⟩
 ·replace st:St fs h:=st
  refine WO.ifS (L.geq rfl rfl) (fun c1=>by exfalso;omega) (fun c1=> ?_)
  refine WO.nil (WP.ret ?_)
  exact ⟨_,(av (aB (v:= .bool false) rfl) (aG _ _)),(by simp [one];exact fun hm=>hno x hm rfl),st⟩
theorem key_c (D:fZ c) {fs:List Fact} {h:Heap} {x:List UInt8} (st:St fs h):
 bZ c 42 [L.str x] h fun v h1=>v= .bool (decide (x∈Lex.keys))∧St fs h1:=by
 refine bZ.eZ D.f42 rfl (WP.seq (WP.reg (WO.aA (v:= .bool false) rfl (WO.nil (WP.seq (WP.reg (WO.oO (rows:=Lex.keys.map fH) st rfl (by decide) rfl (by intro row hm;simp at hm;obtain ⟨a,_,rfl⟩:=hm;rfl) (fun kb h st=> ?_))))))))
 refine WO.eG rfl (JI (ss:=Lex.keys) D st (by decide)) ?_
 rintro _ h ⟨rfl,st⟩
 refine WO.nil (WP.ret ?_)
 exact ⟨_,(av (aB (v:= .bool (decide (x∈Lex.keys))) rfl) (aG _ _)),rfl,st⟩
theorem Fx (D:fZ c) {fs:List Fact} {h:Heap} {l p:List UInt8} (st:St fs h):
 bZ c 55 [L.str l,L.str p] h fun v h1=>v= .bool (Lex.iD p l)∧St fs h1:=by
 refine bZ.eZ D.f55 rfl (WP.seq (WP.reg (WO.aA (v:= .bool false) rfl (WO.nil (WP.seq (WP.reg (WO.val (v:= .int .i64 (l.length:Int)) (L.yE rfl) (WO.val (v:= .int .i64 (p.length:Int)) (L.yE rfl) (WO.ifV (L.geq rfl rfl) (fun c1=> ?_) (fun c1=> ?_))))))))))
 ·replace c1:l.length≥p.length:=by omega
  refine WO.yes rfl (WO.val (v:=L.str l) rfl (WO.yes rfl (WO.val (v:=L.str p) rfl (WO.yes rfl (WO.val (v:= .int .i64 (p.length:Int)) (L.yE rfl) (WO.yes rfl (WO.val (v:=L.str ((l.drop 0).take (p.length - 0))) (L.Jk rfl rfl rfl (by omega) (by omega)) (WO.yes rfl (WO.val (v:=L.str p) rfl (WO.yes rfl (WO.ifV (L.seq rfl rfl) (fun c2=> ?_) (fun c2=> ?_))))))))))))
  ·refine WO.aA (v:= .bool true) rfl (WO.nil (WP.ret ?_))
   exact ⟨_,(av (aB (v:= .bool true) rfl) (aG _ _)),(by simp at c2;simp [Lex.iD,one, *]),st⟩
  ·refine WO.aA (v:= .bool false) rfl (WO.nil (WP.ret ?_))
   exact ⟨_,(av (aB (v:= .bool false) rfl) (aG _ _)),(by simp at c2;simp [Lex.iD,one, *]),st⟩
 ·replace c1:¬(l.length≥p.length):=by omega
  refine WO.no rfl (WO.no rfl (WO.no rfl (WO.no rfl (WO.no rfl (WO.no rfl (WO.aA (v:= .bool false) rfl (WO.nil (WP.ret ?_))))))))
  exact ⟨_,(av (aB (v:= .bool false) rfl) (aG _ _)),(by simp [Lex.iD,one, *]),st⟩
theorem Ib (D:fZ c) {fs:List Fact} {h:Heap} {l p:List UInt8} (st:St fs h):
 bZ c 43 [L.str l,L.str p] h fun v h1=>v= .bool (Lex.iD p l)∧St fs h1:=by
 refine bZ.eZ D.f43 rfl (WP.seq (WP.reg (WO.aA (v:= .bool false) rfl (WO.nil (WP.seq (WP.reg (WO.eG rfl (Fx D st) ?_)))))))
 rintro _ h ⟨rfl,st⟩
 refine WO.nil (WP.ret ?_)
 exact ⟨_,(av (aB (v:= .bool (Lex.iD p l)) rfl) (aG _ _)),rfl,st⟩
theorem Ic (D:fZ c) (DD:uE c) {fs:List Fact} {h:Heap} {l:List UInt8} {b:UInt8} (st:St fs h):
 bZ c 44 [L.str l, .int .u8 (b.toNat:Int)] h fun v h1=>v= .int .i64 (Lib.indexByte l b)∧St fs h1:=by
 refine bZ.eZ D.f44 rfl (WP.seq (WP.reg (WO.aA (v:= .int .i64 0) rfl (WO.nil (WP.seq (WP.reg (WO.eG rfl (DD.idx st) ?_)))))))
 rintro _ h ⟨rfl,st⟩
 refine WO.nil (WP.ret ?_)
 exact ⟨_,(av (aB (v:= .int .i64 (Lib.indexByte l b)) rfl) (aG _ _)),rfl,st⟩
theorem word_c (D:fZ c) {fs:List Fact} {h:Heap} {w:List UInt8} (st:St fs h):
 bZ c 28 [L.str w] h fun v h1=>v= .tup [.int .i64 ((Lex.word w).1:Int), .int .i64 ((Lex.word w).2:Int)]∧St fs h1:=by
 refine bZ.eZ D.f28 rfl (WP.seq (WP.reg (WO.aA (v:= .int .i64 0) rfl (WO.aA (v:= .int .i64 0) rfl (WO.nil (WP.seq (WP.block (WP.seq (WP.reg (WO.eG rfl (key_c D st) ?_))))))))))
 rintro _ h ⟨rfl,st⟩
 cases hb1:decide (w∈Lex.keys)
 ·refine WO.nil (WP.cond (t:=false) rfl (WP.seq (WP.reg (WO.val (v:= .int .i64 (w.length:Int)) (L.yE rfl) (WO.ifS (L.gtr rfl rfl) (fun c1=> ?_) (fun c1=> ?_))))))
  ·replace c1:w.length>20:=by omega
   refine WO.nil (WP.cond (t:=true) rfl (WP.seq (WP.reg (WO.aA (v:= .int .i64 0) rfl (WO.aA (v:= .int .i64 9) rfl (WO.nil (WP.ret ?_)))))))
   have hk:w∉Lex.keys:=by simpa using hb1
   exact ⟨_,(av (aB (v:= .int .i64 0) rfl) (av (aB (v:= .int .i64 9) rfl) (aG _ _))),(by simp [Lex.word,one,hk,c1]),st⟩
  ·replace c1:¬(w.length>20):=by omega
   refine WO.nil (WP.cond (t:=false) rfl (WP.skip (WP.seq (WP.reg (WO.aA (v:= .int .i64 1) rfl (WO.aA (v:= .int .i64 0) rfl (WO.nil (WP.ret ?_))))))))
   have hk:w∉Lex.keys:=by simpa using hb1
   exact ⟨_,(av (aB (v:= .int .i64 1) rfl) (av (aB (v:= .int .i64 0) rfl) (aG _ _))),(by simp [Lex.word,one,hk,c1]),st⟩
 ·refine WO.nil (WP.cond (t:=true) rfl (WP.seq (WP.reg (WO.aA (v:= .int .i64 3) rfl (WO.aA (v:= .int .i64 0) rfl (WO.nil (WP.ret ?_)))))))
  have hk:w∈Lex.keys:=by simpa using hb1
  exact ⟨_,(av (aB (v:= .int .i64 3) rfl) (av (aB (v:= .int .i64 0) rfl) (aG _ _))),(by simp [Lex.word,one,hk,hk]),st⟩
theorem lnum_c (D:fZ c) {fs:List Fact} {h:Heap} {w f:List UInt8} {b0:UInt8} (st:St fs h) (hw0:w.head? =some b0):
 bZ c 30 [L.str w,L.str f] h fun v h1=>v= .tup [.int .i64 ((Lex.number w f).1:Int), .int .i64 ((Lex.number w f).2:Int)]∧St fs h1:=by
 have hb0:w[0]? =some b0:=by rw [←hw0,List.head?_eq_getElem?]
 refine bZ.eZ D.f30 rfl (WP.seq (WP.reg (WO.aA (v:= .int .i64 0) rfl (WO.aA (v:= .int .i64 0) rfl (WO.nil (WP.seq (WP.block (WP.seq (WP.reg (WO.val (v:= .int .i64 (w.length:Int)) (L.yE rfl) (WO.ifS (L.gtr rfl rfl) (fun c1=> ?_) (fun c1=> ?_))))))))))))
 ·replace c1:w.length>9:=by omega
  refine WO.nil (WP.cond (t:=true) rfl (WP.seq (WP.reg (WO.aA (v:= .int .i64 0) rfl (WO.aA (v:= .int .i64 9) rfl (WO.nil (WP.ret ?_)))))))
  have e48:(b0=48)↔b0.toNat=48:=⟨fun h=>by rw [h];rfl,fun h=>UInt8.toNat_inj.1 h⟩
  exact ⟨_,(av (aB (v:= .int .i64 0) rfl) (av (aB (v:= .int .i64 9) rfl) (aG _ _))),(by simp [Lex.number,one,hw0,e48,c1]<;>omega),st⟩
 ·replace c1:¬(w.length>9):=by omega
  refine WO.nil (WP.cond (t:=false) rfl (WP.seq (WP.seq (WP.reg (WO.val (v:= .int .u8 (b0.toNat:Int)) (L.E5 rfl rfl hb0) (WO.ifV (L.eql rfl rfl) (fun c2=> ?_) (fun c2=> ?_)))))))
  ·replace c2:b0.toNat=48:=by omega
   refine WO.yes rfl (WO.val (v:=L.str w) rfl (WO.yes rfl (WO.val (v:= .int .i64 (w.length:Int)) (L.yE rfl) (WO.yes rfl (WO.ifV (L.gtr rfl rfl) (fun c3=> ?_) (fun c3=> ?_))))))
   ·replace c3:w.length>1:=by omega
    refine WO.aA (v:= .bool true) rfl (WO.nil (WP.cond (t:=true) rfl (WP.skip (WP.cond (t:=true) rfl (WP.seq (WP.reg (WO.aA (v:= .int .i64 0) rfl (WO.aA (v:= .int .i64 10) rfl (WO.nil (WP.ret ?_))))))))))
    have e48:(b0=48)↔b0.toNat=48:=⟨fun h=>by rw [h];rfl,fun h=>UInt8.toNat_inj.1 h⟩
    exact ⟨_,(av (aB (v:= .int .i64 0) rfl) (av (aB (v:= .int .i64 10) rfl) (aG _ _))),(by simp [Lex.number,one,hw0,e48,c1,c2,c3]<;>omega),st⟩
   ·replace c3:¬(w.length>1):=by omega
    refine WO.aA (v:= .bool false) rfl (WO.nil (WP.cond (t:=false) rfl (WP.reg (WO.ifV (L.sne (m:=[]) rfl rfl) (fun c4=> ?_) (fun c4=> ?_)))))
    ·refine WO.yes rfl (WO.val (v:=L.str f) rfl (WO.yes rfl ?_))
     obtain ⟨d0,fr,hf⟩:∃d0 fr,f=d0::fr:=List.exists_cons_of_ne_nil c4
     refine WO.val (v:= .int .u8 (d0.toNat:Int)) (L.E5 (b:=d0) rfl rfl (by rw [hf];rfl)) (WO.yes rfl (WO.bR rfl (Ct D st) ?_))
     rintro _ h ⟨rfl,st⟩
     cases hb1:Lex.within d0
     ·refine WO.aA (v:= .bool false) rfl (WO.nil (WP.cond (t:=false) rfl (WP.skip (WP.seq (WP.reg (WO.aA (v:= .int .i64 2) rfl (WO.aA (v:= .int .i64 0) rfl (WO.nil (WP.ret ?_)))))))))
      have e48:(b0=48)↔b0.toNat=48:=⟨fun h=>by rw [h];rfl,fun h=>UInt8.toNat_inj.1 h⟩
      exact ⟨_,(av (aB (v:= .int .i64 2) rfl) (av (aB (v:= .int .i64 0) rfl) (aG _ _))),(by simp [Lex.number,one,hw0,e48,c1,c2,c3,c4,hb1,hf]<;>omega),st⟩
     ·refine WO.aA (v:= .bool true) rfl (WO.nil (WP.cond (t:=true) rfl (WP.seq (WP.reg (WO.aA (v:= .int .i64 0) rfl (WO.aA (v:= .int .i64 10) rfl (WO.nil (WP.ret ?_))))))))
      have e48:(b0=48)↔b0.toNat=48:=⟨fun h=>by rw [h];rfl,fun h=>UInt8.toNat_inj.1 h⟩
      exact ⟨_,(av (aB (v:= .int .i64 0) rfl) (av (aB (v:= .int .i64 10) rfl) (aG _ _))),(by simp [Lex.number,one,hw0,e48,c1,c2,c3,c4,hb1,hf]<;>omega),st⟩
    ·refine WO.no rfl (WO.no rfl (WO.no rfl (WO.aA (v:= .bool false) rfl (WO.nil (WP.cond (t:=false) rfl (WP.skip (WP.seq (WP.reg (WO.aA (v:= .int .i64 2) rfl (WO.aA (v:= .int .i64 0) rfl (WO.nil (WP.ret ?_))))))))))))
     have hf:f=[]:=by simpa using c4
     have e48:(b0=48)↔b0.toNat=48:=⟨fun h=>by rw [h];rfl,fun h=>UInt8.toNat_inj.1 h⟩
     exact ⟨_,(av (aB (v:= .int .i64 2) rfl) (av (aB (v:= .int .i64 0) rfl) (aG _ _))),(by simp [Lex.number,one,hw0,e48,c1,c2,c3,c4,hf]<;>omega),st⟩
  ·replace c2:¬(b0.toNat=48):=by omega
   refine WO.no rfl (WO.no rfl (WO.no rfl (WO.aA (v:= .bool false) rfl (WO.nil (WP.cond (t:=false) rfl (WP.reg (WO.ifV (L.sne (m:=[]) rfl rfl) (fun c5=> ?_) (fun c5=> ?_))))))))
   ·refine WO.yes rfl (WO.val (v:=L.str f) rfl (WO.yes rfl ?_))
    obtain ⟨d0,fr,hf⟩:∃d0 fr,f=d0::fr:=List.exists_cons_of_ne_nil c5
    refine WO.val (v:= .int .u8 (d0.toNat:Int)) (L.E5 (b:=d0) rfl rfl (by rw [hf];rfl)) (WO.yes rfl (WO.bR rfl (Ct D st) ?_))
    rintro _ h ⟨rfl,st⟩
    cases hb2:Lex.within d0
    ·refine WO.aA (v:= .bool false) rfl (WO.nil (WP.cond (t:=false) rfl (WP.skip (WP.seq (WP.reg (WO.aA (v:= .int .i64 2) rfl (WO.aA (v:= .int .i64 0) rfl (WO.nil (WP.ret ?_)))))))))
     have e48:(b0=48)↔b0.toNat=48:=⟨fun h=>by rw [h];rfl,fun h=>UInt8.toNat_inj.1 h⟩
     exact ⟨_,(av (aB (v:= .int .i64 2) rfl) (av (aB (v:= .int .i64 0) rfl) (aG _ _))),(by simp [Lex.number,one,hw0,e48,c1,c2,c5,hb2,hf]<;>omega),st⟩
    ·refine WO.aA (v:= .bool true) rfl (WO.nil (WP.cond (t:=true) rfl (WP.seq (WP.reg (WO.aA (v:= .int .i64 0) rfl (WO.aA (v:= .int .i64 10) rfl (WO.nil (WP.ret ?_))))))))
     have e48:(b0=48)↔b0.toNat=48:=⟨fun h=>by rw [h];rfl,fun h=>UInt8.toNat_inj.1 h⟩
     exact ⟨_,(av (aB (v:= .int .i64 0) rfl) (av (aB (v:= .int .i64 10) rfl) (aG _ _))),(by simp [Lex.number,one,hw0,e48,c1,c2,c5,hb2,hf]<;>omega),st⟩
   ·refine WO.no rfl (WO.no rfl (WO.no rfl (WO.aA (v:= .bool false) rfl (WO.nil (WP.cond (t:=false) rfl (WP.skip (WP.seq (WP.reg (WO.aA (v:= .int .i64 2) rfl (WO.aA (v:= .int .i64 0) rfl (WO.nil (WP.ret ?_))))))))))))
    have hf:f=[]:=by simpa using c5
    have e48:(b0=48)↔b0.toNat=48:=⟨fun h=>by rw [h];rfl,fun h=>UInt8.toNat_inj.1 h⟩
    exact ⟨_,(av (aB (v:= .int .i64 2) rfl) (av (aB (v:= .int .i64 0) rfl) (aG _ _))),(by simp [Lex.number,one,hw0,e48,c1,c2,c5,hf]<;>omega),st⟩
end
end Go.Eng.YtjobofnpmmjeoaaDoor.Pq
namespace Go.Eng.YtjobofnpmmjeoaaDoor.Pq
open Go.Eng
noncomputable section
variable {c:Ctx}
theorem sign_c (D:fZ c) (DD:uE c) {fs:List Fact} {h:Heap} {l:List UInt8} (st:St fs h):
 bZ c 31 [L.str l] h fun v h1=>v=L.str (Lex.sign l)∧St fs h1:=by
 refine bZ.eZ D.f31 rfl (WP.seq (WP.reg (WO.aA (v:= .str 0 0) rfl (WO.nil (WP.seq (WP.seq (WP.reg (WO.bslFS (rows:=Lex.kD.map fH) st rfl (by decide) rfl (by intro row hm;simp at hm;obtain ⟨a,_,rfl⟩:=hm;rfl) (fun kb h st=> ?_)))))))))
 refine WO.aA (v:= .int .i64 3) (L.llen rfl) (WO.aA (v:= .int .i64 0) rfl (WO.nil (WP.block (WP.iW (α:=Nat) (fun k env h=>∃x1 x4 x6 x7,(k≤3∧∀j y,Lex.kD[j]? =some y→j<k→Lex.iD y l=false)∧env=dx [L.str l,x1, .int .i64 (k:Int), .int .i64 3,x4, .sl kb 0 3 (some 3),x6,x7] 0 Env.nil∧St (.stb (fun h=>Rows 1 h (.sl kb 0 3 (some 3)) (Lex.kD.map fH))::fs) h) (fun k=>3 - k) 0 ?_ ?_))))
 ·exact ⟨(.str 0 0), .bot, .bot, .bot,⟨Nat.zero_le _,fun _ _ _ h=>absurd h (Nat.not_lt_zero _)⟩,by kernel_rfl,st⟩
 rintro k _ h ⟨x1,x4,x6,x7,⟨hk,hno⟩,rfl,st⟩
 refine WP.seq (WP.reg (WO.ifS (L.lss rfl rfl) (fun c1=> ?_) (fun c1=> ?_)))
 ·replace c1:k<3:=by omega
  refine WO.nil (WP.seq (WP.cond (t:=true) rfl (WP.skip (WP.seq (WP.block (WP.seq (WP.reg ?_)))))))
  obtain ⟨y,ho⟩:∃y,Lex.kD[k]? =some y:=⟨_,List.getElem?_eq_getElem c1⟩
  refine WO.val (L.bI rfl rfl c1) (WO.aA (v:=L.str y) (L.load rfl ((st.aF 0 rfl).jG (by rw [List.getElem?_map,ho];rfl))) ?_)
  refine WO.nil (WP.seq (WP.reg (WO.eG rfl (Ib D st) ?_)))
  rintro _ h ⟨rfl,st⟩
  cases hb1:Lex.iD y l
  ·refine WO.nil (WP.cond (t:=false) rfl (WP.skip (WP.reg (WO.aA (v:= .int .i64 ((k+1:Nat):Int)) (L.kC rfl rfl (by omega) (And.intro (by omega) (by omega))) (WO.nil ?_)))))
   have hno':∀j y,Lex.kD[j]? =some y→j<k+1→Lex.iD y l=false:=by
    intro j y hj hlt
    rcases Nat.lt_succ_iff_lt_or_eq.1 hlt with hlt|rfl
    ·exact hno j y hj hlt
    ·rw [ho] at hj;cases hj;exact hb1
   exact ⟨k+1,(by omega),x1,(.bool true),(L.str y),(.bool false),⟨by omega,hno'⟩,by kernel_rfl,st⟩
  ·refine WO.nil (WP.cond (t:=true) rfl (WP.seq (WP.reg (WO.aA (v:=L.str y) rfl (WO.nil (WP.ret ?_))))))
   exact ⟨_,(av (aB (v:=L.str y) rfl) (aG _ _)),(by rw [show Lex.sign l=y by unfold Lex.sign;rw [BG ho hno hb1]];rfl),st.tail⟩
 ·replace c1:¬(k<3):=by omega
  refine WO.nil (WP.seq (WP.cond (t:=false) rfl (WP.exit (WP.seq (WP.seq (WP.reg (WO.ifV (L.sne (m:=[]) rfl rfl) (fun c2=> ?_) (fun c2=> ?_))))))))
  ·refine WO.yes rfl (WO.val (v:=L.str l) rfl (WO.yes rfl ?_))
   obtain ⟨b,lr,hlb⟩:∃b lr,l=b::lr:=List.exists_cons_of_ne_nil c2
   refine WO.val (v:= .int .u8 (b.toNat:Int)) (L.E5 (b:=b) rfl rfl (by rw [hlb];rfl)) (WO.yes rfl (WO.bR rfl (Ic (l:=Lex.ones) D DD st) ?_))
   rintro _ h ⟨rfl,st⟩
   refine WO.yes rfl (WO.ifV (L.geq rfl rfl) (fun c3=> ?_) (fun c3=> ?_))
   ·refine WO.aA (v:= .bool true) rfl (WO.nil (WP.cond (t:=true) rfl (WP.seq (WP.reg (WO.aA (v:=L.str ((l.drop 0).take (1 - 0))) (L.Jk rfl rfl rfl (by omega) (by rw [hlb];simp)) (WO.nil (WP.ret ?_)))))))
    have hf:Lex.kD.find? (Lex.iD · l)=none:=wD fun j y hj hlt=>hno j y hj (by have:j<3:=hlt;omega)
    have hsg:Lex.sign l=(if 0≤Lib.indexByte Lex.ones b then [b] else []):=by unfold Lex.sign;rw [hf,hlb]
    rw [hsg]
    rw [if_pos (by omega)]
    exact ⟨_,(av (aB (v:=L.str ((l.drop 0).take (1 - 0))) rfl) (aG _ _)),(by rw [hlb];rfl),st.tail⟩
   ·refine WO.aA (v:= .bool false) rfl (WO.nil (WP.cond (t:=false) rfl (WP.skip (WP.seq (WP.reg (WO.aA (v:= .str 0 0) rfl (WO.nil (WP.ret ?_))))))))
    have hf:Lex.kD.find? (Lex.iD · l)=none:=wD fun j y hj hlt=>hno j y hj (by have:j<3:=hlt;omega)
    have hsg:Lex.sign l=(if 0≤Lib.indexByte Lex.ones b then [b] else []):=by unfold Lex.sign;rw [hf,hlb]
    rw [hsg]
    rw [if_neg (by omega)]
    exact ⟨_,(av (aB (v:= .str 0 0) rfl) (aG _ _)),rfl,st.tail⟩
  ·refine WO.no rfl (WO.no rfl (WO.no rfl (WO.no rfl (WO.aA (v:= .bool false) rfl (WO.nil (WP.cond (t:=false) rfl (WP.skip (WP.seq (WP.reg (WO.aA (v:= .str 0 0) rfl (WO.nil (WP.ret ?_))))))))))))
   have hf:Lex.kD.find? (Lex.iD · l)=none:=wD fun j y hj hlt=>hno j y hj (by have:j<3:=hlt;omega)
   have hl0:l=[]:=by simpa using c2
   have hsg:Lex.sign l=[]:=by unfold Lex.sign;rw [hf,hl0]
   rw [hsg]
   exact ⟨_,(av (aB (v:= .str 0 0) rfl) (aG _ _)),rfl,st.tail⟩
theorem all_c (D:fZ c) (DD:uE c) {fs:List Fact} {h:Heap} {s:List UInt8} (st:St fs h) (hsz:s.length<4294967296):
 bZ c 18 [L.str s] h fun v h1=>match Lex.all (s.length+1) 0 s [] with
  | .ok ts=>∃x,v= .tup [x, .int .i64 0, .int .i64 0]∧St (.stb (fun h=>Rows 3 h x (ts.map Tok.row))::fs) h1
  | .error (e,a)=>v= .tup [.slN, .int .i64 (e:Int), .int .i64 (a:Int)]∧St fs h1:=by
 refine bZ.eZ D.f18 rfl (WP.seq (WP.reg (WO.dQ st (L.box (l:=[L.str s]) rfl rfl) (fun sb h st=> ?_))))
 refine WO.aA (v:= .slN) rfl (WO.aA (v:= .int .i64 0) rfl (WO.aA (v:= .int .i64 0) rfl (WO.nil (WP.seq (WP.reg (WO.dQ st L.alloc (fun ab h st=> ?_)))))))
 refine WO.aH (row':=[.int .i64 0]) st 0 rfl rfl rfl rfl rfl rfl rfl (fun h st=> ?_)
 refine WO.nil (WP.seq (WP.reg (WO.aA (v:= .fn 24 [] [.ptr ab 0, .ptr sb 0]) rfl (WO.nil (WP.seq (WP.reg (WO.aA (v:= .slN) rfl (WO.nil (WP.seq (WP.block ?_))))))))))
 replace st:St (.acc 0 3 .slN (([]:List Tok).map Tok.row):: .box ab [.int .i64 0]:: .box sb [L.str s]::fs) h:=st.acc0 3
 refine WP.iW (α:=Nat) (fun g env h=>∃k ts fy vy x1 x2 x3 x6 x7 x8 x9 x11 x12 x13 x14 x15 x16 x17 x18,(Lex.all (s.length+1) 0 s []=Lex.all g k (s.drop k) ts∧s.length - k<g∧k≤s.length∧ts.length≤k)∧env=dx [L.str s,x1,x2,x3, .ptr ab 0, .ptr sb 0,x6,x7,x8,x9, .fn 24 [] [.ptr ab 0, .ptr sb 0],x11,x12,x13,x14,x15,x16,x17,x18,vy] 0 Env.nil∧St (.acc fy 3 vy (ts.map Tok.row):: .box ab [.int .i64 (k:Int)]:: .box sb [L.str s]::fs) h) (fun g=>g) (s.length+1) ?_ ?_
 ·exact ⟨0,[],0, .slN, .slN,(.int .i64 0),(.int .i64 0), .bot, .bot, .bot, .bot, .bot, .bot, .bot, .bot, .bot, .bot, .bot, .bot,⟨rfl,by omega,Nat.zero_le _,Nat.le_refl _⟩,by kernel_rfl,st⟩
 rintro g _ h ⟨k,ts,fy,vy,x1,x2,x3,x6,x7,x8,x9,x11,x12,x13,x14,x15,x16,x17,x18,⟨hs,hg,hk,hts⟩,rfl,st⟩
 obtain ⟨g,rfl⟩:∃m,g=m+1:=⟨g - 1,by omega⟩
 refine WP.seq (WP.seq (WP.reg (WO.val (v:= .int .i64 (k:Int)) (L.ay rfl (st.aj 1 rfl) rfl) (WO.val (v:=L.str s) (L.ay rfl (st.aj 2 rfl) rfl) (WO.val (v:= .int .i64 (s.length:Int)) (L.yE rfl) (WO.ifS (L.lss rfl rfl) (fun c1=> ?_) (fun c1=> ?_)))))))
 ·replace c1:k<s.length:=by omega
  refine WO.nil (WP.cond (t:=true) rfl (WP.skip (WP.block (WP.seq (WP.draw (WD.val (v:= .int .i64 (k:Int)) (L.ay rfl (st.aj 1 rfl) rfl) (WD.val (v:=L.str s) (L.ay rfl (st.aj 2 rfl) rfl) (WD.val (v:= .int .i64 (k:Int)) (L.ay rfl (st.aj 1 rfl) rfl) ?_))))))))
  obtain ⟨b,hb⟩:∃b,s[k]? =some b:=⟨_,List.getElem?_eq_getElem (by omega)⟩
  refine WD.val (v:= .int .u8 (b.toNat:Int)) (L.E5 rfl rfl hb) (WD.aA (v:= .int .i64 (k:Int)) rfl (WD.aA (v:= .int .u8 (b.toNat:Int)) rfl (WD.nil (WP.seq (WP.reg (WO.aA (v:= .int .i64 0) rfl (WO.aA (v:= .str 0 0) rfl (WO.aA (v:= .int .i64 0) rfl (WO.nil (WP.seq (WP.block (WP.seq (WP.reg (WO.ifV (L.eql rfl rfl) (fun c2=> ?_) (fun c2=> ?_)))))))))))))))
  ·replace c2:b.toNat=32:=by omega
   refine WO.no rfl (WO.no rfl (WO.val (v:= .bool true) rfl (WO.no rfl (WO.no rfl (WO.val (v:= .bool true) rfl (WO.no rfl (WO.no rfl (WO.aA (v:= .bool true) rfl (WO.nil (WP.cond (t:=true) rfl (WP.seq (WP.reg (WO.val (v:= .int .i64 (k:Int)) (L.ay rfl (st.aj 1 rfl) rfl) (WO.val (v:= .int .i64 ((k+1:Nat):Int)) (L.kC rfl rfl (by omega) (And.intro (by omega) (by omega))) (WO.aH (row':=[.int .i64 ((k+1:Nat):Int)]) st 1 rfl rfl rfl rfl rfl rfl rfl (fun h st=> ?_))))))))))))))))
   refine WO.nil (WP.exit ?_)
   exact ⟨g,(Nat.lt_succ_self _),k+1,ts,fy,vy,x1,x2,x3,(.bool true),(.int .u8 (b.toNat:Int)),(.bool true),x9,x11,(.str 0 0),x13,x14,(.int .i64 0),x16,(.int .i64 (k:Int)),(.int .i64 0),⟨by rw [hs,kr hb];simp [Lex.blank,one,Lex.put, *],(by omega),(by omega),(by first|omega|(simp;omega))⟩,by kernel_rfl,st⟩
  ·replace c2:¬(b.toNat=32):=by omega
   refine WO.yes rfl (WO.val (v:= .int .u8 (b.toNat:Int)) rfl (WO.yes rfl (WO.ifV (L.eql rfl rfl) (fun c3=> ?_) (fun c3=> ?_))))
   ·replace c3:b.toNat=9:=by omega
    refine WO.val (v:= .bool true) rfl (WO.no rfl (WO.no rfl (WO.val (v:= .bool true) rfl (WO.no rfl (WO.no rfl (WO.aA (v:= .bool true) rfl (WO.nil (WP.cond (t:=true) rfl (WP.seq (WP.reg (WO.val (v:= .int .i64 (k:Int)) (L.ay rfl (st.aj 1 rfl) rfl) (WO.val (v:= .int .i64 ((k+1:Nat):Int)) (L.kC rfl rfl (by omega) (And.intro (by omega) (by omega))) (WO.aH (row':=[.int .i64 ((k+1:Nat):Int)]) st 1 rfl rfl rfl rfl rfl rfl rfl (fun h st=> ?_))))))))))))))
    refine WO.nil (WP.exit ?_)
    exact ⟨g,(Nat.lt_succ_self _),k+1,ts,fy,vy,x1,x2,x3,(.bool true),(.int .u8 (b.toNat:Int)),(.bool true),x9,x11,(.str 0 0),x13,x14,(.int .i64 0),x16,(.int .i64 (k:Int)),(.int .i64 0),⟨by rw [hs,kr hb];simp [Lex.blank,one,Lex.put, *],(by omega),(by omega),(by first|omega|(simp;omega))⟩,by kernel_rfl,st⟩
   ·replace c3:¬(b.toNat=9):=by omega
    refine WO.val (v:= .bool false) rfl (WO.yes rfl (WO.val (v:= .int .u8 (b.toNat:Int)) rfl (WO.yes rfl (WO.ifV (L.eql rfl rfl) (fun c4=> ?_) (fun c4=> ?_)))))
    ·replace c4:b.toNat=10:=by omega
     refine WO.val (v:= .bool true) rfl (WO.no rfl (WO.no rfl (WO.aA (v:= .bool true) rfl (WO.nil (WP.cond (t:=true) rfl (WP.seq (WP.reg (WO.val (v:= .int .i64 (k:Int)) (L.ay rfl (st.aj 1 rfl) rfl) (WO.val (v:= .int .i64 ((k+1:Nat):Int)) (L.kC rfl rfl (by omega) (And.intro (by omega) (by omega))) (WO.aH (row':=[.int .i64 ((k+1:Nat):Int)]) st 1 rfl rfl rfl rfl rfl rfl rfl (fun h st=> ?_)))))))))))
     refine WO.nil (WP.exit ?_)
     exact ⟨g,(Nat.lt_succ_self _),k+1,ts,fy,vy,x1,x2,x3,(.bool true),(.int .u8 (b.toNat:Int)),(.bool true),x9,x11,(.str 0 0),x13,x14,(.int .i64 0),x16,(.int .i64 (k:Int)),(.int .i64 0),⟨by rw [hs,kr hb];simp [Lex.blank,one,Lex.put, *],(by omega),(by omega),(by first|omega|(simp;omega))⟩,by kernel_rfl,st⟩
    ·replace c4:¬(b.toNat=10):=by omega
     refine WO.val (v:= .bool false) rfl (WO.yes rfl (WO.val (v:= .int .u8 (b.toNat:Int)) rfl (WO.yes rfl (WO.ifV (L.eql rfl rfl) (fun c5=> ?_) (fun c5=> ?_)))))
     ·replace c5:b.toNat=13:=by omega
      refine WO.aA (v:= .bool true) rfl (WO.nil (WP.cond (t:=true) rfl (WP.seq (WP.reg (WO.val (v:= .int .i64 (k:Int)) (L.ay rfl (st.aj 1 rfl) rfl) (WO.val (v:= .int .i64 ((k+1:Nat):Int)) (L.kC rfl rfl (by omega) (And.intro (by omega) (by omega))) (WO.aH (row':=[.int .i64 ((k+1:Nat):Int)]) st 1 rfl rfl rfl rfl rfl rfl rfl (fun h st=> ?_))))))))
      refine WO.nil (WP.exit ?_)
      exact ⟨g,(Nat.lt_succ_self _),k+1,ts,fy,vy,x1,x2,x3,(.bool true),(.int .u8 (b.toNat:Int)),(.bool true),x9,x11,(.str 0 0),x13,x14,(.int .i64 0),x16,(.int .i64 (k:Int)),(.int .i64 0),⟨by rw [hs,kr hb];simp [Lex.blank,one,Lex.put, *],(by omega),(by omega),(by first|omega|(simp;omega))⟩,by kernel_rfl,st⟩
     ·replace c5:¬(b.toNat=13):=by omega
      refine WO.aA (v:= .bool false) rfl (WO.nil (WP.cond (t:=false) rfl (WP.seq (WP.reg (WO.ifS (L.eql rfl rfl) (fun c6=> ?_) (fun c6=> ?_))))))
      ·replace c6:b.toNat=35:=by omega
       refine WO.nil (WP.cond (t:=true) rfl (WP.seq (WP.reg ?_)))
       obtain ⟨hw1,hw2,hw3⟩:=yL (f:=Lex.j6) hb (by simp [Lex.j6,one, *])
       refine WO.Ou rfl rfl (PE D (fun st=>notnl_c D st) ((st.pick 2 rfl).pick 2 rfl) hk hsz) ?_
       rintro _ h ⟨rfl,st⟩
       refine WO.nil (WP.exit ?_)
       exact ⟨g,(Nat.lt_succ_self _),k+((s.drop k).takeWhile Lex.j6).length,ts,fy,vy,x1,x2,x3,(.bool true),(.int .u8 (b.toNat:Int)),(.bool false),(.bool true),x11,(.str 0 0),x13,x14,(.int .i64 0),x16,(.int .i64 (k:Int)),(.int .i64 0),⟨by rw [hs,kr hb];simp [Lex.blank,one,Lex.put, *],(by omega),(by omega),(by first|omega|(simp;omega))⟩,by kernel_rfl,(st.pick 2 rfl)⟩
      ·replace c6:¬(b.toNat=35):=by omega
       refine WO.nil (WP.cond (t:=false) rfl (WP.seq (WP.reg (WO.eG rfl (K4 D st) ?_))))
       rintro _ h ⟨rfl,st⟩
       cases hb1:Lex.small b
       ·refine WO.nil (WP.cond (t:=false) rfl (WP.seq (WP.reg (WO.eG rfl (Fv D st) ?_))))
        rintro _ h ⟨rfl,st⟩
        cases hb2:Lex.digit b
        ·refine WO.nil (WP.cond (t:=false) rfl (WP.seq (WP.reg (WO.val (v:=L.str s) (L.ay rfl (st.aj 2 rfl) rfl) (WO.val (v:= .int .i64 (k:Int)) (L.ay rfl (st.aj 1 rfl) rfl) (WO.val (v:=L.str ((s.drop (k)).take (s.length - (k)))) (L.Jk rfl rfl rfl (by omega) (by omega)) ?_))))))
         rw [List.take_of_length_le (by simp)]
         have hsl:=E9 (s.drop k)
         rw [List.length_drop] at hsl
         refine WO.bR rfl (sign_c D DD st) ?_
         rintro _ h ⟨rfl,st⟩
         refine WO.aA (v:= .int .i64 4) rfl (WO.aA (v:=L.str (Lex.sign (s.drop k))) rfl (WO.nil (WP.seq (WP.reg (WO.val (v:= .int .i64 (k:Int)) (L.ay rfl (st.aj 1 rfl) rfl) (WO.val (v:= .int .i64 ((Lex.sign (s.drop k)).length:Int)) (L.yE rfl) (WO.val (v:= .int .i64 ((k+(Lex.sign (s.drop k)).length:Nat):Int)) (L.kC rfl rfl (by omega) (And.intro (by omega) (by omega))) (WO.aH (row':=[.int .i64 ((k+(Lex.sign (s.drop k)).length:Nat):Int)]) st 1 rfl rfl rfl rfl rfl rfl rfl (fun h st=> ?_)))))))))
         refine WO.nil (WP.seq (WP.reg (WO.ifS (L.seq (m:=[]) rfl rfl) (fun cz=> ?_) (fun cz=> ?_))))
         ·refine WO.nil (WP.cond (t:=true) rfl (WP.reg (WO.aA (v:= .int .i64 10) rfl (WO.nil (WP.seq (WP.seq (WP.reg (WO.ifS (L.neq rfl rfl) (fun c_=> ?_) (fun c_=>by exfalso;omega)))))))))
          refine WO.nil (WP.cond (t:=true) rfl (WP.seq (WP.reg (WO.aA (v:= .slN) rfl (WO.aA (v:= .int .i64 10) rfl (WO.aA (v:= .int .i64 (k:Int)) rfl (WO.nil (WP.ret ?_))))))))
          have hE:Lex.all (s.length+1) 0 s []= .error (10,k):=by
           rw [hs,kr hb];simp [Lex.blank,one,Lex.put, *]
          rw [hE]
          exact ⟨_,(av (aB (v:= .slN) rfl) (av (aB (v:= .int .i64 10) rfl) (av (aB (v:= .int .i64 (k:Int)) rfl) (aG _ _)))),rfl,st.tail.tail.tail⟩
         ·have hs1:0<(Lex.sign (s.drop k)).length:=List.length_pos_iff.2 cz
          refine WO.nil (WP.cond (t:=false) rfl (WP.skip (WP.seq (WP.seq (WP.reg (WO.ifS (L.neq rfl rfl) (fun c_=>by exfalso;omega) (fun c_=> ?_)))))))
          refine WO.nil (WP.cond (t:=false) rfl (WP.skip (WP.reg (WO.val (v:= .agg [.int .i64 4,L.str (Lex.sign (s.drop k)), .int .i64 (k:Int)]) (L.build rfl) (WO.oO (rows:=[[.int .i64 4,L.str (Lex.sign (s.drop k)), .int .i64 (k:Int)]]) st rfl (by decide) rfl (by simp) (fun bs1 h st=> ?_))))))
          refine WO.zF st 1 rfl rfl rfl (st.aF 0 rfl) (by decide) (by simp;omega) (fun f1 v1 h st=> ?_)
          rw [show (ts.map Tok.row)++[[V.int .i64 4,L.str (Lex.sign (s.drop k)),V.int .i64 (k:Int)]]=(ts++[Tok.mk 4 (Lex.sign (s.drop k)) k]).map Tok.row from by simp [Tok.row]] at st
          obtain ⟨ab1,rfl⟩:=(st.dS 1 rfl).ne (by simp)
          refine WO.nil ?_
          exact ⟨g,(Nat.lt_succ_self _),k+(Lex.sign (s.drop k)).length,(ts++[Tok.mk 4 (Lex.sign (s.drop k)) k]),f1,(.sl ab1 0 ((ts++[Tok.mk 4 (Lex.sign (s.drop k)) k]).map Tok.row).length none),x1,x2,x3,(.bool true),(.int .u8 (b.toNat:Int)),(.bool false),(.bool false),(.bool false),(L.str (Lex.sign (s.drop k))),(.bool false),(.bool false),(.int .i64 0),(.bool false),(.int .i64 (k:Int)),(.int .i64 4),⟨by rw [hs,kr hb];simp [Lex.blank,one,Lex.put, *],(by omega),(by omega),(by first|omega|(simp;omega))⟩,by kernel_rfl,st.tail⟩
        ·refine WO.nil (WP.cond (t:=true) rfl (WP.seq (WP.reg ?_)))
         obtain ⟨hw1,hw2,hw3⟩:=yL (f:=Lex.digit) hb hb2
         refine WO.KA rfl rfl (PE D (fun st=>Fv D st) ((st.pick 2 rfl).pick 2 rfl) hk hsz) ?_
         rintro _ h ⟨rfl,st⟩
         refine WO.nil (WP.reg (WO.val (v:=L.str s) (L.ay rfl (st.aj 1 rfl) rfl) (WO.val (v:= .int .i64 ((k+((s.drop k).takeWhile Lex.digit).length:Nat):Int)) (L.ay rfl (st.aj 0 rfl) rfl) (WO.val (v:=L.str ((s.drop (k+((s.drop k).takeWhile Lex.digit).length)).take (s.length - (k+((s.drop k).takeWhile Lex.digit).length)))) (L.Jk rfl rfl rfl (by omega) (by omega)) ?_))))
         rw [List.take_of_length_le (by simp)]
         refine WO.bR rfl (lnum_c D st hw3) ?_
         rintro _ h ⟨rfl,st⟩
         refine WO.val (v:= .int .i64 ((Lex.number ((s.drop k).takeWhile Lex.digit) (s.drop (k+((s.drop k).takeWhile Lex.digit).length))).1:Int)) rfl (WO.val (v:= .int .i64 ((Lex.number ((s.drop k).takeWhile Lex.digit) (s.drop (k+((s.drop k).takeWhile Lex.digit).length))).2:Int)) rfl (WO.aA (v:= .int .i64 ((Lex.number ((s.drop k).takeWhile Lex.digit) (s.drop (k+((s.drop k).takeWhile Lex.digit).length))).1:Int)) rfl (WO.aA (v:= .int .i64 ((Lex.number ((s.drop k).takeWhile Lex.digit) (s.drop (k+((s.drop k).takeWhile Lex.digit).length))).2:Int)) rfl (WO.nil (WP.seq (WP.seq (WP.reg (WO.ifS (L.neq rfl rfl) (fun ce=> ?_) (fun ce=> ?_)))))))))
         ·replace ce:(Lex.number ((s.drop k).takeWhile Lex.digit) (s.drop (k+((s.drop k).takeWhile Lex.digit).length))).2≠0:=by omega
          refine WO.nil (WP.cond (t:=true) rfl (WP.seq (WP.reg (WO.aA (v:= .slN) rfl (WO.aA (v:= .int .i64 ((Lex.number ((s.drop k).takeWhile Lex.digit) (s.drop (k+((s.drop k).takeWhile Lex.digit).length))).2:Int)) rfl (WO.aA (v:= .int .i64 (k:Int)) rfl (WO.nil (WP.ret ?_))))))))
          have hE:Lex.all (s.length+1) 0 s []= .error ((Lex.number ((s.drop k).takeWhile Lex.digit) (s.drop (k+((s.drop k).takeWhile Lex.digit).length))).2,k):=by
           rw [hs,kr hb];simp [Lex.blank,one,Lex.put, *]
          rw [hE]
          exact ⟨_,(av (aB (v:= .slN) rfl) (av (aB (v:= .int .i64 ((Lex.number ((s.drop k).takeWhile Lex.digit) (s.drop (k+((s.drop k).takeWhile Lex.digit).length))).2:Int)) rfl) (av (aB (v:= .int .i64 (k:Int)) rfl) (aG _ _)))),rfl,st.tail.tail.tail⟩
         ·replace ce:(Lex.number ((s.drop k).takeWhile Lex.digit) (s.drop (k+((s.drop k).takeWhile Lex.digit).length))).2=0:=by omega
          refine WO.nil (WP.cond (t:=false) rfl (WP.skip (WP.reg (WO.val (v:= .agg [.int .i64 ((Lex.number ((s.drop k).takeWhile Lex.digit) (s.drop (k+((s.drop k).takeWhile Lex.digit).length))).1:Int),L.str ((s.drop k).takeWhile Lex.digit), .int .i64 (k:Int)]) (L.build rfl) (WO.oO (rows:=[[.int .i64 ((Lex.number ((s.drop k).takeWhile Lex.digit) (s.drop (k+((s.drop k).takeWhile Lex.digit).length))).1:Int),L.str ((s.drop k).takeWhile Lex.digit), .int .i64 (k:Int)]]) st rfl (by decide) rfl (by simp) (fun bs2 h st=> ?_))))))
          refine WO.zF st 3 rfl rfl rfl (st.aF 0 rfl) (by decide) (by simp;omega) (fun f2 v2 h st=> ?_)
          rw [show (ts.map Tok.row)++[[V.int .i64 ((Lex.number ((s.drop k).takeWhile Lex.digit) (s.drop (k+((s.drop k).takeWhile Lex.digit).length))).1:Int),L.str ((s.drop k).takeWhile Lex.digit),V.int .i64 (k:Int)]]=(ts++[Tok.mk ((Lex.number ((s.drop k).takeWhile Lex.digit) (s.drop (k+((s.drop k).takeWhile Lex.digit).length))).1) ((s.drop k).takeWhile Lex.digit) k]).map Tok.row from by simp [Tok.row]] at st
          obtain ⟨ab2,rfl⟩:=(st.dS 3 rfl).ne (by simp)
          refine WO.nil ?_
          exact ⟨g,(Nat.lt_succ_self _),k+((s.drop k).takeWhile Lex.digit).length,(ts++[Tok.mk ((Lex.number ((s.drop k).takeWhile Lex.digit) (s.drop (k+((s.drop k).takeWhile Lex.digit).length))).1) ((s.drop k).takeWhile Lex.digit) k]),f2,(.sl ab2 0 ((ts++[Tok.mk ((Lex.number ((s.drop k).takeWhile Lex.digit) (s.drop (k+((s.drop k).takeWhile Lex.digit).length))).1) ((s.drop k).takeWhile Lex.digit) k]).map Tok.row).length none),x1,x2,x3,(.bool true),(.int .u8 (b.toNat:Int)),(.bool false),(.bool false),(.bool false),(L.str ((s.drop k).takeWhile Lex.digit)),(.bool true),x14,(.int .i64 ((Lex.number ((s.drop k).takeWhile Lex.digit) (s.drop (k+((s.drop k).takeWhile Lex.digit).length))).2:Int)),(.bool false),(.int .i64 (k:Int)),(.int .i64 ((Lex.number ((s.drop k).takeWhile Lex.digit) (s.drop (k+((s.drop k).takeWhile Lex.digit).length))).1:Int)),⟨by rw [hs,kr hb];simp [Lex.blank,one,Lex.put, *],(by omega),(by omega),(by first|omega|(simp;omega))⟩,by kernel_rfl,(st.tail.pick 2 rfl)⟩
       ·refine WO.nil (WP.cond (t:=true) rfl (WP.seq (WP.reg ?_)))
        obtain ⟨hw1,hw2,hw3⟩:=yL (f:=Lex.within) hb (by simp [Lex.within,one, *])
        refine WO.KA rfl rfl (PE D (fun st=>Ct D st) ((st.pick 2 rfl).pick 2 rfl) hk hsz) ?_
        rintro _ h ⟨rfl,st⟩
        refine WO.nil (WP.reg (WO.bR rfl (word_c D st) ?_))
        rintro _ h ⟨rfl,st⟩
        refine WO.val (v:= .int .i64 ((Lex.word ((s.drop k).takeWhile Lex.within)).1:Int)) rfl (WO.val (v:= .int .i64 ((Lex.word ((s.drop k).takeWhile Lex.within)).2:Int)) rfl (WO.aA (v:= .int .i64 ((Lex.word ((s.drop k).takeWhile Lex.within)).1:Int)) rfl (WO.aA (v:= .int .i64 ((Lex.word ((s.drop k).takeWhile Lex.within)).2:Int)) rfl (WO.nil (WP.seq (WP.seq (WP.reg (WO.ifS (L.neq rfl rfl) (fun ce=> ?_) (fun ce=> ?_)))))))))
        ·replace ce:(Lex.word ((s.drop k).takeWhile Lex.within)).2≠0:=by omega
         refine WO.nil (WP.cond (t:=true) rfl (WP.seq (WP.reg (WO.aA (v:= .slN) rfl (WO.aA (v:= .int .i64 ((Lex.word ((s.drop k).takeWhile Lex.within)).2:Int)) rfl (WO.aA (v:= .int .i64 (k:Int)) rfl (WO.nil (WP.ret ?_))))))))
         have hE:Lex.all (s.length+1) 0 s []= .error ((Lex.word ((s.drop k).takeWhile Lex.within)).2,k):=by
          rw [hs,kr hb];simp [Lex.blank,one,Lex.put, *]
         rw [hE]
         exact ⟨_,(av (aB (v:= .slN) rfl) (av (aB (v:= .int .i64 ((Lex.word ((s.drop k).takeWhile Lex.within)).2:Int)) rfl) (av (aB (v:= .int .i64 (k:Int)) rfl) (aG _ _)))),rfl,st.tail.tail.tail⟩
        ·replace ce:(Lex.word ((s.drop k).takeWhile Lex.within)).2=0:=by omega
         refine WO.nil (WP.cond (t:=false) rfl (WP.skip (WP.reg (WO.val (v:= .agg [.int .i64 ((Lex.word ((s.drop k).takeWhile Lex.within)).1:Int),L.str ((s.drop k).takeWhile Lex.within), .int .i64 (k:Int)]) (L.build rfl) (WO.oO (rows:=[[.int .i64 ((Lex.word ((s.drop k).takeWhile Lex.within)).1:Int),L.str ((s.drop k).takeWhile Lex.within), .int .i64 (k:Int)]]) st rfl (by decide) rfl (by simp) (fun bs3 h st=> ?_))))))
         refine WO.zF st 3 rfl rfl rfl (st.aF 0 rfl) (by decide) (by simp;omega) (fun f3 v3 h st=> ?_)
         rw [show (ts.map Tok.row)++[[V.int .i64 ((Lex.word ((s.drop k).takeWhile Lex.within)).1:Int),L.str ((s.drop k).takeWhile Lex.within),V.int .i64 (k:Int)]]=(ts++[Tok.mk ((Lex.word ((s.drop k).takeWhile Lex.within)).1) ((s.drop k).takeWhile Lex.within) k]).map Tok.row from by simp [Tok.row]] at st
         obtain ⟨ab3,rfl⟩:=(st.dS 3 rfl).ne (by simp)
         refine WO.nil ?_
         exact ⟨g,(Nat.lt_succ_self _),k+((s.drop k).takeWhile Lex.within).length,(ts++[Tok.mk ((Lex.word ((s.drop k).takeWhile Lex.within)).1) ((s.drop k).takeWhile Lex.within) k]),f3,(.sl ab3 0 ((ts++[Tok.mk ((Lex.word ((s.drop k).takeWhile Lex.within)).1) ((s.drop k).takeWhile Lex.within) k]).map Tok.row).length none),x1,x2,x3,(.bool true),(.int .u8 (b.toNat:Int)),(.bool false),(.bool false),(.bool true),(L.str ((s.drop k).takeWhile Lex.within)),x13,x14,(.int .i64 ((Lex.word ((s.drop k).takeWhile Lex.within)).2:Int)),(.bool false),(.int .i64 (k:Int)),(.int .i64 ((Lex.word ((s.drop k).takeWhile Lex.within)).1:Int)),⟨by rw [hs,kr hb];simp [Lex.blank,one,Lex.put, *],(by omega),(by omega),(by first|omega|(simp;omega))⟩,by kernel_rfl,(st.tail.pick 2 rfl)⟩
 ·replace c1:¬(k<s.length):=by omega
  refine WO.nil (WP.cond (t:=false) rfl (WP.exit (WP.seq (WP.reg (WO.val (v:=L.str s) (L.ay rfl (st.aj 2 rfl) rfl) (WO.val (v:= .int .i64 (s.length:Int)) (L.yE rfl) (WO.val (v:= .agg [.int .i64 0, .str 0 0, .int .i64 (s.length:Int)]) (L.build rfl) (WO.oO (rows:=[[.int .i64 0, .str 0 0, .int .i64 (s.length:Int)]]) st rfl (by decide) rfl (by simp) (fun bs4 h st=> ?_)))))))))
  refine WO.zF st 1 rfl rfl rfl (st.aF 0 rfl) (by decide) (by simp;omega) (fun f4 v4 h st=> ?_)
  rw [show (ts.map Tok.row)++[[V.int .i64 0,V.str 0 0,V.int .i64 (s.length:Int)]]=(ts++[Tok.mk 0 [] s.length]).map Tok.row from by simp [Tok.row];rfl] at st
  obtain ⟨ab4,rfl⟩:=(st.dS 1 rfl).ne (by simp)
  refine WO.aA (v:= .int .i64 0) rfl (WO.aA (v:= .int .i64 0) rfl (WO.nil (WP.ret ?_)))
  have hz:s.drop k=[]:=List.drop_of_length_le (by omega)
  have hE:Lex.all (s.length+1) 0 s []= .ok (ts++[⟨0,[],s.length⟩]):=by
   rw [hs,hz,show k=s.length by omega];rfl
  rw [hE]
  exact ⟨_,(av (aB (v:= .sl ab4 0 (((ts++[Tok.mk 0 [] s.length]).map Tok.row).length) none) rfl) (av (aB (v:= .int .i64 0) rfl) (av (aB (v:= .int .i64 0) rfl) (aG _ _)))),_,rfl,(((st.tail.pick 1 rfl).tail.pick 1 rfl).tail).shut (by decide)⟩
end
end Go.Eng.YtjobofnpmmjeoaaDoor.Pq
namespace Go.Eng.YtjobofnpmmjeoaaDoor.Pq
open Go.Eng
noncomputable section
variable {c:Ctx}
theorem lex_c (D:fZ c) (DD:uE c) {fs:List Fact} {h:Heap} {s:List UInt8} (st:St fs h):
 bZ c 11 [L.str s] h fun v h1=>match Lex.lex s with
  | .ok ts=>∃x,v= .tup [x, .int .i64 0, .int .i64 0]∧St (.stb (fun h=>Rows 3 h x (ts.map Tok.row))::fs) h1
  | .error (e,a)=>v= .tup [.slN, .int .i64 (e:Int), .int .i64 (a:Int)]∧St fs h1:=by
 refine bZ.eZ D.f11 rfl (WP.seq (WP.reg (WO.aA (v:= .slN) rfl (WO.aA (v:= .int .i64 0) rfl (WO.aA (v:= .int .i64 0) rfl (WO.nil (WP.seq (WP.seq (WP.reg (WO.val (v:= .int .i64 (s.length:Int)) (L.yE rfl) (WO.ifS (L.gtr rfl rfl) (fun c1=> ?_) (fun c1=> ?_))))))))))))
 ·replace c1:8192<s.length:=by omega
  refine WO.nil (WP.cond (t:=true) rfl (WP.seq (WP.reg (WO.aA (v:= .slN) rfl (WO.aA (v:= .int .i64 9) rfl (WO.aA (v:= .int .i64 8192) rfl (WO.nil (WP.ret ?_))))))))
  have hE:Lex.lex s= .error (9,8192):=by unfold Lex.lex;rw [if_pos c1]
  rw [hE]
  exact ⟨_,(av (aB (v:= .slN) rfl) (av (aB (v:= .int .i64 9) rfl) (av (aB (v:= .int .i64 8192) rfl) (aG _ _)))),rfl,st⟩
 ·replace c1:¬(8192<s.length):=by omega
  refine WO.nil (WP.cond (t:=false) rfl (WP.skip (WP.seq (WP.reg ?_))))
  have hc:=all_c (s:=s) D DD st (by omega)
  cases hsp:Lex.all (s.length+1) 0 s [] with
  |error x=>
   obtain ⟨e,a⟩:=x
   rw [hsp] at hc
   refine WO.bR rfl hc ?_
   rintro _ h ⟨rfl,st⟩
   refine WO.val (v:= .slN) rfl (WO.val (v:= .int .i64 (e:Int)) rfl (WO.val (v:= .int .i64 (a:Int)) rfl (WO.aA (v:= .slN) rfl (WO.aA (v:= .int .i64 (e:Int)) rfl (WO.aA (v:= .int .i64 (a:Int)) rfl (WO.nil (WP.ret ?_)))))))
   have hE:Lex.lex s= .error (e,a):=by unfold Lex.lex;rw [if_neg c1];exact hsp
   rw [hE]
   exact ⟨_,(av (aB (v:= .slN) rfl) (av (aB (v:= .int .i64 (e:Int)) rfl) (av (aB (v:= .int .i64 (a:Int)) rfl) (aG _ _)))),rfl,st⟩
  |ok x=>
   rw [hsp] at hc
   refine WO.bR rfl hc ?_
   rintro _ h ⟨y,rfl,st⟩
   refine WO.val (v:=y) rfl (WO.val (v:= .int .i64 0) rfl (WO.val (v:= .int .i64 0) rfl (WO.aA (v:=y) rfl (WO.aA (v:= .int .i64 0) rfl (WO.aA (v:= .int .i64 0) rfl (WO.nil (WP.ret ?_)))))))
   have hE:Lex.lex s= .ok x:=by unfold Lex.lex;rw [if_neg c1];exact hsp
   rw [hE]
   exact ⟨_,(av (aB (v:=y) rfl) (av (aB (v:= .int .i64 0) rfl) (av (aB (v:= .int .i64 0) rfl) (aG _ _)))),y,rfl,st⟩
theorem PG (D:fZ c) (DD:uE c) {fs:List Fact} {h:Heap} {p:RP} (st:St (p.toks::fs) h) (hl:Left p 0 p.ts):
 bZ c 17 [.sl p.tb p.to p.ts.length p.cap] h fun v h1=>match Par.gT 0 p.ts with
  | .ok (m,_)=>∃row,v= .tup [.agg row, .int .i64 0, .int .i64 0]∧row.length=5∧St (.stb (fun h=>uD h m row)::fs) h1
  | .error (e,a)=>v= .tup [.agg [.str 0 0, .int .i64 0, .slN, .slN, .slN], .int .i64 (e:Int), .int .i64 (a:Int)]∧St fs h1:=by
 refine bZ.eZ D.f17 rfl (WP.seq (WP.reg (WO.dQ st L.alloc (fun mb h st=> ?_))))
 refine WO.aA (v:= .int .i64 0) rfl (WO.aA (v:= .int .i64 0) rfl (WO.nil (WP.seq (WP.reg ?_))))
 have hc:=readM_c D DD (st.pick 1 rfl) hl
 cases hsp:Par.gT 0 p.ts with
 |error x=>
  obtain ⟨e,a⟩:=x
  rw [hsp] at hc
  refine WO.bR rfl hc ?_
  rintro _ h ⟨rfl,st⟩
  refine WO.val (v:= .agg [.str 0 0, .int .i64 0, .slN, .slN, .slN]) rfl (WO.val (v:= .int .i64 (e:Int)) rfl (WO.val (v:= .int .i64 (a:Int)) rfl (WO.aH (row':=[.str 0 0, .int .i64 0, .slN, .slN, .slN]) st 0 rfl rfl rfl rfl rfl rfl rfl (fun h st=> ?_))))
  refine WO.aA (v:= .int .i64 (e:Int)) rfl (WO.aA (v:= .int .i64 (a:Int)) rfl (WO.nil (WP.ret ?_)))
  exact ⟨_,(av (dB (l:=[.str 0 0, .int .i64 0, .slN, .slN, .slN]) rfl (L.dP (st.aj 0 rfl) rfl rfl rfl)) (av (aB (v:= .int .i64 (e:Int)) rfl) (av (aB (v:= .int .i64 (a:Int)) rfl) (aG _ _)))),rfl,st.tail⟩
 |ok x=>
  rw [hsp] at hc
  refine WO.bR rfl hc ?_
  rintro _ h ⟨row,rfl,hrow,st⟩
  refine WO.val (v:= .agg row) rfl (WO.val (v:= .int .i64 0) rfl (WO.val (v:= .int .i64 0) rfl (WO.aH (row':=row) st 1 rfl rfl rfl (by rw [fF];exact hrow) rfl rfl (yG hrow) (fun h st=> ?_))))
  refine WO.aA (v:= .int .i64 0) rfl (WO.aA (v:= .int .i64 0) rfl (WO.nil (WP.ret ?_)))
  exact ⟨_,(av (dB (l:=row) rfl (L.dP (st.aj 1 rfl) rfl (by rw [fF,hrow];rfl) (qf hrow))) (av (aB (v:= .int .i64 0) rfl) (av (aB (v:= .int .i64 0) rfl) (aG _ _)))),row,rfl,hrow,(st.pick 1 rfl).tail⟩
theorem PI (D:fZ c) (DD:uE c) {fs:List Fact} {h:Heap} {s:List UInt8} (st:St fs h):
 bZ c 10 [L.str s] h fun v h1=>match Par.text s with
  | .ok m=>∃row,v= .tup [.agg row, .int .i64 0, .int .i64 0]∧row.length=5∧St (.stb (fun h=>uD h m row)::fs) h1
  | .error (e,a)=>v= .tup [.agg [.str 0 0, .int .i64 0, .slN, .slN, .slN], .int .i64 (e:Int), .int .i64 (a:Int)]∧St fs h1:=by
 refine bZ.eZ D.f10 rfl (WP.seq (WP.reg (WO.dQ st L.alloc (fun mb h st=> ?_))))
 refine WO.aA (v:= .int .i64 0) rfl (WO.aA (v:= .int .i64 0) rfl (WO.nil (WP.seq (WP.reg ?_))))
 have hc:=lex_c (s:=s) D DD st
 cases hsp:Lex.lex s with
 |error x=>
  obtain ⟨e,a⟩:=x
  rw [hsp] at hc
  refine WO.bR rfl hc ?_
  rintro _ h ⟨rfl,st⟩
  refine WO.val (v:= .slN) rfl (WO.val (v:= .int .i64 (e:Int)) rfl (WO.val (v:= .int .i64 (a:Int)) rfl (WO.aA (v:= .slN) rfl (WO.aA (v:= .int .i64 (e:Int)) rfl (WO.aA (v:= .int .i64 (a:Int)) rfl (WO.nil (WP.seq (WP.seq (WP.reg ?_)))))))))
  have he0:e≠0:=Fb hsp
  refine WO.ifS (L.neq rfl rfl) (fun c_=> ?_) (fun c_=>by exfalso;omega)
  refine WO.nil (WP.cond (t:=true) rfl (WP.seq (WP.reg (WO.val (v:= .agg [.str 0 0, .int .i64 0, .slN, .slN, .slN]) (L.build rfl) (WO.aH (row':=[.str 0 0, .int .i64 0, .slN, .slN, .slN]) st 0 rfl rfl rfl rfl rfl rfl rfl (fun h st=> ?_))))))
  refine WO.aA (v:= .int .i64 (e:Int)) rfl (WO.aA (v:= .int .i64 (a:Int)) rfl (WO.nil (WP.ret ?_)))
  have hE:Par.text s= .error (e,a):=by unfold Par.text;rw [hsp]
  rw [hE]
  exact ⟨_,(av (dB (l:=[.str 0 0, .int .i64 0, .slN, .slN, .slN]) rfl (L.dP (st.aj 0 rfl) rfl rfl rfl)) (av (aB (v:= .int .i64 (e:Int)) rfl) (av (aB (v:= .int .i64 (a:Int)) rfl) (aG _ _)))),rfl,st.tail⟩
 |ok x=>
  rw [hsp] at hc
  refine WO.bR rfl hc ?_
  rintro _ h ⟨y,rfl,st⟩
  obtain ⟨p,rfl,rfl⟩:=KE st (Fa hsp ⟨0,0,0,none,x⟩ rfl).2
  obtain ⟨hlf,hne⟩:=Fa hsp p rfl
  refine WO.val (v:= .sl p.tb p.to p.ts.length p.cap) rfl (WO.val (v:= .int .i64 0) rfl (WO.val (v:= .int .i64 0) rfl (WO.aA (v:= .sl p.tb p.to p.ts.length p.cap) rfl (WO.aA (v:= .int .i64 0) rfl (WO.aA (v:= .int .i64 0) rfl (WO.nil (WP.seq (WP.seq (WP.reg (WO.ifS (L.neq rfl rfl) (fun c_=>by exfalso;omega) (fun c_=> ?_)))))))))))
  refine WO.nil (WP.cond (t:=false) rfl (WP.skip (WP.seq (WP.reg ?_))))
  have hc:=PG D DD (st:St (p.toks:: .box mb [.str 0 0, .int .i64 0, .slN, .slN, .slN]::fs) _) hlf
  cases hsq:Par.gT 0 p.ts with
  |error x=>
   obtain ⟨e,a⟩:=x
   rw [hsq] at hc
   refine WO.bR rfl hc ?_
   rintro _ h ⟨rfl,st⟩
   refine WO.val (v:= .agg [.str 0 0, .int .i64 0, .slN, .slN, .slN]) rfl (WO.val (v:= .int .i64 (e:Int)) rfl (WO.val (v:= .int .i64 (a:Int)) rfl (WO.aH (row':=[.str 0 0, .int .i64 0, .slN, .slN, .slN]) st 0 rfl rfl rfl rfl rfl rfl rfl (fun h st=> ?_))))
   refine WO.aA (v:= .int .i64 (e:Int)) rfl (WO.aA (v:= .int .i64 (a:Int)) rfl (WO.nil (WP.ret ?_)))
   have hE:Par.text s= .error (e,a):=by unfold Par.text;rw [hsp];simp only [hsq]
   rw [hE]
   exact ⟨_,(av (dB (l:=[.str 0 0, .int .i64 0, .slN, .slN, .slN]) rfl (L.dP (st.aj 0 rfl) rfl rfl rfl)) (av (aB (v:= .int .i64 (e:Int)) rfl) (av (aB (v:= .int .i64 (a:Int)) rfl) (aG _ _)))),rfl,st.tail⟩
  |ok x=>
   rw [hsq] at hc
   refine WO.bR rfl hc ?_
   rintro _ h ⟨row,rfl,hrow,st⟩
   refine WO.val (v:= .agg row) rfl (WO.val (v:= .int .i64 0) rfl (WO.val (v:= .int .i64 0) rfl (WO.aH (row':=row) st 1 rfl rfl rfl (by rw [fF];exact hrow) rfl rfl (yG hrow) (fun h st=> ?_))))
   refine WO.aA (v:= .int .i64 0) rfl (WO.aA (v:= .int .i64 0) rfl (WO.nil (WP.ret ?_)))
   have hE:Par.text s= .ok x.1:=by unfold Par.text;rw [hsp];simp only [hsq]
   rw [hE]
   exact ⟨_,(av (dB (l:=row) rfl (L.dP (st.aj 1 rfl) rfl (by rw [fF,hrow];rfl) (qf hrow))) (av (aB (v:= .int .i64 0) rfl) (av (aB (v:= .int .i64 0) rfl) (aG _ _)))),row,rfl,hrow,(st.pick 1 rfl).tail⟩
theorem Labels_c (D:fZ c) (DD:uE c) {fs:List Fact} {h:Heap} {s:List UInt8} (st:St fs h):
 bZ c 16 [L.str s] h fun v h1=>match Par.rows s with
  | .ok m=>∃x,v= .tup [x, .int .i64 0, .int .i64 0]∧x.bW=some [x]∧St (.stb (fun h=>Rows 3 h x (m.map Pm.row))::fs) h1
  | .error (e,a)=>v= .tup [.slN, .int .i64 (e:Int), .int .i64 (a:Int)]∧St fs h1:=by
 refine bZ.eZ D.f16 rfl (WP.seq (WP.reg (WO.aA (v:= .slN) rfl (WO.aA (v:= .int .i64 0) rfl (WO.aA (v:= .int .i64 0) rfl (WO.nil (WP.seq (WP.reg ?_))))))))
 have hc:=lex_c (s:=s) D DD st
 cases hsp:Lex.lex s with
 |error x=>
  obtain ⟨e,a⟩:=x
  rw [hsp] at hc
  refine WO.bR rfl hc ?_
  rintro _ h ⟨rfl,st⟩
  refine WO.val (v:= .slN) rfl (WO.val (v:= .int .i64 (e:Int)) rfl (WO.val (v:= .int .i64 (a:Int)) rfl (WO.aA (v:= .slN) rfl (WO.aA (v:= .int .i64 (e:Int)) rfl (WO.aA (v:= .int .i64 (a:Int)) rfl (WO.nil (WP.seq (WP.seq (WP.reg ?_)))))))))
  have he0:e≠0:=Fb hsp
  refine WO.ifS (L.neq rfl rfl) (fun c_=> ?_) (fun c_=>by exfalso;omega)
  refine WO.nil (WP.cond (t:=true) rfl (WP.seq (WP.reg (WO.aA (v:= .slN) rfl (WO.aA (v:= .int .i64 (e:Int)) rfl (WO.aA (v:= .int .i64 (a:Int)) rfl (WO.nil (WP.ret ?_))))))))
  have hE:Par.rows s= .error (e,a):=by unfold Par.rows;rw [hsp]
  rw [hE]
  exact ⟨_,(av (aB (v:= .slN) rfl) (av (aB (v:= .int .i64 (e:Int)) rfl) (av (aB (v:= .int .i64 (a:Int)) rfl) (aG _ _)))),rfl,st⟩
 |ok x=>
  rw [hsp] at hc
  refine WO.bR rfl hc ?_
  rintro _ h ⟨y,rfl,st⟩
  obtain ⟨p,rfl,rfl⟩:=KE st (Fa hsp ⟨0,0,0,none,x⟩ rfl).2
  obtain ⟨hlf,hne⟩:=Fa hsp p rfl
  refine WO.val (v:= .sl p.tb p.to p.ts.length p.cap) rfl (WO.val (v:= .int .i64 0) rfl (WO.val (v:= .int .i64 0) rfl (WO.aA (v:= .sl p.tb p.to p.ts.length p.cap) rfl (WO.aA (v:= .int .i64 0) rfl (WO.aA (v:= .int .i64 0) rfl (WO.nil (WP.seq (WP.seq (WP.reg (WO.ifS (L.neq rfl rfl) (fun c_=>by exfalso;omega) (fun c_=> ?_)))))))))))
  refine WO.nil (WP.cond (t:=false) rfl (WP.skip (WP.seq (WP.reg ?_))))
  have hc:=readL_c D DD (st:St (p.toks::fs) _) hlf
  cases hsq:Par.labels p.ts with
  |error x=>
   obtain ⟨e,a⟩:=x
   rw [hsq] at hc
   refine WO.bR rfl hc ?_
   rintro _ h ⟨rfl,st⟩
   refine WO.val (v:= .slN) rfl (WO.val (v:= .int .i64 (e:Int)) rfl (WO.val (v:= .int .i64 (a:Int)) rfl (WO.aA (v:= .slN) rfl (WO.aA (v:= .int .i64 (e:Int)) rfl (WO.aA (v:= .int .i64 (a:Int)) rfl (WO.nil (WP.ret ?_)))))))
   have hE:Par.rows s= .error (e,a):=by unfold Par.rows;rw [hsp];simp only [hsq]
   rw [hE]
   exact ⟨_,(av (aB (v:= .slN) rfl) (av (aB (v:= .int .i64 (e:Int)) rfl) (av (aB (v:= .int .i64 (a:Int)) rfl) (aG _ _)))),rfl,st⟩
  |ok x=>
   rw [hsq] at hc
   refine WO.bR rfl hc ?_
   rintro _ h ⟨y,rfl,hcv,st⟩
   refine WO.val (v:=y) rfl (WO.val (v:= .int .i64 0) rfl (WO.val (v:= .int .i64 0) rfl (WO.aA (v:=y) rfl (WO.aA (v:= .int .i64 0) rfl (WO.aA (v:= .int .i64 0) rfl (WO.nil (WP.ret ?_)))))))
   have hE:Par.rows s= .ok x.1:=by unfold Par.rows;rw [hsp];simp only [hsq]
   rw [hE]
   exact ⟨_,(av (aB (v:=y) rfl) (av (aB (v:= .int .i64 0) rfl) (av (aB (v:= .int .i64 0) rfl) (aG _ _)))),y,rfl,hcv,st⟩
end
end Go.Eng.YtjobofnpmmjeoaaDoor.Pq
namespace Go.Eng.YtjobofnpmmjeoaaDoor.Pq
open Go.Eng
noncomputable section
variable {c:Ctx}
theorem uses_c (h32:T.get 32 c.bJ=some i32) {fs:List Fact} {h:Heap} {us:List (List UInt8)} {v1 v2:V} (st:St (.stb (fun h=>Rows 1 h v1 (us.map fH)):: .stb (fun h=>Rows 1 h v2 (us.map fH))::fs) h) (hsm:us.length<4294967296):
 bZ c 32 [v1,v2] h fun v h1=>v= .bool true∧St fs h1:=by
 refine bZ.eZ h32 rfl (WP.seq (WP.reg (WO.aA (v:= .bool false) rfl (WO.nil (WP.seq (WP.seq (WP.reg (WO.val (v:= .int .i64 (us.length:Int)) (L.dO rfl (st.aF 0 rfl) (by simp)) (WO.val (v:= .int .i64 (us.length:Int)) (L.dO rfl (st.aF 1 rfl) (by simp)) (WO.ifS (L.neq rfl rfl) (fun c_=>absurd rfl c_) (fun c_=> ?_)))))))))))
 refine WO.nil (WP.cond (t:=false) rfl (WP.skip (WP.seq (WP.seq (WP.reg (WO.aA (v:= .int .i64 0) rfl (WO.nil (WP.block (WP.iW (α:=Nat) (fun i env h=>∃x2 x5 x6,(i≤us.length)∧env=dx [v1,v2,x2, .bool false, .int .i64 (i:Int),x5,x6] 0 Env.nil∧St (.stb (fun h=>Rows 1 h v1 (us.map fH)):: .stb (fun h=>Rows 1 h v2 (us.map fH))::fs) h) (fun i=>us.length - i) 0 ?_ ?_)))))))))
 ·exact ⟨(.bool false), .bot, .bot,(Nat.zero_le _),by kernel_rfl,st⟩
 rintro i _ h ⟨x2,x5,x6,hi,rfl,st⟩
 refine WP.seq (WP.seq (WP.reg (WO.val (v:= .int .i64 (us.length:Int)) (L.dO rfl (st.aF 0 rfl) (by simp)) (WO.ifS (L.lss rfl rfl) (fun c1=> ?_) (fun c1=> ?_)))))
 ·replace c1:i<us.length:=by omega
  refine WO.nil (WP.cond (t:=true) rfl (WP.skip (WP.seq (WP.block (WP.seq (WP.draw (WD.val (v:=v1) rfl (WD.val (v:= .int .i64 (i:Int)) rfl ?_))))))))
  obtain ⟨u,ho⟩:∃u,us[i]? =some u:=⟨_,List.getElem?_eq_getElem c1⟩
  refine WD.val (v:= .ptr (slB v1) (slO v1+i * 1)) (L.bI (Rows.sl (st.aF 0 rfl) (by simpa using c1)) rfl (by simpa using c1)) (WD.val (v:=L.str u) (L.load rfl (Rows.yH (st.aF 0 rfl) (by rw [List.getElem?_map,ho];rfl))) ?_)
  refine WD.val (v:=v2) rfl (WD.val (v:= .int .i64 (i:Int)) rfl (WD.val (v:= .ptr (slB v2) (slO v2+i * 1)) (L.bI (Rows.sl (st.aF 1 rfl) (by simpa using c1)) rfl (by simpa using c1)) (WD.val (v:=L.str u) (L.load rfl (Rows.yH (st.aF 1 rfl) (by rw [List.getElem?_map,ho];rfl))) ?_)))
  refine WD.ifS (L.sne rfl rfl) (fun _ c_=>absurd rfl c_) (fun _ c_=> ?_)
  refine WD.nil (WP.cond (t:=false) rfl (WP.skip (WP.reg (WO.aA (v:= .int .i64 ((i+1:Nat):Int)) (L.kC rfl rfl (by omega) (And.intro (by omega) (by omega))) (WO.nil ?_)))))
  exact ⟨i+1,(by omega),x2,(.bool true),(.bool false),by omega,by kernel_rfl,st⟩
 ·replace c1:¬(i<us.length):=by omega
  refine WO.nil (WP.cond (t:=false) rfl (WP.exit (WP.seq (WP.reg (WO.aA (v:= .bool true) rfl (WO.nil (WP.ret ?_)))))))
  exact ⟨_,(av (aB (v:= .bool true) rfl) (aG _ _)),rfl,st.tail.tail⟩
theorem Nd.row0 (k:Nat) (n:Int) (m nm:List UInt8) (a b:Int):Eq1.eqs [(0, .int),(1, .int),(2, .str),(3, .str),(4, .int),(5, .int),(6, .int)] [.int .i64 (k:Int), .int .i64 n,L.str m,L.str nm, .int .i64 a, .int .i64 b, .int .i64 0] [.int .i64 (k:Int), .int .i64 n,L.str m,L.str nm, .int .i64 a, .int .i64 b, .int .i64 0]=some true:=
 Eq1.lY rfl (Eq1.tQ _) (Eq1.lY rfl (Eq1.tQ _) (Eq1.lY rfl (Eq1.Gn _) (Eq1.lY rfl (Eq1.Gn _) (Eq1.lY rfl (Eq1.tQ _) (Eq1.lY rfl (Eq1.tQ _) (Eq1.lY rfl (Eq1.tQ _) (by simp [Eq1.eqs])))))))
theorem er_at {es es':List Nd} (he:es.map Nd.er=es'.map Nd.er) {i:Nat} (hi:i<es.length):∃(k:Nat) (n:Int) (m nm:List UInt8) (a b:Int) (p q:Nat),es[i]? =some ⟨k,n,m,nm,a,b,p⟩∧es'[i]? =some ⟨k,n,m,nm,a,b,q⟩:=by
 have hl:es.length=es'.length:=by simpa using congrArg List.length he
 have h1:=List.getElem?_eq_getElem hi
 have h2:=List.getElem?_eq_getElem (l:=es') (i:=i) (by omega)
 have h3:=congrArg (fun l=>l[i]?) he
 simp only [List.getElem?_map,h1,h2,Option.map_some] at h3
 generalize es[i]=x at *
 generalize es'[i]'(by omega)=y at *
 obtain ⟨k,n,m,nm,a,b,p⟩:=x
 obtain ⟨k',n',m',nm',a',b',q⟩:=y
 simp only [Nd.er,Option.some.injEq,Nd.mk.injEq] at h3
 obtain ⟨rfl,rfl,rfl,rfl,rfl,rfl,_⟩:=h3
 exact ⟨_,_,_,_,_,_,p,q,h1,h2⟩
theorem K5 (h57:T.get 57 c.bJ=some i57) {fs:List Fact} {h:Heap} {es es':List Nd} {v1 v2:V} (st:St (.stb (fun h=>Rows 7 h v1 (es.map Nd.row)):: .stb (fun h=>Rows 7 h v2 (es'.map Nd.row))::fs) h) (he:es.map Nd.er=es'.map Nd.er) (hsm:es.length<4294967296):
 bZ c 57 [v1,v2] h fun v h1=>v= .bool true∧St fs h1:=by
 have hl:es'.length=es.length:=by simpa using (congrArg List.length he).symm
 refine bZ.eZ h57 rfl (WP.seq (WP.reg (WO.aA (v:= .bool false) rfl (WO.nil (WP.seq (WP.seq (WP.reg (WO.val (v:= .int .i64 (es.length:Int)) (L.dO rfl (st.aF 0 rfl) (by simp)) (WO.val (v:= .int .i64 (es.length:Int)) (L.dO rfl (st.aF 1 rfl) (by simp [hl])) (WO.ifS (L.neq rfl rfl) (fun c_=>absurd rfl c_) (fun c_=> ?_)))))))))))
 refine WO.nil (WP.cond (t:=false) rfl (WP.skip (WP.seq (WP.seq (WP.reg (WO.aA (v:= .int .i64 0) rfl (WO.nil (WP.block (WP.iW (α:=Nat) (fun i env h=>∃x2 x5 x6 x7 x8,(i≤es.length)∧env=dx [v1,v2,x2, .bool false, .int .i64 (i:Int),x5,x6,x7,x8] 0 Env.nil∧St (.stb (fun h=>Rows 7 h v1 (es.map Nd.row)):: .stb (fun h=>Rows 7 h v2 (es'.map Nd.row))::fs) h) (fun i=>es.length - i) 0 ?_ ?_)))))))))
 ·exact ⟨(.bool false), .bot, .bot, .bot, .bot,(Nat.zero_le _),by kernel_rfl,st⟩
 rintro i _ h ⟨x2,x5,x6,x7,x8,hi,rfl,st⟩
 refine WP.seq (WP.seq (WP.reg (WO.val (v:= .int .i64 (es.length:Int)) (L.dO rfl (st.aF 0 rfl) (by simp)) (WO.ifS (L.lss rfl rfl) (fun c1=> ?_) (fun c1=> ?_)))))
 ·replace c1:i<es.length:=by omega
  refine WO.nil (WP.cond (t:=true) rfl (WP.skip (WP.seq (WP.block (WP.seq (WP.draw (WD.val (v:=v1) rfl (WD.val (v:= .int .i64 (i:Int)) rfl ?_))))))))
  obtain ⟨k,n,m,nm,a,b,p,q,hx,hy⟩:=er_at he c1
  refine WD.val (v:= .ptr (slB v1) (slO v1+i * 7)) (L.bI (Rows.sl (st.aF 0 rfl) (by simpa using c1)) rfl (by simpa using c1)) (WD.val (v:= .agg [.int .i64 (k:Int), .int .i64 n,L.str m,L.str nm, .int .i64 a, .int .i64 b, .int .i64 (p:Int)]) (L.bE rfl (Rows.fB (st.aF 0 rfl) (by rw [List.getElem?_map,hx];rfl))) ?_)
  refine WD.val (v:=v2) rfl (WD.val (v:= .int .i64 (i:Int)) rfl (WD.val (v:= .ptr (slB v2) (slO v2+i * 7)) (L.bI (i:=i) (Rows.sl (i:=i) (st.aF 1 rfl) (by simp;omega)) rfl (by simp;omega)) (WD.val (v:= .agg [.int .i64 (k:Int), .int .i64 n,L.str m,L.str nm, .int .i64 a, .int .i64 b, .int .i64 (q:Int)]) (L.bE rfl (Rows.fB (st.aF 1 rfl) (by rw [List.getElem?_map,hy];rfl))) ?_)))
  refine WD.dQ st L.alloc (fun b1 h st=> ?_)
  refine WD.dQ st L.alloc (fun b2 h st=> ?_)
  refine WD.aH (row':=[.int .i64 (k:Int), .int .i64 n,L.str m,L.str nm, .int .i64 a, .int .i64 b, .int .i64 (p:Int)]) st 1 rfl rfl rfl rfl rfl rfl rfl (fun h st=>bB (by first|exact au (L.bE rfl (Rows.fB (st.aF 2 rfl) (by rw [List.getElem?_map,hx];rfl)))|exact au (L.bE rfl (Rows.fB (st.aF 3 rfl) (by rw [List.getElem?_map,hy];rfl)))|exact au (L.ay rfl (st.aj 0 rfl) rfl)|exact aC st 0 rfl|exact au (L.aI rfl (st.aj 0 rfl) rfl rfl rfl)|exact au (L.ay rfl (st.aj 1 rfl) rfl)|exact aC st 1 rfl|exact au (L.aI rfl (st.aj 1 rfl) rfl rfl rfl)) (dm _ _)) (fun h st=> ?_)
  refine WD.aH (row':=[.int .i64 (k:Int), .int .i64 n,L.str m,L.str nm, .int .i64 a, .int .i64 b, .int .i64 (q:Int)]) st 0 rfl rfl rfl rfl rfl rfl rfl (fun h st=>rfl) (fun h st=> ?_)
  refine WD.nil (WP.seq (WP.reg (WO.val (v:= .ptr b1 6) (L.ak rfl) (WO.aH (row':=[.int .i64 (k:Int), .int .i64 n,L.str m,L.str nm, .int .i64 a, .int .i64 b, .int .i64 0]) st 1 rfl rfl rfl rfl rfl rfl rfl (fun h st=> ?_)))))
  refine WO.nil (WP.seq (WP.reg (WO.val (v:= .ptr b2 6) (L.ak rfl) (WO.aH (row':=[.int .i64 (k:Int), .int .i64 n,L.str m,L.str nm, .int .i64 a, .int .i64 b, .int .i64 0]) st 0 rfl rfl rfl rfl rfl rfl rfl (fun h st=> ?_)))))
  refine WO.nil (WP.seq (WP.reg (WO.val (v:= .agg [.int .i64 (k:Int), .int .i64 n,L.str m,L.str nm, .int .i64 a, .int .i64 b, .int .i64 0]) (L.aI rfl (st.aj 1 rfl) rfl rfl rfl) (WO.val (v:= .agg [.int .i64 (k:Int), .int .i64 n,L.str m,L.str nm, .int .i64 a, .int .i64 b, .int .i64 0]) (L.aI rfl (st.aj 0 rfl) rfl rfl rfl) (WO.aA (v:= .bool false) (L.Mh rfl rfl (Nd.row0 ..)) (WO.nil (WP.cond (t:=false) rfl (WP.skip (WP.reg (WO.aA (v:= .int .i64 ((i+1:Nat):Int)) (L.kC rfl rfl (by omega) (And.intro (by omega) (by omega))) (WO.nil ?_)))))))))))
  exact ⟨i+1,(by omega),x2,(.bool true),(.ptr b1 0),(.ptr b2 0),(.bool false),by omega,by kernel_rfl,st.tail.tail⟩
 ·replace c1:¬(i<es.length):=by omega
  refine WO.nil (WP.cond (t:=false) rfl (WP.exit (WP.seq (WP.reg (WO.aA (v:= .bool true) rfl (WO.nil (WP.ret ?_)))))))
  exact ⟨_,(av (aB (v:= .bool true) rfl) (aG _ _)),rfl,st.tail.tail⟩
theorem Al (h57:T.get 57 c.bJ=some i57) (h45:T.get 45 c.bJ=some i45) {fs:List Fact} {h:Heap} {b:Bool} {es es':List Nd} {v1 v2:V} (st:St (.stb (fun h=>Rows 7 h v1 (es.map Nd.row)):: .stb (fun h=>Rows 7 h v2 (es'.map Nd.row))::fs) h) (he:nu b es es') (hsm:es.length<4294967296):
 bZ c 45 [v1,v2, .bool b] h fun v h1=>v= .bool true∧St fs h1:=by
 have hl:=he.len
 refine bZ.eZ h45 rfl (WP.seq (WP.reg ?_))
 cases b
 ·refine WO.aA (v:= .bool false) rfl (WO.nil (WP.seq (WP.seq (WP.reg (WO.bR rfl (K5 h57 (fs:= .stb (fun h=>Rows 7 h v1 (es.map Nd.row)):: .stb (fun h=>Rows 7 h v2 (es'.map Nd.row))::fs) st.twice he.1 hsm) ?_)))))
  rintro _ h ⟨rfl,st⟩
  refine WO.aA (v:= .bool false) rfl (WO.nil (WP.cond (t:=false) rfl (WP.skip (WP.seq (WP.seq (WP.reg (WO.aA (v:= .int .i64 0) rfl (WO.nil (WP.block (WP.iW (α:=Nat) (fun i env h=>∃x3 x6 x7,(i≤es.length)∧env=dx [v1,v2, .bool false,x3, .bool false, .int .i64 (i:Int),x6,x7] 0 Env.nil∧St (.stb (fun h=>Rows 7 h v1 (es.map Nd.row)):: .stb (fun h=>Rows 7 h v2 (es'.map Nd.row))::fs) h) (fun i=>es.length - i) 0 ?_ ?_))))))))))
  ·exact ⟨(.bool false), .bot, .bot,(Nat.zero_le _),by kernel_rfl,st⟩
  rintro i _ h ⟨x3,x6,x7,hi,rfl,st⟩
  refine WP.seq (WP.seq (WP.reg (WO.val (v:= .int .i64 (es.length:Int)) (L.dO rfl (st.aF 0 rfl) (by simp)) (WO.ifV (L.lss rfl rfl) (fun c1=> ?_) (fun c1=> ?_)))))
  ·replace c1:i<es.length:=by omega
   refine WO.yes rfl (WO.val (v:= .bool false) rfl (WO.aA (v:= .bool false) rfl (WO.nil (WP.cond (t:=false) rfl (WP.exit (WP.seq (WP.reg (WO.aA (v:= .bool true) rfl (WO.nil (WP.ret ?_))))))))))
   exact ⟨_,(av (aB (v:= .bool true) rfl) (aG _ _)),rfl,st.tail.tail⟩
  ·replace c1:¬(i<es.length):=by omega
   refine WO.no rfl (WO.aA (v:= .bool false) rfl (WO.nil (WP.cond (t:=false) rfl (WP.exit (WP.seq (WP.reg (WO.aA (v:= .bool true) rfl (WO.nil (WP.ret ?_)))))))))
   exact ⟨_,(av (aB (v:= .bool true) rfl) (aG _ _)),rfl,st.tail.tail⟩
 ·refine WO.aA (v:= .bool false) rfl (WO.nil (WP.seq (WP.seq (WP.reg (WO.bR rfl (K5 h57 (fs:= .stb (fun h=>Rows 7 h v1 (es.map Nd.row)):: .stb (fun h=>Rows 7 h v2 (es'.map Nd.row))::fs) st.twice he.1 hsm) ?_)))))
  rintro _ h ⟨rfl,st⟩
  refine WO.aA (v:= .bool false) rfl (WO.nil (WP.cond (t:=false) rfl (WP.skip (WP.seq (WP.seq (WP.reg (WO.aA (v:= .int .i64 0) rfl (WO.nil (WP.block (WP.iW (α:=Nat) (fun i env h=>∃x3 x6 x7,(i≤es.length)∧env=dx [v1,v2, .bool true,x3, .bool false, .int .i64 (i:Int),x6,x7] 0 Env.nil∧St (.stb (fun h=>Rows 7 h v1 (es.map Nd.row)):: .stb (fun h=>Rows 7 h v2 (es'.map Nd.row))::fs) h) (fun i=>es.length - i) 0 ?_ ?_))))))))))
  ·exact ⟨(.bool false), .bot, .bot,(Nat.zero_le _),by kernel_rfl,st⟩
  rintro i _ h ⟨x3,x6,x7,hi,rfl,st⟩
  refine WP.seq (WP.seq (WP.reg (WO.val (v:= .int .i64 (es.length:Int)) (L.dO rfl (st.aF 0 rfl) (by simp)) (WO.ifV (L.lss rfl rfl) (fun c2=> ?_) (fun c2=> ?_)))))
  ·replace c2:i<es.length:=by omega
   refine WO.yes rfl (WO.val (v:= .bool true) rfl (WO.aA (v:= .bool true) rfl (WO.nil (WP.cond (t:=true) rfl (WP.skip (WP.seq (WP.block (WP.seq (WP.draw (WD.val (v:=v1) rfl (WD.val (v:= .int .i64 (i:Int)) rfl ?_)))))))))))
   obtain ⟨x,hx⟩:∃x,es[i]? =some x:=⟨_,List.getElem?_eq_getElem c2⟩
   obtain ⟨y,hy⟩:∃y,es'[i]? =some y:=⟨_,List.getElem?_eq_getElem (by omega)⟩
   have hat:=he.at_ rfl hx hy
   refine WD.val (v:= .ptr (slB v1) (slO v1+i * 7)) (L.bI (i:=i) (Rows.sl (i:=i) (st.aF 0 rfl) (by simp;omega)) rfl (by simp;omega)) (WD.val (v:= .ptr (slB v1) (slO v1+i * 7+6)) (L.ak rfl) (WD.val (v:= .int .i64 (x.at_:Int)) (L.load rfl (Rows.iA (j:=6) (row:=x.row) (st.aF 0 rfl) (by rw [List.getElem?_map,hx];rfl) rfl)) ?_))
   refine WD.val (v:=v2) rfl (WD.val (v:= .int .i64 (i:Int)) rfl (WD.val (v:= .ptr (slB v2) (slO v2+i * 7)) (L.bI (i:=i) (Rows.sl (i:=i) (st.aF 1 rfl) (by simp;omega)) rfl (by simp;omega)) (WD.val (v:= .ptr (slB v2) (slO v2+i * 7+6)) (L.ak rfl) (WD.val (v:= .int .i64 (y.at_:Int)) (L.load rfl (Rows.iA (j:=6) (row:=y.row) (st.aF 1 rfl) (by rw [List.getElem?_map,hy];rfl) rfl)) ?_))))
   refine WD.ifS (L.neq rfl rfl) (fun _ c3=>by exfalso;omega) (fun _ c3=> ?_)
   refine WD.nil (WP.cond (t:=false) rfl (WP.skip (WP.reg (WO.aA (v:= .int .i64 ((i+1:Nat):Int)) (L.kC rfl rfl (by omega) (And.intro (by omega) (by omega))) (WO.nil ?_)))))
   exact ⟨i+1,(by omega),x3,(.bool true),(.bool false),by omega,by kernel_rfl,st⟩
  ·replace c2:¬(i<es.length):=by omega
   refine WO.no rfl (WO.aA (v:= .bool false) rfl (WO.nil (WP.cond (t:=false) rfl (WP.exit (WP.seq (WP.reg (WO.aA (v:= .bool true) rfl (WO.nil (WP.ret ?_)))))))))
   exact ⟨_,(av (aB (v:= .bool true) rfl) (aG _ _)),rfl,st.tail.tail⟩
end
end Go.Eng.YtjobofnpmmjeoaaDoor.Pq
namespace Go.Eng.YtjobofnpmmjeoaaDoor.Pq
open Go.Eng
noncomputable section
variable {c:Ctx}
theorem sms_c (h57:T.get 57 c.bJ=some i57) (h45:T.get 45 c.bJ=some i45) (h33:T.get 33 c.bJ=some i33) {N0:Nat} (hN:N0<4294967296):
 ∀(N:Nat),N≤N0→∀{b:Bool} {fs:List Fact} {h:Heap} {l l':List Sm} {v1 v2:V} (st:St (.stb (fun h=>pJ h v1 l):: .stb (fun h=>pJ h v2 l')::fs) h) (hsz:Sms.sz l≤N) (hl:lJ b l l'),bZ c 33 [v1,v2, .bool b] h fun v h1=>v= .bool true∧St fs h1:=by
 intro N
 induction N using Nat.strongRecOn
 rename_i N IH
 intro hNN b fs h l l' v1 v2 st hsz hl
 obtain ⟨rw,st⟩:=St.E8 st
 replace st:=(st.pick 2 rfl)
 obtain ⟨rw2,st⟩:=St.E8 st
 replace st:St (.stb (fun h=>Rows 12 h v1 rw):: .stb (fun h=>bH h l rw):: .stb (fun h=>Rows 12 h v2 rw2):: .stb (fun h=>bH h l' rw2)::fs) h:=(st.pick 3 rfl).pick 3 rfl
 have hr1:=(st.aF 1 rfl).len
 have hr2:=(st.aF 3 rfl).len
 have hll:=hl.len
 have hlz:=Sms.O6 l
 refine bZ.eZ h33 rfl (WP.seq (WP.reg ?_))
 cases b
 ·refine WO.aA (v:= .bool false) rfl (WO.nil (WP.seq (WP.seq (WP.reg (WO.val (v:= .int .i64 (l.length:Int)) (L.dO rfl (st.aF 0 rfl) (by omega)) (WO.val (v:= .int .i64 (l.length:Int)) (L.dO rfl (st.aF 2 rfl) (by omega)) (WO.ifS (L.neq rfl rfl) (fun c_=>absurd rfl c_) (fun c_=> ?_))))))))
  refine WO.nil (WP.cond (t:=false) rfl (WP.skip (WP.seq (WP.seq (WP.reg (WO.aA (v:= .int .i64 0) rfl (WO.nil (WP.block (WP.iW (α:=Nat) (fun i env h=>∃x3 x6 x7 x8 x9 x10 x11 x12 x13,(i≤l.length)∧env=dx [v1,v2, .bool false,x3, .bool false, .int .i64 (i:Int),x6,x7,x8,x9,x10,x11,x12,x13] 0 Env.nil∧St (.stb (fun h=>Rows 12 h v1 rw):: .stb (fun h=>bH h l rw):: .stb (fun h=>Rows 12 h v2 rw2):: .stb (fun h=>bH h l' rw2)::fs) h) (fun i=>l.length - i) 0 ?_ ?_)))))))))
  ·exact ⟨(.bool false), .bot, .bot, .bot, .bot, .bot, .bot, .bot, .bot,(Nat.zero_le _),by kernel_rfl,st⟩
  rintro i _ h ⟨x3,x6,x7,x8,x9,x10,x11,x12,x13,hi,rfl,st⟩
  refine WP.seq (WP.seq (WP.reg (WO.val (v:= .int .i64 (l.length:Int)) (L.dO rfl (st.aF 0 rfl) (by omega)) (WO.ifS (L.lss rfl rfl) (fun c1=> ?_) (fun c1=> ?_)))))
  ·replace c1:i<l.length:=by omega
   refine WO.nil (WP.cond (t:=true) rfl (WP.skip (WP.seq (WP.block (WP.seq (WP.draw (WD.val (v:=v1) rfl (WD.val (v:= .int .i64 (i:Int)) rfl ?_))))))))
   obtain ⟨s0,hs0⟩:∃s,l[i]? =some s:=⟨_,List.getElem?_eq_getElem c1⟩
   obtain ⟨s1,hs1,hse⟩:=hl.at_ hs0
   have hsz0:=Sms.O5 hs0
   cases hse with
   | @mk k a a2 m n lb hs tm t e e2 as as2 bd bd2 el el2 hat hee hase hbe hle=>
    obtain ⟨ve,va,vb,vl,hx,st⟩:=St.smAt (st.pick 1 rfl) hs0
    obtain ⟨ve2,va2,vb2,vl2,hy,st⟩:=St.smAt (st.pick 7 rfl) hs1
    obtain ⟨vs,st⟩:=St.argsAt (st.pick 6 rfl)
    obtain ⟨vs2,st⟩:=St.argsAt (st.pick 3 rfl)
    simp only [Sm.sz] at hsz0
    have hq1:=(st.aF 3 rfl).len
    have hq2:=(st.aF 1 rfl).len
    have hasl:=hase.1
    have hasz:=wL as
    refine WD.val (v:= .ptr (slB v1) (slO v1+i * 12)) (L.bI (i:=i) (Rows.sl (i:=i) (st.aF 12 rfl) (by omega)) rfl (by omega)) (WD.val (v:= .agg [.int .i64 (k:Int), .int .i64 (a:Int),L.str m,L.str n,L.str lb, .bool hs,L.str tm,L.str t,ve,va,vb,vl]) (L.bE rfl (Rows.fB (st.aF 12 rfl) hx)) (WD.val (v:=v2) rfl (WD.val (v:= .int .i64 (i:Int)) rfl (WD.val (v:= .ptr (slB v2) (slO v2+i * 12)) (L.bI (i:=i) (Rows.sl (i:=i) (st.aF 13 rfl) (by omega)) rfl (by omega)) (WD.val (v:= .agg [.int .i64 (k:Int), .int .i64 (a2:Int),L.str m,L.str n,L.str lb, .bool hs,L.str tm,L.str t,ve2,va2,vb2,vl2]) (L.bE rfl (Rows.fB (st.aF 13 rfl) hy)) (WD.dQ st L.alloc (fun b1 h st=> ?_)))))))
    refine WD.dQ st L.alloc (fun b2 h st=> ?_)
    refine WD.aH (row':=[.int .i64 (k:Int), .int .i64 (a:Int),L.str m,L.str n,L.str lb, .bool hs,L.str tm,L.str t,ve,va,vb,vl]) st 1 rfl rfl rfl rfl rfl rfl rfl (fun h st=>bB (by first|exact au (L.bE rfl (Rows.fB (st.aF 14 rfl) hx))|exact au (L.bE rfl (Rows.fB (st.aF 15 rfl) hy))|exact au (L.ay rfl (st.aj 0 rfl) rfl)|exact aC st 0 rfl|exact au (L.aI rfl (st.aj 0 rfl) rfl rfl rfl)|exact au (L.ay rfl (st.aj 1 rfl) rfl)|exact aC st 1 rfl|exact au (L.aI rfl (st.aj 1 rfl) rfl rfl rfl)) (dm _ _)) (fun h st=> ?_)
    refine WD.aH (row':=[.int .i64 (k:Int), .int .i64 (a2:Int),L.str m,L.str n,L.str lb, .bool hs,L.str tm,L.str t,ve2,va2,vb2,vl2]) st 0 rfl rfl rfl rfl rfl rfl rfl (fun h st=>rfl) (fun h st=> ?_)
    refine WD.nil (WP.seq (WP.seq (WP.reg (WO.val (v:= .ptr b1 0) (L.ak rfl) (WO.val (v:= .int .i64 (k:Int)) (L.ay rfl (st.aj 1 rfl) rfl) (WO.val (v:= .ptr b2 0) (L.ak rfl) (WO.val (v:= .int .i64 (k:Int)) (L.ay rfl (st.aj 0 rfl) rfl) (WO.ifV (L.neq rfl rfl) (fun c_=>absurd rfl c_) (fun c_=> ?_)))))))))
    refine WO.yes rfl (WO.val (v:= .bool false) rfl (WO.yes rfl (WO.val (v:= .bool false) rfl (WO.no rfl (WO.no rfl (WO.no rfl (WO.no rfl (WO.no rfl (WO.yes rfl (WO.val (v:= .bool false) rfl (WO.val (v:= .bool false) rfl (WO.yes rfl (WO.val (v:= .ptr b1 2) (L.ak rfl) (WO.yes rfl (WO.val (v:=L.str m) (L.ay rfl (st.aj 1 rfl) rfl) (WO.yes rfl (WO.val (v:= .ptr b2 2) (L.ak rfl) (WO.yes rfl (WO.val (v:=L.str m) (L.ay rfl (st.aj 0 rfl) rfl) (WO.yes rfl (WO.ifV (L.sne rfl rfl) (fun c_=>absurd rfl c_) (fun c_=> ?_))))))))))))))))))))))
    refine WO.val (v:= .bool false) rfl (WO.yes rfl (WO.val (v:= .ptr b1 3) (L.ak rfl) (WO.yes rfl (WO.val (v:=L.str n) (L.ay rfl (st.aj 1 rfl) rfl) (WO.yes rfl (WO.val (v:= .ptr b2 3) (L.ak rfl) (WO.yes rfl (WO.val (v:=L.str n) (L.ay rfl (st.aj 0 rfl) rfl) (WO.yes rfl (WO.ifV (L.sne rfl rfl) (fun c_=>absurd rfl c_) (fun c_=> ?_)))))))))))
    refine WO.val (v:= .bool false) rfl (WO.yes rfl (WO.val (v:= .ptr b1 4) (L.ak rfl) (WO.yes rfl (WO.val (v:=L.str lb) (L.ay rfl (st.aj 1 rfl) rfl) (WO.yes rfl (WO.val (v:= .ptr b2 4) (L.ak rfl) (WO.yes rfl (WO.val (v:=L.str lb) (L.ay rfl (st.aj 0 rfl) rfl) (WO.yes rfl (WO.ifV (L.sne rfl rfl) (fun c_=>absurd rfl c_) (fun c_=> ?_)))))))))))
    refine WO.val (v:= .bool false) rfl (WO.yes rfl (WO.val (v:= .ptr b1 5) (L.ak rfl) (WO.yes rfl (WO.val (v:= .bool hs) (L.ay rfl (st.aj 1 rfl) rfl) (WO.yes rfl (WO.val (v:= .ptr b2 5) (L.ak rfl) (WO.yes rfl (WO.val (v:= .bool hs) (L.ay rfl (st.aj 0 rfl) rfl) (WO.yes rfl (WO.val (v:= .bool false) (L.tO rfl rfl) (WO.val (v:= .bool false) rfl (WO.yes rfl (WO.val (v:= .ptr b1 6) (L.ak rfl) (WO.yes rfl (WO.val (v:=L.str tm) (L.ay rfl (st.aj 1 rfl) rfl) (WO.yes rfl (WO.val (v:= .ptr b2 6) (L.ak rfl) (WO.yes rfl (WO.val (v:=L.str tm) (L.ay rfl (st.aj 0 rfl) rfl) (WO.yes rfl (WO.ifV (L.sne rfl rfl) (fun c_=>absurd rfl c_) (fun c_=> ?_))))))))))))))))))))))
    refine WO.val (v:= .bool false) rfl (WO.yes rfl (WO.val (v:= .ptr b1 7) (L.ak rfl) (WO.yes rfl (WO.val (v:=L.str t) (L.ay rfl (st.aj 1 rfl) rfl) (WO.yes rfl (WO.val (v:= .ptr b2 7) (L.ak rfl) (WO.yes rfl (WO.val (v:=L.str t) (L.ay rfl (st.aj 0 rfl) rfl) (WO.yes rfl (WO.ifV (L.sne rfl rfl) (fun c_=>absurd rfl c_) (fun c_=> ?_)))))))))))
    refine WO.val (v:= .bool false) rfl (WO.yes rfl (WO.val (v:= .ptr b1 9) (L.ak rfl) (WO.yes rfl (WO.val (v:=va) (L.ay rfl (st.aj 1 rfl) rfl) (WO.yes rfl (WO.val (v:= .int .i64 (as.length:Int)) (L.dO rfl (st.aF 4 rfl) (by simp;omega)) (WO.yes rfl (WO.val (v:= .ptr b2 9) (L.ak rfl) (WO.yes rfl (WO.val (v:=va2) (L.ay rfl (st.aj 0 rfl) rfl) (WO.yes rfl (WO.val (v:= .int .i64 (as.length:Int)) (L.dO rfl (st.aF 2 rfl) (by simp;omega)) (WO.yes rfl (WO.ifV (L.neq rfl rfl) (fun c_=>absurd rfl c_) (fun c_=> ?_)))))))))))))))
    refine WO.aA (v:= .bool false) rfl (WO.nil (WP.cond (t:=false) rfl (WP.skip (WP.seq (WP.seq (WP.reg (WO.val (v:= .ptr b1 8) (L.ak rfl) (WO.val (v:=ve) (L.ay rfl (st.aj 1 rfl) rfl) (WO.val (v:= .ptr b2 8) (L.ak rfl) (WO.val (v:=ve2) (L.ay rfl (st.aj 0 rfl) rfl) (WO.bR rfl (Al h57 h45 (b:=false) (es:=e) (es':=e2) ((st.pick 6 rfl).pick 10 rfl) hee (by omega)) ?_)))))))))))
    rintro _ h ⟨rfl,st⟩
    refine WO.val (v:= .bool false) rfl (WO.yes rfl (WO.val (v:= .ptr b1 10) (L.ak rfl) (WO.yes rfl (WO.val (v:=vb) (L.ay rfl (st.aj 1 rfl) rfl) (WO.yes rfl (WO.val (v:= .ptr b2 10) (L.ak rfl) (WO.yes rfl (WO.val (v:=vb2) (L.ay rfl (st.aj 0 rfl) rfl) (WO.yes rfl (WO.val (v:= .bool false) rfl (WO.yes rfl (WO.bR rfl (IH (Sms.sz bd) (by omega) (by omega) ((st.pick 6 rfl).pick 9 rfl) (Nat.le_refl _) hbe) ?_))))))))))))
    rintro _ h ⟨rfl,st⟩
    refine WO.yes rfl (WO.val (v:= .bool false) rfl (WO.val (v:= .bool false) rfl (WO.yes rfl (WO.val (v:= .ptr b1 11) (L.ak rfl) (WO.yes rfl (WO.val (v:=vl) (L.ay rfl (st.aj 1 rfl) rfl) (WO.yes rfl (WO.val (v:= .ptr b2 11) (L.ak rfl) (WO.yes rfl (WO.val (v:=vl2) (L.ay rfl (st.aj 0 rfl) rfl) (WO.yes rfl (WO.val (v:= .bool false) rfl (WO.yes rfl (WO.bR rfl (IH (Sms.sz el) (by omega) (by omega) ((st.pick 6 rfl).pick 8 rfl) (Nat.le_refl _) hle) ?_))))))))))))))
    rintro _ h ⟨rfl,st⟩
    refine WO.yes rfl (WO.val (v:= .bool false) rfl (WO.aA (v:= .bool false) rfl (WO.nil (WP.cond (t:=false) rfl (WP.skip (WP.seq (WP.reg (WO.aA (v:= .int .i64 0) rfl (WO.nil (WP.block (WP.iW (α:=Nat) (fun j env h=>∃x3 x12 x13,(j≤as.length)∧env=dx [v1,v2, .bool false,x3, .bool false, .int .i64 (i:Int), .bool true, .ptr b1 0, .ptr b2 0, .bool false, .bool false, .int .i64 (j:Int),x12,x13] 0 Env.nil∧St (.box b2 [.int .i64 (k:Int), .int .i64 (a2:Int),L.str m,L.str n,L.str lb, .bool hs,L.str tm,L.str t,ve2,va2,vb2,vl2]:: .box b1 [.int .i64 (k:Int), .int .i64 (a:Int),L.str m,L.str n,L.str lb, .bool hs,L.str tm,L.str t,ve,va,vb,vl]:: .stb (fun h=>Rows 1 h va2 (vs2.map fun x=>[x])):: .stb (fun h=>dh h as2 vs2):: .stb (fun h=>Rows 1 h va (vs.map fun x=>[x])):: .stb (fun h=>dh h as vs):: .stb (fun h=>bH h l' rw2):: .stb (fun h=>bH h l rw):: .stb (fun h=>Rows 12 h v1 rw):: .stb (fun h=>Rows 12 h v2 rw2)::fs) h) (fun j=>as.length - j) 0 ?_ ?_)))))))))))
    ·exact ⟨x3,x12,x13,(Nat.zero_le _),by kernel_rfl,st⟩
    rintro j _ h ⟨x3,x12,x13,hj,rfl,st⟩
    refine WP.seq (WP.seq (WP.reg (WO.val (v:= .ptr b1 9) (L.ak rfl) (WO.val (v:=va) (L.ay rfl (st.aj 1 rfl) rfl) (WO.val (v:= .int .i64 (as.length:Int)) (L.dO rfl (st.aF 4 rfl) (by simp;omega)) (WO.ifS (L.lss rfl rfl) (fun c2=> ?_) (fun c2=> ?_)))))))
    ·replace c2:j<as.length:=by omega
     refine WO.nil (WP.cond (t:=true) rfl (WP.skip (WP.seq (WP.block (WP.seq (WP.draw (WD.val (v:= .ptr b1 9) (L.ak rfl) ?_)))))))
     obtain ⟨x,hxj⟩:∃x,as[j]? =some x:=⟨_,List.getElem?_eq_getElem (by omega)⟩
     obtain ⟨y,hyj⟩:∃y,as2[j]? =some y:=⟨_,List.getElem?_eq_getElem (by omega)⟩
     have hxl:=yV hxj
     obtain ⟨wx,hwx,st⟩:=St.KV (st.pick 5 rfl) hxj
     obtain ⟨wy,hwy,st⟩:=St.KV (st.pick 5 rfl) hyj
     refine WD.val (v:=va) (L.ay rfl (st.aj 5 rfl) rfl) (WD.val (v:= .int .i64 (j:Int)) rfl (WD.val (v:= .ptr (slB va) (slO va+j * 1)) (L.bI (i:=j) (Rows.sl (i:=j) (st.aF 7 rfl) (by simp;omega)) rfl (by simp;omega)) (WD.val (v:=wx) (L.load rfl (Rows.yH (st.aF 7 rfl) (by rw [List.getElem?_map,hwx];rfl))) ?_)))
     refine WD.val (v:= .ptr b2 9) (L.ak rfl) (WD.val (v:=va2) (L.ay rfl (st.aj 4 rfl) rfl) (WD.val (v:= .int .i64 (j:Int)) rfl (WD.val (v:= .ptr (slB va2) (slO va2+j * 1)) (L.bI (i:=j) (Rows.sl (i:=j) (st.aF 6 rfl) (by simp;omega)) rfl (by simp;omega)) (WD.val (v:=wy) (L.load rfl (Rows.yH (st.aF 6 rfl) (by rw [List.getElem?_map,hwy];rfl))) ?_))))
     refine WD.val (v:= .bool false) rfl (WD.bR rfl (Al h57 h45 (b:=false) (es:=x) (es':=y) (st.pick 2 rfl) (hase.2 j x y hxj hyj) (by omega)) (fun _ _ _=>rfl) ?_)
     rintro _ h ⟨rfl,st⟩
     refine WD.aA (v:= .bool false) rfl (WD.nil (WP.cond (t:=false) rfl (WP.skip (WP.reg (WO.aA (v:= .int .i64 ((j+1:Nat):Int)) (L.kC rfl rfl (by omega) (And.intro (by omega) (by omega))) (WO.nil ?_))))))
     exact ⟨j+1,(by omega),x3,(.bool true),(.bool false),by omega,by kernel_rfl,(((((st.pick 5 rfl).pick 1 rfl).pick 5 rfl).pick 5 rfl).pick 5 rfl)⟩
    ·replace c2:¬(j<as.length):=by omega
     refine WO.nil (WP.cond (t:=false) rfl (WP.exit (WP.reg (WO.aA (v:= .int .i64 ((i+1:Nat):Int)) (L.kC rfl rfl (by omega) (And.intro (by omega) (by omega))) (WO.nil ?_)))))
     exact ⟨i+1,(by omega),x3,(.bool true),(.ptr b1 0),(.ptr b2 0),(.bool false),(.bool false),(.int .i64 (j:Int)),(.bool false),x13,by omega,by kernel_rfl,(((st.tail.tail.tail.tail.tail.tail.pick 3 rfl).pick 2 rfl).pick 3 rfl)⟩
  ·replace c1:¬(i<l.length):=by omega
   refine WO.nil (WP.cond (t:=false) rfl (WP.exit (WP.seq (WP.reg (WO.aA (v:= .bool true) rfl (WO.nil (WP.ret ?_)))))))
   exact ⟨_,(av (aB (v:= .bool true) rfl) (aG _ _)),rfl,st.tail.tail.tail.tail⟩
 ·refine WO.aA (v:= .bool false) rfl (WO.nil (WP.seq (WP.seq (WP.reg (WO.val (v:= .int .i64 (l.length:Int)) (L.dO rfl (st.aF 0 rfl) (by omega)) (WO.val (v:= .int .i64 (l.length:Int)) (L.dO rfl (st.aF 2 rfl) (by omega)) (WO.ifS (L.neq rfl rfl) (fun c_=>absurd rfl c_) (fun c_=> ?_))))))))
  refine WO.nil (WP.cond (t:=false) rfl (WP.skip (WP.seq (WP.seq (WP.reg (WO.aA (v:= .int .i64 0) rfl (WO.nil (WP.block (WP.iW (α:=Nat) (fun i env h=>∃x3 x6 x7 x8 x9 x10 x11 x12 x13,(i≤l.length)∧env=dx [v1,v2, .bool true,x3, .bool false, .int .i64 (i:Int),x6,x7,x8,x9,x10,x11,x12,x13] 0 Env.nil∧St (.stb (fun h=>Rows 12 h v1 rw):: .stb (fun h=>bH h l rw):: .stb (fun h=>Rows 12 h v2 rw2):: .stb (fun h=>bH h l' rw2)::fs) h) (fun i=>l.length - i) 0 ?_ ?_)))))))))
  ·exact ⟨(.bool false), .bot, .bot, .bot, .bot, .bot, .bot, .bot, .bot,(Nat.zero_le _),by kernel_rfl,st⟩
  rintro i _ h ⟨x3,x6,x7,x8,x9,x10,x11,x12,x13,hi,rfl,st⟩
  refine WP.seq (WP.seq (WP.reg (WO.val (v:= .int .i64 (l.length:Int)) (L.dO rfl (st.aF 0 rfl) (by omega)) (WO.ifS (L.lss rfl rfl) (fun c3=> ?_) (fun c3=> ?_)))))
  ·replace c3:i<l.length:=by omega
   refine WO.nil (WP.cond (t:=true) rfl (WP.skip (WP.seq (WP.block (WP.seq (WP.draw (WD.val (v:=v1) rfl (WD.val (v:= .int .i64 (i:Int)) rfl ?_))))))))
   obtain ⟨s0,hs0⟩:∃s,l[i]? =some s:=⟨_,List.getElem?_eq_getElem c3⟩
   obtain ⟨s1,hs1,hse⟩:=hl.at_ hs0
   have hsz0:=Sms.O5 hs0
   cases hse with
   | @mk k a a2 m n lb hs tm t e e2 as as2 bd bd2 el el2 hat hee hase hbe hle=>
    obtain ⟨ve,va,vb,vl,hx,st⟩:=St.smAt (st.pick 1 rfl) hs0
    obtain ⟨ve2,va2,vb2,vl2,hy,st⟩:=St.smAt (st.pick 7 rfl) hs1
    obtain ⟨vs,st⟩:=St.argsAt (st.pick 6 rfl)
    obtain ⟨vs2,st⟩:=St.argsAt (st.pick 3 rfl)
    simp only [Sm.sz] at hsz0
    have hq1:=(st.aF 3 rfl).len
    have hq2:=(st.aF 1 rfl).len
    have hasl:=hase.1
    have hasz:=wL as
    refine WD.val (v:= .ptr (slB v1) (slO v1+i * 12)) (L.bI (i:=i) (Rows.sl (i:=i) (st.aF 12 rfl) (by omega)) rfl (by omega)) (WD.val (v:= .agg [.int .i64 (k:Int), .int .i64 (a:Int),L.str m,L.str n,L.str lb, .bool hs,L.str tm,L.str t,ve,va,vb,vl]) (L.bE rfl (Rows.fB (st.aF 12 rfl) hx)) (WD.val (v:=v2) rfl (WD.val (v:= .int .i64 (i:Int)) rfl (WD.val (v:= .ptr (slB v2) (slO v2+i * 12)) (L.bI (i:=i) (Rows.sl (i:=i) (st.aF 13 rfl) (by omega)) rfl (by omega)) (WD.val (v:= .agg [.int .i64 (k:Int), .int .i64 (a2:Int),L.str m,L.str n,L.str lb, .bool hs,L.str tm,L.str t,ve2,va2,vb2,vl2]) (L.bE rfl (Rows.fB (st.aF 13 rfl) hy)) (WD.dQ st L.alloc (fun b1 h st=> ?_)))))))
    refine WD.dQ st L.alloc (fun b2 h st=> ?_)
    refine WD.aH (row':=[.int .i64 (k:Int), .int .i64 (a:Int),L.str m,L.str n,L.str lb, .bool hs,L.str tm,L.str t,ve,va,vb,vl]) st 1 rfl rfl rfl rfl rfl rfl rfl (fun h st=>bB (by first|exact au (L.bE rfl (Rows.fB (st.aF 14 rfl) hx))|exact au (L.bE rfl (Rows.fB (st.aF 15 rfl) hy))|exact au (L.ay rfl (st.aj 0 rfl) rfl)|exact aC st 0 rfl|exact au (L.aI rfl (st.aj 0 rfl) rfl rfl rfl)|exact au (L.ay rfl (st.aj 1 rfl) rfl)|exact aC st 1 rfl|exact au (L.aI rfl (st.aj 1 rfl) rfl rfl rfl)) (dm _ _)) (fun h st=> ?_)
    refine WD.aH (row':=[.int .i64 (k:Int), .int .i64 (a2:Int),L.str m,L.str n,L.str lb, .bool hs,L.str tm,L.str t,ve2,va2,vb2,vl2]) st 0 rfl rfl rfl rfl rfl rfl rfl (fun h st=>rfl) (fun h st=> ?_)
    refine WD.nil (WP.seq (WP.seq (WP.reg (WO.val (v:= .ptr b1 0) (L.ak rfl) (WO.val (v:= .int .i64 (k:Int)) (L.ay rfl (st.aj 1 rfl) rfl) (WO.val (v:= .ptr b2 0) (L.ak rfl) (WO.val (v:= .int .i64 (k:Int)) (L.ay rfl (st.aj 0 rfl) rfl) (WO.ifV (L.neq rfl rfl) (fun c_=>absurd rfl c_) (fun c_=> ?_)))))))))
    refine WO.yes rfl (WO.val (v:= .bool true) rfl (WO.yes rfl (WO.val (v:= .bool true) rfl (WO.yes rfl (WO.val (v:= .ptr b1 1) (L.ak rfl) (WO.yes rfl (WO.val (v:= .int .i64 (a:Int)) (L.ay rfl (st.aj 1 rfl) rfl) (WO.yes rfl (WO.val (v:= .ptr b2 1) (L.ak rfl) (WO.yes rfl (WO.val (v:= .int .i64 (a2:Int)) (L.ay rfl (st.aj 0 rfl) rfl) (WO.yes rfl (WO.ifV (L.neq rfl rfl) (fun c_=>absurd (by have:=hat rfl;omega) c_) (fun c_=> ?_))))))))))))))
    refine WO.yes rfl (WO.val (v:= .bool false) rfl (WO.val (v:= .bool false) rfl (WO.yes rfl (WO.val (v:= .ptr b1 2) (L.ak rfl) (WO.yes rfl (WO.val (v:=L.str m) (L.ay rfl (st.aj 1 rfl) rfl) (WO.yes rfl (WO.val (v:= .ptr b2 2) (L.ak rfl) (WO.yes rfl (WO.val (v:=L.str m) (L.ay rfl (st.aj 0 rfl) rfl) (WO.yes rfl (WO.ifV (L.sne rfl rfl) (fun c_=>absurd rfl c_) (fun c_=> ?_)))))))))))))
    refine WO.val (v:= .bool false) rfl (WO.yes rfl (WO.val (v:= .ptr b1 3) (L.ak rfl) (WO.yes rfl (WO.val (v:=L.str n) (L.ay rfl (st.aj 1 rfl) rfl) (WO.yes rfl (WO.val (v:= .ptr b2 3) (L.ak rfl) (WO.yes rfl (WO.val (v:=L.str n) (L.ay rfl (st.aj 0 rfl) rfl) (WO.yes rfl (WO.ifV (L.sne rfl rfl) (fun c_=>absurd rfl c_) (fun c_=> ?_)))))))))))
    refine WO.val (v:= .bool false) rfl (WO.yes rfl (WO.val (v:= .ptr b1 4) (L.ak rfl) (WO.yes rfl (WO.val (v:=L.str lb) (L.ay rfl (st.aj 1 rfl) rfl) (WO.yes rfl (WO.val (v:= .ptr b2 4) (L.ak rfl) (WO.yes rfl (WO.val (v:=L.str lb) (L.ay rfl (st.aj 0 rfl) rfl) (WO.yes rfl (WO.ifV (L.sne rfl rfl) (fun c_=>absurd rfl c_) (fun c_=> ?_)))))))))))
    refine WO.val (v:= .bool false) rfl (WO.yes rfl (WO.val (v:= .ptr b1 5) (L.ak rfl) (WO.yes rfl (WO.val (v:= .bool hs) (L.ay rfl (st.aj 1 rfl) rfl) (WO.yes rfl (WO.val (v:= .ptr b2 5) (L.ak rfl) (WO.yes rfl (WO.val (v:= .bool hs) (L.ay rfl (st.aj 0 rfl) rfl) (WO.yes rfl (WO.val (v:= .bool false) (L.tO rfl rfl) (WO.val (v:= .bool false) rfl (WO.yes rfl (WO.val (v:= .ptr b1 6) (L.ak rfl) (WO.yes rfl (WO.val (v:=L.str tm) (L.ay rfl (st.aj 1 rfl) rfl) (WO.yes rfl (WO.val (v:= .ptr b2 6) (L.ak rfl) (WO.yes rfl (WO.val (v:=L.str tm) (L.ay rfl (st.aj 0 rfl) rfl) (WO.yes rfl (WO.ifV (L.sne rfl rfl) (fun c_=>absurd rfl c_) (fun c_=> ?_))))))))))))))))))))))
    refine WO.val (v:= .bool false) rfl (WO.yes rfl (WO.val (v:= .ptr b1 7) (L.ak rfl) (WO.yes rfl (WO.val (v:=L.str t) (L.ay rfl (st.aj 1 rfl) rfl) (WO.yes rfl (WO.val (v:= .ptr b2 7) (L.ak rfl) (WO.yes rfl (WO.val (v:=L.str t) (L.ay rfl (st.aj 0 rfl) rfl) (WO.yes rfl (WO.ifV (L.sne rfl rfl) (fun c_=>absurd rfl c_) (fun c_=> ?_)))))))))))
    refine WO.val (v:= .bool false) rfl (WO.yes rfl (WO.val (v:= .ptr b1 9) (L.ak rfl) (WO.yes rfl (WO.val (v:=va) (L.ay rfl (st.aj 1 rfl) rfl) (WO.yes rfl (WO.val (v:= .int .i64 (as.length:Int)) (L.dO rfl (st.aF 4 rfl) (by simp;omega)) (WO.yes rfl (WO.val (v:= .ptr b2 9) (L.ak rfl) (WO.yes rfl (WO.val (v:=va2) (L.ay rfl (st.aj 0 rfl) rfl) (WO.yes rfl (WO.val (v:= .int .i64 (as.length:Int)) (L.dO rfl (st.aF 2 rfl) (by simp;omega)) (WO.yes rfl (WO.ifV (L.neq rfl rfl) (fun c_=>absurd rfl c_) (fun c_=> ?_)))))))))))))))
    refine WO.aA (v:= .bool false) rfl (WO.nil (WP.cond (t:=false) rfl (WP.skip (WP.seq (WP.seq (WP.reg (WO.val (v:= .ptr b1 8) (L.ak rfl) (WO.val (v:=ve) (L.ay rfl (st.aj 1 rfl) rfl) (WO.val (v:= .ptr b2 8) (L.ak rfl) (WO.val (v:=ve2) (L.ay rfl (st.aj 0 rfl) rfl) (WO.bR rfl (Al h57 h45 (b:=true) (es:=e) (es':=e2) ((st.pick 6 rfl).pick 10 rfl) hee (by omega)) ?_)))))))))))
    rintro _ h ⟨rfl,st⟩
    refine WO.val (v:= .bool false) rfl (WO.yes rfl (WO.val (v:= .ptr b1 10) (L.ak rfl) (WO.yes rfl (WO.val (v:=vb) (L.ay rfl (st.aj 1 rfl) rfl) (WO.yes rfl (WO.val (v:= .ptr b2 10) (L.ak rfl) (WO.yes rfl (WO.val (v:=vb2) (L.ay rfl (st.aj 0 rfl) rfl) (WO.yes rfl (WO.val (v:= .bool true) rfl (WO.yes rfl (WO.bR rfl (IH (Sms.sz bd) (by omega) (by omega) ((st.pick 6 rfl).pick 9 rfl) (Nat.le_refl _) hbe) ?_))))))))))))
    rintro _ h ⟨rfl,st⟩
    refine WO.yes rfl (WO.val (v:= .bool false) rfl (WO.val (v:= .bool false) rfl (WO.yes rfl (WO.val (v:= .ptr b1 11) (L.ak rfl) (WO.yes rfl (WO.val (v:=vl) (L.ay rfl (st.aj 1 rfl) rfl) (WO.yes rfl (WO.val (v:= .ptr b2 11) (L.ak rfl) (WO.yes rfl (WO.val (v:=vl2) (L.ay rfl (st.aj 0 rfl) rfl) (WO.yes rfl (WO.val (v:= .bool true) rfl (WO.yes rfl (WO.bR rfl (IH (Sms.sz el) (by omega) (by omega) ((st.pick 6 rfl).pick 8 rfl) (Nat.le_refl _) hle) ?_))))))))))))))
    rintro _ h ⟨rfl,st⟩
    refine WO.yes rfl (WO.val (v:= .bool false) rfl (WO.aA (v:= .bool false) rfl (WO.nil (WP.cond (t:=false) rfl (WP.skip (WP.seq (WP.reg (WO.aA (v:= .int .i64 0) rfl (WO.nil (WP.block (WP.iW (α:=Nat) (fun j env h=>∃x3 x12 x13,(j≤as.length)∧env=dx [v1,v2, .bool true,x3, .bool false, .int .i64 (i:Int), .bool true, .ptr b1 0, .ptr b2 0, .bool false, .bool false, .int .i64 (j:Int),x12,x13] 0 Env.nil∧St (.box b2 [.int .i64 (k:Int), .int .i64 (a2:Int),L.str m,L.str n,L.str lb, .bool hs,L.str tm,L.str t,ve2,va2,vb2,vl2]:: .box b1 [.int .i64 (k:Int), .int .i64 (a:Int),L.str m,L.str n,L.str lb, .bool hs,L.str tm,L.str t,ve,va,vb,vl]:: .stb (fun h=>Rows 1 h va2 (vs2.map fun x=>[x])):: .stb (fun h=>dh h as2 vs2):: .stb (fun h=>Rows 1 h va (vs.map fun x=>[x])):: .stb (fun h=>dh h as vs):: .stb (fun h=>bH h l' rw2):: .stb (fun h=>bH h l rw):: .stb (fun h=>Rows 12 h v1 rw):: .stb (fun h=>Rows 12 h v2 rw2)::fs) h) (fun j=>as.length - j) 0 ?_ ?_)))))))))))
    ·exact ⟨x3,x12,x13,(Nat.zero_le _),by kernel_rfl,st⟩
    rintro j _ h ⟨x3,x12,x13,hj,rfl,st⟩
    refine WP.seq (WP.seq (WP.reg (WO.val (v:= .ptr b1 9) (L.ak rfl) (WO.val (v:=va) (L.ay rfl (st.aj 1 rfl) rfl) (WO.val (v:= .int .i64 (as.length:Int)) (L.dO rfl (st.aF 4 rfl) (by simp;omega)) (WO.ifS (L.lss rfl rfl) (fun c4=> ?_) (fun c4=> ?_)))))))
    ·replace c4:j<as.length:=by omega
     refine WO.nil (WP.cond (t:=true) rfl (WP.skip (WP.seq (WP.block (WP.seq (WP.draw (WD.val (v:= .ptr b1 9) (L.ak rfl) ?_)))))))
     obtain ⟨x,hxj⟩:∃x,as[j]? =some x:=⟨_,List.getElem?_eq_getElem (by omega)⟩
     obtain ⟨y,hyj⟩:∃y,as2[j]? =some y:=⟨_,List.getElem?_eq_getElem (by omega)⟩
     have hxl:=yV hxj
     obtain ⟨wx,hwx,st⟩:=St.KV (st.pick 5 rfl) hxj
     obtain ⟨wy,hwy,st⟩:=St.KV (st.pick 5 rfl) hyj
     refine WD.val (v:=va) (L.ay rfl (st.aj 5 rfl) rfl) (WD.val (v:= .int .i64 (j:Int)) rfl (WD.val (v:= .ptr (slB va) (slO va+j * 1)) (L.bI (i:=j) (Rows.sl (i:=j) (st.aF 7 rfl) (by simp;omega)) rfl (by simp;omega)) (WD.val (v:=wx) (L.load rfl (Rows.yH (st.aF 7 rfl) (by rw [List.getElem?_map,hwx];rfl))) ?_)))
     refine WD.val (v:= .ptr b2 9) (L.ak rfl) (WD.val (v:=va2) (L.ay rfl (st.aj 4 rfl) rfl) (WD.val (v:= .int .i64 (j:Int)) rfl (WD.val (v:= .ptr (slB va2) (slO va2+j * 1)) (L.bI (i:=j) (Rows.sl (i:=j) (st.aF 6 rfl) (by simp;omega)) rfl (by simp;omega)) (WD.val (v:=wy) (L.load rfl (Rows.yH (st.aF 6 rfl) (by rw [List.getElem?_map,hwy];rfl))) ?_))))
     refine WD.val (v:= .bool true) rfl (WD.bR rfl (Al h57 h45 (b:=true) (es:=x) (es':=y) (st.pick 2 rfl) (hase.2 j x y hxj hyj) (by omega)) (fun _ _ _=>rfl) ?_)
     rintro _ h ⟨rfl,st⟩
     refine WD.aA (v:= .bool false) rfl (WD.nil (WP.cond (t:=false) rfl (WP.skip (WP.reg (WO.aA (v:= .int .i64 ((j+1:Nat):Int)) (L.kC rfl rfl (by omega) (And.intro (by omega) (by omega))) (WO.nil ?_))))))
     exact ⟨j+1,(by omega),x3,(.bool true),(.bool false),by omega,by kernel_rfl,(((((st.pick 5 rfl).pick 1 rfl).pick 5 rfl).pick 5 rfl).pick 5 rfl)⟩
    ·replace c4:¬(j<as.length):=by omega
     refine WO.nil (WP.cond (t:=false) rfl (WP.exit (WP.reg (WO.aA (v:= .int .i64 ((i+1:Nat):Int)) (L.kC rfl rfl (by omega) (And.intro (by omega) (by omega))) (WO.nil ?_)))))
     exact ⟨i+1,(by omega),x3,(.bool true),(.ptr b1 0),(.ptr b2 0),(.bool false),(.bool false),(.int .i64 (j:Int)),(.bool false),x13,by omega,by kernel_rfl,(((st.tail.tail.tail.tail.tail.tail.pick 3 rfl).pick 2 rfl).pick 3 rfl)⟩
  ·replace c3:¬(i<l.length):=by omega
   refine WO.nil (WP.cond (t:=false) rfl (WP.exit (WP.seq (WP.reg (WO.aA (v:= .bool true) rfl (WO.nil (WP.ret ?_)))))))
   exact ⟨_,(av (aB (v:= .bool true) rfl) (aG _ _)),rfl,st.tail.tail.tail.tail⟩
end
end Go.Eng.YtjobofnpmmjeoaaDoor.Pq
namespace Go.Eng.YtjobofnpmmjeoaaDoor.Pq
open Go.Eng
noncomputable section
variable {c:Ctx}
theorem cmpmd_t (h32:T.get 32 c.bJ=some i32) (h57:T.get 57 c.bJ=some i57) (h45:T.get 45 c.bJ=some i45) (h33:T.get 33 c.bJ=some i33) (h19:T.get 19 c.bJ=some i19) {fs:List Fact} {h:Heap} {m m':Md} {row row':List V} (st:St (.stb (fun h=>MdR h m row):: .stb (fun h=>MdR h m' row')::fs) h) (he:O8 true m m') (hf:G8 m):
 bZ c 19 [.agg row, .agg row', .bool true] h fun v h1=>v= .bool true∧St fs h1:=by
 obtain ⟨vi,vv,vp0,rw,hrow,st1⟩:=St.mdAt st
 subst hrow
 replace st:St (.stb (fun h=>MdR h m' row'):: .stb (fun h=>Rows 2 h vi (m.imports.map Im.row)):: .stb (fun h=>Rows 4 h vv (m.vars.map Vr.row)):: .stb (fun h=>Rows 8 h vp0 rw):: .stb (fun h=>cB h m.procs rw)::fs) h:=st1.pick 4 rfl
 obtain ⟨vi2,vv2,vp02,rw2,hrow2,st2⟩:=St.mdAt st
 subst hrow2
 clear st
 have st:St (.stb (fun h=>Rows 2 h vi (m.imports.map Im.row)):: .stb (fun h=>Rows 4 h vv (m.vars.map Vr.row)):: .stb (fun h=>Rows 8 h vp0 rw):: .stb (fun h=>cB h m.procs rw):: .stb (fun h=>Rows 2 h vi2 (m'.imports.map Im.row)):: .stb (fun h=>Rows 4 h vv2 (m'.vars.map Vr.row)):: .stb (fun h=>Rows 8 h vp02 rw2):: .stb (fun h=>cB h m'.procs rw2)::fs) h:=(((st2.pick 7 rfl).pick 7 rfl).pick 7 rfl).pick 7 rfl
 have hil:=he.imports.len
 have hvl:=he.vars.len
 have hpl0:=he.procs.len
 have hfi:=hf.imports
 have hfv:=hf.vars
 have hfp:=hf.procs
 have hr1:=(st.aF 3 rfl).len
 have hr2:=(st.aF 7 rfl).len
 refine bZ.eZ h19 rfl (WP.seq (WP.reg (WO.dQ st (L.box (l:=[L.str m.name, .int .i64 (m.at_:Int),vi,vv,vp0]) rfl rfl) (fun m1 h st=> ?_))))
 refine WO.dQ st (L.box (l:=[L.str m'.name, .int .i64 (m'.at_:Int),vi2,vv2,vp02]) rfl rfl) (fun m2 h st=> ?_)
 refine WO.aA (v:= .bool false) rfl (WO.nil (WP.seq (WP.seq (WP.reg (WO.val (v:= .ptr m1 0) (L.ak rfl) (WO.val (v:=L.str m.name) (L.ay rfl (st.aj 1 rfl) rfl) (WO.val (v:= .ptr m2 0) (L.ak rfl) (WO.val (v:=L.str m'.name) (L.ay rfl (st.aj 0 rfl) rfl) (WO.ifV (L.sne rfl rfl) (fun c_=>absurd (by exact he.name) c_) (fun c_=> ?_))))))))))
 refine WO.yes rfl (WO.val (v:= .bool true) rfl (WO.yes rfl (WO.val (v:= .bool true) rfl (WO.yes rfl (WO.val (v:= .ptr m1 1) (L.ak rfl) (WO.yes rfl (WO.val (v:= .int .i64 (m.at_:Int)) (L.ay rfl (st.aj 1 rfl) rfl) (WO.yes rfl (WO.val (v:= .ptr m2 1) (L.ak rfl) (WO.yes rfl (WO.val (v:= .int .i64 (m'.at_:Int)) (L.ay rfl (st.aj 0 rfl) rfl) (WO.yes rfl (WO.ifV (L.neq rfl rfl) (fun c_=>absurd (by have:=he.at_ rfl;omega) c_) (fun c_=> ?_))))))))))))))
 refine WO.yes rfl (WO.val (v:= .bool false) rfl (WO.val (v:= .bool false) rfl (WO.yes rfl (WO.val (v:= .ptr m1 2) (L.ak rfl) (WO.yes rfl (WO.val (v:=vi) (L.ay rfl (st.aj 1 rfl) rfl) (WO.yes rfl (WO.val (v:= .int .i64 (m.imports.length:Int)) (L.dO rfl (st.aF 2 rfl) (by simp)) (WO.yes rfl (WO.val (v:= .ptr m2 2) (L.ak rfl) (WO.yes rfl (WO.val (v:=vi2) (L.ay rfl (st.aj 0 rfl) rfl) (WO.yes rfl (WO.val (v:= .int .i64 (m.imports.length:Int)) (L.dO rfl (st.aF 6 rfl) (by simp [hil])) (WO.yes rfl (WO.ifV (L.neq rfl rfl) (fun c_=>absurd rfl c_) (fun c_=> ?_)))))))))))))))))
 refine WO.val (v:= .bool false) rfl (WO.yes rfl (WO.val (v:= .ptr m1 3) (L.ak rfl) (WO.yes rfl (WO.val (v:=vv) (L.ay rfl (st.aj 1 rfl) rfl) (WO.yes rfl (WO.val (v:= .int .i64 (m.vars.length:Int)) (L.dO rfl (st.aF 3 rfl) (by simp)) (WO.yes rfl (WO.val (v:= .ptr m2 3) (L.ak rfl) (WO.yes rfl (WO.val (v:=vv2) (L.ay rfl (st.aj 0 rfl) rfl) (WO.yes rfl (WO.val (v:= .int .i64 (m.vars.length:Int)) (L.dO rfl (st.aF 7 rfl) (by simp [hvl])) (WO.yes rfl (WO.ifV (L.neq rfl rfl) (fun c_=>absurd rfl c_) (fun c_=> ?_)))))))))))))))
 refine WO.val (v:= .bool false) rfl (WO.yes rfl (WO.val (v:= .ptr m1 4) (L.ak rfl) (WO.yes rfl (WO.val (v:=vp0) (L.ay rfl (st.aj 1 rfl) rfl) (WO.yes rfl (WO.val (v:= .int .i64 (m.procs.length:Int)) (L.dO rfl (st.aF 4 rfl) (by omega)) (WO.yes rfl (WO.val (v:= .ptr m2 4) (L.ak rfl) (WO.yes rfl (WO.val (v:=vp02) (L.ay rfl (st.aj 0 rfl) rfl) (WO.yes rfl (WO.val (v:= .int .i64 (m.procs.length:Int)) (L.dO rfl (st.aF 8 rfl) (by omega)) (WO.yes rfl (WO.ifV (L.neq rfl rfl) (fun c_=>absurd rfl c_) (fun c_=> ?_)))))))))))))))
 refine WO.aA (v:= .bool false) rfl (WO.nil (WP.cond (t:=false) rfl (WP.skip (WP.seq (WP.seq (WP.reg (WO.aA (v:= .int .i64 0) rfl (WO.nil (WP.block (WP.iW (α:=Nat) (fun i1 env h=>∃x3 x8 x9,(i1≤m.imports.length)∧env=dx [.agg [L.str m.name, .int .i64 (m.at_:Int),vi,vv,vp0], .agg [L.str m'.name, .int .i64 (m'.at_:Int),vi2,vv2,vp02], .bool true,x3, .ptr m1 0, .ptr m2 0, .bool false, .int .i64 (i1:Int),x8,x9] 0 Env.nil∧St (.box m2 [L.str m'.name, .int .i64 (m'.at_:Int),vi2,vv2,vp02]:: .box m1 [L.str m.name, .int .i64 (m.at_:Int),vi,vv,vp0]:: .stb (fun h=>Rows 2 h vi (m.imports.map Im.row)):: .stb (fun h=>Rows 4 h vv (m.vars.map Vr.row)):: .stb (fun h=>Rows 8 h vp0 rw):: .stb (fun h=>cB h m.procs rw):: .stb (fun h=>Rows 2 h vi2 (m'.imports.map Im.row)):: .stb (fun h=>Rows 4 h vv2 (m'.vars.map Vr.row)):: .stb (fun h=>Rows 8 h vp02 rw2):: .stb (fun h=>cB h m'.procs rw2)::fs) h) (fun i1=>m.imports.length - i1) 0 ?_ ?_))))))))))
 ·exact ⟨(.bool false), .bot, .bot,(Nat.zero_le _),by kernel_rfl,st⟩
 rintro i1 _ h ⟨x3,x8,x9,hi1,rfl,st⟩
 refine WP.seq (WP.seq (WP.reg (WO.val (v:= .ptr m1 2) (L.ak rfl) (WO.val (v:=vi) (L.ay rfl (st.aj 1 rfl) rfl) (WO.val (v:= .int .i64 (m.imports.length:Int)) (L.dO rfl (st.aF 2 rfl) (by simp)) (WO.ifS (L.lss rfl rfl) (fun c1=> ?_) (fun c1=> ?_)))))))
 ·replace c1:i1<m.imports.length:=by omega
  refine WO.nil (WP.cond (t:=true) rfl (WP.skip (WP.seq (WP.block (WP.seq (WP.draw (WD.val (v:= .ptr m1 2) (L.ak rfl) (WD.val (v:=vi) (L.ay rfl (st.aj 1 rfl) rfl) (WD.val (v:= .int .i64 (i1:Int)) rfl ?_)))))))))
  obtain ⟨x,hx⟩:∃z_,m.imports[i1]? =some z_:=⟨_,List.getElem?_eq_getElem (by omega)⟩
  obtain ⟨y,hy⟩:∃z_,m'.imports[i1]? =some z_:=⟨_,List.getElem?_eq_getElem (by have:=he.imports.len;omega)⟩
  have hxy:=he.imports.at_ _ _ _ hx hy
  refine WD.val (v:= .ptr (slB vi) (slO vi+i1 * 2)) (L.bI (i:=i1) (Rows.sl (i:=i1) (st.aF 2 rfl) (by simp;omega)) rfl (by simp;omega)) (WD.val (v:= .ptr (slB vi) (slO vi+i1 * 2+0)) (L.ak rfl) (WD.val (v:=L.str x.name) (L.load rfl (Rows.iA (i:=i1) (j:=0) (row:=x.row) (st.aF 2 rfl) (by rw [List.getElem?_map,hx];rfl) rfl)) ?_))
  refine WD.val (v:= .ptr m2 2) (L.ak rfl) (WD.val (v:=vi2) (L.ay rfl (st.aj 0 rfl) rfl) (WD.val (v:= .int .i64 (i1:Int)) rfl (WD.val (v:= .ptr (slB vi2) (slO vi2+i1 * 2)) (L.bI (i:=i1) (Rows.sl (i:=i1) (st.aF 6 rfl) (by simp;omega)) rfl (by simp;omega)) (WD.val (v:= .ptr (slB vi2) (slO vi2+i1 * 2+0)) (L.ak rfl) (WD.val (v:=L.str y.name) (L.load rfl (Rows.iA (i:=i1) (j:=0) (row:=y.row) (st.aF 6 rfl) (by rw [List.getElem?_map,hy];rfl) rfl)) ?_)))))
  refine WD.ifV (L.sne rfl rfl) (fun _ c_=>absurd (by exact hxy.name) c_) (fun _ c_=> ?_)
  refine WD.val (v:= .bool false) rfl (WD.yes rfl (WD.val (v:= .bool true) rfl (WD.yes rfl (WD.val (v:= .bool true) rfl (WD.yes rfl (WD.val (v:= .ptr m1 2) (L.ak rfl) (WD.yes rfl (WD.val (v:=vi) (L.ay rfl (st.aj 1 rfl) rfl) (WD.yes rfl (WD.val (v:= .int .i64 (i1:Int)) rfl (WD.yes rfl (WD.val (v:= .ptr (slB vi) (slO vi+i1 * 2)) (L.bI (i:=i1) (Rows.sl (i:=i1) (st.aF 2 rfl) (by simp;omega)) rfl (by simp;omega)) (WD.yes rfl (WD.val (v:= .ptr (slB vi) (slO vi+i1 * 2+1)) (L.ak rfl) (WD.yes rfl (WD.val (v:= .int .i64 (x.at_:Int)) (L.load rfl (Rows.iA (i:=i1) (j:=1) (row:=x.row) (st.aF 2 rfl) (by rw [List.getElem?_map,hx];rfl) rfl)) ?_))))))))))))))))
  refine WD.yes rfl (WD.val (v:= .ptr m2 2) (L.ak rfl) (WD.yes rfl (WD.val (v:=vi2) (L.ay rfl (st.aj 0 rfl) rfl) (WD.yes rfl (WD.val (v:= .int .i64 (i1:Int)) rfl (WD.yes rfl (WD.val (v:= .ptr (slB vi2) (slO vi2+i1 * 2)) (L.bI (i:=i1) (Rows.sl (i:=i1) (st.aF 6 rfl) (by simp;omega)) rfl (by simp;omega)) (WD.yes rfl (WD.val (v:= .ptr (slB vi2) (slO vi2+i1 * 2+1)) (L.ak rfl) (WD.yes rfl (WD.val (v:= .int .i64 (y.at_:Int)) (L.load rfl (Rows.iA (i:=i1) (j:=1) (row:=y.row) (st.aF 6 rfl) (by rw [List.getElem?_map,hy];rfl) rfl)) ?_)))))))))))
  refine WD.yes rfl (WD.ifV (L.neq rfl rfl) (fun _ c_=>absurd (by have:=hxy.at_ rfl;omega) c_) (fun _ c_=> ?_))
  refine WD.yes rfl (WD.val (v:= .bool false) rfl (WD.aA (v:= .bool false) rfl (WD.nil (WP.cond (t:=false) rfl (WP.skip (WP.reg (WO.aA (v:= .int .i64 ((i1+1:Nat):Int)) (L.kC rfl rfl (by omega) (And.intro (by omega) (by omega))) (WO.nil ?_))))))))
  exact ⟨i1+1,(by omega),x3,(.bool true),(.bool false),by omega,by kernel_rfl,st⟩
 ·replace c1:¬(i1<m.imports.length):=by omega
  refine WO.nil (WP.cond (t:=false) rfl (WP.exit (WP.seq (WP.seq (WP.reg (WO.aA (v:= .int .i64 0) rfl (WO.nil (WP.block (WP.iW (α:=Nat) (fun i2 env h=>∃x3 x11 x12 x13 x14,(i2≤m.vars.length)∧env=dx [.agg [L.str m.name, .int .i64 (m.at_:Int),vi,vv,vp0], .agg [L.str m'.name, .int .i64 (m'.at_:Int),vi2,vv2,vp02], .bool true,x3, .ptr m1 0, .ptr m2 0, .bool false, .int .i64 (i1:Int), .bool false,x9, .int .i64 (i2:Int),x11,x12,x13,x14] 0 Env.nil∧St (.box m2 [L.str m'.name, .int .i64 (m'.at_:Int),vi2,vv2,vp02]:: .box m1 [L.str m.name, .int .i64 (m.at_:Int),vi,vv,vp0]:: .stb (fun h=>Rows 2 h vi (m.imports.map Im.row)):: .stb (fun h=>Rows 4 h vv (m.vars.map Vr.row)):: .stb (fun h=>Rows 8 h vp0 rw):: .stb (fun h=>cB h m.procs rw):: .stb (fun h=>Rows 2 h vi2 (m'.imports.map Im.row)):: .stb (fun h=>Rows 4 h vv2 (m'.vars.map Vr.row)):: .stb (fun h=>Rows 8 h vp02 rw2):: .stb (fun h=>cB h m'.procs rw2)::fs) h) (fun i2=>m.vars.length - i2) 0 ?_ ?_)))))))))
  ·exact ⟨x3, .bot, .bot, .bot, .bot,(Nat.zero_le _),by kernel_rfl,st⟩
  rintro i2 _ h ⟨x3,x11,x12,x13,x14,hi2,rfl,st⟩
  refine WP.seq (WP.seq (WP.reg (WO.val (v:= .ptr m1 3) (L.ak rfl) (WO.val (v:=vv) (L.ay rfl (st.aj 1 rfl) rfl) (WO.val (v:= .int .i64 (m.vars.length:Int)) (L.dO rfl (st.aF 3 rfl) (by simp)) (WO.ifS (L.lss rfl rfl) (fun c2=> ?_) (fun c2=> ?_)))))))
  ·replace c2:i2<m.vars.length:=by omega
   refine WO.nil (WP.cond (t:=true) rfl (WP.skip (WP.seq (WP.block (WP.seq (WP.draw (WD.val (v:= .ptr m1 3) (L.ak rfl) (WD.val (v:=vv) (L.ay rfl (st.aj 1 rfl) rfl) (WD.val (v:= .int .i64 (i2:Int)) rfl ?_)))))))))
   obtain ⟨x,hx⟩:∃z_,m.vars[i2]? =some z_:=⟨_,List.getElem?_eq_getElem (by omega)⟩
   obtain ⟨y,hy⟩:∃z_,m'.vars[i2]? =some z_:=⟨_,List.getElem?_eq_getElem (by have:=he.vars.len;omega)⟩
   have hxy:=he.vars.at_ _ _ _ hx hy
   refine WD.val (v:= .ptr (slB vv) (slO vv+i2 * 4)) (L.bI (i:=i2) (Rows.sl (i:=i2) (st.aF 3 rfl) (by simp;omega)) rfl (by simp;omega)) (WD.val (v:= .agg [L.str x.name,L.str x.label, .int .i64 x.init, .int .i64 (x.at_:Int)]) (L.bE rfl (Rows.fB (i:=i2) (st.aF 3 rfl) (by rw [List.getElem?_map,hx];rfl))) ?_)
   refine WD.val (v:= .ptr m2 3) (L.ak rfl) (WD.val (v:=vv2) (L.ay rfl (st.aj 0 rfl) rfl) (WD.val (v:= .int .i64 (i2:Int)) rfl (WD.val (v:= .ptr (slB vv2) (slO vv2+i2 * 4)) (L.bI (i:=i2) (Rows.sl (i:=i2) (st.aF 7 rfl) (by simp;omega)) rfl (by simp;omega)) (WD.val (v:= .agg [L.str y.name,L.str y.label, .int .i64 y.init, .int .i64 (y.at_:Int)]) (L.bE rfl (Rows.fB (i:=i2) (st.aF 7 rfl) (by rw [List.getElem?_map,hy];rfl))) ?_))))
   refine WD.dQ st L.alloc (fun b1 h st=> ?_)
   refine WD.dQ st L.alloc (fun b2 h st=> ?_)
   refine WD.aH (row':=[L.str x.name,L.str x.label, .int .i64 x.init, .int .i64 (x.at_:Int)]) st 1 rfl rfl rfl rfl rfl rfl rfl (fun h st=>bB (by first|exact au (L.bE rfl (Rows.fB (st.aF 5 rfl) (by rw [List.getElem?_map,hx];rfl)))|exact au (L.bE rfl (Rows.fB (st.aF 9 rfl) (by rw [List.getElem?_map,hy];rfl)))|exact au (L.bE rfl (Rows.fB (st.aF 6 rfl) hrx))|exact au (L.bE rfl (Rows.fB (st.aF 10 rfl) hry))|exact au (L.ay rfl (st.aj 0 rfl) rfl)|exact aC st 0 rfl|exact au (L.aI rfl (st.aj 0 rfl) rfl rfl rfl)|exact au (L.ay rfl (st.aj 1 rfl) rfl)|exact aC st 1 rfl|exact au (L.aI rfl (st.aj 1 rfl) rfl rfl rfl)|exact au (L.ay rfl (st.aj 2 rfl) rfl)|exact aC st 2 rfl|exact au (L.aI rfl (st.aj 2 rfl) rfl rfl rfl)|exact au (L.ay rfl (st.aj 3 rfl) rfl)|exact aC st 3 rfl|exact au (L.aI rfl (st.aj 3 rfl) rfl rfl rfl)) (bB (by first|exact au (L.bE rfl (Rows.fB (st.aF 5 rfl) (by rw [List.getElem?_map,hx];rfl)))|exact au (L.bE rfl (Rows.fB (st.aF 9 rfl) (by rw [List.getElem?_map,hy];rfl)))|exact au (L.bE rfl (Rows.fB (st.aF 6 rfl) hrx))|exact au (L.bE rfl (Rows.fB (st.aF 10 rfl) hry))|exact au (L.ay rfl (st.aj 0 rfl) rfl)|exact aC st 0 rfl|exact au (L.aI rfl (st.aj 0 rfl) rfl rfl rfl)|exact au (L.ay rfl (st.aj 1 rfl) rfl)|exact aC st 1 rfl|exact au (L.aI rfl (st.aj 1 rfl) rfl rfl rfl)|exact au (L.ay rfl (st.aj 2 rfl) rfl)|exact aC st 2 rfl|exact au (L.aI rfl (st.aj 2 rfl) rfl rfl rfl)|exact au (L.ay rfl (st.aj 3 rfl) rfl)|exact aC st 3 rfl|exact au (L.aI rfl (st.aj 3 rfl) rfl rfl rfl)) (dm _ _))) (fun h st=> ?_)
   refine WD.aH (row':=[L.str y.name,L.str y.label, .int .i64 y.init, .int .i64 (y.at_:Int)]) st 0 rfl rfl rfl rfl rfl rfl rfl (fun h st=>rfl) (fun h st=> ?_)
   refine WD.nil (WP.seq (WP.reg (WO.val (v:= .ptr b1 0) (L.ak rfl) (WO.val (v:=L.str x.name) (L.ay rfl (st.aj 1 rfl) rfl) (WO.val (v:= .ptr b2 0) (L.ak rfl) (WO.val (v:=L.str y.name) (L.ay rfl (st.aj 0 rfl) rfl) (WO.ifV (L.sne rfl rfl) (fun c_=>absurd (by exact hxy.name) c_) (fun c_=> ?_))))))))
   refine WO.yes rfl (WO.val (v:= .ptr b1 1) (L.ak rfl) (WO.yes rfl (WO.val (v:=L.str x.label) (L.ay rfl (st.aj 1 rfl) rfl) (WO.yes rfl (WO.val (v:= .ptr b2 1) (L.ak rfl) (WO.yes rfl (WO.val (v:=L.str y.label) (L.ay rfl (st.aj 0 rfl) rfl) (WO.yes rfl (WO.ifV (L.sne rfl rfl) (fun c_=>absurd (by exact hxy.label) c_) (fun c_=> ?_))))))))))
   refine WO.val (v:= .bool false) rfl (WO.yes rfl (WO.val (v:= .ptr b1 2) (L.ak rfl) (WO.yes rfl (WO.val (v:= .int .i64 x.init) (L.ay rfl (st.aj 1 rfl) rfl) (WO.yes rfl (WO.val (v:= .ptr b2 2) (L.ak rfl) (WO.yes rfl (WO.val (v:= .int .i64 y.init) (L.ay rfl (st.aj 0 rfl) rfl) (WO.yes rfl (WO.ifV (L.neq rfl rfl) (fun c_=>absurd (by have:=hxy.init;omega) c_) (fun c_=> ?_)))))))))))
   refine WO.val (v:= .bool false) rfl (WO.yes rfl (WO.val (v:= .bool true) rfl (WO.yes rfl (WO.val (v:= .bool true) rfl (WO.yes rfl (WO.val (v:= .ptr b1 3) (L.ak rfl) (WO.yes rfl (WO.val (v:= .int .i64 (x.at_:Int)) (L.ay rfl (st.aj 1 rfl) rfl) (WO.yes rfl (WO.val (v:= .ptr b2 3) (L.ak rfl) (WO.yes rfl (WO.val (v:= .int .i64 (y.at_:Int)) (L.ay rfl (st.aj 0 rfl) rfl) (WO.yes rfl (WO.ifV (L.neq rfl rfl) (fun c_=>absurd (by have:=hxy.at_ rfl;omega) c_) (fun c_=> ?_)))))))))))))))
   refine WO.yes rfl (WO.val (v:= .bool false) rfl (WO.aA (v:= .bool false) rfl (WO.nil (WP.cond (t:=false) rfl (WP.skip (WP.reg (WO.aA (v:= .int .i64 ((i2+1:Nat):Int)) (L.kC rfl rfl (by omega) (And.intro (by omega) (by omega))) (WO.nil ?_))))))))
   exact ⟨i2+1,(by omega),x3,(.bool true),(.ptr b1 0),(.ptr b2 0),(.bool false),by omega,by kernel_rfl,st.tail.tail⟩
  ·replace c2:¬(i2<m.vars.length):=by omega
   refine WO.nil (WP.cond (t:=false) rfl (WP.exit (WP.seq (WP.seq (WP.reg (WO.aA (v:= .int .i64 0) rfl (WO.nil (WP.block (WP.iW (α:=Nat) (fun i3 env h=>∃x3 x16 x17 x18 x19 x20 x21 x22,(i3≤m.procs.length)∧env=dx [.agg [L.str m.name, .int .i64 (m.at_:Int),vi,vv,vp0], .agg [L.str m'.name, .int .i64 (m'.at_:Int),vi2,vv2,vp02], .bool true,x3, .ptr m1 0, .ptr m2 0, .bool false, .int .i64 (i1:Int), .bool false,x9, .int .i64 (i2:Int), .bool false,x12,x13,x14, .int .i64 (i3:Int),x16,x17,x18,x19,x20,x21,x22] 0 Env.nil∧St (.box m2 [L.str m'.name, .int .i64 (m'.at_:Int),vi2,vv2,vp02]:: .box m1 [L.str m.name, .int .i64 (m.at_:Int),vi,vv,vp0]:: .stb (fun h=>Rows 2 h vi (m.imports.map Im.row)):: .stb (fun h=>Rows 4 h vv (m.vars.map Vr.row)):: .stb (fun h=>Rows 8 h vp0 rw):: .stb (fun h=>cB h m.procs rw):: .stb (fun h=>Rows 2 h vi2 (m'.imports.map Im.row)):: .stb (fun h=>Rows 4 h vv2 (m'.vars.map Vr.row)):: .stb (fun h=>Rows 8 h vp02 rw2):: .stb (fun h=>cB h m'.procs rw2)::fs) h) (fun i3=>m.procs.length - i3) 0 ?_ ?_)))))))))
   ·exact ⟨x3, .bot, .bot, .bot, .bot, .bot, .bot, .bot,(Nat.zero_le _),by kernel_rfl,st⟩
   rintro i3 _ h ⟨x3,x16,x17,x18,x19,x20,x21,x22,hi3,rfl,st⟩
   refine WP.seq (WP.seq (WP.reg (WO.val (v:= .ptr m1 4) (L.ak rfl) (WO.val (v:=vp0) (L.ay rfl (st.aj 1 rfl) rfl) (WO.val (v:= .int .i64 (m.procs.length:Int)) (L.dO rfl (st.aF 4 rfl) (by omega)) (WO.ifS (L.lss rfl rfl) (fun c3=> ?_) (fun c3=> ?_)))))))
   ·replace c3:i3<m.procs.length:=by omega
    refine WO.nil (WP.cond (t:=true) rfl (WP.skip (WP.seq (WP.block (WP.seq (WP.draw (WD.val (v:= .ptr m1 4) (L.ak rfl) ?_)))))))
    obtain ⟨x,hx⟩:∃z_,m.procs[i3]? =some z_:=⟨_,List.getElem?_eq_getElem (by omega)⟩
    obtain ⟨y,hy⟩:∃z_,m'.procs[i3]? =some z_:=⟨_,List.getElem?_eq_getElem (by have:=he.procs.len;omega)⟩
    have hxy:=he.procs.at_ _ _ _ hx hy
    have hfew:=hf.proc x (List.mem_of_getElem? hx)
    have hpl:=hxy.params.len
    obtain ⟨vp,vu,vb,hrx,st⟩:=St.prAt (st.pick 5 rfl) hx
    obtain ⟨vp2,vu2,vb2,hry,st⟩:=St.prAt (st.pick 12 rfl) hy
    refine WD.val (v:=vp0) (L.ay rfl (st.aj 9 rfl) rfl) (WD.val (v:= .int .i64 (i3:Int)) rfl (WD.val (v:= .ptr (slB vp0) (slO vp0+i3 * 8)) (L.bI (i:=i3) (Rows.sl (i:=i3) (st.aF 12 rfl) (by omega)) rfl (by omega)) (WD.val (v:= .agg [L.str x.name,vp, .bool x.has,L.str x.result,L.str x.pc,vu,vb, .int .i64 (x.at_:Int)]) (L.bE rfl (Rows.fB (i:=i3) (st.aF 12 rfl) hrx)) (WD.val (v:= .ptr m2 4) (L.ak rfl) (WD.val (v:=vp02) (L.ay rfl (st.aj 8 rfl) rfl) (WD.val (v:= .int .i64 (i3:Int)) rfl (WD.val (v:= .ptr (slB vp02) (slO vp02+i3 * 8)) (L.bI (i:=i3) (Rows.sl (i:=i3) (st.aF 15 rfl) (by omega)) rfl (by omega)) (WD.val (v:= .agg [L.str y.name,vp2, .bool y.has,L.str y.result,L.str y.pc,vu2,vb2, .int .i64 (y.at_:Int)]) (L.bE rfl (Rows.fB (i:=i3) (st.aF 15 rfl) hry)) (WD.dQ st L.alloc (fun b1 h st=> ?_))))))))))
    refine WD.dQ st L.alloc (fun b2 h st=> ?_)
    refine WD.aH (row':=[L.str x.name,vp, .bool x.has,L.str x.result,L.str x.pc,vu,vb, .int .i64 (x.at_:Int)]) st 1 rfl rfl rfl rfl rfl rfl rfl (fun h st=>bB (by first|exact au (L.bE rfl (Rows.fB (st.aF 13 rfl) (by rw [List.getElem?_map,hx];rfl)))|exact au (L.bE rfl (Rows.fB (st.aF 16 rfl) (by rw [List.getElem?_map,hy];rfl)))|exact au (L.bE rfl (Rows.fB (st.aF 14 rfl) hrx))|exact au (L.bE rfl (Rows.fB (st.aF 17 rfl) hry))|exact au (L.ay rfl (st.aj 0 rfl) rfl)|exact aC st 0 rfl|exact au (L.aI rfl (st.aj 0 rfl) rfl rfl rfl)|exact au (L.ay rfl (st.aj 1 rfl) rfl)|exact aC st 1 rfl|exact au (L.aI rfl (st.aj 1 rfl) rfl rfl rfl)|exact au (L.ay rfl (st.aj 10 rfl) rfl)|exact aC st 10 rfl|exact au (L.aI rfl (st.aj 10 rfl) rfl rfl rfl)|exact au (L.ay rfl (st.aj 11 rfl) rfl)|exact aC st 11 rfl|exact au (L.aI rfl (st.aj 11 rfl) rfl rfl rfl)) (bB (by first|exact au (L.bE rfl (Rows.fB (st.aF 13 rfl) (by rw [List.getElem?_map,hx];rfl)))|exact au (L.bE rfl (Rows.fB (st.aF 16 rfl) (by rw [List.getElem?_map,hy];rfl)))|exact au (L.bE rfl (Rows.fB (st.aF 14 rfl) hrx))|exact au (L.bE rfl (Rows.fB (st.aF 17 rfl) hry))|exact au (L.ay rfl (st.aj 0 rfl) rfl)|exact aC st 0 rfl|exact au (L.aI rfl (st.aj 0 rfl) rfl rfl rfl)|exact au (L.ay rfl (st.aj 1 rfl) rfl)|exact aC st 1 rfl|exact au (L.aI rfl (st.aj 1 rfl) rfl rfl rfl)|exact au (L.ay rfl (st.aj 10 rfl) rfl)|exact aC st 10 rfl|exact au (L.aI rfl (st.aj 10 rfl) rfl rfl rfl)|exact au (L.ay rfl (st.aj 11 rfl) rfl)|exact aC st 11 rfl|exact au (L.aI rfl (st.aj 11 rfl) rfl rfl rfl)) (dm _ _))) (fun h st=> ?_)
    refine WD.aH (row':=[L.str y.name,vp2, .bool y.has,L.str y.result,L.str y.pc,vu2,vb2, .int .i64 (y.at_:Int)]) st 0 rfl rfl rfl rfl rfl rfl rfl (fun h st=>rfl) (fun h st=> ?_)
    refine WD.nil (WP.seq (WP.seq (WP.reg (WO.val (v:= .ptr b1 0) (L.ak rfl) (WO.val (v:=L.str x.name) (L.ay rfl (st.aj 1 rfl) rfl) (WO.val (v:= .ptr b2 0) (L.ak rfl) (WO.val (v:=L.str y.name) (L.ay rfl (st.aj 0 rfl) rfl) (WO.ifV (L.sne rfl rfl) (fun c_=>absurd (by exact hxy.name) c_) (fun c_=> ?_)))))))))
    refine WO.yes rfl (WO.val (v:= .ptr b1 2) (L.ak rfl) (WO.yes rfl (WO.val (v:= .bool x.has) (L.ay rfl (st.aj 1 rfl) rfl) (WO.yes rfl (WO.val (v:= .ptr b2 2) (L.ak rfl) (WO.yes rfl (WO.val (v:= .bool y.has) (L.ay rfl (st.aj 0 rfl) rfl) (WO.yes rfl (WO.val (v:= .bool false) (L.tO (b:=x.has) rfl (by rw [hxy.has];rfl)) (WO.val (v:= .bool false) rfl (WO.yes rfl (WO.val (v:= .ptr b1 3) (L.ak rfl) (WO.yes rfl (WO.val (v:=L.str x.result) (L.ay rfl (st.aj 1 rfl) rfl) (WO.yes rfl (WO.val (v:= .ptr b2 3) (L.ak rfl) (WO.yes rfl (WO.val (v:=L.str y.result) (L.ay rfl (st.aj 0 rfl) rfl) (WO.yes rfl (WO.ifV (L.sne rfl rfl) (fun c_=>absurd (by exact hxy.result) c_) (fun c_=> ?_)))))))))))))))))))))
    refine WO.val (v:= .bool false) rfl (WO.yes rfl (WO.val (v:= .ptr b1 4) (L.ak rfl) (WO.yes rfl (WO.val (v:=L.str x.pc) (L.ay rfl (st.aj 1 rfl) rfl) (WO.yes rfl (WO.val (v:= .ptr b2 4) (L.ak rfl) (WO.yes rfl (WO.val (v:=L.str y.pc) (L.ay rfl (st.aj 0 rfl) rfl) (WO.yes rfl (WO.ifV (L.sne rfl rfl) (fun c_=>absurd (by exact hxy.pc) c_) (fun c_=> ?_)))))))))))
    refine WO.val (v:= .bool false) rfl (WO.yes rfl (WO.val (v:= .ptr b1 5) (L.ak rfl) (WO.yes rfl (WO.val (v:=vu) (L.ay rfl (st.aj 1 rfl) rfl) (WO.yes rfl (WO.val (v:= .ptr b2 5) (L.ak rfl) (WO.yes rfl (WO.val (v:=vu2) (L.ay rfl (st.aj 0 rfl) rfl) (WO.yes rfl ?_)))))))))
    have st2:=((st.pick 3 rfl).pick 7 rfl)
    rw [show y.uses=x.uses from hxy.uses.symm] at st2
    refine WO.bR rfl (uses_c h32 (us:=x.uses) (st2:St (.stb (fun h=>Rows 1 h vu (x.uses.map fH)):: .stb (fun h=>Rows 1 h vu2 (x.uses.map fH)):: .box b2 [L.str y.name,vp2, .bool y.has,L.str y.result,L.str y.pc,vu2,vb2, .int .i64 (y.at_:Int)]:: .box b1 [L.str x.name,vp, .bool x.has,L.str x.result,L.str x.pc,vu,vb, .int .i64 (x.at_:Int)]:: .stb (fun h=>Rows 3 h vp2 (y.params.map Pm.row)):: .stb (fun h=>pJ h vb2 y.body):: .stb (fun h=>cB h m'.procs rw2):: .stb (fun h=>Rows 3 h vp (x.params.map Pm.row)):: .stb (fun h=>pJ h vb x.body):: .stb (fun h=>cB h m.procs rw):: .box m2 [L.str m'.name, .int .i64 (m'.at_:Int),vi2,vv2,vp02]:: .box m1 [L.str m.name, .int .i64 (m.at_:Int),vi,vv,vp0]:: .stb (fun h=>Rows 2 h vi (m.imports.map Im.row)):: .stb (fun h=>Rows 4 h vv (m.vars.map Vr.row)):: .stb (fun h=>Rows 8 h vp0 rw):: .stb (fun h=>Rows 2 h vi2 (m'.imports.map Im.row)):: .stb (fun h=>Rows 4 h vv2 (m'.vars.map Vr.row)):: .stb (fun h=>Rows 8 h vp02 rw2)::fs) _) (by omega)) ?_
    clear st2
    rintro _ h ⟨rfl,st⟩
    refine WO.yes rfl (WO.val (v:= .bool false) rfl (WO.val (v:= .bool false) rfl (WO.yes rfl (WO.val (v:= .bool true) rfl (WO.yes rfl (WO.val (v:= .bool true) rfl (WO.yes rfl (WO.val (v:= .ptr b1 7) (L.ak rfl) (WO.yes rfl (WO.val (v:= .int .i64 (x.at_:Int)) (L.ay rfl (st.aj 1 rfl) rfl) (WO.yes rfl (WO.val (v:= .ptr b2 7) (L.ak rfl) (WO.yes rfl (WO.val (v:= .int .i64 (y.at_:Int)) (L.ay rfl (st.aj 0 rfl) rfl) (WO.yes rfl (WO.ifV (L.neq rfl rfl) (fun c_=>absurd (by have:=hxy.at_ rfl;omega) c_) (fun c_=> ?_)))))))))))))))))
    refine WO.yes rfl (WO.val (v:= .bool false) rfl (WO.val (v:= .bool false) rfl (WO.yes rfl (WO.val (v:= .ptr b1 1) (L.ak rfl) (WO.yes rfl (WO.val (v:=vp) (L.ay rfl (st.aj 1 rfl) rfl) (WO.yes rfl (WO.val (v:= .int .i64 (x.params.length:Int)) (L.dO rfl (st.aF 5 rfl) (by simp)) (WO.yes rfl (WO.val (v:= .ptr b2 1) (L.ak rfl) (WO.yes rfl (WO.val (v:=vp2) (L.ay rfl (st.aj 0 rfl) rfl) (WO.yes rfl (WO.val (v:= .int .i64 (x.params.length:Int)) (L.dO rfl (st.aF 2 rfl) (by simp [hpl])) (WO.yes rfl (WO.ifV (L.neq rfl rfl) (fun c_=>absurd rfl c_) (fun c_=> ?_)))))))))))))))))
    refine WO.val (v:= .bool false) rfl (WO.yes rfl (WO.val (v:= .ptr b1 6) (L.ak rfl) (WO.yes rfl (WO.val (v:=vb) (L.ay rfl (st.aj 1 rfl) rfl) (WO.yes rfl (WO.val (v:= .ptr b2 6) (L.ak rfl) (WO.yes rfl (WO.val (v:=vb2) (L.ay rfl (st.aj 0 rfl) rfl) (WO.yes rfl (WO.val (v:= .bool true) rfl (WO.yes rfl (WO.bR rfl (sms_c h57 h45 h33 hfew.2.2 (Sms.sz x.body) (Nat.le_refl _) ((st.pick 3 rfl).pick 6 rfl) (Nat.le_refl _) hxy.body) ?_))))))))))))
    rintro _ h ⟨rfl,st⟩
    refine WO.yes rfl (WO.val (v:= .bool false) rfl (WO.aA (v:= .bool false) rfl (WO.nil (WP.cond (t:=false) rfl (WP.skip (WP.seq (WP.reg (WO.aA (v:= .int .i64 0) rfl (WO.nil (WP.block (WP.iW (α:=Nat) (fun j env h=>∃x3 x21 x22,(j≤x.params.length)∧env=dx [.agg [L.str m.name, .int .i64 (m.at_:Int),vi,vv,vp0], .agg [L.str m'.name, .int .i64 (m'.at_:Int),vi2,vv2,vp02], .bool true,x3, .ptr m1 0, .ptr m2 0, .bool false, .int .i64 (i1:Int), .bool false,x9, .int .i64 (i2:Int), .bool false,x12,x13,x14, .int .i64 (i3:Int), .bool true, .ptr b1 0, .ptr b2 0, .bool false, .int .i64 (j:Int),x21,x22] 0 Env.nil∧St (.box b2 [L.str y.name,vp2, .bool y.has,L.str y.result,L.str y.pc,vu2,vb2, .int .i64 (y.at_:Int)]:: .box b1 [L.str x.name,vp, .bool x.has,L.str x.result,L.str x.pc,vu,vb, .int .i64 (x.at_:Int)]:: .stb (fun h=>Rows 3 h vp2 (y.params.map Pm.row)):: .stb (fun h=>cB h m'.procs rw2):: .stb (fun h=>Rows 3 h vp (x.params.map Pm.row)):: .stb (fun h=>cB h m.procs rw):: .box m2 [L.str m'.name, .int .i64 (m'.at_:Int),vi2,vv2,vp02]:: .box m1 [L.str m.name, .int .i64 (m.at_:Int),vi,vv,vp0]:: .stb (fun h=>Rows 2 h vi (m.imports.map Im.row)):: .stb (fun h=>Rows 4 h vv (m.vars.map Vr.row)):: .stb (fun h=>Rows 8 h vp0 rw):: .stb (fun h=>Rows 2 h vi2 (m'.imports.map Im.row)):: .stb (fun h=>Rows 4 h vv2 (m'.vars.map Vr.row)):: .stb (fun h=>Rows 8 h vp02 rw2)::fs) h) (fun j=>x.params.length - j) 0 ?_ ?_)))))))))))
    ·exact ⟨x3,x21,x22,(Nat.zero_le _),by kernel_rfl,st⟩
    rintro j _ h ⟨x3,x21,x22,hj,rfl,st⟩
    refine WP.seq (WP.seq (WP.reg (WO.val (v:= .ptr b1 1) (L.ak rfl) (WO.val (v:=vp) (L.ay rfl (st.aj 1 rfl) rfl) (WO.val (v:= .int .i64 (x.params.length:Int)) (L.dO rfl (st.aF 4 rfl) (by simp)) (WO.ifS (L.lss rfl rfl) (fun c4=> ?_) (fun c4=> ?_)))))))
    ·replace c4:j<x.params.length:=by omega
     refine WO.nil (WP.cond (t:=true) rfl (WP.skip (WP.seq (WP.block (WP.seq (WP.draw (WD.val (v:= .ptr b1 1) (L.ak rfl) (WD.val (v:=vp) (L.ay rfl (st.aj 1 rfl) rfl) (WD.val (v:= .int .i64 (j:Int)) rfl ?_)))))))))
     obtain ⟨u,hu⟩:∃z_,x.params[j]? =some z_:=⟨_,List.getElem?_eq_getElem (by omega)⟩
     obtain ⟨w,hw⟩:∃z_,y.params[j]? =some z_:=⟨_,List.getElem?_eq_getElem (by have:=hxy.params.len;omega)⟩
     have huw:=hxy.params.at_ _ _ _ hu hw
     refine WD.val (v:= .ptr (slB vp) (slO vp+j * 3)) (L.bI (i:=j) (Rows.sl (i:=j) (st.aF 4 rfl) (by simp;omega)) rfl (by simp;omega)) (WD.val (v:= .ptr (slB vp) (slO vp+j * 3+0)) (L.ak rfl) (WD.val (v:=L.str u.name) (L.load rfl (Rows.iA (i:=j) (j:=0) (row:=u.row) (st.aF 4 rfl) (by rw [List.getElem?_map,hu];rfl) rfl)) ?_))
     refine WD.val (v:= .ptr b2 1) (L.ak rfl) (WD.val (v:=vp2) (L.ay rfl (st.aj 0 rfl) rfl) (WD.val (v:= .int .i64 (j:Int)) rfl (WD.val (v:= .ptr (slB vp2) (slO vp2+j * 3)) (L.bI (i:=j) (Rows.sl (i:=j) (st.aF 2 rfl) (by simp;omega)) rfl (by simp;omega)) (WD.val (v:= .ptr (slB vp2) (slO vp2+j * 3+0)) (L.ak rfl) (WD.val (v:=L.str w.name) (L.load rfl (Rows.iA (i:=j) (j:=0) (row:=w.row) (st.aF 2 rfl) (by rw [List.getElem?_map,hw];rfl) rfl)) ?_)))))
     refine WD.ifV (L.sne rfl rfl) (fun _ c_=>absurd (by exact huw.name) c_) (fun _ c_=> ?_)
     refine WD.val (v:= .bool false) rfl (WD.yes rfl (WD.val (v:= .ptr b1 1) (L.ak rfl) (WD.yes rfl (WD.val (v:=vp) (L.ay rfl (st.aj 1 rfl) rfl) (WD.yes rfl (WD.val (v:= .int .i64 (j:Int)) rfl (WD.yes rfl (WD.val (v:= .ptr (slB vp) (slO vp+j * 3)) (L.bI (i:=j) (Rows.sl (i:=j) (st.aF 4 rfl) (by simp;omega)) rfl (by simp;omega)) (WD.yes rfl (WD.val (v:= .ptr (slB vp) (slO vp+j * 3+1)) (L.ak rfl) (WD.yes rfl (WD.val (v:=L.str u.label) (L.load rfl (Rows.iA (i:=j) (j:=1) (row:=u.row) (st.aF 4 rfl) (by rw [List.getElem?_map,hu];rfl) rfl)) ?_))))))))))))
     refine WD.yes rfl (WD.val (v:= .ptr b2 1) (L.ak rfl) (WD.yes rfl (WD.val (v:=vp2) (L.ay rfl (st.aj 0 rfl) rfl) (WD.yes rfl (WD.val (v:= .int .i64 (j:Int)) rfl (WD.yes rfl (WD.val (v:= .ptr (slB vp2) (slO vp2+j * 3)) (L.bI (i:=j) (Rows.sl (i:=j) (st.aF 2 rfl) (by simp;omega)) rfl (by simp;omega)) (WD.yes rfl (WD.val (v:= .ptr (slB vp2) (slO vp2+j * 3+1)) (L.ak rfl) (WD.yes rfl (WD.val (v:=L.str w.label) (L.load rfl (Rows.iA (i:=j) (j:=1) (row:=w.row) (st.aF 2 rfl) (by rw [List.getElem?_map,hw];rfl) rfl)) ?_)))))))))))
     refine WD.yes rfl (WD.ifV (L.sne rfl rfl) (fun _ c_=>absurd (by exact huw.label) c_) (fun _ c_=> ?_))
     refine WD.val (v:= .bool false) rfl (WD.val (v:= .bool false) rfl (WD.yes rfl (WD.val (v:= .bool true) rfl (WD.yes rfl (WD.val (v:= .bool true) rfl (WD.yes rfl (WD.val (v:= .ptr b1 1) (L.ak rfl) (WD.yes rfl (WD.val (v:=vp) (L.ay rfl (st.aj 1 rfl) rfl) (WD.yes rfl (WD.val (v:= .int .i64 (j:Int)) rfl (WD.yes rfl (WD.val (v:= .ptr (slB vp) (slO vp+j * 3)) (L.bI (i:=j) (Rows.sl (i:=j) (st.aF 4 rfl) (by simp;omega)) rfl (by simp;omega)) (WD.yes rfl (WD.val (v:= .ptr (slB vp) (slO vp+j * 3+2)) (L.ak rfl) (WD.yes rfl (WD.val (v:= .int .i64 (u.at_:Int)) (L.load rfl (Rows.iA (i:=j) (j:=2) (row:=u.row) (st.aF 4 rfl) (by rw [List.getElem?_map,hu];rfl) rfl)) ?_)))))))))))))))))
     refine WD.yes rfl (WD.val (v:= .ptr b2 1) (L.ak rfl) (WD.yes rfl (WD.val (v:=vp2) (L.ay rfl (st.aj 0 rfl) rfl) (WD.yes rfl (WD.val (v:= .int .i64 (j:Int)) rfl (WD.yes rfl (WD.val (v:= .ptr (slB vp2) (slO vp2+j * 3)) (L.bI (i:=j) (Rows.sl (i:=j) (st.aF 2 rfl) (by simp;omega)) rfl (by simp;omega)) (WD.yes rfl (WD.val (v:= .ptr (slB vp2) (slO vp2+j * 3+2)) (L.ak rfl) (WD.yes rfl (WD.val (v:= .int .i64 (w.at_:Int)) (L.load rfl (Rows.iA (i:=j) (j:=2) (row:=w.row) (st.aF 2 rfl) (by rw [List.getElem?_map,hw];rfl) rfl)) ?_)))))))))))
     refine WD.yes rfl (WD.ifV (L.neq rfl rfl) (fun _ c_=>absurd (by have:=huw.at_ rfl;omega) c_) (fun _ c_=> ?_))
     refine WD.yes rfl (WD.val (v:= .bool false) rfl (WD.aA (v:= .bool false) rfl (WD.nil (WP.cond (t:=false) rfl (WP.skip (WP.reg (WO.aA (v:= .int .i64 ((j+1:Nat):Int)) (L.kC rfl rfl (by omega) (And.intro (by omega) (by omega))) (WO.nil ?_))))))))
     exact ⟨j+1,(by omega),x3,(.bool true),(.bool false),by omega,by kernel_rfl,st⟩
    ·replace c4:¬(j<x.params.length):=by omega
     refine WO.nil (WP.cond (t:=false) rfl (WP.exit (WP.reg (WO.aA (v:= .int .i64 ((i3+1:Nat):Int)) (L.kC rfl rfl (by omega) (And.intro (by omega) (by omega))) (WO.nil ?_)))))
     exact ⟨i3+1,(by omega),x3,(.bool true),(.ptr b1 0),(.ptr b2 0),(.bool false),(.int .i64 (j:Int)),(.bool false),x22,by omega,by kernel_rfl,((((((((((st.tail.tail.tail.pick 1 rfl).tail.pick 9 rfl).pick 9 rfl).pick 9 rfl).pick 4 rfl).pick 9 rfl).pick 9 rfl).pick 9 rfl).pick 9 rfl).pick 9 rfl)⟩
   ·replace c3:¬(i3<m.procs.length):=by omega
    refine WO.nil (WP.cond (t:=false) rfl (WP.exit (WP.seq (WP.reg (WO.aA (v:= .bool true) rfl (WO.nil (WP.ret ?_)))))))
    exact ⟨_,(av (aB (v:= .bool true) rfl) (aG _ _)),rfl,st.tail.tail.tail.tail.tail.tail.tail.tail.tail.tail⟩
end
end Go.Eng.YtjobofnpmmjeoaaDoor.Pq
namespace Go.Eng.YtjobofnpmmjeoaaDoor
open Go.Eng
noncomputable section
variable {c:Ctx}
structure HasL (c:Ctx):Prop where
 p:Pq.fZ c
 q:Pq.uE c
 f9:∀h,bZ c 9 [] h fun v h1=>v= .bool true∧h1=h
 f12:T.get 12 c.bJ=some i12
 f32:T.get 32 c.bJ=some i32
 f57:T.get 57 c.bJ=some i57
 f45:T.get 45 c.bJ=some i45
 f33:T.get 33 c.bJ=some i33
 f19:T.get 19 c.bJ=some i19
 f8:T.get 8 c.bJ=some i8
 f15:T.get 15 c.bJ=some i15
theorem PK (D:HasL c) {fs:List Fact} {h:Heap} {s:List UInt8} (st:St fs h):bZ c 10 [L.str s] h fun v h1=>∃row,v= .tup [.agg row, .int .i64 (txE s:Int), .int .i64 (txA s:Int)]∧row.length=5∧St (.stb (fun h=>uD h (txM s) row)::fs) h1:=by
 obtain ⟨v,h1,hr,hp⟩:=Pq.PI (s:=s) D.p D.q st
 refine ⟨v,h1,hr, ?_⟩
 unfold txM txE txA
 cases hs:Par.text s with
 |ok m=>rw [hs] at hp;exact hp
 |error z=>
  obtain ⟨e,a⟩:=z
  rw [hs] at hp
  obtain ⟨rfl,st⟩:=hp
  exact ⟨_,rfl,rfl,st.triv_ fun h=>uD.zero h⟩
theorem K6 (D:HasL c) {fs:List Fact} {h:Heap} {m:Md} {row row':List V} (hr:row.length=5) (hr':row'.length=5) (st:St (.stb (fun h=>MdR h m row):: .stb (fun h=>MdR h m row')::fs) h) (hf:G8 m):
 bZ c 15 [.agg row, .agg row'] h fun v h1=>v= .bool true∧St fs h1:=by
 refine bZ.eZ D.f15 rfl (WP.seq (WP.reg (WO.dQ st (L.box (l:=row) rfl (by rw [fF,hr])) (fun b1 h st=> ?_))))
 refine WO.dQ st (L.box (l:=row') rfl (by rw [fF,hr'])) (fun b2 h st=> ?_)
 refine WO.aA (v:= .bool false) rfl (WO.nil (WP.seq (WP.reg (WO.val (v:= .agg row) (L.aI rfl (st.aj 1 rfl) rfl (by rw [fF,hr];rfl) (qf hr)) (WO.val (v:= .agg row') (L.aI rfl (st.aj 0 rfl) rfl (by rw [fF,hr'];rfl) (qf hr')) (WO.eG rfl (Pq.cmpmd_t D.f32 D.f57 D.f45 D.f33 D.f19 ((st.pick 3 rfl).pick 3 rfl) (O8.rf true _) hf) ?_))))))
 rintro _ h ⟨rfl,st⟩
 refine WO.nil (WP.ret ?_)
 exact ⟨_,(av (aB (v:= .bool true) rfl) (aG _ _)),rfl,st.tail.tail⟩
theorem num_c (H:T.get 12 c.bJ=some i12) {h0:Heap} {x:Int}:bZ c 12 [.int .i64 x] h0 fun v1 h1=>v1= .int .i64 x∧h1=h0:=by
 refine bZ.eZ H rfl (WP.seq (WP.reg (WO.aA (v:= .int .i64 0) rfl (WO.nil (WP.seq (WP.reg (WO.aA (v:= .int .i64 x) rfl (WO.nil (WP.ret ?_)))))))))
 exact ⟨_,(av (aB (v:= .int .i64 x) rfl) (aG _ _)),rfl,rfl⟩
theorem parts_c (D:HasL c) {h:Heap} {s:List UInt8} {n:Nat} (hn:n<256) (st:St [] h) {k:Nat} (hk:k=n % 9):
 bZ c 8 [L.str s, .int .u8 (n:Int)] h fun v1 _=>v1= .bool true:=by
 have hk9:k<9:=by omega
 refine bZ.eZ D.f8 rfl (WP.seq (WP.reg (WO.aA (v:= .bool false) rfl (WO.nil (WP.seq (WP.reg (WO.bR rfl (PK (s:=s) D st) ?_)))))))
 rintro _ h ⟨row,rfl,hrl,st⟩
 obtain ⟨vi1,vv1,vp1,rfl,hv1,hp1⟩:=(st.aF 0 rfl).row
 clear hrl
 refine WO.val (v:= .agg [L.str (txM s).name, .int .i64 ((txM s).at_:Int),vi1,vv1,vp1]) rfl (WO.val (v:= .int .i64 (txE s:Int)) rfl (WO.val (v:= .int .i64 (txA s:Int)) rfl (WO.dQ st L.alloc (fun b1 h st=> ?_))))
 refine WO.aH (row':=[L.str (txM s).name, .int .i64 ((txM s).at_:Int),vi1,vv1,vp1]) st 0 rfl rfl rfl rfl rfl rfl rfl (fun h st=> ?_)
 refine WO.aA (v:= .int .i64 (txE s:Int)) rfl (WO.nil (WP.seq (WP.seq (WP.reg (WO.bR rfl (num_c D.f12) ?_)))))
 rintro _ _ ⟨rfl,rfl⟩
 refine WO.ifV (L.neq rfl rfl) (fun c1=> ?_) (fun c1=> ?_)
 ·have _:=c1
  refine WO.no rfl (WO.no rfl (WO.no rfl (WO.aA (v:= .bool true) rfl (WO.nil (WP.cond (t:=true) rfl (WP.seq (WP.reg (WO.eG rfl (D.f9 _) ?_))))))))
  rintro _ _ ⟨rfl,rfl⟩
  refine WO.nil (WP.ret ?_)
  exact ⟨_,(av (aB (v:= .bool true) rfl) (aG _ _)),rfl⟩
 ·have hE:txE s=0:=by omega
  refine WO.yes rfl (WO.val (v:=L.str s) rfl (WO.yes rfl (WO.val (v:= .int .i64 (s.length:Int)) (L.yE rfl) (WO.yes rfl (WO.ifV (L.gtr rfl rfl) (fun c2=> ?_) (fun c2=> ?_))))))
  ·replace c2:s.length>1000:=by omega
   refine WO.aA (v:= .bool true) rfl (WO.nil (WP.cond (t:=true) rfl (WP.seq (WP.reg (WO.eG rfl (D.f9 _) ?_)))))
   rintro _ _ ⟨rfl,rfl⟩
   refine WO.nil (WP.ret ?_)
   exact ⟨_,(av (aB (v:= .bool true) rfl) (aG _ _)),rfl⟩
  ·replace c2:¬(s.length>1000):=by omega
   refine WO.aA (v:= .bool false) rfl (WO.nil (WP.cond (t:=false) rfl (WP.skip (WP.seq (WP.reg (WO.aA (v:= .str 0 0) rfl (WO.nil (WP.seq (WP.reg (WO.val (v:= .int .i64 (n:Int)) (L.Oz rfl (And.intro (by omega) (by omega))) (WO.aA (v:= .int .i64 (k:Int)) ((L.rem (b:=9) rfl rfl rfl (by decide)).trans (by rw [hk])) (WO.nil (WP.seq (WP.seq (WP.reg (WO.aA (v:= .int .i64 0) rfl (WO.nil (WP.block (WP.iW (α:=Nat) (fun i env h=>∃dz7,(i≤k)∧env=dx [L.str s, .int .u8 (n:Int), .bool false, .int .i64 (txE s:Int), .bool false, .int .i64 (i:Int), .int .i64 (k:Int),dz7,L.str (Lex.bX i), .bot, .bot, .ptr b1 0] 0 Env.nil∧St (.box b1 [L.str (txM s).name, .int .i64 ((txM s).at_:Int),vi1,vv1,vp1]:: .stb (fun h=>uD h (txM s) [L.str (txM s).name, .int .i64 ((txM s).at_:Int),vi1,vv1,vp1])::[]) h) (fun i=>k - i) 0 ?_ ?_)))))))))))))))))))
   ·exact ⟨.bot,(Nat.zero_le _),by kernel_rfl,st⟩
   rintro i _ h ⟨dz7,hi_i,rfl,st⟩
   have hbl:=y7 i
   refine WP.seq (WP.seq (WP.reg (WO.ifS (L.lss rfl rfl) (fun c3=> ?_) (fun c3=> ?_))))
   ·replace c3:i<k:=by omega
    refine WO.nil (WP.cond (t:=true) rfl (WP.skip (WP.seq (WP.block (WP.reg (WO.aA (v:=L.str (Lex.bX (i+1))) (L.scatE (m:=Lex.Fq) rfl (by kernel_rfl) (Co i) (by rw [hbl,Lex.Aj];omega)) (WO.nil (WP.reg (WO.aA (v:= .int .i64 ((i+1:Nat):Int)) (L.kC rfl rfl (by omega) (And.intro (by omega) (by omega))) (WO.nil ?_))))))))))
    exact ⟨i+1,(by omega),(.bool true),by omega,by kernel_rfl,st⟩
   ·replace c3:¬(i<k):=by omega
    refine WO.nil (WP.cond (t:=false) rfl (WP.exit (WP.seq (WP.reg ?_))))
    have ek:i=k:=by omega
    subst i
    have hbl:=y7 k
    obtain ⟨vs,ps,hvs,hps,hin,hE2,hM2⟩:=tx_more hE (by omega) (by omega:k≤9)
    have hlv:=congrArg (fun m=>m.vars.length) hM2
    have hlp:=congrArg (fun m=>m.procs.length) hM2
    simp only [List.length_append,hvs,hps] at hlv hlp
    have hfv:=(Ak s).vars
    have hfp:=(Ak s).procs
    refine WO.val (v:=L.str (s++Lex.bX k)) (L.scatE rfl rfl rfl (by rw [hbl];omega)) (WO.bR rfl (PK (s:=(s++Lex.bX k)) D st) ?_)
    rintro _ h ⟨row,rfl,hrl,st⟩
    obtain ⟨vi2,vv2,vp2,rfl,hv2,hp2⟩:=(st.aF 0 rfl).row
    clear hrl
    refine WO.val (v:= .agg [L.str (txM (s++Lex.bX k)).name, .int .i64 ((txM (s++Lex.bX k)).at_:Int),vi2,vv2,vp2]) rfl (WO.val (v:= .int .i64 (txE (s++Lex.bX k):Int)) rfl (WO.val (v:= .int .i64 (txA (s++Lex.bX k):Int)) rfl (WO.dQ st L.alloc (fun b2 h st=> ?_))))
    refine WO.aH (row':=[L.str (txM (s++Lex.bX k)).name, .int .i64 ((txM (s++Lex.bX k)).at_:Int),vi2,vv2,vp2]) st 0 rfl rfl rfl rfl rfl rfl rfl (fun h st=> ?_)
    refine WO.aA (v:= .int .i64 (txE (s++Lex.bX k):Int)) rfl (WO.nil (WP.seq (WP.seq (WP.reg (WO.bR rfl (num_c D.f12) ?_)))))
    rintro _ _ ⟨rfl,rfl⟩
    refine WO.ifV (L.neq rfl rfl) (fun c4=>by exfalso;exact c4 (by rw [hE2];rfl)) (fun c4=> ?_)
    refine WO.yes rfl (WO.val (v:= .ptr b2 3) (L.ak rfl) (WO.yes rfl (WO.val (v:=vv2) (L.ay rfl (st.aj 0 rfl) rfl) (WO.yes rfl (WO.val (v:= .int .i64 ((txM (s++Lex.bX k)).vars.length:Int)) (L.dO rfl (st.aF 1 rfl).vars (List.length_map _)) (WO.yes rfl (WO.val (v:= .ptr b1 3) (L.ak rfl) (WO.yes rfl (WO.val (v:=vv1) (L.ay rfl (st.aj 2 rfl) rfl) (WO.yes rfl (WO.val (v:= .int .i64 ((txM s).vars.length:Int)) (L.dO rfl (st.aF 3 rfl).vars (List.length_map _)) (WO.yes rfl (WO.val (v:= .int .i64 (k:Int)) rfl (WO.yes rfl (WO.val (v:= .int .i64 (((txM s).vars.length+k:Nat):Int)) (L.kC rfl rfl (by omega) (And.intro (by omega) (by omega))) (WO.yes rfl (WO.ifV (L.neq rfl rfl) (fun c5=>by exfalso;exact c5 (by omega)) (fun c5=> ?_))))))))))))))))))
    refine WO.val (v:= .bool false) rfl (WO.yes rfl (WO.val (v:= .ptr b2 4) (L.ak rfl) (WO.yes rfl (WO.val (v:=vp2) (L.ay rfl (st.aj 0 rfl) rfl) (WO.yes rfl ?_)))))
    obtain ⟨rw_,hR_,hL_⟩:=(st.aF 1 rfl).procs
    refine WO.val (v:= .int .i64 ((txM (s++Lex.bX k)).procs.length:Int)) (L.dO rfl hR_ hL_) ?_
    clear hR_ hL_
    refine WO.yes rfl (WO.val (v:= .ptr b1 4) (L.ak rfl) (WO.yes rfl (WO.val (v:=vp1) (L.ay rfl (st.aj 2 rfl) rfl) (WO.yes rfl ?_))))
    obtain ⟨rw_,hR_,hL_⟩:=(st.aF 3 rfl).procs
    refine WO.val (v:= .int .i64 ((txM s).procs.length:Int)) (L.dO rfl hR_ hL_) ?_
    clear hR_ hL_
    refine WO.yes rfl (WO.val (v:= .int .i64 (k:Int)) rfl (WO.yes rfl (WO.val (v:= .int .i64 (((txM s).procs.length+k:Nat):Int)) (L.kC rfl rfl (by omega) (And.intro (by omega) (by omega))) (WO.yes rfl (WO.ifV (L.neq rfl rfl) (fun c6=>by exfalso;exact c6 (by omega)) (fun c6=> ?_))))))
    refine WO.aA (v:= .bool false) rfl (WO.nil (WP.cond (t:=false) rfl (WP.skip (WP.seq (WP.seq (WP.reg (WO.ifV (L.gtr rfl rfl) (fun c7=> ?_) (fun c7=> ?_))))))))
    ·replace c7:k>0:=by omega
     refine WO.yes rfl (WO.val (v:= .ptr b2 3) (L.ak rfl) (WO.yes rfl (WO.val (v:=vv2) (L.ay rfl (st.aj 0 rfl) rfl) (WO.yes rfl (WO.val (v:= .ptr b2 3) (L.ak rfl) (WO.yes rfl (WO.val (v:=vv2) (L.ay rfl (st.aj 0 rfl) rfl) (WO.yes rfl (WO.val (v:= .int .i64 ((txM (s++Lex.bX k)).vars.length:Int)) (L.dO rfl (st.aF 1 rfl).vars (List.length_map _)) (WO.yes rfl (WO.val (v:= .int .i64 (((txM (s++Lex.bX k)).vars.length - 1:Nat):Int)) (L.Ol rfl rfl (by omega) (And.intro (by omega) (by omega))) (WO.yes rfl ?_))))))))))))
     obtain ⟨lv,hlast,hini⟩:=MQ (V:=(txM s).vars) hvs (by omega) hin
     have hR_:=(st.aF 1 rfl).vars
     refine WO.val (v:= .ptr (slB vv2) (slO vv2+((txM (s++Lex.bX k)).vars.length - 1) * 4)) (L.bI (Rows.sl hR_ (i:=(txM (s++Lex.bX k)).vars.length - 1) (by rw [List.length_map];omega)) rfl (by rw [List.length_map];omega)) (WO.yes rfl (WO.val (v:= .ptr (slB vv2) (slO vv2+((txM (s++Lex.bX k)).vars.length - 1) * 4+2)) (L.ak rfl) (WO.yes rfl (WO.val (v:= .int .i64 (-3)) (L.load rfl (hR_.iA (row:=Vr.row lv) (j:=2) (by rw [List.getElem?_map,hM2];simp only [List.length_append,hvs];rw [hlast];rfl) (by unfold Vr.row;rw [hini];rfl))) ?_))))
     clear hR_
     refine WO.yes rfl (WO.ifV (L.neq rfl rfl) (fun c8=>by exfalso;exact c8 rfl) (fun c8=> ?_))
     refine WO.aA (v:= .bool false) rfl (WO.nil (WP.cond (t:=false) rfl (WP.skip (WP.seq (WP.reg (WO.val (v:= .ptr b2 3) (L.ak rfl) (WO.val (v:=vv2) (L.ay rfl (st.aj 0 rfl) rfl) (WO.val (v:= .ptr b1 3) (L.ak rfl) (WO.val (v:=vv1) (L.ay rfl (st.aj 2 rfl) rfl) (WO.val (v:= .int .i64 ((txM s).vars.length:Int)) (L.dO rfl (st.aF 3 rfl).vars (List.length_map _)) (WO.val (v:=cutV vv2 (txM s).vars.length) (L.sslR rfl hv2 (st.aF 1 rfl).vars (fun _=>rfl) (by rw [List.length_map];omega)) (WO.val (v:= .ptr b2 3) (L.ak rfl) (WO.aH (row':=[L.str (txM (s++Lex.bX k)).name, .int .i64 ((txM (s++Lex.bX k)).at_:Int),vi2,cutV vv2 (txM s).vars.length,vp2]) st 0 rfl rfl (by exact vw _ _ hv2) rfl rfl rfl rfl (fun h st=> ?_))))))))))))))
     refine WO.nil (WP.seq (WP.reg (WO.val (v:= .ptr b2 4) (L.ak rfl) (WO.val (v:=vp2) (L.ay rfl (st.aj 0 rfl) rfl) (WO.val (v:= .ptr b1 4) (L.ak rfl) (WO.val (v:=vp1) (L.ay rfl (st.aj 2 rfl) rfl) ?_))))))
     obtain ⟨rw_,hR_,hL_⟩:=(st.aF 3 rfl).procs
     refine WO.val (v:= .int .i64 ((txM s).procs.length:Int)) (L.dO rfl hR_ hL_) ?_
     clear hR_ hL_
     obtain ⟨rw_,hR_,hL_⟩:=(st.aF 1 rfl).procs
     refine WO.val (v:=cutV vp2 (txM s).procs.length) (L.sslR rfl hp2 hR_ (fun _=>rfl) (by rw [hL_];omega)) ?_
     clear hR_ hL_
     refine WO.val (v:= .ptr b2 4) (L.ak rfl) (WO.aH (row':=[L.str (txM (s++Lex.bX k)).name, .int .i64 ((txM (s++Lex.bX k)).at_:Int),vi2,cutV vv2 (txM s).vars.length,cutV vp2 (txM s).procs.length]) st 0 rfl rfl (by exact vw _ _ hp2) rfl rfl rfl rfl (fun h st=> ?_))
     refine WO.nil (WP.seq (WP.reg (WO.val (v:= .agg [L.str (txM (s++Lex.bX k)).name, .int .i64 ((txM (s++Lex.bX k)).at_:Int),vi2,cutV vv2 (txM s).vars.length,cutV vp2 (txM s).procs.length]) (L.aI rfl (st.aj 0 rfl) rfl rfl rfl) (WO.val (v:= .agg [L.str (txM s).name, .int .i64 ((txM s).at_:Int),vi1,vv1,vp1]) (L.aI rfl (st.aj 2 rfl) rfl rfl rfl) ?_))))
     have st2:=((st.pick 3 rfl).pick 2 rfl)
     have st3:St (.stb (fun h=>MdR h (txM s) [L.str (txM s).name, .int .i64 ((txM s).at_:Int),vi1,vv1,vp1]):: .stb (fun h=>MdR h (txM s) [L.str (txM (s++Lex.bX k)).name, .int .i64 ((txM (s++Lex.bX k)).at_:Int),vi2,cutV vv2 (txM s).vars.length,cutV vp2 (txM s).procs.length])::_) _:=((st2.kI (fun _ a=>a.cut hM2)).pick 1 rfl).kI (fun _ a=>a.1)
     refine WO.bR rfl (K6 D rfl rfl (st3.pick 1 rfl) (Ak s)) ?_
     rintro _ h ⟨rfl,st⟩
     refine WO.yes rfl (WO.bR rfl (D.f9 _) ?_)
     rintro _ _ ⟨rfl,rfl⟩
     refine WO.aA (v:= .bool true) rfl (WO.nil (WP.ret ?_))
     exact ⟨_,(av (aB (v:= .bool true) rfl) (aG _ _)),rfl⟩
    ·replace c7:¬(k>0):=by omega
     refine WO.no rfl (WO.no rfl (WO.no rfl (WO.no rfl (WO.no rfl (WO.no rfl (WO.no rfl (WO.no rfl (WO.no rfl (WO.no rfl (WO.aA (v:= .bool false) rfl (WO.nil (WP.cond (t:=false) rfl (WP.skip (WP.seq (WP.reg (WO.val (v:= .ptr b2 3) (L.ak rfl) (WO.val (v:=vv2) (L.ay rfl (st.aj 0 rfl) rfl) (WO.val (v:= .ptr b1 3) (L.ak rfl) (WO.val (v:=vv1) (L.ay rfl (st.aj 2 rfl) rfl) (WO.val (v:= .int .i64 ((txM s).vars.length:Int)) (L.dO rfl (st.aF 3 rfl).vars (List.length_map _)) (WO.val (v:=cutV vv2 (txM s).vars.length) (L.sslR rfl hv2 (st.aF 1 rfl).vars (fun _=>rfl) (by rw [List.length_map];omega)) (WO.val (v:= .ptr b2 3) (L.ak rfl) (WO.aH (row':=[L.str (txM (s++Lex.bX k)).name, .int .i64 ((txM (s++Lex.bX k)).at_:Int),vi2,cutV vv2 (txM s).vars.length,vp2]) st 0 rfl rfl (by exact vw _ _ hv2) rfl rfl rfl rfl (fun h st=> ?_))))))))))))))))))))))))
     refine WO.nil (WP.seq (WP.reg (WO.val (v:= .ptr b2 4) (L.ak rfl) (WO.val (v:=vp2) (L.ay rfl (st.aj 0 rfl) rfl) (WO.val (v:= .ptr b1 4) (L.ak rfl) (WO.val (v:=vp1) (L.ay rfl (st.aj 2 rfl) rfl) ?_))))))
     obtain ⟨rw_,hR_,hL_⟩:=(st.aF 3 rfl).procs
     refine WO.val (v:= .int .i64 ((txM s).procs.length:Int)) (L.dO rfl hR_ hL_) ?_
     clear hR_ hL_
     obtain ⟨rw_,hR_,hL_⟩:=(st.aF 1 rfl).procs
     refine WO.val (v:=cutV vp2 (txM s).procs.length) (L.sslR rfl hp2 hR_ (fun _=>rfl) (by rw [hL_];omega)) ?_
     clear hR_ hL_
     refine WO.val (v:= .ptr b2 4) (L.ak rfl) (WO.aH (row':=[L.str (txM (s++Lex.bX k)).name, .int .i64 ((txM (s++Lex.bX k)).at_:Int),vi2,cutV vv2 (txM s).vars.length,cutV vp2 (txM s).procs.length]) st 0 rfl rfl (by exact vw _ _ hp2) rfl rfl rfl rfl (fun h st=> ?_))
     refine WO.nil (WP.seq (WP.reg (WO.val (v:= .agg [L.str (txM (s++Lex.bX k)).name, .int .i64 ((txM (s++Lex.bX k)).at_:Int),vi2,cutV vv2 (txM s).vars.length,cutV vp2 (txM s).procs.length]) (L.aI rfl (st.aj 0 rfl) rfl rfl rfl) (WO.val (v:= .agg [L.str (txM s).name, .int .i64 ((txM s).at_:Int),vi1,vv1,vp1]) (L.aI rfl (st.aj 2 rfl) rfl rfl rfl) ?_))))
     have st2:=((st.pick 3 rfl).pick 2 rfl)
     have st3:St (.stb (fun h=>MdR h (txM s) [L.str (txM s).name, .int .i64 ((txM s).at_:Int),vi1,vv1,vp1]):: .stb (fun h=>MdR h (txM s) [L.str (txM (s++Lex.bX k)).name, .int .i64 ((txM (s++Lex.bX k)).at_:Int),vi2,cutV vv2 (txM s).vars.length,cutV vp2 (txM s).procs.length])::_) _:=((st2.kI (fun _ a=>a.cut hM2)).pick 1 rfl).kI (fun _ a=>a.1)
     refine WO.bR rfl (K6 D rfl rfl (st3.pick 1 rfl) (Ak s)) ?_
     rintro _ h ⟨rfl,st⟩
     refine WO.yes rfl (WO.bR rfl (D.f9 _) ?_)
     rintro _ _ ⟨rfl,rfl⟩
     refine WO.aA (v:= .bool true) rfl (WO.nil (WP.ret ?_))
     exact ⟨_,(av (aB (v:= .bool true) rfl) (aG _ _)),rfl⟩
end
end Go.Eng.YtjobofnpmmjeoaaDoor
