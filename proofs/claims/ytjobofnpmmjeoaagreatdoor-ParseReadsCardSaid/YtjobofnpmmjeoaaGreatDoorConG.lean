/- Part of a proof of a law: rules of an evaluator, contracts, plain laws. No condition of its own. -/
import Derived.Test.YtjobofnpmmjeoaaGreatDoorConD
import Derived.Test.YtjobofnpmmjeoaaGreatDoorConE
import Derived.Test.YtjobofnpmmjeoaaGreatDoorConF
import Derived.Test.YtjobofnpmmjeoaaGreatDoorSymF
set_option linter.unusedVariables false
set_option linter.unusedSimpArgs false
namespace Go.Eng.YtjobofnpmmjeoaaGreatDoor
open Go.Eng
noncomputable section
variable {c:Ctx}
structure I9 (c:Ctx):Prop where
 x:ko c
 p:Pq.gq c
 q:Pq.uL c
 f4:∀h,aV c 4 [] h fun v h1=>v= .bool true∧h1=h
 f10:T.get 10 c.bf=some i10
 f39:T.get 39 c.bf=some i39
 f68:T.get 68 c.bf=some i68
 f57:T.get 57 c.bf=some i57
 f40:T.get 40 c.bf=some i40
 f23:T.get 23 c.bf=some i23
 f3:T.get 3 c.bf=some i3
 f9:T.get 9 c.bf=some i9
 f11:T.get 11 c.bf=some i11
theorem SL (D:I9 c) {fs:List Fact} {h:Heap} {s:List UInt8} (st:St fs h):aV c 5 [L.str s] h fun v h1=>∃row,v= .tup [.agg row, .int .i64 (txE s:Int), .int .i64 (txA s:Int)]∧row.length=5∧St (.stb (fun h=>MdR h (txM s) row)::fs) h1:=by
 obtain ⟨v,h1,hr,hp⟩:=Pq.Sb (s:=s) D.p D.q st
 refine ⟨v,h1,hr, ?_⟩
 unfold txM txE txA
 cases hs:Par.text s with
 |ok m=>rw [hs] at hp;exact hp
 |error z=>
  obtain ⟨e,a⟩:=z
  rw [hs] at hp
  obtain ⟨rfl,st⟩:=hp
  exact ⟨_,rfl,rfl,st.yA fun h=>MdR.zero h⟩
theorem LV (D:I9 c) {fs:List Fact} {h:Heap} {s:List UInt8} (st:St fs h):aV c 6 [L.str s] h fun v h1=>∃row,v= .tup [.agg row, .int .i64 (txE s:Int), .int .i64 (txA s:Int)]∧row.length=5∧St (.stb (fun h=>MdR h (txM s) row)::fs) h1:=by
 obtain ⟨v,h1,hr,hp⟩:=R5 (s:=s) D.x st
 refine ⟨v,h1,hr, ?_⟩
 unfold txM txE txA
 cases hs:Par.text s with
 |ok m=>rw [hs] at hp;exact hp
 |error z=>
  obtain ⟨e,a⟩:=z
  rw [hs] at hp
  obtain ⟨_,rfl,st⟩:=hp
  exact ⟨_,rfl,rfl,st.yA fun h=>MdR.zero h⟩
theorem SN (D:I9 c) {fs:List Fact} {h:Heap} {s:List UInt8} (st:St fs h):aV c 7 [L.str s] h fun v h1=>∃x,v= .tup [x, .int .i64 (rwE s:Int), .int .i64 (rwA s:Int)]∧x.bM=some [x]∧St (.stb (fun h=>Rows 3 h x ((rwP s).map Pm.row))::fs) h1:=by
 obtain ⟨v,h1,hr,hp⟩:=Pq.Sc (s:=s) D.p D.q st
 refine ⟨v,h1,hr, ?_⟩
 unfold rwP rwE rwA
 cases hs:Par.rows s with
 |ok m=>rw [hs] at hp;exact hp
 |error z=>
  obtain ⟨e,a⟩:=z
  rw [hs] at hp
  obtain ⟨rfl,st⟩:=hp
  exact ⟨_,rfl,rfl,st.yA fun h=> .nil⟩
theorem LW (D:I9 c) {fs:List Fact} {h:Heap} {s:List UInt8} (st:St fs h):aV c 8 [L.str s] h fun v h1=>∃x,v= .tup [x, .int .i64 (rwE s:Int), .int .i64 (rwA s:Int)]∧x.bM=some [x]∧St (.stb (fun h=>Rows 3 h x ((rwP s).map Pm.row))::fs) h1:=by
 obtain ⟨v,h1,hr,hp⟩:=NR (s:=s) D.x st
 refine ⟨v,h1,hr, ?_⟩
 unfold rwP rwE rwA
 cases hs:Par.rows s with
 |ok m=>rw [hs] at hp;exact hp
 |error z=>
  obtain ⟨e,a⟩:=z
  rw [hs] at hp
  obtain ⟨_,rfl,st⟩:=hp
  exact ⟨_,rfl,rfl,st.yA fun h=> .nil⟩
theorem Pm.row0 (x:Pm):Eq1.eqs [(0, .str),(1, .str),(2, .int)] [L.str x.name,L.str x.label, .int .i64 (x.at_:Int)] [L.str x.name,L.str x.label, .int .i64 (x.at_:Int)]=some true:=
 Eq1.jX rfl (Eq1.xY _) (Eq1.jX rfl (Eq1.xY _) (Eq1.jX rfl (Eq1.qK _) (by simp [Eq1.eqs])))
theorem Mr (s:List UInt8):(rwP s).length<4294967296:=by
 unfold rwP
 split
 ·rename_i m hm;have:=Q6 hm;omega
 ·simp
theorem Ja (D:I9 c) {fs:List Fact} {h:Heap} {m:List Pm} {v1 v2:V} (hn:m.length<4294967296) (st:St (.stb (fun h=>Rows 3 h v1 (m.map Pm.row)):: .stb (fun h=>Rows 3 h v2 (m.map Pm.row))::fs) h):
 aV c 11 [v1,v2] h fun v h1=>v= .bool true∧St fs h1:=by
 refine aV.dh D.f11 rfl (WP.seq (WP.reg (WO.aB (v:= .bool false) rfl (WO.nil (WP.seq (WP.seq (WP.reg (WO.val (v:= .int .i64 (m.length:Int)) (L.dJ rfl (st.aJ 0 rfl) (List.length_map _)) (WO.val (v:= .int .i64 (m.length:Int)) (L.dJ rfl (st.aJ 1 rfl) (List.length_map _)) (WO.ifS (L.neq rfl rfl) (fun c1=>by exfalso;exact c1 rfl) (fun c1=> ?_)))))))))))
 refine WO.nil (WP.cond (t:=false) rfl (WP.skip (WP.seq (WP.seq (WP.reg (WO.aB (v:= .int .i64 0) rfl (WO.nil (WP.block (WP.eO (α:=Nat) (fun i env h=>∃dz2 dz5 dz6,(i≤m.length)∧env=bG [v1,v2,dz2, .bool false, .int .i64 (i:Int),dz5,dz6] 0 Env.nil∧St (.stb (fun h=>Rows 3 h v1 (m.map Pm.row)):: .stb (fun h=>Rows 3 h v2 (m.map Pm.row))::fs) h) (fun i=>m.length - i) 0 ?_ ?_)))))))))
 ·exact ⟨(.bool false), .bot, .bot,(Nat.zero_le _),by kernel_rfl,st⟩
 rintro i _ h ⟨dz2,dz5,dz6,hi,rfl,st⟩
 refine WP.seq (WP.seq (WP.reg (WO.val (v:= .int .i64 (m.length:Int)) (L.dJ rfl (st.aJ 0 rfl) (List.length_map _)) (WO.ifS (L.lss rfl rfl) (fun c1=> ?_) (fun c1=> ?_)))))
 ·have hlt:i<m.length:=by omega
  obtain ⟨x,hx⟩:∃x,m[i]? =some x:=⟨_,List.getElem?_eq_getElem hlt⟩
  refine WO.nil (WP.cond (t:=true) rfl (WP.skip (WP.seq (WP.block (WP.seq (WP.draw (WD.val (v:=v1) rfl (WD.val (v:= .int .i64 (i:Int)) rfl (WD.val (v:= .ptr (slB v1) (slO v1+i * 3)) (L.bT (Rows.sl (st.aJ 0 rfl) (by simpa using hlt)) rfl (by simpa using hlt)) (WD.val (v:= .agg [L.str x.name,L.str x.label, .int .i64 (x.at_:Int)]) (L.aY rfl (Rows.fu (st.aJ 0 rfl) (by rw [List.getElem?_map,hx];rfl))) ?_))))))))))
  refine WD.val (v:=v2) rfl (WD.val (v:= .int .i64 (i:Int)) rfl (WD.val (v:= .ptr (slB v2) (slO v2+i * 3)) (L.bT (Rows.sl (st.aJ 1 rfl) (by simpa using hlt)) rfl (by simpa using hlt)) (WD.val (v:= .agg [L.str x.name,L.str x.label, .int .i64 (x.at_:Int)]) (L.aY rfl (Rows.fu (st.aJ 1 rfl) (by rw [List.getElem?_map,hx];rfl))) ?_)))
  refine WD.aB (v:= .bool false) (L.Ei rfl rfl (Pm.row0 x)) (WD.nil (WP.cond (t:=false) rfl (WP.skip (WP.reg (WO.aB (v:= .int .i64 ((i+1:Nat):Int)) (L.fQ rfl rfl (by omega) (And.intro (by omega) (by omega))) (WO.nil ?_))))))
  exact ⟨i+1,(by omega),dz2,(.bool true),(.bool false),by omega,by kernel_rfl,st⟩
 ·have _:=trivial
  refine WO.nil (WP.cond (t:=false) rfl (WP.exit (WP.seq (WP.reg (WO.aB (v:= .bool true) rfl (WO.nil (WP.ret ?_)))))))
  exact ⟨_,(ak (aD (v:= .bool true) rfl) (aF _ _)),rfl,st.tail.tail⟩
theorem Ms (D:I9 c) {fs:List Fact} {h:Heap} {m:Md} {row row':List V} (hr:row.length=5) (hr':row'.length=5) (st:St (.stb (fun h=>MdR h m row):: .stb (fun h=>MdR h m row')::fs) h) (hf:IW m):
 aV c 9 [.agg row, .agg row'] h fun v h1=>v= .bool true∧St fs h1:=by
 refine aV.dh D.f9 rfl (WP.seq (WP.reg (WO.bL st (L.box (l:=row) rfl (by rw [dB,hr])) (fun b1 h st=> ?_))))
 refine WO.bL st (L.box (l:=row') rfl (by rw [dB,hr'])) (fun b2 h st=> ?_)
 refine WO.aB (v:= .bool false) rfl (WO.nil (WP.seq (WP.reg (WO.val (v:= .agg row) (L.aK rfl (st.aj 1 rfl) rfl (by rw [dB,hr];rfl) (jy hr)) (WO.val (v:= .agg row') (L.aK rfl (st.aj 0 rfl) rfl (by rw [dB,hr'];rfl) (jy hr')) (WO.aU rfl (Pq.cmpmd_t D.f39 D.f68 D.f57 D.f40 D.f23 ((st.pick 3 rfl).pick 3 rfl) (MdEq.rf true _) hf) ?_))))))
 rintro _ h ⟨rfl,st⟩
 refine WO.nil (WP.ret ?_)
 exact ⟨_,(ak (aD (v:= .bool true) rfl) (aF _ _)),rfl,st.tail.tail⟩
theorem Mt (H:T.get 10 c.bf=some i10) {h0:Heap} {x:Int}:aV c 10 [.int .i64 x] h0 fun v1 h1=>v1= .int .i64 x∧h1=h0:=by
 refine aV.dh H rfl (WP.seq (WP.reg (WO.aB (v:= .int .i64 0) rfl (WO.nil (WP.seq (WP.reg (WO.aB (v:= .int .i64 x) rfl (WO.nil (WP.ret ?_)))))))))
 exact ⟨_,(ak (aD (v:= .int .i64 x) rfl) (aF _ _)),rfl,rfl⟩
theorem reads_c (D:I9 c) {h:Heap} {s:List UInt8} (st:St [] h):
 aV c 3 [L.str s] h fun v1 _=>v1= .bool true:=by
 refine aV.dh D.f3 rfl (WP.seq (WP.reg (WO.aB (v:= .bool false) rfl (WO.nil (WP.seq (WP.seq (WP.reg (WO.val (v:= .int .i64 (s.length:Int)) (L.nT rfl) (WO.ifV (L.gtr rfl rfl) (fun c1=> ?_) (fun c1=> ?_))))))))))
 ·replace c1:s.length>2000:=by omega
  refine WO.yes rfl (WO.val (v:=L.str s) rfl (WO.yes rfl (WO.val (v:= .int .i64 (s.length:Int)) (L.nT rfl) (WO.yes rfl (WO.ifV (L.leq rfl rfl) (fun c2=> ?_) (fun c2=> ?_))))))
  ·replace c2:s.length≤8192:=by omega
   refine WO.aB (v:= .bool true) rfl (WO.nil (WP.cond (t:=true) rfl (WP.seq (WP.reg (WO.aU rfl (D.f4 _) ?_)))))
   rintro _ _ ⟨rfl,rfl⟩
   refine WO.nil (WP.ret ?_)
   exact ⟨_,(ak (aD (v:= .bool true) rfl) (aF _ _)),rfl⟩
  ·replace c2:¬(s.length≤8192):=by omega
   refine WO.aB (v:= .bool false) rfl (WO.nil (WP.cond (t:=false) rfl (WP.skip (WP.seq (WP.reg (WO.aM rfl (SL (s:=s) D st) ?_))))))
   rintro _ h ⟨row1,rfl,hr1,st⟩
   refine WO.val (v:= .agg row1) rfl (WO.val (v:= .int .i64 (txE s:Int)) rfl (WO.val (v:= .int .i64 (txA s:Int)) rfl (WO.bL st L.alloc (fun b1 h st=> ?_))))
   refine WO.aG (row':=row1) st 0 rfl rfl rfl (by rw [dB];exact hr1) rfl rfl (kJ hr1) (fun h st=> ?_)
   refine WO.aB (v:= .int .i64 (txE s:Int)) rfl (WO.aB (v:= .int .i64 (txA s:Int)) rfl (WO.nil (WP.seq (WP.reg (WO.aM rfl (LV (s:=s) D st) ?_)))))
   rintro _ h ⟨row2,rfl,hr2,st⟩
   refine WO.val (v:= .agg row2) rfl (WO.val (v:= .int .i64 (txE s:Int)) rfl (WO.val (v:= .int .i64 (txA s:Int)) rfl (WO.bL st L.alloc (fun b2 h st=> ?_))))
   refine WO.aG (row':=row2) st 0 rfl rfl rfl (by rw [dB];exact hr2) rfl rfl (kJ hr2) (fun h st=> ?_)
   refine WO.aB (v:= .int .i64 (txE s:Int)) rfl (WO.aB (v:= .int .i64 (txA s:Int)) rfl (WO.nil (WP.seq (WP.reg (WO.aM rfl (SN (s:=s) D st) ?_)))))
   rintro _ h ⟨x1,rfl,hx1,st⟩
   refine WO.val (v:=x1) rfl (WO.val (v:= .int .i64 (rwE s:Int)) rfl (WO.val (v:= .int .i64 (rwA s:Int)) rfl (WO.aB (v:=x1) rfl (WO.aB (v:= .int .i64 (rwE s:Int)) rfl (WO.aB (v:= .int .i64 (rwA s:Int)) rfl (WO.nil (WP.seq (WP.reg (WO.aM rfl (LW (s:=s) D st) ?_)))))))))
   rintro _ h ⟨x2,rfl,hx2,st⟩
   refine WO.val (v:=x2) rfl (WO.val (v:= .int .i64 (rwE s:Int)) rfl (WO.val (v:= .int .i64 (rwA s:Int)) rfl (WO.aB (v:=x2) rfl (WO.aB (v:= .int .i64 (rwE s:Int)) rfl (WO.aB (v:= .int .i64 (rwA s:Int)) rfl (WO.nil (WP.seq (WP.reg (WO.val (v:= .agg row1) (L.aK rfl (st.aj 4 rfl) rfl (by rw [dB,hr1];rfl) (jy hr1)) (WO.val (v:= .agg row2) (L.aK rfl (st.aj 2 rfl) rfl (by rw [dB,hr2];rfl) (jy hr2)) (WO.aM rfl (Ms D hr1 hr2 ((st.pick 3 rfl).pick 5 rfl) (LU s)) ?_)))))))))))
   rintro _ h ⟨rfl,st⟩
   refine WO.yes rfl (WO.val (v:= .int .i64 (txE s:Int)) rfl (WO.yes rfl (WO.aM rfl (Mt D.f10) ?_)))
   rintro _ _ ⟨rfl,rfl⟩
   refine WO.yes rfl (WO.val (v:= .int .i64 (txE s:Int)) rfl (WO.yes rfl (WO.ifV (L.eql rfl rfl) (fun c3=> ?_) (fun c3=>by exfalso;exact c3 rfl))))
   refine WO.val (v:= .bool true) rfl (WO.yes rfl (WO.val (v:= .int .i64 (txA s:Int)) rfl (WO.yes rfl (WO.val (v:= .int .i64 (txA s:Int)) rfl (WO.yes rfl (WO.ifV (L.eql rfl rfl) (fun c4=> ?_) (fun c4=>by exfalso;exact c4 rfl)))))))
   refine WO.val (v:= .bool true) rfl (WO.yes rfl (WO.val (v:=x1) rfl (WO.yes rfl (WO.val (v:=x2) rfl (WO.yes rfl (WO.aM rfl (Ja D (Mr s) (st.pick 1 rfl)) ?_))))))
   rintro _ h ⟨rfl,st⟩
   refine WO.val (v:= .bool true) rfl (WO.yes rfl (WO.val (v:= .int .i64 (rwE s:Int)) rfl (WO.yes rfl (WO.aM rfl (Mt D.f10) ?_))))
   rintro _ _ ⟨rfl,rfl⟩
   refine WO.yes rfl (WO.val (v:= .int .i64 (rwE s:Int)) rfl (WO.yes rfl (WO.ifV (L.eql rfl rfl) (fun c5=> ?_) (fun c5=>by exfalso;exact c5 rfl))))
   refine WO.val (v:= .bool true) rfl (WO.yes rfl (WO.val (v:= .int .i64 (rwA s:Int)) rfl (WO.yes rfl (WO.val (v:= .int .i64 (rwA s:Int)) rfl (WO.yes rfl (WO.ifV (L.eql rfl rfl) (fun c6=> ?_) (fun c6=>by exfalso;exact c6 rfl)))))))
   refine WO.val (v:= .bool true) rfl (WO.yes rfl (WO.aM rfl (D.f4 _) ?_))
   rintro _ _ ⟨rfl,rfl⟩
   refine WO.aB (v:= .bool true) rfl (WO.nil (WP.ret ?_))
   exact ⟨_,(ak (aD (v:= .bool true) rfl) (aF _ _)),rfl⟩
 ·replace c1:¬(s.length>2000):=by omega
  refine WO.no rfl (WO.no rfl (WO.no rfl (WO.aB (v:= .bool false) rfl (WO.nil (WP.cond (t:=false) rfl (WP.skip (WP.seq (WP.reg (WO.aM rfl (SL (s:=s) D st) ?_)))))))))
  rintro _ h ⟨row1,rfl,hr1,st⟩
  refine WO.val (v:= .agg row1) rfl (WO.val (v:= .int .i64 (txE s:Int)) rfl (WO.val (v:= .int .i64 (txA s:Int)) rfl (WO.bL st L.alloc (fun b1 h st=> ?_))))
  refine WO.aG (row':=row1) st 0 rfl rfl rfl (by rw [dB];exact hr1) rfl rfl (kJ hr1) (fun h st=> ?_)
  refine WO.aB (v:= .int .i64 (txE s:Int)) rfl (WO.aB (v:= .int .i64 (txA s:Int)) rfl (WO.nil (WP.seq (WP.reg (WO.aM rfl (LV (s:=s) D st) ?_)))))
  rintro _ h ⟨row2,rfl,hr2,st⟩
  refine WO.val (v:= .agg row2) rfl (WO.val (v:= .int .i64 (txE s:Int)) rfl (WO.val (v:= .int .i64 (txA s:Int)) rfl (WO.bL st L.alloc (fun b2 h st=> ?_))))
  refine WO.aG (row':=row2) st 0 rfl rfl rfl (by rw [dB];exact hr2) rfl rfl (kJ hr2) (fun h st=> ?_)
  refine WO.aB (v:= .int .i64 (txE s:Int)) rfl (WO.aB (v:= .int .i64 (txA s:Int)) rfl (WO.nil (WP.seq (WP.reg (WO.aM rfl (SN (s:=s) D st) ?_)))))
  rintro _ h ⟨x1,rfl,hx1,st⟩
  refine WO.val (v:=x1) rfl (WO.val (v:= .int .i64 (rwE s:Int)) rfl (WO.val (v:= .int .i64 (rwA s:Int)) rfl (WO.aB (v:=x1) rfl (WO.aB (v:= .int .i64 (rwE s:Int)) rfl (WO.aB (v:= .int .i64 (rwA s:Int)) rfl (WO.nil (WP.seq (WP.reg (WO.aM rfl (LW (s:=s) D st) ?_)))))))))
  rintro _ h ⟨x2,rfl,hx2,st⟩
  refine WO.val (v:=x2) rfl (WO.val (v:= .int .i64 (rwE s:Int)) rfl (WO.val (v:= .int .i64 (rwA s:Int)) rfl (WO.aB (v:=x2) rfl (WO.aB (v:= .int .i64 (rwE s:Int)) rfl (WO.aB (v:= .int .i64 (rwA s:Int)) rfl (WO.nil (WP.seq (WP.reg (WO.val (v:= .agg row1) (L.aK rfl (st.aj 4 rfl) rfl (by rw [dB,hr1];rfl) (jy hr1)) (WO.val (v:= .agg row2) (L.aK rfl (st.aj 2 rfl) rfl (by rw [dB,hr2];rfl) (jy hr2)) (WO.aM rfl (Ms D hr1 hr2 ((st.pick 3 rfl).pick 5 rfl) (LU s)) ?_)))))))))))
  rintro _ h ⟨rfl,st⟩
  refine WO.yes rfl (WO.val (v:= .int .i64 (txE s:Int)) rfl (WO.yes rfl (WO.aM rfl (Mt D.f10) ?_)))
  rintro _ _ ⟨rfl,rfl⟩
  refine WO.yes rfl (WO.val (v:= .int .i64 (txE s:Int)) rfl (WO.yes rfl (WO.ifV (L.eql rfl rfl) (fun c7=> ?_) (fun c7=>by exfalso;exact c7 rfl))))
  refine WO.val (v:= .bool true) rfl (WO.yes rfl (WO.val (v:= .int .i64 (txA s:Int)) rfl (WO.yes rfl (WO.val (v:= .int .i64 (txA s:Int)) rfl (WO.yes rfl (WO.ifV (L.eql rfl rfl) (fun c8=> ?_) (fun c8=>by exfalso;exact c8 rfl)))))))
  refine WO.val (v:= .bool true) rfl (WO.yes rfl (WO.val (v:=x1) rfl (WO.yes rfl (WO.val (v:=x2) rfl (WO.yes rfl (WO.aM rfl (Ja D (Mr s) (st.pick 1 rfl)) ?_))))))
  rintro _ h ⟨rfl,st⟩
  refine WO.val (v:= .bool true) rfl (WO.yes rfl (WO.val (v:= .int .i64 (rwE s:Int)) rfl (WO.yes rfl (WO.aM rfl (Mt D.f10) ?_))))
  rintro _ _ ⟨rfl,rfl⟩
  refine WO.yes rfl (WO.val (v:= .int .i64 (rwE s:Int)) rfl (WO.yes rfl (WO.ifV (L.eql rfl rfl) (fun c9=> ?_) (fun c9=>by exfalso;exact c9 rfl))))
  refine WO.val (v:= .bool true) rfl (WO.yes rfl (WO.val (v:= .int .i64 (rwA s:Int)) rfl (WO.yes rfl (WO.val (v:= .int .i64 (rwA s:Int)) rfl (WO.yes rfl (WO.ifV (L.eql rfl rfl) (fun c10=> ?_) (fun c10=>by exfalso;exact c10 rfl)))))))
  refine WO.val (v:= .bool true) rfl (WO.yes rfl (WO.aM rfl (D.f4 _) ?_))
  rintro _ _ ⟨rfl,rfl⟩
  refine WO.aB (v:= .bool true) rfl (WO.nil (WP.ret ?_))
  exact ⟨_,(ak (aD (v:= .bool true) rfl) (aF _ _)),rfl⟩
end
end Go.Eng.YtjobofnpmmjeoaaGreatDoor
