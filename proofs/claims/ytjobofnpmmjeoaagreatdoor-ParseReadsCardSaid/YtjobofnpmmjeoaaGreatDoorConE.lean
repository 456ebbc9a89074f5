/- Part of a proof of a law: rules of an evaluator, contracts, plain laws. No condition of its own. -/
import Derived.Test.YtjobofnpmmjeoaaGreatDoorConD
set_option linter.unusedVariables false
set_option linter.unusedSimpArgs false
namespace Go.Eng.YtjobofnpmmjeoaaGreatDoor.Pq
open Go.Eng
noncomputable section
variable {c:Ctx}
theorem LH (D:gq c) {fs:List Fact} {h:Heap} {b:UInt8} (st:St fs h):
 aV c 43 [.int .u8 (b.toNat:Int)] h fun v h1=>v= .bool (Lex.small b)∧St fs h1:=by
 refine aV.dh D.f43 rfl (WP.seq (WP.reg (WO.aB (v:= .bool false) rfl (WO.nil (WP.seq (WP.reg (WO.ifV (L.geq rfl rfl) (fun c1=> ?_) (fun c1=> ?_))))))))
 ·replace c1:b.toNat≥97:=by omega
  refine WO.yes rfl (WO.val (v:= .int .u8 (b.toNat:Int)) rfl (WO.yes rfl (WO.ifV (L.leq rfl rfl) (fun c2=> ?_) (fun c2=> ?_))))
  ·replace c2:b.toNat≤122:=by omega
   refine WO.aB (v:= .bool true) rfl (WO.nil (WP.ret ?_))
   exact ⟨_,(ak (aD (v:= .bool true) rfl) (aF _ _)),(by simp [Lex.small,one, *]<;>omega),st⟩
  ·replace c2:¬(b.toNat≤122):=by omega
   refine WO.aB (v:= .bool false) rfl (WO.nil (WP.ret ?_))
   exact ⟨_,(ak (aD (v:= .bool false) rfl) (aF _ _)),(by simp [Lex.small,one, *]<;>omega),st⟩
 ·replace c1:¬(b.toNat≥97):=by omega
  refine WO.no rfl (WO.no rfl (WO.aB (v:= .bool false) rfl (WO.nil (WP.ret ?_))))
  exact ⟨_,(ak (aD (v:= .bool false) rfl) (aF _ _)),(by simp [Lex.small,one, *]<;>omega),st⟩
theorem FP (D:gq c) {fs:List Fact} {h:Heap} {b:UInt8} (st:St fs h):
 aV c 46 [.int .u8 (b.toNat:Int)] h fun v h1=>v= .bool (Lex.digit b)∧St fs h1:=by
 refine aV.dh D.f46 rfl (WP.seq (WP.reg (WO.aB (v:= .bool false) rfl (WO.nil (WP.seq (WP.reg (WO.ifV (L.geq rfl rfl) (fun c1=> ?_) (fun c1=> ?_))))))))
 ·replace c1:b.toNat≥48:=by omega
  refine WO.yes rfl (WO.val (v:= .int .u8 (b.toNat:Int)) rfl (WO.yes rfl (WO.ifV (L.leq rfl rfl) (fun c2=> ?_) (fun c2=> ?_))))
  ·replace c2:b.toNat≤57:=by omega
   refine WO.aB (v:= .bool true) rfl (WO.nil (WP.ret ?_))
   exact ⟨_,(ak (aD (v:= .bool true) rfl) (aF _ _)),(by simp [Lex.digit,one, *]<;>omega),st⟩
  ·replace c2:¬(b.toNat≤57):=by omega
   refine WO.aB (v:= .bool false) rfl (WO.nil (WP.ret ?_))
   exact ⟨_,(ak (aD (v:= .bool false) rfl) (aF _ _)),(by simp [Lex.digit,one, *]<;>omega),st⟩
 ·replace c1:¬(b.toNat≥48):=by omega
  refine WO.no rfl (WO.no rfl (WO.aB (v:= .bool false) rfl (WO.nil (WP.ret ?_))))
  exact ⟨_,(ak (aD (v:= .bool false) rfl) (aF _ _)),(by simp [Lex.digit,one, *]<;>omega),st⟩
theorem Da (D:gq c) {fs:List Fact} {h:Heap} {b:UInt8} (st:St fs h):
 aV c 44 [.int .u8 (b.toNat:Int)] h fun v h1=>v= .bool (Lex.within b)∧St fs h1:=by
 refine aV.dh D.f44 rfl (WP.seq (WP.reg (WO.aB (v:= .bool false) rfl (WO.nil (WP.seq (WP.reg (WO.aM rfl (LH D st) ?_)))))))
 rintro _ h ⟨rfl,st⟩
 cases hb1:Lex.small b
 ·refine WO.yes rfl (WO.val (v:= .int .u8 (b.toNat:Int)) rfl (WO.yes rfl (WO.aM rfl (FP D st) ?_)))
  rintro _ h ⟨rfl,st⟩
  cases hb2:Lex.digit b
  ·refine WO.val (v:= .bool false) rfl (WO.yes rfl (WO.val (v:= .int .u8 (b.toNat:Int)) rfl (WO.yes rfl (WO.ifV (L.eql rfl rfl) (fun c1=> ?_) (fun c1=> ?_)))))
   ·replace c1:b.toNat=95:=by omega
    refine WO.aB (v:= .bool true) rfl (WO.nil (WP.ret ?_))
    exact ⟨_,(ak (aD (v:= .bool true) rfl) (aF _ _)),(by simp [Lex.within,one, *]),st⟩
   ·replace c1:¬(b.toNat=95):=by omega
    refine WO.aB (v:= .bool false) rfl (WO.nil (WP.ret ?_))
    exact ⟨_,(ak (aD (v:= .bool false) rfl) (aF _ _)),(by simp [Lex.within,one, *]),st⟩
  ·refine WO.val (v:= .bool true) rfl (WO.no rfl (WO.no rfl (WO.aB (v:= .bool true) rfl (WO.nil (WP.ret ?_)))))
   exact ⟨_,(ak (aD (v:= .bool true) rfl) (aF _ _)),(by simp [Lex.within,one, *]),st⟩
 ·refine WO.no rfl (WO.no rfl (WO.val (v:= .bool true) rfl (WO.no rfl (WO.no rfl (WO.aB (v:= .bool true) rfl (WO.nil (WP.ret ?_)))))))
  exact ⟨_,(ak (aD (v:= .bool true) rfl) (aF _ _)),(by simp [Lex.within,one, *]),st⟩
theorem notnl_c (D:gq c) {fs:List Fact} {h:Heap} {b:UInt8} (st:St fs h):
 aV c 42 [.int .u8 (b.toNat:Int)] h fun v h1=>v= .bool (Lex.iV b)∧St fs h1:=by
 refine aV.dh D.f42 rfl (WP.seq (WP.reg (WO.aB (v:= .bool false) rfl (WO.nil (WP.seq (WP.reg (WO.ifS (L.neq rfl rfl) (fun c1=> ?_) (fun c1=> ?_))))))))
 ·replace c1:b.toNat≠10:=by omega
  refine WO.nil (WP.ret ?_)
  exact ⟨_,(ak (aD (v:= .bool true) rfl) (aF _ _)),(by simp [Lex.iV,one, *]),st⟩
 ·replace c1:¬(b.toNat≠10):=by omega
  refine WO.nil (WP.ret ?_)
  exact ⟨_,(ak (aD (v:= .bool false) rfl) (aF _ _)),(by simp [Lex.iV,one, *]),st⟩
theorem R7 (D:gq c) {isf:UInt8→Bool} {g:Nat} (hone:∀{fs:List Fact} {h:Heap} {b:UInt8},St fs h→aV c g [.int .u8 (b.toNat:Int)] h fun v h1=>v= .bool (isf b)∧St fs h1) {fs:List Fact} {h:Heap} {ab sb pos:Nat} {s:List UInt8} (st:St (.box ab [.int .i64 (pos:Int)]:: .box sb [L.str s]::fs) h) (hp:pos≤s.length) (hs:s.length<4294967296):
 aV c 41 [.fn g [] [], .ptr ab 0, .ptr sb 0] h fun v h1=>v=L.str ((s.drop pos).takeWhile isf)∧St (.box ab [.int .i64 ((pos+((s.drop pos).takeWhile isf).length:Nat):Int)]:: .box sb [L.str s]::fs) h1:=by
 refine aV.dh D.f41 rfl (WP.seq (WP.reg (WO.aB (v:= .str 0 0) rfl (WO.nil (WP.seq (WP.reg (WO.aB (v:= .int .i64 (pos:Int)) (L.aC rfl (st.aj 0 rfl) rfl) (WO.nil (WP.seq (WP.block (WP.eO (α:=Nat) (fun k env h=>∃x4,(pos+k≤s.length∧(s.drop pos).takeWhile isf=(s.drop pos).take k++(s.drop (pos+k)).takeWhile isf)∧env=bG [.fn g [] [], .ptr ab 0, .ptr sb 0, .str 0 0,x4, .int .i64 (pos:Int)] 0 Env.nil∧St (.box ab [.int .i64 ((pos+k:Nat):Int)]:: .box sb [L.str s]::fs) h) (fun k=>s.length - (pos+k)) 0 ?_ ?_)))))))))))
 ·exact ⟨.bot,⟨hp,by simp⟩,by kernel_rfl,st⟩
 rintro k _ h ⟨x4,⟨hk1,hk2⟩,rfl,st⟩
 refine WP.seq (WP.seq (WP.reg (WO.val (v:= .int .i64 ((pos+k:Nat):Int)) (L.aC rfl (st.aj 0 rfl) rfl) (WO.val (v:=L.str s) (L.aC rfl (st.aj 1 rfl) rfl) (WO.val (v:= .int .i64 (s.length:Int)) (L.nT rfl) (WO.ifV (L.lss rfl rfl) (fun c1=> ?_) (fun c1=> ?_)))))))
 ·replace c1:(pos+k)<s.length:=by omega
  refine WO.yes rfl (WO.val (v:= .fn g [] []) rfl (WO.yes rfl (WO.val (v:=L.str s) (L.aC rfl (st.aj 1 rfl) rfl) (WO.yes rfl (WO.val (v:= .int .i64 ((pos+k:Nat):Int)) (L.aC rfl (st.aj 0 rfl) rfl) (WO.yes rfl ?_))))))
  obtain ⟨b,hb⟩:∃b,s[pos+k]? =some b:=⟨_,List.getElem?_eq_getElem c1⟩
  refine WO.val (v:= .int .u8 (b.toNat:Int)) (L.qm rfl rfl hb) (WO.yes rfl (WO.QK rfl rfl (hone st) ?_))
  rintro _ h ⟨rfl,st⟩
  cases hb1:isf b
  ·refine WO.aB (v:= .bool false) rfl (WO.nil (WP.cond (t:=false) rfl (WP.exit (WP.seq (WP.reg (WO.val (v:=L.str s) (L.aC rfl (st.aj 1 rfl) rfl) (WO.val (v:= .int .i64 ((pos+k:Nat):Int)) (L.aC rfl (st.aj 0 rfl) rfl) (WO.aB (v:=L.str ((s.drop pos).take (pos+k - pos))) (L.JN rfl rfl rfl (by omega) (by omega)) (WO.nil (WP.ret ?_))))))))))
   have hz:(s.drop (pos+k)).takeWhile isf=[]:=lW hb hb1
   have htw:(s.drop pos).takeWhile isf=(s.drop pos).take k:=by rw [hk2,hz,List.append_nil]
   have hkl:((s.drop pos).takeWhile isf).length=k:=by rw [htw];simp;omega
   rw [hkl,htw]
   exact ⟨_,(ak (aD (v:=L.str ((s.drop pos).take (pos+k - pos))) rfl) (aF _ _)),(by rw [show pos+k - pos=k by omega];rfl),st⟩
  ·refine WO.aB (v:= .bool true) rfl (WO.nil (WP.cond (t:=true) rfl (WP.skip (WP.block (WP.reg (WO.val (v:= .int .i64 ((pos+k:Nat):Int)) (L.aC rfl (st.aj 0 rfl) rfl) (WO.val (v:= .int .i64 ((pos+(k+1):Nat):Int)) (L.fQ rfl rfl (by omega) (And.intro (by omega) (by omega))) (WO.aG (row':=[.int .i64 ((pos+(k+1):Nat):Int)]) st 0 rfl rfl rfl rfl rfl rfl rfl (fun h st=> ?_)))))))))
   refine WO.nil ?_
   have hnx:(s.drop pos).takeWhile isf=(s.drop pos).take (k+1)++(s.drop (pos+(k+1))).takeWhile isf:=by
    rw [hk2,iR hb hb1,List.take_add_one,List.getElem?_drop,hb];simp [Nat.add_assoc]
   exact ⟨k+1,(by omega),(.bool true),⟨by omega,hnx⟩,by kernel_rfl,st⟩
 ·replace c1:¬((pos+k)<s.length):=by omega
  refine WO.no rfl (WO.no rfl (WO.no rfl (WO.no rfl (WO.no rfl (WO.aB (v:= .bool false) rfl (WO.nil (WP.cond (t:=false) rfl (WP.exit (WP.seq (WP.reg (WO.val (v:=L.str s) (L.aC rfl (st.aj 1 rfl) rfl) (WO.val (v:= .int .i64 ((pos+k:Nat):Int)) (L.aC rfl (st.aj 0 rfl) rfl) (WO.aB (v:=L.str ((s.drop pos).take (pos+k - pos))) (L.JN rfl rfl rfl (by omega) (by omega)) (WO.nil (WP.ret ?_)))))))))))))))
  have hz:(s.drop (pos+k)).takeWhile isf=[]:=(by rw [List.drop_of_length_le (by omega)];rfl)
  have htw:(s.drop pos).takeWhile isf=(s.drop pos).take k:=by rw [hk2,hz,List.append_nil]
  have hkl:((s.drop pos).takeWhile isf).length=k:=by rw [htw];simp;omega
  rw [hkl,htw]
  exact ⟨_,(ak (aD (v:=L.str ((s.drop pos).take (pos+k - pos))) rfl) (aF _ _)),(by rw [show pos+k - pos=k by omega];rfl),st⟩
theorem index_c (D:gq c) {fs:List Fact} {h:Heap} {b o:Nat} {cap:Option Nat} {ss:List (List UInt8)} {x:List UInt8} (st:St (.stb (fun h=>Rows 1 h (.sl b o ss.length cap) (ss.map bK))::fs) h) (hsm:ss.length<4294967296):
 aV c 78 [.sl b o ss.length cap,L.str x] h fun v h1=>((∃k:Nat,v= .int .i64 (k:Int)∧ss[k]? =some x∧∀j y,ss[j]? =some y→j<k→y≠x)∨(v= .int .i64 (-1)∧∀y∈ss,y≠x))∧St fs h1:=by
 refine aV.dh D.f78 rfl (WP.seq (WP.reg (WO.aB (v:= .int .i64 0) rfl (WO.nil (WP.seq (WP.seq (WP.reg (WO.aB (v:= .int .i64 (ss.length:Int)) (L.llen rfl) (WO.aB (v:= .int .i64 0) rfl (WO.nil (WP.block (WP.eO (α:=Nat) (fun k env h=>∃x2 x5 x6 x7,(k≤ss.length∧∀j y,ss[j]? =some y→j<k→y≠x)∧env=bG [.sl b o ss.length cap,L.str x,x2, .int .i64 (k:Int), .int .i64 (ss.length:Int),x5,x6,x7] 0 Env.nil∧St (.stb (fun h=>Rows 1 h (.sl b o ss.length cap) (ss.map bK))::fs) h) (fun k=>ss.length - k) 0 ?_ ?_))))))))))))
 ·exact ⟨(.int .i64 0), .bot, .bot, .bot,⟨Nat.zero_le _,fun _ _ _ h=>absurd h (Nat.not_lt_zero _)⟩,by kernel_rfl,st⟩
 rintro k _ h ⟨x2,x5,x6,x7,⟨hk,hno⟩,rfl,st⟩
 refine WP.seq (WP.reg (WO.ifS (L.lss rfl rfl) (fun c1=> ?_) (fun c1=> ?_)))
 ·replace c1:k<ss.length:=by omega
  refine WO.nil (WP.seq (WP.cond (t:=true) rfl (WP.skip (WP.seq (WP.block (WP.seq (WP.reg (WO.aB (v:= .int .i64 (k:Int)) rfl (WO.nil (WP.seq (WP.reg ?_)))))))))))
  obtain ⟨y,ho⟩:∃y,ss[k]? =some y:=⟨_,List.getElem?_eq_getElem c1⟩
  refine WO.val (L.bT rfl rfl c1) (WO.val (v:=L.str y) (L.load rfl ((st.aJ 0 rfl).jG (by rw [List.getElem?_map,ho];rfl))) ?_)
  refine WO.ifS (L.seq rfl rfl) (fun c2=> ?_) (fun c2=> ?_)
  ·refine WO.nil (WP.cond (t:=true) rfl (WP.seq (WP.reg (WO.aB (v:= .int .i64 (k:Int)) rfl (WO.nil (WP.ret ?_))))))
   exact ⟨_,(ak (aD (v:= .int .i64 (k:Int)) rfl) (aF _ _)),Or.inl ⟨k,rfl,by rw [ho,c2],hno⟩,st.tail⟩
  ·refine WO.nil (WP.cond (t:=false) rfl (WP.skip (WP.reg (WO.aB (v:= .int .i64 ((k+1:Nat):Int)) (L.fQ rfl rfl (by omega) (And.intro (by omega) (by omega))) (WO.nil ?_)))))
   have hno':∀j y,ss[j]? =some y→j<k+1→y≠x:=by
    intro j y hj hlt
    rcases Nat.lt_succ_iff_lt_or_eq.1 hlt with hlt|rfl
    ·exact hno j y hj hlt
    ·rw [ho] at hj;cases hj;exact fun e=>c2 e.symm
   exact ⟨k+1,(by omega),x2,(.bool true),(.int .i64 (k:Int)),(.bool false),⟨by omega,hno'⟩,by kernel_rfl,st⟩
 ·replace c1:¬(k<ss.length):=by omega
  refine WO.nil (WP.seq (WP.cond (t:=false) rfl (WP.exit (WP.seq (WP.reg (WO.aB (v:= .int .i64 (-1)) rfl (WO.nil (WP.ret (⟨_,(ak (aD (v:= .int .i64 (-1)) rfl) (aF _ _)),Or.inr ⟨rfl,fun y hy=> ?_⟩,st.tail⟩)))))))))
  obtain ⟨j,hj⟩:=List.mem_iff_getElem?.1 hy
  exact hno j y hj (by have:=(List.getElem?_eq_some_iff.1 hj).1;omega)
theorem Ky (D:gq c) {fs:List Fact} {h:Heap} {b o:Nat} {cap:Option Nat} {ss:List (List UInt8)} {x:List UInt8} (st:St (.stb (fun h=>Rows 1 h (.sl b o ss.length cap) (ss.map bK))::fs) h) (hsm:ss.length<4294967296):
 aV c 69 [.sl b o ss.length cap,L.str x] h fun v h1=>v= .bool (decide (x∈ss))∧St fs h1:=by
 refine aV.dh D.f69 rfl (WP.seq (WP.reg (WO.aB (v:= .bool false) rfl (WO.nil (WP.seq (WP.reg (WO.aM rfl (index_c D st hsm) ?_)))))))
 rintro _ h ⟨(⟨k,rfl,hk,hno⟩|⟨rfl,hno⟩),st⟩
 ·replace st:St fs h:=st
  refine WO.ifS (L.geq rfl rfl) (fun c1=> ?_) (fun c1=>by exfalso;omega)
  refine WO.nil (WP.ret ?_)
  exact ⟨_,(ak (aD (v:= .bool true) rfl) (aF _ _)),(by simp [one];exact List.mem_of_getElem? hk),st⟩
 ·replace st:St fs h:=st
  refine WO.ifS (L.geq rfl rfl) (fun c1=>by exfalso;omega) (fun c1=> ?_)
  refine WO.nil (WP.ret ?_)
  exact ⟨_,(ak (aD (v:= .bool false) rfl) (aF _ _)),(by simp [one];exact fun hm=>hno x hm rfl),st⟩
theorem key_c (D:gq c) {fs:List Fact} {h:Heap} {x:List UInt8} (st:St fs h):
 aV c 58 [L.str x] h fun v h1=>v= .bool (decide (x∈Lex.keys))∧St fs h1:=by
 refine aV.dh D.f58 rfl (WP.seq (WP.reg (WO.aB (v:= .bool false) rfl (WO.nil (WP.seq (WP.reg (WO.iY (rows:=Lex.keys.map bK) st rfl (by decide) rfl (by intro row hm;simp at hm;obtain ⟨a,_,rfl⟩:=hm;rfl) (fun kb h st=> ?_))))))))
 refine WO.aU rfl (Ky (ss:=Lex.keys) D st (by decide)) ?_
 rintro _ h ⟨rfl,st⟩
 refine WO.nil (WP.ret ?_)
 exact ⟨_,(ak (aD (v:= .bool (decide (x∈Lex.keys))) rfl) (aF _ _)),rfl,st⟩
theorem FQ (D:gq c) {fs:List Fact} {h:Heap} {l p:List UInt8} (st:St fs h):
 aV c 70 [L.str l,L.str p] h fun v h1=>v= .bool (Lex.lN p l)∧St fs h1:=by
 refine aV.dh D.f70 rfl (WP.seq (WP.reg (WO.aB (v:= .bool false) rfl (WO.nil (WP.seq (WP.reg (WO.val (v:= .int .i64 (l.length:Int)) (L.nT rfl) (WO.val (v:= .int .i64 (p.length:Int)) (L.nT rfl) (WO.ifV (L.geq rfl rfl) (fun c1=> ?_) (fun c1=> ?_))))))))))
 ·replace c1:l.length≥p.length:=by omega
  refine WO.yes rfl (WO.val (v:=L.str l) rfl (WO.yes rfl (WO.val (v:=L.str p) rfl (WO.yes rfl (WO.val (v:= .int .i64 (p.length:Int)) (L.nT rfl) (WO.yes rfl (WO.val (v:=L.str ((l.drop 0).take (p.length - 0))) (L.JN rfl rfl rfl (by omega) (by omega)) (WO.yes rfl (WO.val (v:=L.str p) rfl (WO.yes rfl (WO.ifV (L.seq rfl rfl) (fun c2=> ?_) (fun c2=> ?_))))))))))))
  ·refine WO.aB (v:= .bool true) rfl (WO.nil (WP.ret ?_))
   exact ⟨_,(ak (aD (v:= .bool true) rfl) (aF _ _)),(by simp at c2;simp [Lex.lN,one, *]),st⟩
  ·refine WO.aB (v:= .bool false) rfl (WO.nil (WP.ret ?_))
   exact ⟨_,(ak (aD (v:= .bool false) rfl) (aF _ _)),(by simp at c2;simp [Lex.lN,one, *]),st⟩
 ·replace c1:¬(l.length≥p.length):=by omega
  refine WO.no rfl (WO.no rfl (WO.no rfl (WO.no rfl (WO.no rfl (WO.no rfl (WO.aB (v:= .bool false) rfl (WO.nil (WP.ret ?_))))))))
  exact ⟨_,(ak (aD (v:= .bool false) rfl) (aF _ _)),(by simp [Lex.lN,one, *]),st⟩
theorem Iw (D:gq c) {fs:List Fact} {h:Heap} {l p:List UInt8} (st:St fs h):
 aV c 59 [L.str l,L.str p] h fun v h1=>v= .bool (Lex.lN p l)∧St fs h1:=by
 refine aV.dh D.f59 rfl (WP.seq (WP.reg (WO.aB (v:= .bool false) rfl (WO.nil (WP.seq (WP.reg (WO.aU rfl (FQ D st) ?_)))))))
 rintro _ h ⟨rfl,st⟩
 refine WO.nil (WP.ret ?_)
 exact ⟨_,(ak (aD (v:= .bool (Lex.lN p l)) rfl) (aF _ _)),rfl,st⟩
theorem IQ (D:gq c) (DD:uL c) {fs:List Fact} {h:Heap} {l:List UInt8} {b:UInt8} (st:St fs h):
 aV c 60 [L.str l, .int .u8 (b.toNat:Int)] h fun v h1=>v= .int .i64 (Lib.indexByte l b)∧St fs h1:=by
 refine aV.dh D.f60 rfl (WP.seq (WP.reg (WO.aB (v:= .int .i64 0) rfl (WO.nil (WP.seq (WP.reg (WO.aU rfl (DD.idx st) ?_)))))))
 rintro _ h ⟨rfl,st⟩
 refine WO.nil (WP.ret ?_)
 exact ⟨_,(ak (aD (v:= .int .i64 (Lib.indexByte l b)) rfl) (aF _ _)),rfl,st⟩
theorem word_c (D:gq c) {fs:List Fact} {h:Heap} {w:List UInt8} (st:St fs h):
 aV c 45 [L.str w] h fun v h1=>v= .tup [.int .i64 ((Lex.word w).1:Int), .int .i64 ((Lex.word w).2:Int)]∧St fs h1:=by
 refine aV.dh D.f45 rfl (WP.seq (WP.reg (WO.aB (v:= .int .i64 0) rfl (WO.aB (v:= .int .i64 0) rfl (WO.nil (WP.seq (WP.block (WP.seq (WP.reg (WO.aU rfl (key_c D st) ?_))))))))))
 rintro _ h ⟨rfl,st⟩
 cases hb1:decide (w∈Lex.keys)
 ·refine WO.nil (WP.cond (t:=false) rfl (WP.seq (WP.reg (WO.val (v:= .int .i64 (w.length:Int)) (L.nT rfl) (WO.ifS (L.gtr rfl rfl) (fun c1=> ?_) (fun c1=> ?_))))))
  ·replace c1:w.length>20:=by omega
   refine WO.nil (WP.cond (t:=true) rfl (WP.seq (WP.reg (WO.aB (v:= .int .i64 0) rfl (WO.aB (v:= .int .i64 9) rfl (WO.nil (WP.ret ?_)))))))
   have hk:w∉Lex.keys:=by simpa using hb1
   exact ⟨_,(ak (aD (v:= .int .i64 0) rfl) (ak (aD (v:= .int .i64 9) rfl) (aF _ _))),(by simp [Lex.word,one,hk,c1]),st⟩
  ·replace c1:¬(w.length>20):=by omega
   refine WO.nil (WP.cond (t:=false) rfl (WP.skip (WP.seq (WP.reg (WO.aB (v:= .int .i64 1) rfl (WO.aB (v:= .int .i64 0) rfl (WO.nil (WP.ret ?_))))))))
   have hk:w∉Lex.keys:=by simpa using hb1
   exact ⟨_,(ak (aD (v:= .int .i64 1) rfl) (ak (aD (v:= .int .i64 0) rfl) (aF _ _))),(by simp [Lex.word,one,hk,c1]),st⟩
 ·refine WO.nil (WP.cond (t:=true) rfl (WP.seq (WP.reg (WO.aB (v:= .int .i64 3) rfl (WO.aB (v:= .int .i64 0) rfl (WO.nil (WP.ret ?_)))))))
  have hk:w∈Lex.keys:=by simpa using hb1
  exact ⟨_,(ak (aD (v:= .int .i64 3) rfl) (ak (aD (v:= .int .i64 0) rfl) (aF _ _))),(by simp [Lex.word,one,hk,hk]),st⟩
theorem lnum_c (D:gq c) {fs:List Fact} {h:Heap} {w f:List UInt8} {b0:UInt8} (st:St fs h) (hw0:w.head? =some b0):
 aV c 47 [L.str w,L.str f] h fun v h1=>v= .tup [.int .i64 ((Lex.number w f).1:Int), .int .i64 ((Lex.number w f).2:Int)]∧St fs h1:=by
 have hb0:w[0]? =some b0:=by rw [←hw0,List.head?_eq_getElem?]
 refine aV.dh D.f47 rfl (WP.seq (WP.reg (WO.aB (v:= .int .i64 0) rfl (WO.aB (v:= .int .i64 0) rfl (WO.nil (WP.seq (WP.block (WP.seq (WP.reg (WO.val (v:= .int .i64 (w.length:Int)) (L.nT rfl) (WO.ifS (L.gtr rfl rfl) (fun c1=> ?_) (fun c1=> ?_))))))))))))
 ·replace c1:w.length>9:=by omega
  refine WO.nil (WP.cond (t:=true) rfl (WP.seq (WP.reg (WO.aB (v:= .int .i64 0) rfl (WO.aB (v:= .int .i64 9) rfl (WO.nil (WP.ret ?_)))))))
  have e48:(b0=48)↔b0.toNat=48:=⟨fun h=>by rw [h];rfl,fun h=>UInt8.toNat_inj.1 h⟩
  exact ⟨_,(ak (aD (v:= .int .i64 0) rfl) (ak (aD (v:= .int .i64 9) rfl) (aF _ _))),(by simp [Lex.number,one,hw0,e48,c1]<;>omega),st⟩
 ·replace c1:¬(w.length>9):=by omega
  refine WO.nil (WP.cond (t:=false) rfl (WP.seq (WP.seq (WP.reg (WO.val (v:= .int .u8 (b0.toNat:Int)) (L.qm rfl rfl hb0) (WO.ifV (L.eql rfl rfl) (fun c2=> ?_) (fun c2=> ?_)))))))
  ·replace c2:b0.toNat=48:=by omega
   refine WO.yes rfl (WO.val (v:=L.str w) rfl (WO.yes rfl (WO.val (v:= .int .i64 (w.length:Int)) (L.nT rfl) (WO.yes rfl (WO.ifV (L.gtr rfl rfl) (fun c3=> ?_) (fun c3=> ?_))))))
   ·replace c3:w.length>1:=by omega
    refine WO.aB (v:= .bool true) rfl (WO.nil (WP.cond (t:=true) rfl (WP.skip (WP.cond (t:=true) rfl (WP.seq (WP.reg (WO.aB (v:= .int .i64 0) rfl (WO.aB (v:= .int .i64 10) rfl (WO.nil (WP.ret ?_))))))))))
    have e48:(b0=48)↔b0.toNat=48:=⟨fun h=>by rw [h];rfl,fun h=>UInt8.toNat_inj.1 h⟩
    exact ⟨_,(ak (aD (v:= .int .i64 0) rfl) (ak (aD (v:= .int .i64 10) rfl) (aF _ _))),(by simp [Lex.number,one,hw0,e48,c1,c2,c3]<;>omega),st⟩
   ·replace c3:¬(w.length>1):=by omega
    refine WO.aB (v:= .bool false) rfl (WO.nil (WP.cond (t:=false) rfl (WP.reg (WO.ifV (L.sne (m:=[]) rfl rfl) (fun c4=> ?_) (fun c4=> ?_)))))
    ·refine WO.yes rfl (WO.val (v:=L.str f) rfl (WO.yes rfl ?_))
     obtain ⟨d0,fr,hf⟩:∃d0 fr,f=d0::fr:=List.exists_cons_of_ne_nil c4
     refine WO.val (v:= .int .u8 (d0.toNat:Int)) (L.qm (b:=d0) rfl rfl (by rw [hf];rfl)) (WO.yes rfl (WO.aM rfl (Da D st) ?_))
     rintro _ h ⟨rfl,st⟩
     cases hb1:Lex.within d0
     ·refine WO.aB (v:= .bool false) rfl (WO.nil (WP.cond (t:=false) rfl (WP.skip (WP.seq (WP.reg (WO.aB (v:= .int .i64 2) rfl (WO.aB (v:= .int .i64 0) rfl (WO.nil (WP.ret ?_)))))))))
      have e48:(b0=48)↔b0.toNat=48:=⟨fun h=>by rw [h];rfl,fun h=>UInt8.toNat_inj.1 h⟩
      exact ⟨_,(ak (aD (v:= .int .i64 2) rfl) (ak (aD (v:= .int .i64 0) rfl) (aF _ _))),(by simp [Lex.number,one,hw0,e48,c1,c2,c3,c4,hb1,hf]<;>omega),st⟩
     ·refine WO.aB (v:= .bool true) rfl (WO.nil (WP.cond (t:=true) rfl (WP.seq (WP.reg (WO.aB (v:= .int .i64 0) rfl (WO.aB (v:= .int .i64 10) rfl (WO.nil (WP.ret ?_))))))))
      have e48:(b0=48)↔b0.toNat=48:=⟨fun h=>by rw [h];rfl,fun h=>UInt8.toNat_inj.1 h⟩
      exact ⟨_,(ak (aD (v:= .int .i64 0) rfl) (ak (aD (v:= .int .i64 10) rfl) (aF _ _))),(by simp [Lex.number,one,hw0,e48,c1,c2,c3,c4,hb1,hf]<;>omega),st⟩
    ·refine WO.no rfl (WO.no rfl (WO.no rfl (WO.aB (v:= .bool false) rfl (WO.nil (WP.cond (t:=false) rfl (WP.skip (WP.seq (WP.reg (WO.aB (v:= .int .i64 2) rfl (WO.aB (v:= .int .i64 0) rfl (WO.nil (WP.ret ?_))))))))))))
     have hf:f=[]:=by simpa using c4
     have e48:(b0=48)↔b0.toNat=48:=⟨fun h=>by rw [h];rfl,fun h=>UInt8.toNat_inj.1 h⟩
     exact ⟨_,(ak (aD (v:= .int .i64 2) rfl) (ak (aD (v:= .int .i64 0) rfl) (aF _ _))),(by simp [Lex.number,one,hw0,e48,c1,c2,c3,c4,hf]<;>omega),st⟩
  ·replace c2:¬(b0.toNat=48):=by omega
   refine WO.no rfl (WO.no rfl (WO.no rfl (WO.aB (v:= .bool false) rfl (WO.nil (WP.cond (t:=false) rfl (WP.reg (WO.ifV (L.sne (m:=[]) rfl rfl) (fun c5=> ?_) (fun c5=> ?_))))))))
   ·refine WO.yes rfl (WO.val (v:=L.str f) rfl (WO.yes rfl ?_))
    obtain ⟨d0,fr,hf⟩:∃d0 fr,f=d0::fr:=List.exists_cons_of_ne_nil c5
    refine WO.val (v:= .int .u8 (d0.toNat:Int)) (L.qm (b:=d0) rfl rfl (by rw [hf];rfl)) (WO.yes rfl (WO.aM rfl (Da D st) ?_))
    rintro _ h ⟨rfl,st⟩
    cases hb2:Lex.within d0
    ·refine WO.aB (v:= .bool false) rfl (WO.nil (WP.cond (t:=false) rfl (WP.skip (WP.seq (WP.reg (WO.aB (v:= .int .i64 2) rfl (WO.aB (v:= .int .i64 0) rfl (WO.nil (WP.ret ?_)))))))))
     have e48:(b0=48)↔b0.toNat=48:=⟨fun h=>by rw [h];rfl,fun h=>UInt8.toNat_inj.1 h⟩
     exact ⟨_,(ak (aD (v:= .int .i64 2) rfl) (ak (aD (v:= .int .i64 0) rfl) (aF _ _))),(by simp [Lex.number,one,hw0,e48,c1,c2,c5,hb2,hf]<;>omega),st⟩
    ·refine WO.aB (v:= .bool true) rfl (WO.nil (WP.cond (t:=true) rfl (WP.seq (WP.reg (WO.aB (v:= .int .i64 0) rfl (WO.aB (v:= .int .i64 10) rfl (WO.nil (WP.ret ?_))))))))
     have e48:(b0=48)↔b0.toNat=48:=⟨fun h=>by rw [h];rfl,fun h=>UInt8.toNat_inj.1 h⟩
     exact ⟨_,(ak (aD (v:= .int .i64 0) rfl) (ak (aD (v:= .int .i64 10) rfl) (aF _ _))),(by simp [Lex.number,one,hw0,e48,c1,c2,c5,hb2,hf]<;>omega),st⟩
   ·refine WO.no rfl (WO.no rfl (WO.no rfl (WO.aB (v:= .bool false) rfl (WO.nil (WP.cond (t:=false) rfl (WP.skip (WP.seq (WP.reg (WO.aB (v:= .int .i64 2) rfl (WO.aB (v:= .int .i64 0) rfl (WO.nil (WP.ret ?_))))))))))))
    have hf:f=[]:=by simpa using c5
    have e48:(b0=48)↔b0.toNat=48:=⟨fun h=>by rw [h];rfl,fun h=>UInt8.toNat_inj.1 h⟩
    exact ⟨_,(ak (aD (v:= .int .i64 2) rfl) (ak (aD (v:= .int .i64 0) rfl) (aF _ _))),(by simp [Lex.number,one,hw0,e48,c1,c2,c5,hf]<;>omega),st⟩
end
end Go.Eng.YtjobofnpmmjeoaaGreatDoor.Pq
namespace Go.Eng.YtjobofnpmmjeoaaGreatDoor.Pq
open Go.Eng
noncomputable section
variable {c:Ctx}
theorem sign_c (D:gq c) (DD:uL c) {fs:List Fact} {h:Heap} {l:List UInt8} (st:St fs h):
 aV c 48 [L.str l] h fun v h1=>v=L.str (Lex.sign l)∧St fs h1:=by
 refine aV.dh D.f48 rfl (WP.seq (WP.reg (WO.aB (v:= .str 0 0) rfl (WO.nil (WP.seq (WP.seq (WP.reg (WO.QI (rows:=Lex.nJ.map bK) st rfl (by decide) rfl (by intro row hm;simp at hm;obtain ⟨a,_,rfl⟩:=hm;rfl) (fun kb h st=> ?_)))))))))
 refine WO.aB (v:= .int .i64 3) (L.llen rfl) (WO.aB (v:= .int .i64 0) rfl (WO.nil (WP.block (WP.eO (α:=Nat) (fun k env h=>∃x1 x4 x6 x7,(k≤3∧∀j y,Lex.nJ[j]? =some y→j<k→Lex.lN y l=false)∧env=bG [L.str l,x1, .int .i64 (k:Int), .int .i64 3,x4, .sl kb 0 3 (some 3),x6,x7] 0 Env.nil∧St (.stb (fun h=>Rows 1 h (.sl kb 0 3 (some 3)) (Lex.nJ.map bK))::fs) h) (fun k=>3 - k) 0 ?_ ?_))))
 ·exact ⟨(.str 0 0), .bot, .bot, .bot,⟨Nat.zero_le _,fun _ _ _ h=>absurd h (Nat.not_lt_zero _)⟩,by kernel_rfl,st⟩
 rintro k _ h ⟨x1,x4,x6,x7,⟨hk,hno⟩,rfl,st⟩
 refine WP.seq (WP.reg (WO.ifS (L.lss rfl rfl) (fun c1=> ?_) (fun c1=> ?_)))
 ·replace c1:k<3:=by omega
  refine WO.nil (WP.seq (WP.cond (t:=true) rfl (WP.skip (WP.seq (WP.block (WP.seq (WP.reg ?_)))))))
  obtain ⟨y,ho⟩:∃y,Lex.nJ[k]? =some y:=⟨_,List.getElem?_eq_getElem c1⟩
  refine WO.val (L.bT rfl rfl c1) (WO.aB (v:=L.str y) (L.load rfl ((st.aJ 0 rfl).jG (by rw [List.getElem?_map,ho];rfl))) ?_)
  refine WO.nil (WP.seq (WP.reg (WO.aU rfl (Iw D st) ?_)))
  rintro _ h ⟨rfl,st⟩
  cases hb1:Lex.lN y l
  ·refine WO.nil (WP.cond (t:=false) rfl (WP.skip (WP.reg (WO.aB (v:= .int .i64 ((k+1:Nat):Int)) (L.fQ rfl rfl (by omega) (And.intro (by omega) (by omega))) (WO.nil ?_)))))
   have hno':∀j y,Lex.nJ[j]? =some y→j<k+1→Lex.lN y l=false:=by
    intro j y hj hlt
    rcases Nat.lt_succ_iff_lt_or_eq.1 hlt with hlt|rfl
    ·exact hno j y hj hlt
    ·rw [ho] at hj;cases hj;exact hb1
   exact ⟨k+1,(by omega),x1,(.bool true),(L.str y),(.bool false),⟨by omega,hno'⟩,by kernel_rfl,st⟩
  ·refine WO.nil (WP.cond (t:=true) rfl (WP.seq (WP.reg (WO.aB (v:=L.str y) rfl (WO.nil (WP.ret ?_))))))
   exact ⟨_,(ak (aD (v:=L.str y) rfl) (aF _ _)),(by rw [show Lex.sign l=y by unfold Lex.sign;rw [Ca ho hno hb1]];rfl),st.tail⟩
 ·replace c1:¬(k<3):=by omega
  refine WO.nil (WP.seq (WP.cond (t:=false) rfl (WP.exit (WP.seq (WP.seq (WP.reg (WO.ifV (L.sne (m:=[]) rfl rfl) (fun c2=> ?_) (fun c2=> ?_))))))))
  ·refine WO.yes rfl (WO.val (v:=L.str l) rfl (WO.yes rfl ?_))
   obtain ⟨b,lr,hlb⟩:∃b lr,l=b::lr:=List.exists_cons_of_ne_nil c2
   refine WO.val (v:= .int .u8 (b.toNat:Int)) (L.qm (b:=b) rfl rfl (by rw [hlb];rfl)) (WO.yes rfl (WO.aM rfl (IQ (l:=Lex.ones) D DD st) ?_))
   rintro _ h ⟨rfl,st⟩
   refine WO.yes rfl (WO.ifV (L.geq rfl rfl) (fun c3=> ?_) (fun c3=> ?_))
   ·refine WO.aB (v:= .bool true) rfl (WO.nil (WP.cond (t:=true) rfl (WP.seq (WP.reg (WO.aB (v:=L.str ((l.drop 0).take (1 - 0))) (L.JN rfl rfl rfl (by omega) (by rw [hlb];simp)) (WO.nil (WP.ret ?_)))))))
    have hf:Lex.nJ.find? (Lex.lN · l)=none:=wQ fun j y hj hlt=>hno j y hj (by have:j<3:=hlt;omega)
    have hsg:Lex.sign l=(if 0≤Lib.indexByte Lex.ones b then [b] else []):=by unfold Lex.sign;rw [hf,hlb]
    rw [hsg]
    rw [if_pos (by omega)]
    exact ⟨_,(ak (aD (v:=L.str ((l.drop 0).take (1 - 0))) rfl) (aF _ _)),(by rw [hlb];rfl),st.tail⟩
   ·refine WO.aB (v:= .bool false) rfl (WO.nil (WP.cond (t:=false) rfl (WP.skip (WP.seq (WP.reg (WO.aB (v:= .str 0 0) rfl (WO.nil (WP.ret ?_))))))))
    have hf:Lex.nJ.find? (Lex.lN · l)=none:=wQ fun j y hj hlt=>hno j y hj (by have:j<3:=hlt;omega)
    have hsg:Lex.sign l=(if 0≤Lib.indexByte Lex.ones b then [b] else []):=by unfold Lex.sign;rw [hf,hlb]
    rw [hsg]
    rw [if_neg (by omega)]
    exact ⟨_,(ak (aD (v:= .str 0 0) rfl) (aF _ _)),rfl,st.tail⟩
  ·refine WO.no rfl (WO.no rfl (WO.no rfl (WO.no rfl (WO.aB (v:= .bool false) rfl (WO.nil (WP.cond (t:=false) rfl (WP.skip (WP.seq (WP.reg (WO.aB (v:= .str 0 0) rfl (WO.nil (WP.ret ?_))))))))))))
   have hf:Lex.nJ.find? (Lex.lN · l)=none:=wQ fun j y hj hlt=>hno j y hj (by have:j<3:=hlt;omega)
   have hl0:l=[]:=by simpa using c2
   have hsg:Lex.sign l=[]:=by unfold Lex.sign;rw [hf,hl0]
   rw [hsg]
   exact ⟨_,(ak (aD (v:= .str 0 0) rfl) (aF _ _)),rfl,st.tail⟩
theorem all_c (D:gq c) (DD:uL c) {fs:List Fact} {h:Heap} {s:List UInt8} (st:St fs h) (hsz:s.length<4294967296):
 aV c 24 [L.str s] h fun v h1=>match Lex.all (s.length+1) 0 s [] with
  | .ok ts=>∃x,v= .tup [x, .int .i64 0, .int .i64 0]∧St (.stb (fun h=>Rows 3 h x (ts.map Tok.row))::fs) h1
  | .error (e,a)=>v= .tup [.slN, .int .i64 (e:Int), .int .i64 (a:Int)]∧St fs h1:=by
 refine aV.dh D.f24 rfl (WP.seq (WP.reg (WO.bL st (L.box (l:=[L.str s]) rfl rfl) (fun sb h st=> ?_))))
 refine WO.aB (v:= .slN) rfl (WO.aB (v:= .int .i64 0) rfl (WO.aB (v:= .int .i64 0) rfl (WO.nil (WP.seq (WP.reg (WO.bL st L.alloc (fun ab h st=> ?_)))))))
 refine WO.aG (row':=[.int .i64 0]) st 0 rfl rfl rfl rfl rfl rfl rfl (fun h st=> ?_)
 refine WO.nil (WP.seq (WP.reg (WO.aB (v:= .fn 41 [] [.ptr ab 0, .ptr sb 0]) rfl (WO.nil (WP.seq (WP.reg (WO.aB (v:= .slN) rfl (WO.nil (WP.seq (WP.block ?_))))))))))
 replace st:St (.acc 0 3 .slN (([]:List Tok).map Tok.row):: .box ab [.int .i64 0]:: .box sb [L.str s]::fs) h:=st.acc0 3
 refine WP.eO (α:=Nat) (fun g env h=>∃k ts fy vy x1 x2 x3 x6 x7 x8 x9 x11 x12 x13 x14 x15 x16 x17 x18,(Lex.all (s.length+1) 0 s []=Lex.all g k (s.drop k) ts∧s.length - k<g∧k≤s.length∧ts.length≤k)∧env=bG [L.str s,x1,x2,x3, .ptr ab 0, .ptr sb 0,x6,x7,x8,x9, .fn 41 [] [.ptr ab 0, .ptr sb 0],x11,x12,x13,x14,x15,x16,x17,x18,vy] 0 Env.nil∧St (.acc fy 3 vy (ts.map Tok.row):: .box ab [.int .i64 (k:Int)]:: .box sb [L.str s]::fs) h) (fun g=>g) (s.length+1) ?_ ?_
 ·exact ⟨0,[],0, .slN, .slN,(.int .i64 0),(.int .i64 0), .bot, .bot, .bot, .bot, .bot, .bot, .bot, .bot, .bot, .bot, .bot, .bot,⟨rfl,by omega,Nat.zero_le _,Nat.le_refl _⟩,by kernel_rfl,st⟩
 rintro g _ h ⟨k,ts,fy,vy,x1,x2,x3,x6,x7,x8,x9,x11,x12,x13,x14,x15,x16,x17,x18,⟨hs,hg,hk,hts⟩,rfl,st⟩
 obtain ⟨g,rfl⟩:∃m,g=m+1:=⟨g - 1,by omega⟩
 refine WP.seq (WP.seq (WP.reg (WO.val (v:= .int .i64 (k:Int)) (L.aC rfl (st.aj 1 rfl) rfl) (WO.val (v:=L.str s) (L.aC rfl (st.aj 2 rfl) rfl) (WO.val (v:= .int .i64 (s.length:Int)) (L.nT rfl) (WO.ifS (L.lss rfl rfl) (fun c1=> ?_) (fun c1=> ?_)))))))
 ·replace c1:k<s.length:=by omega
  refine WO.nil (WP.cond (t:=true) rfl (WP.skip (WP.block (WP.seq (WP.draw (WD.val (v:= .int .i64 (k:Int)) (L.aC rfl (st.aj 1 rfl) rfl) (WD.val (v:=L.str s) (L.aC rfl (st.aj 2 rfl) rfl) (WD.val (v:= .int .i64 (k:Int)) (L.aC rfl (st.aj 1 rfl) rfl) ?_))))))))
  obtain ⟨b,hb⟩:∃b,s[k]? =some b:=⟨_,List.getElem?_eq_getElem (by omega)⟩
  refine WD.val (v:= .int .u8 (b.toNat:Int)) (L.qm rfl rfl hb) (WD.aB (v:= .int .i64 (k:Int)) rfl (WD.aB (v:= .int .u8 (b.toNat:Int)) rfl (WD.nil (WP.seq (WP.reg (WO.aB (v:= .int .i64 0) rfl (WO.aB (v:= .str 0 0) rfl (WO.aB (v:= .int .i64 0) rfl (WO.nil (WP.seq (WP.block (WP.seq (WP.reg (WO.ifV (L.eql rfl rfl) (fun c2=> ?_) (fun c2=> ?_)))))))))))))))
  ·replace c2:b.toNat=32:=by omega
   refine WO.no rfl (WO.no rfl (WO.val (v:= .bool true) rfl (WO.no rfl (WO.no rfl (WO.val (v:= .bool true) rfl (WO.no rfl (WO.no rfl (WO.aB (v:= .bool true) rfl (WO.nil (WP.cond (t:=true) rfl (WP.seq (WP.reg (WO.val (v:= .int .i64 (k:Int)) (L.aC rfl (st.aj 1 rfl) rfl) (WO.val (v:= .int .i64 ((k+1:Nat):Int)) (L.fQ rfl rfl (by omega) (And.intro (by omega) (by omega))) (WO.aG (row':=[.int .i64 ((k+1:Nat):Int)]) st 1 rfl rfl rfl rfl rfl rfl rfl (fun h st=> ?_))))))))))))))))
   refine WO.nil (WP.exit ?_)
   exact ⟨g,(Nat.lt_succ_self _),k+1,ts,fy,vy,x1,x2,x3,(.bool true),(.int .u8 (b.toNat:Int)),(.bool true),x9,x11,(.str 0 0),x13,x14,(.int .i64 0),x16,(.int .i64 (k:Int)),(.int .i64 0),⟨by rw [hs,cK hb];simp [Lex.blank,one,Lex.put, *],(by omega),(by omega),(by first|omega|(simp;omega))⟩,by kernel_rfl,st⟩
  ·replace c2:¬(b.toNat=32):=by omega
   refine WO.yes rfl (WO.val (v:= .int .u8 (b.toNat:Int)) rfl (WO.yes rfl (WO.ifV (L.eql rfl rfl) (fun c3=> ?_) (fun c3=> ?_))))
   ·replace c3:b.toNat=9:=by omega
    refine WO.val (v:= .bool true) rfl (WO.no rfl (WO.no rfl (WO.val (v:= .bool true) rfl (WO.no rfl (WO.no rfl (WO.aB (v:= .bool true) rfl (WO.nil (WP.cond (t:=true) rfl (WP.seq (WP.reg (WO.val (v:= .int .i64 (k:Int)) (L.aC rfl (st.aj 1 rfl) rfl) (WO.val (v:= .int .i64 ((k+1:Nat):Int)) (L.fQ rfl rfl (by omega) (And.intro (by omega) (by omega))) (WO.aG (row':=[.int .i64 ((k+1:Nat):Int)]) st 1 rfl rfl rfl rfl rfl rfl rfl (fun h st=> ?_))))))))))))))
    refine WO.nil (WP.exit ?_)
    exact ⟨g,(Nat.lt_succ_self _),k+1,ts,fy,vy,x1,x2,x3,(.bool true),(.int .u8 (b.toNat:Int)),(.bool true),x9,x11,(.str 0 0),x13,x14,(.int .i64 0),x16,(.int .i64 (k:Int)),(.int .i64 0),⟨by rw [hs,cK hb];simp [Lex.blank,one,Lex.put, *],(by omega),(by omega),(by first|omega|(simp;omega))⟩,by kernel_rfl,st⟩
   ·replace c3:¬(b.toNat=9):=by omega
    refine WO.val (v:= .bool false) rfl (WO.yes rfl (WO.val (v:= .int .u8 (b.toNat:Int)) rfl (WO.yes rfl (WO.ifV (L.eql rfl rfl) (fun c4=> ?_) (fun c4=> ?_)))))
    ·replace c4:b.toNat=10:=by omega
     refine WO.val (v:= .bool true) rfl (WO.no rfl (WO.no rfl (WO.aB (v:= .bool true) rfl (WO.nil (WP.cond (t:=true) rfl (WP.seq (WP.reg (WO.val (v:= .int .i64 (k:Int)) (L.aC rfl (st.aj 1 rfl) rfl) (WO.val (v:= .int .i64 ((k+1:Nat):Int)) (L.fQ rfl rfl (by omega) (And.intro (by omega) (by omega))) (WO.aG (row':=[.int .i64 ((k+1:Nat):Int)]) st 1 rfl rfl rfl rfl rfl rfl rfl (fun h st=> ?_)))))))))))
     refine WO.nil (WP.exit ?_)
     exact ⟨g,(Nat.lt_succ_self _),k+1,ts,fy,vy,x1,x2,x3,(.bool true),(.int .u8 (b.toNat:Int)),(.bool true),x9,x11,(.str 0 0),x13,x14,(.int .i64 0),x16,(.int .i64 (k:Int)),(.int .i64 0),⟨by rw [hs,cK hb];simp [Lex.blank,one,Lex.put, *],(by omega),(by omega),(by first|omega|(simp;omega))⟩,by kernel_rfl,st⟩
    ·replace c4:¬(b.toNat=10):=by omega
     refine WO.val (v:= .bool false) rfl (WO.yes rfl (WO.val (v:= .int .u8 (b.toNat:Int)) rfl (WO.yes rfl (WO.ifV (L.eql rfl rfl) (fun c5=> ?_) (fun c5=> ?_)))))
     ·replace c5:b.toNat=13:=by omega
      refine WO.aB (v:= .bool true) rfl (WO.nil (WP.cond (t:=true) rfl (WP.seq (WP.reg (WO.val (v:= .int .i64 (k:Int)) (L.aC rfl (st.aj 1 rfl) rfl) (WO.val (v:= .int .i64 ((k+1:Nat):Int)) (L.fQ rfl rfl (by omega) (And.intro (by omega) (by omega))) (WO.aG (row':=[.int .i64 ((k+1:Nat):Int)]) st 1 rfl rfl rfl rfl rfl rfl rfl (fun h st=> ?_))))))))
      refine WO.nil (WP.exit ?_)
      exact ⟨g,(Nat.lt_succ_self _),k+1,ts,fy,vy,x1,x2,x3,(.bool true),(.int .u8 (b.toNat:Int)),(.bool true),x9,x11,(.str 0 0),x13,x14,(.int .i64 0),x16,(.int .i64 (k:Int)),(.int .i64 0),⟨by rw [hs,cK hb];simp [Lex.blank,one,Lex.put, *],(by omega),(by omega),(by first|omega|(simp;omega))⟩,by kernel_rfl,st⟩
     ·replace c5:¬(b.toNat=13):=by omega
      refine WO.aB (v:= .bool false) rfl (WO.nil (WP.cond (t:=false) rfl (WP.seq (WP.reg (WO.ifS (L.eql rfl rfl) (fun c6=> ?_) (fun c6=> ?_))))))
      ·replace c6:b.toNat=35:=by omega
       refine WO.nil (WP.cond (t:=true) rfl (WP.seq (WP.reg ?_)))
       obtain ⟨hw1,hw2,hw3⟩:=qp (f:=Lex.iV) hb (by simp [Lex.iV,one, *])
       refine WO.QK rfl rfl (R7 D (fun st=>notnl_c D st) ((st.pick 2 rfl).pick 2 rfl) hk hsz) ?_
       rintro _ h ⟨rfl,st⟩
       refine WO.nil (WP.exit ?_)
       exact ⟨g,(Nat.lt_succ_self _),k+((s.drop k).takeWhile Lex.iV).length,ts,fy,vy,x1,x2,x3,(.bool true),(.int .u8 (b.toNat:Int)),(.bool false),(.bool true),x11,(.str 0 0),x13,x14,(.int .i64 0),x16,(.int .i64 (k:Int)),(.int .i64 0),⟨by rw [hs,cK hb];simp [Lex.blank,one,Lex.put, *],(by omega),(by omega),(by first|omega|(simp;omega))⟩,by kernel_rfl,(st.pick 2 rfl)⟩
      ·replace c6:¬(b.toNat=35):=by omega
       refine WO.nil (WP.cond (t:=false) rfl (WP.seq (WP.reg (WO.aU rfl (LH D st) ?_))))
       rintro _ h ⟨rfl,st⟩
       cases hb1:Lex.small b
       ·refine WO.nil (WP.cond (t:=false) rfl (WP.seq (WP.reg (WO.aU rfl (FP D st) ?_))))
        rintro _ h ⟨rfl,st⟩
        cases hb2:Lex.digit b
        ·refine WO.nil (WP.cond (t:=false) rfl (WP.seq (WP.reg (WO.val (v:=L.str s) (L.aC rfl (st.aj 2 rfl) rfl) (WO.val (v:= .int .i64 (k:Int)) (L.aC rfl (st.aj 1 rfl) rfl) (WO.val (v:=L.str ((s.drop (k)).take (s.length - (k)))) (L.JN rfl rfl rfl (by omega) (by omega)) ?_))))))
         rw [List.take_of_length_le (by simp)]
         have hsl:=yg (s.drop k)
         rw [List.length_drop] at hsl
         refine WO.aM rfl (sign_c D DD st) ?_
         rintro _ h ⟨rfl,st⟩
         refine WO.aB (v:= .int .i64 4) rfl (WO.aB (v:=L.str (Lex.sign (s.drop k))) rfl (WO.nil (WP.seq (WP.reg (WO.val (v:= .int .i64 (k:Int)) (L.aC rfl (st.aj 1 rfl) rfl) (WO.val (v:= .int .i64 ((Lex.sign (s.drop k)).length:Int)) (L.nT rfl) (WO.val (v:= .int .i64 ((k+(Lex.sign (s.drop k)).length:Nat):Int)) (L.fQ rfl rfl (by omega) (And.intro (by omega) (by omega))) (WO.aG (row':=[.int .i64 ((k+(Lex.sign (s.drop k)).length:Nat):Int)]) st 1 rfl rfl rfl rfl rfl rfl rfl (fun h st=> ?_)))))))))
         refine WO.nil (WP.seq (WP.reg (WO.ifS (L.seq (m:=[]) rfl rfl) (fun cz=> ?_) (fun cz=> ?_))))
         ·refine WO.nil (WP.cond (t:=true) rfl (WP.reg (WO.aB (v:= .int .i64 10) rfl (WO.nil (WP.seq (WP.seq (WP.reg (WO.ifS (L.neq rfl rfl) (fun c_=> ?_) (fun c_=>by exfalso;omega)))))))))
          refine WO.nil (WP.cond (t:=true) rfl (WP.seq (WP.reg (WO.aB (v:= .slN) rfl (WO.aB (v:= .int .i64 10) rfl (WO.aB (v:= .int .i64 (k:Int)) rfl (WO.nil (WP.ret ?_))))))))
          have hE:Lex.all (s.length+1) 0 s []= .error (10,k):=by
           rw [hs,cK hb];simp [Lex.blank,one,Lex.put, *]
          rw [hE]
          exact ⟨_,(ak (aD (v:= .slN) rfl) (ak (aD (v:= .int .i64 10) rfl) (ak (aD (v:= .int .i64 (k:Int)) rfl) (aF _ _)))),rfl,st.tail.tail.tail⟩
         ·have hs1:0<(Lex.sign (s.drop k)).length:=List.length_pos_iff.2 cz
          refine WO.nil (WP.cond (t:=false) rfl (WP.skip (WP.seq (WP.seq (WP.reg (WO.ifS (L.neq rfl rfl) (fun c_=>by exfalso;omega) (fun c_=> ?_)))))))
          refine WO.nil (WP.cond (t:=false) rfl (WP.skip (WP.reg (WO.val (v:= .agg [.int .i64 4,L.str (Lex.sign (s.drop k)), .int .i64 (k:Int)]) (L.build rfl) (WO.iY (rows:=[[.int .i64 4,L.str (Lex.sign (s.drop k)), .int .i64 (k:Int)]]) st rfl (by decide) rfl (by simp) (fun bs1 h st=> ?_))))))
          refine WO.kN st 1 rfl rfl rfl (st.aJ 0 rfl) (by decide) (by simp;omega) (fun f1 v1 h st=> ?_)
          rw [show (ts.map Tok.row)++[[V.int .i64 4,L.str (Lex.sign (s.drop k)),V.int .i64 (k:Int)]]=(ts++[Tok.mk 4 (Lex.sign (s.drop k)) k]).map Tok.row from by simp [Tok.row]] at st
          obtain ⟨ab1,rfl⟩:=(st.bQ 1 rfl).ne (by simp)
          refine WO.nil ?_
          exact ⟨g,(Nat.lt_succ_self _),k+(Lex.sign (s.drop k)).length,(ts++[Tok.mk 4 (Lex.sign (s.drop k)) k]),f1,(.sl ab1 0 ((ts++[Tok.mk 4 (Lex.sign (s.drop k)) k]).map Tok.row).length none),x1,x2,x3,(.bool true),(.int .u8 (b.toNat:Int)),(.bool false),(.bool false),(.bool false),(L.str (Lex.sign (s.drop k))),(.bool false),(.bool false),(.int .i64 0),(.bool false),(.int .i64 (k:Int)),(.int .i64 4),⟨by rw [hs,cK hb];simp [Lex.blank,one,Lex.put, *],(by omega),(by omega),(by first|omega|(simp;omega))⟩,by kernel_rfl,st.tail⟩
        ·refine WO.nil (WP.cond (t:=true) rfl (WP.seq (WP.reg ?_)))
         obtain ⟨hw1,hw2,hw3⟩:=qp (f:=Lex.digit) hb hb2
         refine WO.Lg rfl rfl (R7 D (fun st=>FP D st) ((st.pick 2 rfl).pick 2 rfl) hk hsz) ?_
         rintro _ h ⟨rfl,st⟩
         refine WO.nil (WP.reg (WO.val (v:=L.str s) (L.aC rfl (st.aj 1 rfl) rfl) (WO.val (v:= .int .i64 ((k+((s.drop k).takeWhile Lex.digit).length:Nat):Int)) (L.aC rfl (st.aj 0 rfl) rfl) (WO.val (v:=L.str ((s.drop (k+((s.drop k).takeWhile Lex.digit).length)).take (s.length - (k+((s.drop k).takeWhile Lex.digit).length)))) (L.JN rfl rfl rfl (by omega) (by omega)) ?_))))
         rw [List.take_of_length_le (by simp)]
         refine WO.aM rfl (lnum_c D st hw3) ?_
         rintro _ h ⟨rfl,st⟩
         refine WO.val (v:= .int .i64 ((Lex.number ((s.drop k).takeWhile Lex.digit) (s.drop (k+((s.drop k).takeWhile Lex.digit).length))).1:Int)) rfl (WO.val (v:= .int .i64 ((Lex.number ((s.drop k).takeWhile Lex.digit) (s.drop (k+((s.drop k).takeWhile Lex.digit).length))).2:Int)) rfl (WO.aB (v:= .int .i64 ((Lex.number ((s.drop k).takeWhile Lex.digit) (s.drop (k+((s.drop k).takeWhile Lex.digit).length))).1:Int)) rfl (WO.aB (v:= .int .i64 ((Lex.number ((s.drop k).takeWhile Lex.digit) (s.drop (k+((s.drop k).takeWhile Lex.digit).length))).2:Int)) rfl (WO.nil (WP.seq (WP.seq (WP.reg (WO.ifS (L.neq rfl rfl) (fun ce=> ?_) (fun ce=> ?_)))))))))
         ·replace ce:(Lex.number ((s.drop k).takeWhile Lex.digit) (s.drop (k+((s.drop k).takeWhile Lex.digit).length))).2≠0:=by omega
          refine WO.nil (WP.cond (t:=true) rfl (WP.seq (WP.reg (WO.aB (v:= .slN) rfl (WO.aB (v:= .int .i64 ((Lex.number ((s.drop k).takeWhile Lex.digit) (s.drop (k+((s.drop k).takeWhile Lex.digit).length))).2:Int)) rfl (WO.aB (v:= .int .i64 (k:Int)) rfl (WO.nil (WP.ret ?_))))))))
          have hE:Lex.all (s.length+1) 0 s []= .error ((Lex.number ((s.drop k).takeWhile Lex.digit) (s.drop (k+((s.drop k).takeWhile Lex.digit).length))).2,k):=by
           rw [hs,cK hb];simp [Lex.blank,one,Lex.put, *]
          rw [hE]
          exact ⟨_,(ak (aD (v:= .slN) rfl) (ak (aD (v:= .int .i64 ((Lex.number ((s.drop k).takeWhile Lex.digit) (s.drop (k+((s.drop k).takeWhile Lex.digit).length))).2:Int)) rfl) (ak (aD (v:= .int .i64 (k:Int)) rfl) (aF _ _)))),rfl,st.tail.tail.tail⟩
         ·replace ce:(Lex.number ((s.drop k).takeWhile Lex.digit) (s.drop (k+((s.drop k).takeWhile Lex.digit).length))).2=0:=by omega
          refine WO.nil (WP.cond (t:=false) rfl (WP.skip (WP.reg (WO.val (v:= .agg [.int .i64 ((Lex.number ((s.drop k).takeWhile Lex.digit) (s.drop (k+((s.drop k).takeWhile Lex.digit).length))).1:Int),L.str ((s.drop k).takeWhile Lex.digit), .int .i64 (k:Int)]) (L.build rfl) (WO.iY (rows:=[[.int .i64 ((Lex.number ((s.drop k).takeWhile Lex.digit) (s.drop (k+((s.drop k).takeWhile Lex.digit).length))).1:Int),L.str ((s.drop k).takeWhile Lex.digit), .int .i64 (k:Int)]]) st rfl (by decide) rfl (by simp) (fun bs2 h st=> ?_))))))
          refine WO.kN st 3 rfl rfl rfl (st.aJ 0 rfl) (by decide) (by simp;omega) (fun f2 v2 h st=> ?_)
          rw [show (ts.map Tok.row)++[[V.int .i64 ((Lex.number ((s.drop k).takeWhile Lex.digit) (s.drop (k+((s.drop k).takeWhile Lex.digit).length))).1:Int),L.str ((s.drop k).takeWhile Lex.digit),V.int .i64 (k:Int)]]=(ts++[Tok.mk ((Lex.number ((s.drop k).takeWhile Lex.digit) (s.drop (k+((s.drop k).takeWhile Lex.digit).length))).1) ((s.drop k).takeWhile Lex.digit) k]).map Tok.row from by simp [Tok.row]] at st
          obtain ⟨ab2,rfl⟩:=(st.bQ 3 rfl).ne (by simp)
          refine WO.nil ?_
          exact ⟨g,(Nat.lt_succ_self _),k+((s.drop k).takeWhile Lex.digit).length,(ts++[Tok.mk ((Lex.number ((s.drop k).takeWhile Lex.digit) (s.drop (k+((s.drop k).takeWhile Lex.digit).length))).1) ((s.drop k).takeWhile Lex.digit) k]),f2,(.sl ab2 0 ((ts++[Tok.mk ((Lex.number ((s.drop k).takeWhile Lex.digit) (s.drop (k+((s.drop k).takeWhile Lex.digit).length))).1) ((s.drop k).takeWhile Lex.digit) k]).map Tok.row).length none),x1,x2,x3,(.bool true),(.int .u8 (b.toNat:Int)),(.bool false),(.bool false),(.bool false),(L.str ((s.drop k).takeWhile Lex.digit)),(.bool true),x14,(.int .i64 ((Lex.number ((s.drop k).takeWhile Lex.digit) (s.drop (k+((s.drop k).takeWhile Lex.digit).length))).2:Int)),(.bool false),(.int .i64 (k:Int)),(.int .i64 ((Lex.number ((s.drop k).takeWhile Lex.digit) (s.drop (k+((s.drop k).takeWhile Lex.digit).length))).1:Int)),⟨by rw [hs,cK hb];simp [Lex.blank,one,Lex.put, *],(by omega),(by omega),(by first|omega|(simp;omega))⟩,by kernel_rfl,(st.tail.pick 2 rfl)⟩
       ·refine WO.nil (WP.cond (t:=true) rfl (WP.seq (WP.reg ?_)))
        obtain ⟨hw1,hw2,hw3⟩:=qp (f:=Lex.within) hb (by simp [Lex.within,one, *])
        refine WO.Lg rfl rfl (R7 D (fun st=>Da D st) ((st.pick 2 rfl).pick 2 rfl) hk hsz) ?_
        rintro _ h ⟨rfl,st⟩
        refine WO.nil (WP.reg (WO.aM rfl (word_c D st) ?_))
        rintro _ h ⟨rfl,st⟩
        refine WO.val (v:= .int .i64 ((Lex.word ((s.drop k).takeWhile Lex.within)).1:Int)) rfl (WO.val (v:= .int .i64 ((Lex.word ((s.drop k).takeWhile Lex.within)).2:Int)) rfl (WO.aB (v:= .int .i64 ((Lex.word ((s.drop k).takeWhile Lex.within)).1:Int)) rfl (WO.aB (v:= .int .i64 ((Lex.word ((s.drop k).takeWhile Lex.within)).2:Int)) rfl (WO.nil (WP.seq (WP.seq (WP.reg (WO.ifS (L.neq rfl rfl) (fun ce=> ?_) (fun ce=> ?_)))))))))
        ·replace ce:(Lex.word ((s.drop k).takeWhile Lex.within)).2≠0:=by omega
         refine WO.nil (WP.cond (t:=true) rfl (WP.seq (WP.reg (WO.aB (v:= .slN) rfl (WO.aB (v:= .int .i64 ((Lex.word ((s.drop k).takeWhile Lex.within)).2:Int)) rfl (WO.aB (v:= .int .i64 (k:Int)) rfl (WO.nil (WP.ret ?_))))))))
         have hE:Lex.all (s.length+1) 0 s []= .error ((Lex.word ((s.drop k).takeWhile Lex.within)).2,k):=by
          rw [hs,cK hb];simp [Lex.blank,one,Lex.put, *]
         rw [hE]
         exact ⟨_,(ak (aD (v:= .slN) rfl) (ak (aD (v:= .int .i64 ((Lex.word ((s.drop k).takeWhile Lex.within)).2:Int)) rfl) (ak (aD (v:= .int .i64 (k:Int)) rfl) (aF _ _)))),rfl,st.tail.tail.tail⟩
        ·replace ce:(Lex.word ((s.drop k).takeWhile Lex.within)).2=0:=by omega
         refine WO.nil (WP.cond (t:=false) rfl (WP.skip (WP.reg (WO.val (v:= .agg [.int .i64 ((Lex.word ((s.drop k).takeWhile Lex.within)).1:Int),L.str ((s.drop k).takeWhile Lex.within), .int .i64 (k:Int)]) (L.build rfl) (WO.iY (rows:=[[.int .i64 ((Lex.word ((s.drop k).takeWhile Lex.within)).1:Int),L.str ((s.drop k).takeWhile Lex.within), .int .i64 (k:Int)]]) st rfl (by decide) rfl (by simp) (fun bs3 h st=> ?_))))))
         refine WO.kN st 3 rfl rfl rfl (st.aJ 0 rfl) (by decide) (by simp;omega) (fun f3 v3 h st=> ?_)
         rw [show (ts.map Tok.row)++[[V.int .i64 ((Lex.word ((s.drop k).takeWhile Lex.within)).1:Int),L.str ((s.drop k).takeWhile Lex.within),V.int .i64 (k:Int)]]=(ts++[Tok.mk ((Lex.word ((s.drop k).takeWhile Lex.within)).1) ((s.drop k).takeWhile Lex.within) k]).map Tok.row from by simp [Tok.row]] at st
         obtain ⟨ab3,rfl⟩:=(st.bQ 3 rfl).ne (by simp)
         refine WO.nil ?_
         exact ⟨g,(Nat.lt_succ_self _),k+((s.drop k).takeWhile Lex.within).length,(ts++[Tok.mk ((Lex.word ((s.drop k).takeWhile Lex.within)).1) ((s.drop k).takeWhile Lex.within) k]),f3,(.sl ab3 0 ((ts++[Tok.mk ((Lex.word ((s.drop k).takeWhile Lex.within)).1) ((s.drop k).takeWhile Lex.within) k]).map Tok.row).length none),x1,x2,x3,(.bool true),(.int .u8 (b.toNat:Int)),(.bool false),(.bool false),(.bool true),(L.str ((s.drop k).takeWhile Lex.within)),x13,x14,(.int .i64 ((Lex.word ((s.drop k).takeWhile Lex.within)).2:Int)),(.bool false),(.int .i64 (k:Int)),(.int .i64 ((Lex.word ((s.drop k).takeWhile Lex.within)).1:Int)),⟨by rw [hs,cK hb];simp [Lex.blank,one,Lex.put, *],(by omega),(by omega),(by first|omega|(simp;omega))⟩,by kernel_rfl,(st.tail.pick 2 rfl)⟩
 ·replace c1:¬(k<s.length):=by omega
  refine WO.nil (WP.cond (t:=false) rfl (WP.exit (WP.seq (WP.reg (WO.val (v:=L.str s) (L.aC rfl (st.aj 2 rfl) rfl) (WO.val (v:= .int .i64 (s.length:Int)) (L.nT rfl) (WO.val (v:= .agg [.int .i64 0, .str 0 0, .int .i64 (s.length:Int)]) (L.build rfl) (WO.iY (rows:=[[.int .i64 0, .str 0 0, .int .i64 (s.length:Int)]]) st rfl (by decide) rfl (by simp) (fun bs4 h st=> ?_)))))))))
  refine WO.kN st 1 rfl rfl rfl (st.aJ 0 rfl) (by decide) (by simp;omega) (fun f4 v4 h st=> ?_)
  rw [show (ts.map Tok.row)++[[V.int .i64 0,V.str 0 0,V.int .i64 (s.length:Int)]]=(ts++[Tok.mk 0 [] s.length]).map Tok.row from by simp [Tok.row];rfl] at st
  obtain ⟨ab4,rfl⟩:=(st.bQ 1 rfl).ne (by simp)
  refine WO.aB (v:= .int .i64 0) rfl (WO.aB (v:= .int .i64 0) rfl (WO.nil (WP.ret ?_)))
  have hz:s.drop k=[]:=List.drop_of_length_le (by omega)
  have hE:Lex.all (s.length+1) 0 s []= .ok (ts++[⟨0,[],s.length⟩]):=by
   rw [hs,hz,show k=s.length by omega];rfl
  rw [hE]
  exact ⟨_,(ak (aD (v:= .sl ab4 0 (((ts++[Tok.mk 0 [] s.length]).map Tok.row).length) none) rfl) (ak (aD (v:= .int .i64 0) rfl) (ak (aD (v:= .int .i64 0) rfl) (aF _ _)))),_,rfl,(((st.tail.pick 1 rfl).tail.pick 1 rfl).tail).shut (by decide)⟩
end
end Go.Eng.YtjobofnpmmjeoaaGreatDoor.Pq
namespace Go.Eng.YtjobofnpmmjeoaaGreatDoor.Pq
open Go.Eng
noncomputable section
variable {c:Ctx}
theorem lex_c (D:gq c) (DD:uL c) {fs:List Fact} {h:Heap} {s:List UInt8} (st:St fs h):
 aV c 12 [L.str s] h fun v h1=>match Lex.lex s with
  | .ok ts=>∃x,v= .tup [x, .int .i64 0, .int .i64 0]∧St (.stb (fun h=>Rows 3 h x (ts.map Tok.row))::fs) h1
  | .error (e,a)=>v= .tup [.slN, .int .i64 (e:Int), .int .i64 (a:Int)]∧St fs h1:=by
 refine aV.dh D.f12 rfl (WP.seq (WP.reg (WO.aB (v:= .slN) rfl (WO.aB (v:= .int .i64 0) rfl (WO.aB (v:= .int .i64 0) rfl (WO.nil (WP.seq (WP.seq (WP.reg (WO.val (v:= .int .i64 (s.length:Int)) (L.nT rfl) (WO.ifS (L.gtr rfl rfl) (fun c1=> ?_) (fun c1=> ?_))))))))))))
 ·replace c1:8192<s.length:=by omega
  refine WO.nil (WP.cond (t:=true) rfl (WP.seq (WP.reg (WO.aB (v:= .slN) rfl (WO.aB (v:= .int .i64 9) rfl (WO.aB (v:= .int .i64 8192) rfl (WO.nil (WP.ret ?_))))))))
  have hE:Lex.lex s= .error (9,8192):=by unfold Lex.lex;rw [if_pos c1]
  rw [hE]
  exact ⟨_,(ak (aD (v:= .slN) rfl) (ak (aD (v:= .int .i64 9) rfl) (ak (aD (v:= .int .i64 8192) rfl) (aF _ _)))),rfl,st⟩
 ·replace c1:¬(8192<s.length):=by omega
  refine WO.nil (WP.cond (t:=false) rfl (WP.skip (WP.seq (WP.reg ?_))))
  have hc:=all_c (s:=s) D DD st (by omega)
  cases hsp:Lex.all (s.length+1) 0 s [] with
  |error x=>
   obtain ⟨e,a⟩:=x
   rw [hsp] at hc
   refine WO.aM rfl hc ?_
   rintro _ h ⟨rfl,st⟩
   refine WO.val (v:= .slN) rfl (WO.val (v:= .int .i64 (e:Int)) rfl (WO.val (v:= .int .i64 (a:Int)) rfl (WO.aB (v:= .slN) rfl (WO.aB (v:= .int .i64 (e:Int)) rfl (WO.aB (v:= .int .i64 (a:Int)) rfl (WO.nil (WP.ret ?_)))))))
   have hE:Lex.lex s= .error (e,a):=by unfold Lex.lex;rw [if_neg c1];exact hsp
   rw [hE]
   exact ⟨_,(ak (aD (v:= .slN) rfl) (ak (aD (v:= .int .i64 (e:Int)) rfl) (ak (aD (v:= .int .i64 (a:Int)) rfl) (aF _ _)))),rfl,st⟩
  |ok x=>
   rw [hsp] at hc
   refine WO.aM rfl hc ?_
   rintro _ h ⟨y,rfl,st⟩
   refine WO.val (v:=y) rfl (WO.val (v:= .int .i64 0) rfl (WO.val (v:= .int .i64 0) rfl (WO.aB (v:=y) rfl (WO.aB (v:= .int .i64 0) rfl (WO.aB (v:= .int .i64 0) rfl (WO.nil (WP.ret ?_)))))))
   have hE:Lex.lex s= .ok x:=by unfold Lex.lex;rw [if_neg c1];exact hsp
   rw [hE]
   exact ⟨_,(ak (aD (v:=y) rfl) (ak (aD (v:= .int .i64 0) rfl) (ak (aD (v:= .int .i64 0) rfl) (aF _ _)))),y,rfl,st⟩
theorem R9 (D:gq c) (DD:uL c) {fs:List Fact} {h:Heap} {p:RP} (st:St (p.toks::fs) h) (hl:Left p 0 p.ts):
 aV c 13 [.sl p.tb p.to p.ts.length p.cap] h fun v h1=>match Par.kD 0 p.ts with
  | .ok (m,_)=>∃row,v= .tup [.agg row, .int .i64 0, .int .i64 0]∧row.length=5∧St (.stb (fun h=>MdR h m row)::fs) h1
  | .error (e,a)=>v= .tup [.agg [.str 0 0, .int .i64 0, .slN, .slN, .slN], .int .i64 (e:Int), .int .i64 (a:Int)]∧St fs h1:=by
 refine aV.dh D.f13 rfl (WP.seq (WP.reg (WO.bL st L.alloc (fun mb h st=> ?_))))
 refine WO.aB (v:= .int .i64 0) rfl (WO.aB (v:= .int .i64 0) rfl (WO.nil (WP.seq (WP.reg ?_))))
 have hc:=readM_c D DD (st.pick 1 rfl) hl
 cases hsp:Par.kD 0 p.ts with
 |error x=>
  obtain ⟨e,a⟩:=x
  rw [hsp] at hc
  refine WO.aM rfl hc ?_
  rintro _ h ⟨rfl,st⟩
  refine WO.val (v:= .agg [.str 0 0, .int .i64 0, .slN, .slN, .slN]) rfl (WO.val (v:= .int .i64 (e:Int)) rfl (WO.val (v:= .int .i64 (a:Int)) rfl (WO.aG (row':=[.str 0 0, .int .i64 0, .slN, .slN, .slN]) st 0 rfl rfl rfl rfl rfl rfl rfl (fun h st=> ?_))))
  refine WO.aB (v:= .int .i64 (e:Int)) rfl (WO.aB (v:= .int .i64 (a:Int)) rfl (WO.nil (WP.ret ?_)))
  exact ⟨_,(ak (aP (l:=[.str 0 0, .int .i64 0, .slN, .slN, .slN]) rfl (L.aT (st.aj 0 rfl) rfl rfl rfl)) (ak (aD (v:= .int .i64 (e:Int)) rfl) (ak (aD (v:= .int .i64 (a:Int)) rfl) (aF _ _)))),rfl,st.tail⟩
 |ok x=>
  rw [hsp] at hc
  refine WO.aM rfl hc ?_
  rintro _ h ⟨row,rfl,hrow,st⟩
  refine WO.val (v:= .agg row) rfl (WO.val (v:= .int .i64 0) rfl (WO.val (v:= .int .i64 0) rfl (WO.aG (row':=row) st 1 rfl rfl rfl (by rw [dB];exact hrow) rfl rfl (kJ hrow) (fun h st=> ?_))))
  refine WO.aB (v:= .int .i64 0) rfl (WO.aB (v:= .int .i64 0) rfl (WO.nil (WP.ret ?_)))
  exact ⟨_,(ak (aP (l:=row) rfl (L.aT (st.aj 1 rfl) rfl (by rw [dB,hrow];rfl) (jy hrow))) (ak (aD (v:= .int .i64 0) rfl) (ak (aD (v:= .int .i64 0) rfl) (aF _ _)))),row,rfl,hrow,(st.pick 1 rfl).tail⟩
theorem Sb (D:gq c) (DD:uL c) {fs:List Fact} {h:Heap} {s:List UInt8} (st:St fs h):
 aV c 5 [L.str s] h fun v h1=>match Par.text s with
  | .ok m=>∃row,v= .tup [.agg row, .int .i64 0, .int .i64 0]∧row.length=5∧St (.stb (fun h=>MdR h m row)::fs) h1
  | .error (e,a)=>v= .tup [.agg [.str 0 0, .int .i64 0, .slN, .slN, .slN], .int .i64 (e:Int), .int .i64 (a:Int)]∧St fs h1:=by
 refine aV.dh D.f5 rfl (WP.seq (WP.reg (WO.bL st L.alloc (fun mb h st=> ?_))))
 refine WO.aB (v:= .int .i64 0) rfl (WO.aB (v:= .int .i64 0) rfl (WO.nil (WP.seq (WP.reg ?_))))
 have hc:=lex_c (s:=s) D DD st
 cases hsp:Lex.lex s with
 |error x=>
  obtain ⟨e,a⟩:=x
  rw [hsp] at hc
  refine WO.aM rfl hc ?_
  rintro _ h ⟨rfl,st⟩
  refine WO.val (v:= .slN) rfl (WO.val (v:= .int .i64 (e:Int)) rfl (WO.val (v:= .int .i64 (a:Int)) rfl (WO.aB (v:= .slN) rfl (WO.aB (v:= .int .i64 (e:Int)) rfl (WO.aB (v:= .int .i64 (a:Int)) rfl (WO.nil (WP.seq (WP.seq (WP.reg ?_)))))))))
  have he0:e≠0:=Ap hsp
  refine WO.ifS (L.neq rfl rfl) (fun c_=> ?_) (fun c_=>by exfalso;omega)
  refine WO.nil (WP.cond (t:=true) rfl (WP.seq (WP.reg (WO.val (v:= .agg [.str 0 0, .int .i64 0, .slN, .slN, .slN]) (L.build rfl) (WO.aG (row':=[.str 0 0, .int .i64 0, .slN, .slN, .slN]) st 0 rfl rfl rfl rfl rfl rfl rfl (fun h st=> ?_))))))
  refine WO.aB (v:= .int .i64 (e:Int)) rfl (WO.aB (v:= .int .i64 (a:Int)) rfl (WO.nil (WP.ret ?_)))
  have hE:Par.text s= .error (e,a):=by unfold Par.text;rw [hsp]
  rw [hE]
  exact ⟨_,(ak (aP (l:=[.str 0 0, .int .i64 0, .slN, .slN, .slN]) rfl (L.aT (st.aj 0 rfl) rfl rfl rfl)) (ak (aD (v:= .int .i64 (e:Int)) rfl) (ak (aD (v:= .int .i64 (a:Int)) rfl) (aF _ _)))),rfl,st.tail⟩
 |ok x=>
  rw [hsp] at hc
  refine WO.aM rfl hc ?_
  rintro _ h ⟨y,rfl,st⟩
  obtain ⟨p,rfl,rfl⟩:=Ao st (uH hsp ⟨0,0,0,none,x⟩ rfl).2
  obtain ⟨hlf,hne⟩:=uH hsp p rfl
  refine WO.val (v:= .sl p.tb p.to p.ts.length p.cap) rfl (WO.val (v:= .int .i64 0) rfl (WO.val (v:= .int .i64 0) rfl (WO.aB (v:= .sl p.tb p.to p.ts.length p.cap) rfl (WO.aB (v:= .int .i64 0) rfl (WO.aB (v:= .int .i64 0) rfl (WO.nil (WP.seq (WP.seq (WP.reg (WO.ifS (L.neq rfl rfl) (fun c_=>by exfalso;omega) (fun c_=> ?_)))))))))))
  refine WO.nil (WP.cond (t:=false) rfl (WP.skip (WP.seq (WP.reg ?_))))
  have hc:=R9 D DD (st:St (p.toks:: .box mb [.str 0 0, .int .i64 0, .slN, .slN, .slN]::fs) _) hlf
  cases hsq:Par.kD 0 p.ts with
  |error x=>
   obtain ⟨e,a⟩:=x
   rw [hsq] at hc
   refine WO.aM rfl hc ?_
   rintro _ h ⟨rfl,st⟩
   refine WO.val (v:= .agg [.str 0 0, .int .i64 0, .slN, .slN, .slN]) rfl (WO.val (v:= .int .i64 (e:Int)) rfl (WO.val (v:= .int .i64 (a:Int)) rfl (WO.aG (row':=[.str 0 0, .int .i64 0, .slN, .slN, .slN]) st 0 rfl rfl rfl rfl rfl rfl rfl (fun h st=> ?_))))
   refine WO.aB (v:= .int .i64 (e:Int)) rfl (WO.aB (v:= .int .i64 (a:Int)) rfl (WO.nil (WP.ret ?_)))
   have hE:Par.text s= .error (e,a):=by unfold Par.text;rw [hsp];simp only [hsq]
   rw [hE]
   exact ⟨_,(ak (aP (l:=[.str 0 0, .int .i64 0, .slN, .slN, .slN]) rfl (L.aT (st.aj 0 rfl) rfl rfl rfl)) (ak (aD (v:= .int .i64 (e:Int)) rfl) (ak (aD (v:= .int .i64 (a:Int)) rfl) (aF _ _)))),rfl,st.tail⟩
  |ok x=>
   rw [hsq] at hc
   refine WO.aM rfl hc ?_
   rintro _ h ⟨row,rfl,hrow,st⟩
   refine WO.val (v:= .agg row) rfl (WO.val (v:= .int .i64 0) rfl (WO.val (v:= .int .i64 0) rfl (WO.aG (row':=row) st 1 rfl rfl rfl (by rw [dB];exact hrow) rfl rfl (kJ hrow) (fun h st=> ?_))))
   refine WO.aB (v:= .int .i64 0) rfl (WO.aB (v:= .int .i64 0) rfl (WO.nil (WP.ret ?_)))
   have hE:Par.text s= .ok x.1:=by unfold Par.text;rw [hsp];simp only [hsq]
   rw [hE]
   exact ⟨_,(ak (aP (l:=row) rfl (L.aT (st.aj 1 rfl) rfl (by rw [dB,hrow];rfl) (jy hrow))) (ak (aD (v:= .int .i64 0) rfl) (ak (aD (v:= .int .i64 0) rfl) (aF _ _)))),row,rfl,hrow,(st.pick 1 rfl).tail⟩
theorem Sc (D:gq c) (DD:uL c) {fs:List Fact} {h:Heap} {s:List UInt8} (st:St fs h):
 aV c 7 [L.str s] h fun v h1=>match Par.rows s with
  | .ok m=>∃x,v= .tup [x, .int .i64 0, .int .i64 0]∧x.bM=some [x]∧St (.stb (fun h=>Rows 3 h x (m.map Pm.row))::fs) h1
  | .error (e,a)=>v= .tup [.slN, .int .i64 (e:Int), .int .i64 (a:Int)]∧St fs h1:=by
 refine aV.dh D.f7 rfl (WP.seq (WP.reg (WO.aB (v:= .slN) rfl (WO.aB (v:= .int .i64 0) rfl (WO.aB (v:= .int .i64 0) rfl (WO.nil (WP.seq (WP.reg ?_))))))))
 have hc:=lex_c (s:=s) D DD st
 cases hsp:Lex.lex s with
 |error x=>
  obtain ⟨e,a⟩:=x
  rw [hsp] at hc
  refine WO.aM rfl hc ?_
  rintro _ h ⟨rfl,st⟩
  refine WO.val (v:= .slN) rfl (WO.val (v:= .int .i64 (e:Int)) rfl (WO.val (v:= .int .i64 (a:Int)) rfl (WO.aB (v:= .slN) rfl (WO.aB (v:= .int .i64 (e:Int)) rfl (WO.aB (v:= .int .i64 (a:Int)) rfl (WO.nil (WP.seq (WP.seq (WP.reg ?_)))))))))
  have he0:e≠0:=Ap hsp
  refine WO.ifS (L.neq rfl rfl) (fun c_=> ?_) (fun c_=>by exfalso;omega)
  refine WO.nil (WP.cond (t:=true) rfl (WP.seq (WP.reg (WO.aB (v:= .slN) rfl (WO.aB (v:= .int .i64 (e:Int)) rfl (WO.aB (v:= .int .i64 (a:Int)) rfl (WO.nil (WP.ret ?_))))))))
  have hE:Par.rows s= .error (e,a):=by unfold Par.rows;rw [hsp]
  rw [hE]
  exact ⟨_,(ak (aD (v:= .slN) rfl) (ak (aD (v:= .int .i64 (e:Int)) rfl) (ak (aD (v:= .int .i64 (a:Int)) rfl) (aF _ _)))),rfl,st⟩
 |ok x=>
  rw [hsp] at hc
  refine WO.aM rfl hc ?_
  rintro _ h ⟨y,rfl,st⟩
  obtain ⟨p,rfl,rfl⟩:=Ao st (uH hsp ⟨0,0,0,none,x⟩ rfl).2
  obtain ⟨hlf,hne⟩:=uH hsp p rfl
  refine WO.val (v:= .sl p.tb p.to p.ts.length p.cap) rfl (WO.val (v:= .int .i64 0) rfl (WO.val (v:= .int .i64 0) rfl (WO.aB (v:= .sl p.tb p.to p.ts.length p.cap) rfl (WO.aB (v:= .int .i64 0) rfl (WO.aB (v:= .int .i64 0) rfl (WO.nil (WP.seq (WP.seq (WP.reg (WO.ifS (L.neq rfl rfl) (fun c_=>by exfalso;omega) (fun c_=> ?_)))))))))))
  refine WO.nil (WP.cond (t:=false) rfl (WP.skip (WP.seq (WP.reg ?_))))
  have hc:=readL_c D DD (st:St (p.toks::fs) _) hlf
  cases hsq:Par.labels p.ts with
  |error x=>
   obtain ⟨e,a⟩:=x
   rw [hsq] at hc
   refine WO.aM rfl hc ?_
   rintro _ h ⟨rfl,st⟩
   refine WO.val (v:= .slN) rfl (WO.val (v:= .int .i64 (e:Int)) rfl (WO.val (v:= .int .i64 (a:Int)) rfl (WO.aB (v:= .slN) rfl (WO.aB (v:= .int .i64 (e:Int)) rfl (WO.aB (v:= .int .i64 (a:Int)) rfl (WO.nil (WP.ret ?_)))))))
   have hE:Par.rows s= .error (e,a):=by unfold Par.rows;rw [hsp];simp only [hsq]
   rw [hE]
   exact ⟨_,(ak (aD (v:= .slN) rfl) (ak (aD (v:= .int .i64 (e:Int)) rfl) (ak (aD (v:= .int .i64 (a:Int)) rfl) (aF _ _)))),rfl,st⟩
  |ok x=>
   rw [hsq] at hc
   refine WO.aM rfl hc ?_
   rintro _ h ⟨y,rfl,hcv,st⟩
   refine WO.val (v:=y) rfl (WO.val (v:= .int .i64 0) rfl (WO.val (v:= .int .i64 0) rfl (WO.aB (v:=y) rfl (WO.aB (v:= .int .i64 0) rfl (WO.aB (v:= .int .i64 0) rfl (WO.nil (WP.ret ?_)))))))
   have hE:Par.rows s= .ok x.1:=by unfold Par.rows;rw [hsp];simp only [hsq]
   rw [hE]
   exact ⟨_,(ak (aD (v:=y) rfl) (ak (aD (v:= .int .i64 0) rfl) (ak (aD (v:= .int .i64 0) rfl) (aF _ _)))),y,rfl,hcv,st⟩
end
end Go.Eng.YtjobofnpmmjeoaaGreatDoor.Pq
