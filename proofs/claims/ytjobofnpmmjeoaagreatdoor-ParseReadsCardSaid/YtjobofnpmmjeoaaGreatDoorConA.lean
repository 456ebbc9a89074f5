/- Part of a proof of a law: rules of an evaluator, contracts, plain laws. No condition of its own. -/
import Derived.Test.YtjobofnpmmjeoaaGreatDoorSymA
import Derived.Test.YtjobofnpmmjeoaaGreatDoorCodeA
set_option linter.unusedVariables false
set_option linter.unusedSimpArgs false
namespace Go.Eng.YtjobofnpmmjeoaaGreatDoor
open Go.Eng
noncomputable section
variable {c:Ctx}
structure ko (c:Ctx):Prop where
 f6:T.get 6 c.bf=some i6
 f8:T.get 8 c.bf=some i8
 f14:T.get 14 c.bf=some i14
 f15:T.get 15 c.bf=some i15
 f18:T.get 18 c.bf=some i18
 f19:T.get 19 c.bf=some i19
 f20:T.get 20 c.bf=some i20
 f21:T.get 21 c.bf=some i21
 f22:T.get 22 c.bf=some i22
 f27:T.get 27 c.bf=some i27
 f28:T.get 28 c.bf=some i28
 f29:T.get 29 c.bf=some i29
 f30:T.get 30 c.bf=some i30
 f31:T.get 31 c.bf=some i31
 f32:T.get 32 c.bf=some i32
 f33:T.get 33 c.bf=some i33
 f52:T.get 52 c.bf=some i52
 f53:T.get 53 c.bf=some i53
 f66:T.get 66 c.bf=some i66
 f67:T.get 67 c.bf=some i67
 f75:T.get 75 c.bf=some i75
 f76:T.get 76 c.bf=some i76
 f77:T.get 77 c.bf=some i77
 f85:T.get 85 c.bf=some i85
 f86:T.get 86 c.bf=some i86
 f93:T.get 93 c.bf=some i93
 f101:T.get 101 c.bf=some i101
theorem vk (D:ko c) {fs:List Fact} {h:Heap} {b:UInt8} (st:St fs h):
 aV c 27 [.int .u8 (b.toNat:Int)] h fun v h1=>v= .bool (Lex.small b)∧St fs h1:=by
 refine aV.dh D.f27 rfl (WP.seq (WP.reg (WO.aB (v:= .bool false) rfl (WO.nil (WP.seq (WP.reg (WO.ifV (L.geq rfl rfl) (fun c1=> ?_) (fun c1=> ?_))))))))
 ·replace c1:b.toNat≥97:=by omega
  refine WO.yes rfl (WO.val (v:= .int .u8 (b.toNat:Int)) rfl (WO.yes rfl (WO.ifV (L.leq rfl rfl) (fun c2=> ?_) (fun c2=> ?_))))
  ·replace c2:b.toNat≤122:=by omega
   refine WO.aB (v:= .bool true) rfl (WO.nil (WP.ret ?_))
   exact ⟨_,(ak (aD (v:= .bool true) rfl) (aF _ _)),(by simp [Lex.small,one, *]<;>omega),st⟩
  ·replace c2:¬(b.toNat≤122):=by omega
   refine WO.aB (v:= .bool false) rfl (WO.nil (WP.ret ?_))
   exact ⟨_,(ak (aD (v:= .bool false) rfl) (aF _ _)),(by simp [Lex.small,one, *]<;>omega),st⟩
 ·replace c1:¬(b.toNat≥97):=by omega
  refine WO.no rfl (WO.no rfl (WO.aB (v:= .bool false) rfl (WO.nil (WP.ret ?_))))
  exact ⟨_,(ak (aD (v:= .bool false) rfl) (aF _ _)),(by simp [Lex.small,one, *]<;>omega),st⟩
theorem Cm (D:ko c) {fs:List Fact} {h:Heap} {b:UInt8} (st:St fs h):
 aV c 28 [.int .u8 (b.toNat:Int)] h fun v h1=>v= .bool (Lex.digit b)∧St fs h1:=by
 refine aV.dh D.f28 rfl (WP.seq (WP.reg (WO.aB (v:= .bool false) rfl (WO.nil (WP.seq (WP.reg (WO.ifV (L.geq rfl rfl) (fun c1=> ?_) (fun c1=> ?_))))))))
 ·replace c1:b.toNat≥48:=by omega
  refine WO.yes rfl (WO.val (v:= .int .u8 (b.toNat:Int)) rfl (WO.yes rfl (WO.ifV (L.leq rfl rfl) (fun c2=> ?_) (fun c2=> ?_))))
  ·replace c2:b.toNat≤57:=by omega
   refine WO.aB (v:= .bool true) rfl (WO.nil (WP.ret ?_))
   exact ⟨_,(ak (aD (v:= .bool true) rfl) (aF _ _)),(by simp [Lex.digit,one, *]<;>omega),st⟩
  ·replace c2:¬(b.toNat≤57):=by omega
   refine WO.aB (v:= .bool false) rfl (WO.nil (WP.ret ?_))
   exact ⟨_,(ak (aD (v:= .bool false) rfl) (aF _ _)),(by simp [Lex.digit,one, *]<;>omega),st⟩
 ·replace c1:¬(b.toNat≥48):=by omega
  refine WO.no rfl (WO.no rfl (WO.aB (v:= .bool false) rfl (WO.nil (WP.ret ?_))))
  exact ⟨_,(ak (aD (v:= .bool false) rfl) (aF _ _)),(by simp [Lex.digit,one, *]<;>omega),st⟩
theorem xkey_c (D:ko c) {fs:List Fact} {h:Heap} {x:List UInt8} (st:St fs h):
 aV c 29 [L.str x] h fun v h1=>v= .bool (decide (x∈Lex.keys))∧St fs h1:=by
 refine aV.dh D.f29 rfl (WP.seq (WP.reg (WO.aB (v:= .bool false) rfl (WO.nil (WP.seq (WP.seq (WP.reg (WO.aB (v:=L.str x) rfl (WO.nil (WP.block (WP.seq (WP.seq (WP.reg (WO.ifS (L.seq (m:=[109,111,100,117,108,101]) rfl rfl) (fun c1=> ?_) (fun c1=> ?_)))))))))))))))
 ·refine WO.nil (WP.cond (t:=true) rfl (WP.skip (WP.cond (t:=true) rfl (WP.seq (WP.reg (WO.aB (v:= .bool true) rfl (WO.nil (WP.ret ?_))))))))
  exact ⟨_,(ak (aD (v:= .bool true) rfl) (aF _ _)),(by simp [Lex.keys,one, *]),st⟩
 ·refine WO.nil (WP.cond (t:=false) rfl (WP.seq (WP.reg (WO.ifS (L.seq (m:=[105,109,112,111,114,116]) rfl rfl) (fun c2=> ?_) (fun c2=> ?_)))))
  ·refine WO.nil (WP.cond (t:=true) rfl (WP.skip (WP.cond (t:=true) rfl (WP.seq (WP.reg (WO.aB (v:= .bool true) rfl (WO.nil (WP.ret ?_))))))))
   exact ⟨_,(ak (aD (v:= .bool true) rfl) (aF _ _)),(by simp [Lex.keys,one, *]),st⟩
  ·refine WO.nil (WP.cond (t:=false) rfl (WP.seq (WP.reg (WO.ifS (L.seq (m:=[118,97,114]) rfl rfl) (fun c3=> ?_) (fun c3=> ?_)))))
   ·refine WO.nil (WP.cond (t:=true) rfl (WP.skip (WP.cond (t:=true) rfl (WP.seq (WP.reg (WO.aB (v:= .bool true) rfl (WO.nil (WP.ret ?_))))))))
    exact ⟨_,(ak (aD (v:= .bool true) rfl) (aF _ _)),(by simp [Lex.keys,one, *]),st⟩
   ·refine WO.nil (WP.cond (t:=false) rfl (WP.seq (WP.reg (WO.ifS (L.seq (m:=[112,114,111,99]) rfl rfl) (fun c4=> ?_) (fun c4=> ?_)))))
    ·refine WO.nil (WP.cond (t:=true) rfl (WP.skip (WP.cond (t:=true) rfl (WP.seq (WP.reg (WO.aB (v:= .bool true) rfl (WO.nil (WP.ret ?_))))))))
     exact ⟨_,(ak (aD (v:= .bool true) rfl) (aF _ _)),(by simp [Lex.keys,one, *]),st⟩
    ·refine WO.nil (WP.cond (t:=false) rfl (WP.seq (WP.reg (WO.ifS (L.seq (m:=[112,99]) rfl rfl) (fun c5=> ?_) (fun c5=> ?_)))))
     ·refine WO.nil (WP.cond (t:=true) rfl (WP.skip (WP.cond (t:=true) rfl (WP.seq (WP.reg (WO.aB (v:= .bool true) rfl (WO.nil (WP.ret ?_))))))))
      exact ⟨_,(ak (aD (v:= .bool true) rfl) (aF _ _)),(by simp [Lex.keys,one, *]),st⟩
     ·refine WO.nil (WP.cond (t:=false) rfl (WP.seq (WP.reg (WO.ifS (L.seq (m:=[117,115,101,115]) rfl rfl) (fun c6=> ?_) (fun c6=> ?_)))))
      ·refine WO.nil (WP.cond (t:=true) rfl (WP.skip (WP.cond (t:=true) rfl (WP.seq (WP.reg (WO.aB (v:= .bool true) rfl (WO.nil (WP.ret ?_))))))))
       exact ⟨_,(ak (aD (v:= .bool true) rfl) (aF _ _)),(by simp [Lex.keys,one, *]),st⟩
      ·refine WO.nil (WP.cond (t:=false) rfl (WP.seq (WP.reg (WO.ifS (L.seq (m:=[108,101,116]) rfl rfl) (fun c7=> ?_) (fun c7=> ?_)))))
       ·refine WO.nil (WP.cond (t:=true) rfl (WP.skip (WP.cond (t:=true) rfl (WP.seq (WP.reg (WO.aB (v:= .bool true) rfl (WO.nil (WP.ret ?_))))))))
        exact ⟨_,(ak (aD (v:= .bool true) rfl) (aF _ _)),(by simp [Lex.keys,one, *]),st⟩
       ·refine WO.nil (WP.cond (t:=false) rfl (WP.seq (WP.reg (WO.ifS (L.seq (m:=[99,97,108,108]) rfl rfl) (fun c8=> ?_) (fun c8=> ?_)))))
        ·refine WO.nil (WP.cond (t:=true) rfl (WP.skip (WP.cond (t:=true) rfl (WP.seq (WP.reg (WO.aB (v:= .bool true) rfl (WO.nil (WP.ret ?_))))))))
         exact ⟨_,(ak (aD (v:= .bool true) rfl) (aF _ _)),(by simp [Lex.keys,one, *]),st⟩
        ·refine WO.nil (WP.cond (t:=false) rfl (WP.seq (WP.reg (WO.ifS (L.seq (m:=[105,102]) rfl rfl) (fun c9=> ?_) (fun c9=> ?_)))))
         ·refine WO.nil (WP.cond (t:=true) rfl (WP.skip (WP.cond (t:=true) rfl (WP.seq (WP.reg (WO.aB (v:= .bool true) rfl (WO.nil (WP.ret ?_))))))))
          exact ⟨_,(ak (aD (v:= .bool true) rfl) (aF _ _)),(by simp [Lex.keys,one, *]),st⟩
         ·refine WO.nil (WP.cond (t:=false) rfl (WP.seq (WP.reg (WO.ifS (L.seq (m:=[101,108,115,101]) rfl rfl) (fun c10=> ?_) (fun c10=> ?_)))))
          ·refine WO.nil (WP.cond (t:=true) rfl (WP.skip (WP.cond (t:=true) rfl (WP.seq (WP.reg (WO.aB (v:= .bool true) rfl (WO.nil (WP.ret ?_))))))))
           exact ⟨_,(ak (aD (v:= .bool true) rfl) (aF _ _)),(by simp [Lex.keys,one, *]),st⟩
          ·refine WO.nil (WP.cond (t:=false) rfl (WP.seq (WP.reg (WO.ifS (L.seq (m:=[119,104,105,108,101]) rfl rfl) (fun c11=> ?_) (fun c11=> ?_)))))
           ·refine WO.nil (WP.cond (t:=true) rfl (WP.skip (WP.cond (t:=true) rfl (WP.seq (WP.reg (WO.aB (v:= .bool true) rfl (WO.nil (WP.ret ?_))))))))
            exact ⟨_,(ak (aD (v:= .bool true) rfl) (aF _ _)),(by simp [Lex.keys,one, *]),st⟩
           ·refine WO.nil (WP.cond (t:=false) rfl (WP.seq (WP.reg (WO.ifS (L.seq (m:=[101,109,105,116]) rfl rfl) (fun c12=> ?_) (fun c12=> ?_)))))
            ·refine WO.nil (WP.cond (t:=true) rfl (WP.skip (WP.cond (t:=true) rfl (WP.seq (WP.reg (WO.aB (v:= .bool true) rfl (WO.nil (WP.ret ?_))))))))
             exact ⟨_,(ak (aD (v:= .bool true) rfl) (aF _ _)),(by simp [Lex.keys,one, *]),st⟩
            ·refine WO.nil (WP.cond (t:=false) rfl (WP.seq (WP.reg (WO.ifS (L.seq (m:=[114,101,115,117,108,116]) rfl rfl) (fun c13=> ?_) (fun c13=> ?_)))))
             ·refine WO.nil (WP.cond (t:=true) rfl (WP.skip (WP.cond (t:=true) rfl (WP.seq (WP.reg (WO.aB (v:= .bool true) rfl (WO.nil (WP.ret ?_))))))))
              exact ⟨_,(ak (aD (v:= .bool true) rfl) (aF _ _)),(by simp [Lex.keys,one, *]),st⟩
             ·refine WO.nil (WP.cond (t:=false) rfl (WP.seq (WP.reg (WO.ifS (L.seq (m:=[115,107,105,112]) rfl rfl) (fun c14=> ?_) (fun c14=> ?_)))))
              ·refine WO.nil (WP.cond (t:=true) rfl (WP.skip (WP.cond (t:=true) rfl (WP.seq (WP.reg (WO.aB (v:= .bool true) rfl (WO.nil (WP.ret ?_))))))))
               exact ⟨_,(ak (aD (v:= .bool true) rfl) (aF _ _)),(by simp [Lex.keys,one, *]),st⟩
              ·refine WO.nil (WP.cond (t:=false) rfl (WP.reg (WO.ifS (L.seq (m:=[108,97,98,101,108,115]) rfl rfl) (fun c15=> ?_) (fun c15=> ?_))))
               ·refine WO.nil (WP.cond (t:=true) rfl (WP.seq (WP.reg (WO.aB (v:= .bool true) rfl (WO.nil (WP.ret ?_))))))
                exact ⟨_,(ak (aD (v:= .bool true) rfl) (aF _ _)),(by simp [Lex.keys,one, *]),st⟩
               ·refine WO.nil (WP.cond (t:=false) rfl (WP.skip (WP.seq (WP.reg (WO.aB (v:= .bool false) rfl (WO.nil (WP.ret ?_)))))))
                exact ⟨_,(ak (aD (v:= .bool false) rfl) (aF _ _)),(by simp [Lex.keys,one, *]),st⟩
theorem xsign_c (D:ko c) {fs:List Fact} {h:Heap} {s:List UInt8} {i:Nat} (st:St fs h) (hi:i<s.length) (hs:s.length<4294967296):
 aV c 30 [L.str s, .int .i64 (i:Int)] h fun v h1=>v=L.str (Lex.sign (s.drop i))∧St fs h1:=by
 obtain ⟨b,hb⟩:∃b,s[i]? =some b:=⟨_,List.getElem?_eq_getElem hi⟩
 obtain ⟨r,hd⟩:∃r,s.drop i=b::r:=⟨_,by obtain ⟨_,rfl⟩:=List.getElem?_eq_some_iff.1 hb;exact List.drop_eq_getElem_cons hi⟩
 refine aV.dh D.f30 rfl (WP.seq (WP.reg (WO.aB (v:= .str 0 0) rfl (WO.nil (WP.vY (fun env h=>∃z2 z3 z4 z5,((b::r).take 2∉Lex.nJ)∧env=bG [L.str s, .int .i64 (i:Int),z2,z3,z4,z5] 0 Env.nil∧St (fs) h) ?_ ?_)))))
 ·refine WP.seq (WP.reg (WO.val (v:= .int .i64 ((i+1:Nat):Int)) (L.fQ rfl rfl (by omega) (And.intro (by omega) (by omega))) (WO.val (v:= .int .i64 (s.length:Int)) (L.nT rfl) (WO.ifS (L.lss rfl rfl) (fun c1=> ?_) (fun c1=> ?_)))))
  ·replace c1:i+2≤s.length:=by omega
   refine WO.nil (WP.cond (t:=true) rfl (WP.seq (WP.reg (WO.val (v:= .int .i64 ((i+2:Nat):Int)) (L.fQ rfl rfl (by omega) (And.intro (by omega) (by omega))) (WO.aB (v:=L.str ((s.drop i).take 2)) (L.sJ rfl rfl rfl (by omega) (by omega) (by rw [show i+2 - i=2 by omega])) ?_)))))
   refine WO.nil (WP.block (WP.seq (WP.seq (WP.reg (WO.ifS (L.seq (m:=[61,61]) rfl rfl) (fun c1=> ?_) (fun c1=> ?_))))))
   ·refine WO.nil (WP.cond (t:=true) rfl (WP.skip (WP.cond (t:=true) rfl (WP.seq (WP.reg (WO.val (v:= .int .i64 ((i+2:Nat):Int)) (L.fQ rfl rfl (by omega) (And.intro (by omega) (by omega))) (WO.aB (v:=L.str ((s.drop i).take 2)) (L.sJ rfl rfl rfl (by omega) (by omega) (by rw [show i+2 - i=2 by omega])) ?_)))))))
    refine WO.nil (WP.ret ?_)
    have hE:Lex.sign (s.drop i)=(s.drop i).take 2:=Cb (by rw [c1];decide) rfl
    rw [hE]
    exact ⟨_,(ak (aD (v:=L.str ((s.drop i).take 2)) rfl) (aF _ _)),rfl,st⟩
   ·refine WO.nil (WP.cond (t:=false) rfl (WP.seq (WP.reg (WO.ifS (L.seq (m:=[60,61]) rfl rfl) (fun c2=> ?_) (fun c2=> ?_)))))
    ·refine WO.nil (WP.cond (t:=true) rfl (WP.skip (WP.cond (t:=true) rfl (WP.seq (WP.reg (WO.val (v:= .int .i64 ((i+2:Nat):Int)) (L.fQ rfl rfl (by omega) (And.intro (by omega) (by omega))) (WO.aB (v:=L.str ((s.drop i).take 2)) (L.sJ rfl rfl rfl (by omega) (by omega) (by rw [show i+2 - i=2 by omega])) ?_)))))))
     refine WO.nil (WP.ret ?_)
     have hE:Lex.sign (s.drop i)=(s.drop i).take 2:=Cb (by rw [c2];decide) rfl
     rw [hE]
     exact ⟨_,(ak (aD (v:=L.str ((s.drop i).take 2)) rfl) (aF _ _)),rfl,st⟩
    ·refine WO.nil (WP.cond (t:=false) rfl (WP.reg (WO.ifS (L.seq (m:=[45,62]) rfl rfl) (fun c3=> ?_) (fun c3=> ?_))))
     ·refine WO.nil (WP.cond (t:=true) rfl (WP.seq (WP.reg (WO.val (v:= .int .i64 ((i+2:Nat):Int)) (L.fQ rfl rfl (by omega) (And.intro (by omega) (by omega))) (WO.aB (v:=L.str ((s.drop i).take 2)) (L.sJ rfl rfl rfl (by omega) (by omega) (by rw [show i+2 - i=2 by omega])) ?_)))))
      refine WO.nil (WP.ret ?_)
      have hE:Lex.sign (s.drop i)=(s.drop i).take 2:=Cb (by rw [c3];decide) rfl
      rw [hE]
      exact ⟨_,(ak (aD (v:=L.str ((s.drop i).take 2)) rfl) (aF _ _)),rfl,st⟩
     ·refine WO.nil (WP.cond (t:=false) rfl (WP.skip ?_))
      exact ⟨(.str 0 0),(.bool true),(L.str ((s.drop i).take 2)),(.bool false),(by rw [←hd];simp [Lex.nJ,c1,c2,c3]),by kernel_rfl,st⟩
  ·replace c1:¬i+2≤s.length:=by omega
   refine WO.nil (WP.cond (t:=false) rfl (WP.skip ?_))
   exact ⟨(.str 0 0),(.bool false), .bot, .bot,(by intro hm;have h2:=Nv hm;rw [←hd,List.length_drop] at h2;omega),by kernel_rfl,st⟩
 ·rintro _ h ⟨z2,z3,z4,z5,hnt,rfl,st⟩
  have hso:=sign_one hnt
  refine WP.seq (WP.seq (WP.reg (WO.aB (v:= .int .u8 (b.toNat:Int)) (L.qm (b:=b) rfl rfl hb) (WO.nil (WP.block (WP.vY (fun env h=>env=bG [L.str s, .int .i64 (i:Int),z2,z3,z4,z5, .int .u8 (b.toNat:Int), .bool (decide (b∈Lex.ones))] 0 Env.nil∧St (fs) h) ?_ ?_))))))
  ·refine WP.seq (WP.reg (WO.ifS (L.eql rfl rfl) (fun c4=> ?_) (fun c4=> ?_)))
   ·replace c4:b.toNat=40:=by omega
    refine WO.nil (WP.cond (t:=true) rfl (WP.skip ?_))
    have hv:decide (b∈Lex.ones)=true:=by simp [Lex.ones,←UInt8.toNat_inj,c4]
    rw [hv]
    exact ⟨by kernel_rfl,st⟩
   ·replace c4:¬(b.toNat=40):=by omega
    refine WO.nil (WP.cond (t:=false) rfl (WP.seq (WP.reg (WO.ifS (L.eql rfl rfl) (fun c5=> ?_) (fun c5=> ?_)))))
    ·replace c5:b.toNat=41:=by omega
     refine WO.nil (WP.cond (t:=true) rfl (WP.skip ?_))
     have hv:decide (b∈Lex.ones)=true:=by simp [Lex.ones,←UInt8.toNat_inj,c4,c5]
     rw [hv]
     exact ⟨by kernel_rfl,st⟩
    ·replace c5:¬(b.toNat=41):=by omega
     refine WO.nil (WP.cond (t:=false) rfl (WP.seq (WP.reg (WO.ifS (L.eql rfl rfl) (fun c6=> ?_) (fun c6=> ?_)))))
     ·replace c6:b.toNat=123:=by omega
      refine WO.nil (WP.cond (t:=true) rfl (WP.skip ?_))
      have hv:decide (b∈Lex.ones)=true:=by simp [Lex.ones,←UInt8.toNat_inj,c4,c5,c6]
      rw [hv]
      exact ⟨by kernel_rfl,st⟩
     ·replace c6:¬(b.toNat=123):=by omega
      refine WO.nil (WP.cond (t:=false) rfl (WP.seq (WP.reg (WO.ifS (L.eql rfl rfl) (fun c7=> ?_) (fun c7=> ?_)))))
      ·replace c7:b.toNat=125:=by omega
       refine WO.nil (WP.cond (t:=true) rfl (WP.skip ?_))
       have hv:decide (b∈Lex.ones)=true:=by simp [Lex.ones,←UInt8.toNat_inj,c4,c5,c6,c7]
       rw [hv]
       exact ⟨by kernel_rfl,st⟩
      ·replace c7:¬(b.toNat=125):=by omega
       refine WO.nil (WP.cond (t:=false) rfl (WP.seq (WP.reg (WO.ifS (L.eql rfl rfl) (fun c8=> ?_) (fun c8=> ?_)))))
       ·replace c8:b.toNat=44:=by omega
        refine WO.nil (WP.cond (t:=true) rfl (WP.skip ?_))
        have hv:decide (b∈Lex.ones)=true:=by simp [Lex.ones,←UInt8.toNat_inj,c4,c5,c6,c7,c8]
        rw [hv]
        exact ⟨by kernel_rfl,st⟩
       ·replace c8:¬(b.toNat=44):=by omega
        refine WO.nil (WP.cond (t:=false) rfl (WP.seq (WP.reg (WO.ifS (L.eql rfl rfl) (fun c9=> ?_) (fun c9=> ?_)))))
        ·replace c9:b.toNat=59:=by omega
         refine WO.nil (WP.cond (t:=true) rfl (WP.skip ?_))
         have hv:decide (b∈Lex.ones)=true:=by simp [Lex.ones,←UInt8.toNat_inj,c4,c5,c6,c7,c8,c9]
         rw [hv]
         exact ⟨by kernel_rfl,st⟩
        ·replace c9:¬(b.toNat=59):=by omega
         refine WO.nil (WP.cond (t:=false) rfl (WP.seq (WP.reg (WO.ifS (L.eql rfl rfl) (fun c10=> ?_) (fun c10=> ?_)))))
         ·replace c10:b.toNat=58:=by omega
          refine WO.nil (WP.cond (t:=true) rfl (WP.skip ?_))
          have hv:decide (b∈Lex.ones)=true:=by simp [Lex.ones,←UInt8.toNat_inj,c4,c5,c6,c7,c8,c9,c10]
          rw [hv]
          exact ⟨by kernel_rfl,st⟩
         ·replace c10:¬(b.toNat=58):=by omega
          refine WO.nil (WP.cond (t:=false) rfl (WP.seq (WP.reg (WO.ifS (L.eql rfl rfl) (fun c11=> ?_) (fun c11=> ?_)))))
          ·replace c11:b.toNat=46:=by omega
           refine WO.nil (WP.cond (t:=true) rfl (WP.skip ?_))
           have hv:decide (b∈Lex.ones)=true:=by simp [Lex.ones,←UInt8.toNat_inj,c4,c5,c6,c7,c8,c9,c10,c11]
           rw [hv]
           exact ⟨by kernel_rfl,st⟩
          ·replace c11:¬(b.toNat=46):=by omega
           refine WO.nil (WP.cond (t:=false) rfl (WP.seq (WP.reg (WO.ifS (L.eql rfl rfl) (fun c12=> ?_) (fun c12=> ?_)))))
           ·replace c12:b.toNat=61:=by omega
            refine WO.nil (WP.cond (t:=true) rfl (WP.skip ?_))
            have hv:decide (b∈Lex.ones)=true:=by simp [Lex.ones,←UInt8.toNat_inj,c4,c5,c6,c7,c8,c9,c10,c11,c12]
            rw [hv]
            exact ⟨by kernel_rfl,st⟩
           ·replace c12:¬(b.toNat=61):=by omega
            refine WO.nil (WP.cond (t:=false) rfl (WP.seq (WP.reg (WO.ifS (L.eql rfl rfl) (fun c13=> ?_) (fun c13=> ?_)))))
            ·replace c13:b.toNat=60:=by omega
             refine WO.nil (WP.cond (t:=true) rfl (WP.skip ?_))
             have hv:decide (b∈Lex.ones)=true:=by simp [Lex.ones,←UInt8.toNat_inj,c4,c5,c6,c7,c8,c9,c10,c11,c12,c13]
             rw [hv]
             exact ⟨by kernel_rfl,st⟩
            ·replace c13:¬(b.toNat=60):=by omega
             refine WO.nil (WP.cond (t:=false) rfl (WP.seq (WP.reg (WO.ifS (L.eql rfl rfl) (fun c14=> ?_) (fun c14=> ?_)))))
             ·replace c14:b.toNat=43:=by omega
              refine WO.nil (WP.cond (t:=true) rfl (WP.skip ?_))
              have hv:decide (b∈Lex.ones)=true:=by simp [Lex.ones,←UInt8.toNat_inj,c4,c5,c6,c7,c8,c9,c10,c11,c12,c13,c14]
              rw [hv]
              exact ⟨by kernel_rfl,st⟩
             ·replace c14:¬(b.toNat=43):=by omega
              refine WO.nil (WP.cond (t:=false) rfl (WP.seq (WP.reg (WO.ifS (L.eql rfl rfl) (fun c15=> ?_) (fun c15=> ?_)))))
              ·replace c15:b.toNat=45:=by omega
               refine WO.nil (WP.cond (t:=true) rfl (WP.skip ?_))
               have hv:decide (b∈Lex.ones)=true:=by simp [Lex.ones,←UInt8.toNat_inj,c4,c5,c6,c7,c8,c9,c10,c11,c12,c13,c14,c15]
               rw [hv]
               exact ⟨by kernel_rfl,st⟩
              ·replace c15:¬(b.toNat=45):=by omega
               refine WO.nil (WP.cond (t:=false) rfl (WP.seq (WP.reg (WO.ifS (L.eql rfl rfl) (fun c16=> ?_) (fun c16=> ?_)))))
               ·replace c16:b.toNat=42:=by omega
                refine WO.nil (WP.cond (t:=true) rfl (WP.skip ?_))
                have hv:decide (b∈Lex.ones)=true:=by simp [Lex.ones,←UInt8.toNat_inj,c4,c5,c6,c7,c8,c9,c10,c11,c12,c13,c14,c15,c16]
                rw [hv]
                exact ⟨by kernel_rfl,st⟩
               ·replace c16:¬(b.toNat=42):=by omega
                refine WO.nil (WP.cond (t:=false) rfl (WP.seq (WP.reg (WO.ifS (L.eql rfl rfl) (fun c17=> ?_) (fun c17=> ?_)))))
                ·replace c17:b.toNat=47:=by omega
                 refine WO.nil (WP.cond (t:=true) rfl (WP.skip ?_))
                 have hv:decide (b∈Lex.ones)=true:=by simp [Lex.ones,←UInt8.toNat_inj,c4,c5,c6,c7,c8,c9,c10,c11,c12,c13,c14,c15,c16,c17]
                 rw [hv]
                 exact ⟨by kernel_rfl,st⟩
                ·replace c17:¬(b.toNat=47):=by omega
                 refine WO.nil (WP.cond (t:=false) rfl (WP.seq (WP.reg (WO.ifS (L.eql rfl rfl) (fun c18=> ?_) (fun c18=> ?_)))))
                 ·replace c18:b.toNat=37:=by omega
                  refine WO.nil (WP.cond (t:=true) rfl (WP.skip ?_))
                  have hv:decide (b∈Lex.ones)=true:=by simp [Lex.ones,←UInt8.toNat_inj,c4,c5,c6,c7,c8,c9,c10,c11,c12,c13,c14,c15,c16,c17,c18]
                  rw [hv]
                  exact ⟨by kernel_rfl,st⟩
                 ·replace c18:¬(b.toNat=37):=by omega
                  refine WO.nil (WP.cond (t:=false) rfl (WP.reg (WO.ifS (L.eql rfl rfl) (fun c19=> ?_) (fun c19=> ?_))))
                  ·replace c19:b.toNat=33:=by omega
                   refine WO.nil ?_
                   have hv:decide (b∈Lex.ones)=true:=by simp [Lex.ones,←UInt8.toNat_inj,c4,c5,c6,c7,c8,c9,c10,c11,c12,c13,c14,c15,c16,c17,c18,c19]
                   rw [hv]
                   exact ⟨by kernel_rfl,st⟩
                  ·replace c19:¬(b.toNat=33):=by omega
                   refine WO.nil ?_
                   have hv:decide (b∈Lex.ones)=false:=by simp [Lex.ones,←UInt8.toNat_inj,c4,c5,c6,c7,c8,c9,c10,c11,c12,c13,c14,c15,c16,c17,c18,c19]
                   rw [hv]
                   exact ⟨by kernel_rfl,st⟩
  ·rintro _ h ⟨rfl,st⟩
   by_cases hon:b∈Lex.ones
   ·rw [decide_eq_true hon]
    rw [if_pos hon] at hso
    refine WP.cond (t:=true) rfl (WP.seq (WP.reg (WO.val (v:= .int .i64 ((i+1:Nat):Int)) (L.fQ rfl rfl (by omega) (And.intro (by omega) (by omega))) (WO.aB (v:=L.str [b]) (L.sJ rfl rfl rfl (by omega) (by omega) (by rw [show i+1 - i=1 by omega,hd];rfl)) ?_))))
    refine WO.nil (WP.ret ?_)
    rw [hd,hso]
    exact ⟨_,(ak (aD (v:=L.str [b]) rfl) (aF _ _)),rfl,st⟩
   ·rw [decide_eq_false hon]
    rw [if_neg hon] at hso
    refine WP.cond (t:=false) rfl (WP.skip (WP.seq (WP.reg (WO.aB (v:= .str 0 0) rfl (WO.nil (WP.ret ?_))))))
    rw [hd,hso]
    exact ⟨_,(ak (aD (v:= .str 0 0) rfl) (aF _ _)),rfl,st⟩
theorem RF (D:ko c) {fs:List Fact} {h:Heap} {s:List UInt8} (st:St fs h):
 aV c 14 [L.str s] h fun v h1=>match Lex.lex s with
  | .ok ts=>∃x,v= .tup [x, .int .i64 0, .int .i64 0]∧St (.stb (fun h=>Rows 3 h x (ts.map Tok.row))::fs) h1
  | .error (e,a)=>v= .tup [.slN, .int .i64 (e:Int), .int .i64 (a:Int)]∧St fs h1:=by
 refine aV.dh D.f14 rfl (WP.seq (WP.reg (WO.aB (v:= .slN) rfl (WO.aB (v:= .int .i64 0) rfl (WO.aB (v:= .int .i64 0) rfl (WO.nil (WP.seq (WP.seq (WP.reg (WO.val (v:= .int .i64 (s.length:Int)) (L.nT rfl) (WO.ifS (L.gtr rfl rfl) (fun c0=> ?_) (fun c0=> ?_))))))))))))
 ·replace c0:8192<s.length:=by omega
  refine WO.nil (WP.cond (t:=true) rfl (WP.seq (WP.reg (WO.aB (v:= .slN) rfl (WO.aB (v:= .int .i64 9) rfl (WO.aB (v:= .int .i64 8192) rfl (WO.nil (WP.ret ?_))))))))
  have hE:Lex.lex s= .error (9,8192):=by unfold Lex.lex;rw [if_pos c0]
  rw [hE]
  exact ⟨_,(ak (aD (v:= .slN) rfl) (ak (aD (v:= .int .i64 9) rfl) (ak (aD (v:= .int .i64 8192) rfl) (aF _ _)))),rfl,st⟩
 ·replace c0:¬(8192<s.length):=by omega
  have hE0:Lex.lex s=Lex.all (s.length+1) 0 s []:=by unfold Lex.lex;rw [if_neg c0]
  rw [hE0]
  have hsz:s.length<4294967296:=by omega
  refine WO.nil (WP.cond (t:=false) rfl (WP.skip (WP.seq (WP.reg (WO.aB (v:= .slN) rfl (WO.nil (WP.seq (WP.seq (WP.reg (WO.aB (v:= .int .i64 0) rfl (WO.nil (WP.block ?_))))))))))))
  replace st:St (.acc 0 3 .slN (([]:List Tok).map Tok.row)::fs) h:=st.acc0 3
  refine WP.eO (α:=Nat) (fun g env h=>∃k ts fy vy dz1 dz2 dz3 dz6 dz7 dz8 dz9 dz10 dz11 dz12 dz13 dz14 dz15 dz16 dz18 dz19 dz20 dz21 dz22 dz23 dz24,(Lex.all (s.length+1) 0 s []=Lex.all g k (s.drop k) ts∧s.length - k<g∧k≤s.length∧ts.length≤k)∧env=bG [L.str s,dz1,dz2,dz3, .bool false, .int .i64 (k:Int),dz6,dz7,dz8,dz9,dz10,dz11,dz12,dz13,dz14,dz15,dz16,vy,dz18,dz19,dz20,dz21,dz22,dz23,dz24] 0 Env.nil∧St (.acc fy 3 vy (ts.map Tok.row)::fs) h) (fun g=>g) (s.length+1) ?_ ?_
  ·exact ⟨0,[],0, .slN, .slN,(.int .i64 0),(.int .i64 0), .bot, .bot, .bot, .bot, .bot, .bot, .bot, .bot, .bot, .bot, .bot, .bot, .bot, .bot, .bot, .bot, .bot, .bot,⟨rfl,by omega,Nat.zero_le _,Nat.le_refl _⟩,by kernel_rfl,st⟩
  rintro g _ h ⟨k,ts,fy,vy,dz1,dz2,dz3,dz6,dz7,dz8,dz9,dz10,dz11,dz12,dz13,dz14,dz15,dz16,dz18,dz19,dz20,dz21,dz22,dz23,dz24,⟨hs,hg,hk,hts⟩,rfl,st⟩
  obtain ⟨g,rfl⟩:∃m,g=m+1:=⟨g - 1,by omega⟩
  refine WP.seq (WP.seq (WP.reg (WO.val (v:= .int .i64 (s.length:Int)) (L.nT rfl) (WO.ifS (L.lss rfl rfl) (fun c1=> ?_) (fun c1=> ?_)))))
  ·replace c1:k<s.length:=by omega
   refine WO.nil (WP.cond (t:=true) rfl (WP.skip (WP.block (WP.seq (WP.reg ?_)))))
   obtain ⟨b,hb⟩:∃b,s[k]? =some b:=⟨_,List.getElem?_eq_getElem (by omega)⟩
   refine WO.aB (v:= .int .u8 (b.toNat:Int)) (L.qm rfl rfl hb) (WO.nil (WP.block (WP.seq (WP.reg (WO.ifV (L.eql rfl rfl) (fun c2=> ?_) (fun c2=> ?_))))))
   ·replace c2:b.toNat=32:=by omega
    refine WO.no rfl (WO.no rfl (WO.val (v:= .bool true) rfl (WO.no rfl (WO.no rfl (WO.val (v:= .bool true) rfl (WO.no rfl (WO.no rfl (WO.aB (v:= .bool true) rfl (WO.nil (WP.cond (t:=true) rfl (WP.reg (WO.aB (v:= .int .i64 ((k+1:Nat):Int)) (L.fQ rfl rfl (by omega) (And.intro (by omega) (by omega))) (WO.nil ?_)))))))))))))
    exact ⟨g,(Nat.lt_succ_self _),k+1,ts,fy,vy,dz1,dz2,dz3,(.bool true),(.int .u8 (b.toNat:Int)),(.bool true),dz9,dz10,dz11,dz12,dz13,dz14,dz15,dz16,dz18,dz19,dz20,dz21,dz22,dz23,dz24,⟨by rw [hs,cK hb];simp [Lex.blank,one,Lex.put,c0,c1,c2],(by omega),(by omega),(by first|omega|(simp;omega))⟩,by kernel_rfl,st⟩
   ·replace c2:¬(b.toNat=32):=by omega
    refine WO.yes rfl (WO.val (v:= .int .u8 (b.toNat:Int)) rfl (WO.yes rfl (WO.ifV (L.eql rfl rfl) (fun c3=> ?_) (fun c3=> ?_))))
    ·replace c3:b.toNat=9:=by omega
     refine WO.val (v:= .bool true) rfl (WO.no rfl (WO.no rfl (WO.val (v:= .bool true) rfl (WO.no rfl (WO.no rfl (WO.aB (v:= .bool true) rfl (WO.nil (WP.cond (t:=true) rfl (WP.reg (WO.aB (v:= .int .i64 ((k+1:Nat):Int)) (L.fQ rfl rfl (by omega) (And.intro (by omega) (by omega))) (WO.nil ?_)))))))))))
     exact ⟨g,(Nat.lt_succ_self _),k+1,ts,fy,vy,dz1,dz2,dz3,(.bool true),(.int .u8 (b.toNat:Int)),(.bool true),dz9,dz10,dz11,dz12,dz13,dz14,dz15,dz16,dz18,dz19,dz20,dz21,dz22,dz23,dz24,⟨by rw [hs,cK hb];simp [Lex.blank,one,Lex.put,c0,c1,c2,c3],(by omega),(by omega),(by first|omega|(simp;omega))⟩,by kernel_rfl,st⟩
    ·replace c3:¬(b.toNat=9):=by omega
     refine WO.val (v:= .bool false) rfl (WO.yes rfl (WO.val (v:= .int .u8 (b.toNat:Int)) rfl (WO.yes rfl (WO.ifV (L.eql rfl rfl) (fun c4=> ?_) (fun c4=> ?_)))))
     ·replace c4:b.toNat=10:=by omega
      refine WO.val (v:= .bool true) rfl (WO.no rfl (WO.no rfl (WO.aB (v:= .bool true) rfl (WO.nil (WP.cond (t:=true) rfl (WP.reg (WO.aB (v:= .int .i64 ((k+1:Nat):Int)) (L.fQ rfl rfl (by omega) (And.intro (by omega) (by omega))) (WO.nil ?_))))))))
      exact ⟨g,(Nat.lt_succ_self _),k+1,ts,fy,vy,dz1,dz2,dz3,(.bool true),(.int .u8 (b.toNat:Int)),(.bool true),dz9,dz10,dz11,dz12,dz13,dz14,dz15,dz16,dz18,dz19,dz20,dz21,dz22,dz23,dz24,⟨by rw [hs,cK hb];simp [Lex.blank,one,Lex.put,c0,c1,c2,c3,c4],(by omega),(by omega),(by first|omega|(simp;omega))⟩,by kernel_rfl,st⟩
     ·replace c4:¬(b.toNat=10):=by omega
      refine WO.val (v:= .bool false) rfl (WO.yes rfl (WO.val (v:= .int .u8 (b.toNat:Int)) rfl (WO.yes rfl (WO.ifV (L.eql rfl rfl) (fun c5=> ?_) (fun c5=> ?_)))))
      ·replace c5:b.toNat=13:=by omega
       refine WO.aB (v:= .bool true) rfl (WO.nil (WP.cond (t:=true) rfl (WP.reg (WO.aB (v:= .int .i64 ((k+1:Nat):Int)) (L.fQ rfl rfl (by omega) (And.intro (by omega) (by omega))) (WO.nil ?_)))))
       exact ⟨g,(Nat.lt_succ_self _),k+1,ts,fy,vy,dz1,dz2,dz3,(.bool true),(.int .u8 (b.toNat:Int)),(.bool true),dz9,dz10,dz11,dz12,dz13,dz14,dz15,dz16,dz18,dz19,dz20,dz21,dz22,dz23,dz24,⟨by rw [hs,cK hb];simp [Lex.blank,one,Lex.put,c0,c1,c2,c3,c4,c5],(by omega),(by omega),(by first|omega|(simp;omega))⟩,by kernel_rfl,st⟩
      ·replace c5:¬(b.toNat=13):=by omega
       refine WO.aB (v:= .bool false) rfl (WO.nil (WP.cond (t:=false) rfl (WP.seq (WP.reg (WO.ifS (L.eql rfl rfl) (fun c6=> ?_) (fun c6=> ?_))))))
       ·replace c6:b.toNat=35:=by omega
        refine WO.nil (WP.cond (t:=true) rfl (WP.block (WP.eO (α:=Nat) (fun j env h=>∃dz10,(k+j≤s.length∧(s.drop k).takeWhile Lex.iV=(s.drop k).take j++(s.drop (k+j)).takeWhile Lex.iV)∧env=bG [L.str s,dz1,dz2,dz3, .bool false, .int .i64 ((k+j:Nat):Int), .bool true, .int .u8 (b.toNat:Int), .bool false, .bool true,dz10,dz11,dz12,dz13,dz14,dz15,dz16,vy,dz18,dz19,dz20,dz21,dz22,dz23,dz24] 0 Env.nil∧St (.acc fy 3 vy (ts.map Tok.row)::fs) h) (fun j=>s.length - (k+j)) 0 ?_ ?_)))
        ·exact ⟨dz10,⟨by omega,by simp⟩,by kernel_rfl,st⟩
        rintro j _ h ⟨dz10,⟨hj1,hj2⟩,rfl,st⟩
        refine WP.seq (WP.seq (WP.reg (WO.val (v:= .int .i64 (s.length:Int)) (L.nT rfl) (WO.ifV (L.lss rfl rfl) (fun cj=> ?_) (fun cj=> ?_)))))
        ·obtain ⟨bj,hbj⟩:∃b,s[k+j]? =some b:=⟨_,List.getElem?_eq_getElem (by omega)⟩
         refine WO.yes rfl (WO.val (v:=L.str s) rfl (WO.yes rfl (WO.val (v:= .int .i64 ((k+j:Nat):Int)) rfl (WO.yes rfl (WO.val (v:= .int .u8 (bj.toNat:Int)) (L.qm rfl rfl hbj) (WO.yes rfl (WO.ifV (L.neq rfl rfl) (fun c7=> ?_) (fun c7=> ?_))))))))
         ·replace c7:bj.toNat≠10:=by omega
          refine WO.aB (v:= .bool true) rfl (WO.nil (WP.cond (t:=true) rfl (WP.skip (WP.block (WP.reg (WO.aB (v:= .int .i64 ((k+(j+1):Nat):Int)) (L.fQ rfl rfl (by omega) (And.intro (by omega) (by omega))) (WO.nil ?_)))))))
          have hnx:(s.drop k).takeWhile Lex.iV=(s.drop k).take (j+1)++(s.drop (k+(j+1))).takeWhile Lex.iV:=by
           rw [hj2,iR hbj (by first|assumption|simp [Lex.iV,c7]),List.take_add_one,List.getElem?_drop,hbj];simp [Nat.add_assoc]
          exact ⟨j+1,(by omega),(.bool true),⟨by omega,hnx⟩,by kernel_rfl,st⟩
         ·replace c7:¬(bj.toNat≠10):=by omega
          refine WO.aB (v:= .bool false) rfl (WO.nil (WP.cond (t:=false) rfl (WP.exit ?_)))
          have hz:(s.drop (k+j)).takeWhile Lex.iV=[]:=(lW hbj (by first|assumption|simp [Lex.iV,c7]))
          have htw:(s.drop k).takeWhile Lex.iV=(s.drop k).take j:=by rw [hj2,hz,List.append_nil]
          obtain rfl:((s.drop k).takeWhile Lex.iV).length=j:=by rw [htw];simp;omega
          obtain ⟨hw1,hw2,hw3⟩:=qp (f:=Lex.iV) hb (by first|assumption|simp [Lex.iV,one,c0,c1,c2,c3,c4,c5,c6])
          exact ⟨g,(Nat.lt_succ_self _),k+((s.drop k).takeWhile Lex.iV).length,ts,fy,vy,dz1,dz2,dz3,(.bool true),(.int .u8 (b.toNat:Int)),(.bool false),(.bool true),(.bool false),dz11,dz12,dz13,dz14,dz15,dz16,dz18,dz19,dz20,dz21,dz22,dz23,dz24,⟨by rw [hs,cK hb];simp [Lex.blank,one,Lex.put,c0,c1,c2,c3,c4,c5,c6],(by omega),(by omega),(by first|omega|(simp;omega))⟩,by kernel_rfl,st⟩
        ·have lnf:¬k+j<s.length:=by omega
         refine WO.no rfl (WO.no rfl (WO.no rfl (WO.no rfl (WO.aB (v:= .bool false) rfl (WO.nil (WP.cond (t:=false) rfl (WP.exit ?_)))))))
         have hz:(s.drop (k+j)).takeWhile Lex.iV=[]:=(by rw [List.drop_of_length_le (by omega)];rfl)
         have htw:(s.drop k).takeWhile Lex.iV=(s.drop k).take j:=by rw [hj2,hz,List.append_nil]
         obtain rfl:((s.drop k).takeWhile Lex.iV).length=j:=by rw [htw];simp;omega
         obtain ⟨hw1,hw2,hw3⟩:=qp (f:=Lex.iV) hb (by first|assumption|simp [Lex.iV,one,c0,c1,c2,c3,c4,c5,c6])
         exact ⟨g,(Nat.lt_succ_self _),k+((s.drop k).takeWhile Lex.iV).length,ts,fy,vy,dz1,dz2,dz3,(.bool true),(.int .u8 (b.toNat:Int)),(.bool false),(.bool true),(.bool false),dz11,dz12,dz13,dz14,dz15,dz16,dz18,dz19,dz20,dz21,dz22,dz23,dz24,⟨by rw [hs,cK hb];simp [Lex.blank,one,Lex.put,c0,c1,c2,c3,c4,c5,c6],(by omega),(by omega),(by first|omega|(simp;omega))⟩,by kernel_rfl,st⟩
       ·replace c6:¬(b.toNat=35):=by omega
        refine WO.nil (WP.cond (t:=false) rfl (WP.seq (WP.reg (WO.aU rfl (vk D st) ?_))))
        rintro _ h ⟨rfl,st⟩
        cases hb1:Lex.small b
        ·refine WO.nil (WP.cond (t:=false) rfl (WP.seq (WP.reg (WO.aU rfl (Cm D st) ?_))))
         rintro _ h ⟨rfl,st⟩
         cases hb2:Lex.digit b
         ·refine WO.nil (WP.cond (t:=false) rfl (WP.seq (WP.reg ?_)))
          have hsl:=yg (s.drop k)
          rw [List.length_drop] at hsl
          refine WO.aU rfl (xsign_c D st (by omega) hsz) ?_
          rintro _ h ⟨rfl,st⟩
          refine WO.nil (WP.seq (WP.seq (WP.reg (WO.ifS (L.seq (m:=[]) rfl rfl) (fun cz=> ?_) (fun cz=> ?_)))))
          ·refine WO.nil (WP.cond (t:=true) rfl (WP.seq (WP.reg (WO.aB (v:= .slN) rfl (WO.aB (v:= .int .i64 10) rfl (WO.aB (v:= .int .i64 (k:Int)) rfl (WO.nil (WP.ret ?_))))))))
           have hE:Lex.all (s.length+1) 0 s []= .error (10,k):=by
            rw [hs,cK hb];simp [Lex.blank,one,Lex.put,c0,c1,c2,c3,c4,c5,c6,hb1,hb2,cz]
           rw [hE]
           exact ⟨_,(ak (aD (v:= .slN) rfl) (ak (aD (v:= .int .i64 10) rfl) (ak (aD (v:= .int .i64 (k:Int)) rfl) (aF _ _)))),rfl,st.tail⟩
          ·have hs1:0<(Lex.sign (s.drop k)).length:=List.length_pos_iff.2 cz
           refine WO.nil (WP.cond (t:=false) rfl (WP.skip (WP.seq (WP.reg (WO.val (v:= .agg [.int .i64 4,L.str (Lex.sign (s.drop k)), .int .i64 (k:Int)]) (L.build rfl) (WO.iY (rows:=[[.int .i64 4,L.str (Lex.sign (s.drop k)), .int .i64 (k:Int)]]) st rfl (by decide) rfl (by simp) (fun bs1 h st=> ?_)))))))
           refine WO.kN st 1 rfl rfl rfl (st.aJ 0 rfl) (by decide) (by simp;omega) (fun f1 v1 h st=> ?_)
           rw [show (ts.map Tok.row)++[[V.int .i64 4,L.str (Lex.sign (s.drop k)),V.int .i64 (k:Int)]]=(ts++[Tok.mk 4 (Lex.sign (s.drop k)) k]).map Tok.row from by simp [Tok.row]] at st
           obtain ⟨ab1,rfl⟩:=(st.bQ 1 rfl).ne (by simp)
           refine WO.nil (WP.reg (WO.val (v:= .int .i64 ((Lex.sign (s.drop k)).length:Int)) (L.nT rfl) (WO.aB (v:= .int .i64 ((k+(Lex.sign (s.drop k)).length:Nat):Int)) (L.fQ rfl rfl (by omega) (And.intro (by omega) (by omega))) (WO.nil ?_))))
           exact ⟨g,(Nat.lt_succ_self _),k+(Lex.sign (s.drop k)).length,(ts++[Tok.mk 4 (Lex.sign (s.drop k)) k]),f1,(.sl ab1 0 ((ts++[Tok.mk 4 (Lex.sign (s.drop k)) k]).map Tok.row).length none),dz1,dz2,dz3,(.bool true),(.int .u8 (b.toNat:Int)),(.bool false),(.bool false),dz10,(.bool false),dz12,dz13,dz14,dz15,dz16,(.bool false),dz19,dz20,dz21,dz22,(L.str (Lex.sign (s.drop k))),(.bool false),⟨by rw [hs,cK hb];simp [Lex.blank,one,Lex.put,c0,c1,c2,c3,c4,c5,c6,hb1,hb2,cz],(by omega),(by omega),(by first|omega|(simp;omega))⟩,by kernel_rfl,st.tail⟩
         ·refine WO.nil (WP.cond (t:=true) rfl (WP.seq (WP.reg (WO.aB (v:= .int .i64 (k:Int)) rfl (WO.nil (WP.vY (fun env h=>∃z20,env=bG [L.str s,dz1,dz2,dz3, .bool false, .int .i64 (k:Int), .bool true, .int .u8 (b.toNat:Int), .bool false, .bool false,dz10, .bool false,dz12,dz13,dz14,dz15,dz16,vy, .bool true, .int .i64 ((k+((s.drop k).takeWhile Lex.digit).length:Nat):Int),z20,dz21,dz22,dz23,dz24] 0 Env.nil∧St (.acc fy 3 vy (ts.map Tok.row)::fs) h) ?_ ?_))))))
          ·refine WP.block (WP.eO (α:=Nat) (fun j env h=>∃dz20,(k+j≤s.length∧(s.drop k).takeWhile Lex.digit=(s.drop k).take j++(s.drop (k+j)).takeWhile Lex.digit)∧env=bG [L.str s,dz1,dz2,dz3, .bool false, .int .i64 (k:Int), .bool true, .int .u8 (b.toNat:Int), .bool false, .bool false,dz10, .bool false,dz12,dz13,dz14,dz15,dz16,vy, .bool true, .int .i64 ((k+j:Nat):Int),dz20,dz21,dz22,dz23,dz24] 0 Env.nil∧St (.acc fy 3 vy (ts.map Tok.row)::fs) h) (fun j=>s.length - (k+j)) 0 ?_ ?_)
           ·exact ⟨dz20,⟨by omega,by simp⟩,by kernel_rfl,st⟩
           rintro j _ h ⟨dz20,⟨hj1,hj2⟩,rfl,st⟩
           refine WP.seq (WP.seq (WP.reg (WO.val (v:= .int .i64 (s.length:Int)) (L.nT rfl) (WO.ifV (L.lss rfl rfl) (fun cj=> ?_) (fun cj=> ?_)))))
           ·obtain ⟨bj,hbj⟩:∃b,s[k+j]? =some b:=⟨_,List.getElem?_eq_getElem (by omega)⟩
            refine WO.yes rfl (WO.val (v:=L.str s) rfl (WO.yes rfl (WO.val (v:= .int .i64 ((k+j:Nat):Int)) rfl (WO.yes rfl (WO.val (v:= .int .u8 (bj.toNat:Int)) (L.qm rfl rfl hbj) (WO.yes rfl (WO.aM rfl (Cm D st) ?_)))))))
            rintro _ h ⟨rfl,st⟩
            cases hb3:Lex.digit bj
            ·refine WO.aB (v:= .bool false) rfl (WO.nil (WP.cond (t:=false) rfl (WP.exit ?_)))
             have hz:(s.drop (k+j)).takeWhile Lex.digit=[]:=(lW hbj (by first|assumption|simp [Lex.digit,hb3]))
             have htw:(s.drop k).takeWhile Lex.digit=(s.drop k).take j:=by rw [hj2,hz,List.append_nil]
             obtain rfl:((s.drop k).takeWhile Lex.digit).length=j:=by rw [htw];simp;omega
             exact ⟨(.bool false),by kernel_rfl,st⟩
            ·refine WO.aB (v:= .bool true) rfl (WO.nil (WP.cond (t:=true) rfl (WP.skip (WP.block (WP.reg (WO.aB (v:= .int .i64 ((k+(j+1):Nat):Int)) (L.fQ rfl rfl (by omega) (And.intro (by omega) (by omega))) (WO.nil ?_)))))))
             have hnx:(s.drop k).takeWhile Lex.digit=(s.drop k).take (j+1)++(s.drop (k+(j+1))).takeWhile Lex.digit:=by
              rw [hj2,iR hbj (by first|assumption|simp [Lex.digit,hb3]),List.take_add_one,List.getElem?_drop,hbj];simp [Nat.add_assoc]
             exact ⟨j+1,(by omega),(.bool true),⟨by omega,hnx⟩,by kernel_rfl,st⟩
           ·have lnf:¬k+j<s.length:=by omega
            refine WO.no rfl (WO.no rfl (WO.no rfl (WO.no rfl (WO.aB (v:= .bool false) rfl (WO.nil (WP.cond (t:=false) rfl (WP.exit ?_)))))))
            have hz:(s.drop (k+j)).takeWhile Lex.digit=[]:=(by rw [List.drop_of_length_le (by omega)];rfl)
            have htw:(s.drop k).takeWhile Lex.digit=(s.drop k).take j:=by rw [hj2,hz,List.append_nil]
            obtain rfl:((s.drop k).takeWhile Lex.digit).length=j:=by rw [htw];simp;omega
            exact ⟨(.bool false),by kernel_rfl,st⟩
          ·rintro _ h ⟨z20,rfl,st⟩
           have e48:(b=48)↔b.toNat=48:=⟨fun h=>by rw [h];rfl,fun h=>UInt8.toNat_inj.1 h⟩
           obtain ⟨hw1,hw2,hw3⟩:=qp (f:=Lex.digit) hb (by first|assumption|simp [Lex.digit,one,c0,c1,c2,c3,c4,c5,c6,hb1,hb2])
           refine WP.seq (WP.seq (WP.reg (WO.val (v:= .int .i64 (((s.drop k).takeWhile Lex.digit).length:Int)) (L.rV rfl rfl (by omega) (And.intro (by omega) (by omega))) (WO.ifS (L.gtr rfl rfl) (fun cn9=> ?_) (fun cn9=> ?_)))))
           ·replace cn9:9<((s.drop k).takeWhile Lex.digit).length:=by omega
            refine WO.nil (WP.cond (t:=true) rfl (WP.seq (WP.reg (WO.aB (v:= .slN) rfl (WO.aB (v:= .int .i64 9) rfl (WO.aB (v:= .int .i64 (k:Int)) rfl (WO.nil (WP.ret ?_))))))))
            have hE:Lex.all (s.length+1) 0 s []= .error (9,k):=by
             rw [hs,cK hb];simp [Lex.blank,one,Lex.put,c0,c1,c2,c3,c4,c5,c6,hb1,hb2,cn9,Lex.number,Lex.within,hw3,e48]
            rw [hE]
            exact ⟨_,(ak (aD (v:= .slN) rfl) (ak (aD (v:= .int .i64 9) rfl) (ak (aD (v:= .int .i64 (k:Int)) rfl) (aF _ _)))),rfl,st.tail⟩
           ·replace cn9:¬9<((s.drop k).takeWhile Lex.digit).length:=by omega
            refine WO.nil (WP.cond (t:=false) rfl (WP.skip (WP.seq (WP.seq (WP.reg (WO.val (v:= .int .i64 (((s.drop k).takeWhile Lex.digit).length:Int)) (L.rV rfl rfl (by omega) (And.intro (by omega) (by omega))) (WO.ifV (L.gtr rfl rfl) (fun cn1=> ?_) (fun cn1=> ?_))))))))
            ·replace cn1:1<((s.drop k).takeWhile Lex.digit).length:=by omega
             refine WO.yes rfl (WO.val (v:= .int .u8 (b.toNat:Int)) rfl (WO.yes rfl (WO.ifV (L.eql rfl rfl) (fun c8=> ?_) (fun c8=> ?_))))
             ·replace c8:b.toNat=48:=by omega
              refine WO.val (v:= .bool true) rfl (WO.no rfl (WO.no rfl (WO.no rfl (WO.no rfl (WO.no rfl (WO.no rfl (WO.no rfl (WO.no rfl (WO.no rfl (WO.no rfl (WO.no rfl (WO.no rfl (WO.no rfl (WO.no rfl (WO.no rfl (WO.no rfl (WO.aB (v:= .bool true) rfl (WO.nil (WP.cond (t:=true) rfl (WP.seq (WP.reg (WO.aB (v:= .slN) rfl (WO.aB (v:= .int .i64 10) rfl (WO.aB (v:= .int .i64 (k:Int)) rfl (WO.nil (WP.ret ?_))))))))))))))))))))))))))
              have hE:Lex.all (s.length+1) 0 s []= .error (10,k):=by
               rw [hs,cK hb];simp [Lex.blank,one,Lex.put,c0,c1,c2,c3,c4,c5,c6,hb1,hb2,cn9,cn1,c8,Lex.number,Lex.within,hw3,e48]
              rw [hE]
              exact ⟨_,(ak (aD (v:= .slN) rfl) (ak (aD (v:= .int .i64 10) rfl) (ak (aD (v:= .int .i64 (k:Int)) rfl) (aF _ _)))),rfl,st.tail⟩
             ·replace c8:¬(b.toNat=48):=by omega
              refine WO.val (v:= .bool false) rfl (WO.yes rfl (WO.val (v:= .int .i64 ((k+((s.drop k).takeWhile Lex.digit).length:Nat):Int)) rfl (WO.yes rfl (WO.val (v:=L.str s) rfl (WO.yes rfl (WO.val (v:= .int .i64 (s.length:Int)) (L.nT rfl) (WO.yes rfl (WO.ifV (L.lss rfl rfl) (fun cf=> ?_) (fun cf=> ?_)))))))))
              ·obtain ⟨bd,hbd⟩:∃b,s[k+((s.drop k).takeWhile Lex.digit).length]? =some b:=⟨_,List.getElem?_eq_getElem (by omega)⟩
               have hdr:=drop_at hbd
               have hnd:=Lj hbd
               refine WO.yes rfl (WO.val (v:= .bool true) rfl (WO.yes rfl (WO.val (v:=L.str s) rfl (WO.yes rfl (WO.val (v:= .int .i64 ((k+((s.drop k).takeWhile Lex.digit).length:Nat):Int)) rfl (WO.yes rfl (WO.val (v:= .int .u8 (bd.toNat:Int)) (L.qm rfl rfl hbd) (WO.yes rfl (WO.aM rfl (vk D st) ?_)))))))))
               rintro _ h ⟨rfl,st⟩
               cases hb4:Lex.small bd
               ·refine WO.yes rfl (WO.val (v:= .bool false) rfl (WO.yes rfl (WO.val (v:=L.str s) rfl (WO.yes rfl (WO.val (v:= .int .i64 ((k+((s.drop k).takeWhile Lex.digit).length:Nat):Int)) rfl (WO.yes rfl (WO.val (v:= .int .u8 (bd.toNat:Int)) (L.qm rfl rfl hbd) (WO.yes rfl (WO.ifV (L.eql rfl rfl) (fun c9=> ?_) (fun c9=> ?_))))))))))
                ·replace c9:bd.toNat=95:=by omega
                 refine WO.yes rfl (WO.val (v:= .bool true) rfl (WO.yes rfl (WO.val (v:= .bool true) rfl (WO.aB (v:= .bool true) rfl (WO.nil (WP.cond (t:=true) rfl (WP.seq (WP.reg (WO.aB (v:= .slN) rfl (WO.aB (v:= .int .i64 10) rfl (WO.aB (v:= .int .i64 (k:Int)) rfl (WO.nil (WP.ret ?_)))))))))))))
                 have hE:Lex.all (s.length+1) 0 s []= .error (10,k):=by
                  rw [hs,cK hb];simp [Lex.blank,one,Lex.put,c0,c1,c2,c3,c4,c5,c6,hb1,hb2,cn9,cn1,c8,hdr,hnd,hb4,c9,Lex.number,Lex.within,hw3,e48]
                 rw [hE]
                 exact ⟨_,(ak (aD (v:= .slN) rfl) (ak (aD (v:= .int .i64 10) rfl) (ak (aD (v:= .int .i64 (k:Int)) rfl) (aF _ _)))),rfl,st.tail⟩
                ·replace c9:¬(bd.toNat=95):=by omega
                 refine WO.yes rfl (WO.val (v:= .bool false) rfl (WO.yes rfl (WO.val (v:= .bool false) rfl (WO.aB (v:= .bool false) rfl (WO.nil (WP.cond (t:=false) rfl (WP.skip (WP.seq (WP.reg (WO.val (v:=L.str ((s.drop k).takeWhile Lex.digit)) (L.sJ rfl rfl rfl (by omega) (by omega) (by rw [Nat.add_sub_cancel_left];exact qf _)) (WO.val (v:= .agg [.int .i64 2,L.str ((s.drop k).takeWhile Lex.digit), .int .i64 (k:Int)]) (L.build rfl) (WO.iY (rows:=[[.int .i64 2,L.str ((s.drop k).takeWhile Lex.digit), .int .i64 (k:Int)]]) st rfl (by decide) rfl (by simp) (fun bs2 h st=> ?_)))))))))))))
                 refine WO.kN st 1 rfl rfl rfl (st.aJ 0 rfl) (by decide) (by simp;omega) (fun f2 v2 h st=> ?_)
                 rw [show (ts.map Tok.row)++[[V.int .i64 2,L.str ((s.drop k).takeWhile Lex.digit),V.int .i64 (k:Int)]]=(ts++[Tok.mk 2 ((s.drop k).takeWhile Lex.digit) k]).map Tok.row from by simp [Tok.row]] at st
                 obtain ⟨ab2,rfl⟩:=(st.bQ 1 rfl).ne (by simp)
                 refine WO.nil (WP.reg (WO.aB (v:= .int .i64 ((k+((s.drop k).takeWhile Lex.digit).length:Nat):Int)) rfl (WO.nil ?_)))
                 exact ⟨g,(Nat.lt_succ_self _),k+((s.drop k).takeWhile Lex.digit).length,(ts++[Tok.mk 2 ((s.drop k).takeWhile Lex.digit) k]),f2,(.sl ab2 0 ((ts++[Tok.mk 2 ((s.drop k).takeWhile Lex.digit) k]).map Tok.row).length none),dz1,dz2,dz3,(.bool true),(.int .u8 (b.toNat:Int)),(.bool false),(.bool false),dz10,(.bool false),dz12,dz13,dz14,dz15,dz16,(.bool true),(.int .i64 ((k+((s.drop k).takeWhile Lex.digit).length:Nat):Int)),z20,(.bool false),(.bool false),dz23,dz24,⟨by rw [hs,cK hb];simp [Lex.blank,one,Lex.put,c0,c1,c2,c3,c4,c5,c6,hb1,hb2,cn9,cn1,c8,hdr,hnd,hb4,c9,Lex.number,Lex.within,hw3,e48],(by omega),(by omega),(by first|omega|(simp;omega))⟩,by kernel_rfl,st.tail⟩
               ·refine WO.yes rfl (WO.val (v:= .bool true) rfl (WO.no rfl (WO.no rfl (WO.no rfl (WO.no rfl (WO.yes rfl (WO.val (v:= .bool true) rfl (WO.yes rfl (WO.val (v:= .bool true) rfl (WO.aB (v:= .bool true) rfl (WO.nil (WP.cond (t:=true) rfl (WP.seq (WP.reg (WO.aB (v:= .slN) rfl (WO.aB (v:= .int .i64 10) rfl (WO.aB (v:= .int .i64 (k:Int)) rfl (WO.nil (WP.ret ?_)))))))))))))))))))
                have hE:Lex.all (s.length+1) 0 s []= .error (10,k):=by
                 rw [hs,cK hb];simp [Lex.blank,one,Lex.put,c0,c1,c2,c3,c4,c5,c6,hb1,hb2,cn9,cn1,c8,hdr,hnd,hb4,Lex.number,Lex.within,hw3,e48]
                rw [hE]
                exact ⟨_,(ak (aD (v:= .slN) rfl) (ak (aD (v:= .int .i64 10) rfl) (ak (aD (v:= .int .i64 (k:Int)) rfl) (aF _ _)))),rfl,st.tail⟩
              ·have hdr:s.drop (k+((s.drop k).takeWhile Lex.digit).length)=[]:=List.drop_of_length_le (by omega)
               refine WO.yes rfl (WO.val (v:= .bool false) rfl (WO.no rfl (WO.no rfl (WO.no rfl (WO.no rfl (WO.no rfl (WO.no rfl (WO.no rfl (WO.no rfl (WO.no rfl (WO.no rfl (WO.yes rfl (WO.val (v:= .bool false) rfl (WO.aB (v:= .bool false) rfl (WO.nil (WP.cond (t:=false) rfl (WP.skip (WP.seq (WP.reg (WO.val (v:=L.str ((s.drop k).takeWhile Lex.digit)) (L.sJ rfl rfl rfl (by omega) (by omega) (by rw [Nat.add_sub_cancel_left];exact qf _)) (WO.val (v:= .agg [.int .i64 2,L.str ((s.drop k).takeWhile Lex.digit), .int .i64 (k:Int)]) (L.build rfl) (WO.iY (rows:=[[.int .i64 2,L.str ((s.drop k).takeWhile Lex.digit), .int .i64 (k:Int)]]) st rfl (by decide) rfl (by simp) (fun bs3 h st=> ?_)))))))))))))))))))))))
               refine WO.kN st 1 rfl rfl rfl (st.aJ 0 rfl) (by decide) (by simp;omega) (fun f3 v3 h st=> ?_)
               rw [show (ts.map Tok.row)++[[V.int .i64 2,L.str ((s.drop k).takeWhile Lex.digit),V.int .i64 (k:Int)]]=(ts++[Tok.mk 2 ((s.drop k).takeWhile Lex.digit) k]).map Tok.row from by simp [Tok.row]] at st
               obtain ⟨ab3,rfl⟩:=(st.bQ 1 rfl).ne (by simp)
               refine WO.nil (WP.reg (WO.aB (v:= .int .i64 ((k+((s.drop k).takeWhile Lex.digit).length:Nat):Int)) rfl (WO.nil ?_)))
               exact ⟨g,(Nat.lt_succ_self _),k+((s.drop k).takeWhile Lex.digit).length,(ts++[Tok.mk 2 ((s.drop k).takeWhile Lex.digit) k]),f3,(.sl ab3 0 ((ts++[Tok.mk 2 ((s.drop k).takeWhile Lex.digit) k]).map Tok.row).length none),dz1,dz2,dz3,(.bool true),(.int .u8 (b.toNat:Int)),(.bool false),(.bool false),dz10,(.bool false),dz12,dz13,dz14,dz15,dz16,(.bool true),(.int .i64 ((k+((s.drop k).takeWhile Lex.digit).length:Nat):Int)),z20,(.bool false),(.bool false),dz23,dz24,⟨by rw [hs,cK hb];simp [Lex.blank,one,Lex.put,c0,c1,c2,c3,c4,c5,c6,hb1,hb2,cn9,cn1,c8,hdr,Lex.number,Lex.within,hw3,e48],(by omega),(by omega),(by first|omega|(simp;omega))⟩,by kernel_rfl,st.tail⟩
            ·replace cn1:¬1<((s.drop k).takeWhile Lex.digit).length:=by omega
             refine WO.no rfl (WO.no rfl (WO.val (v:= .bool false) rfl (WO.yes rfl (WO.val (v:= .int .i64 ((k+((s.drop k).takeWhile Lex.digit).length:Nat):Int)) rfl (WO.yes rfl (WO.val (v:=L.str s) rfl (WO.yes rfl (WO.val (v:= .int .i64 (s.length:Int)) (L.nT rfl) (WO.yes rfl (WO.ifV (L.lss rfl rfl) (fun cf=> ?_) (fun cf=> ?_)))))))))))
             ·obtain ⟨bd,hbd⟩:∃b,s[k+((s.drop k).takeWhile Lex.digit).length]? =some b:=⟨_,List.getElem?_eq_getElem (by omega)⟩
              have hdr:=drop_at hbd
              have hnd:=Lj hbd
              refine WO.yes rfl (WO.val (v:= .bool true) rfl (WO.yes rfl (WO.val (v:=L.str s) rfl (WO.yes rfl (WO.val (v:= .int .i64 ((k+((s.drop k).takeWhile Lex.digit).length:Nat):Int)) rfl (WO.yes rfl (WO.val (v:= .int .u8 (bd.toNat:Int)) (L.qm rfl rfl hbd) (WO.yes rfl (WO.aM rfl (vk D st) ?_)))))))))
              rintro _ h ⟨rfl,st⟩
              cases hb5:Lex.small bd
              ·refine WO.yes rfl (WO.val (v:= .bool false) rfl (WO.yes rfl (WO.val (v:=L.str s) rfl (WO.yes rfl (WO.val (v:= .int .i64 ((k+((s.drop k).takeWhile Lex.digit).length:Nat):Int)) rfl (WO.yes rfl (WO.val (v:= .int .u8 (bd.toNat:Int)) (L.qm rfl rfl hbd) (WO.yes rfl (WO.ifV (L.eql rfl rfl) (fun c10=> ?_) (fun c10=> ?_))))))))))
               ·replace c10:bd.toNat=95:=by omega
                refine WO.yes rfl (WO.val (v:= .bool true) rfl (WO.yes rfl (WO.val (v:= .bool true) rfl (WO.aB (v:= .bool true) rfl (WO.nil (WP.cond (t:=true) rfl (WP.seq (WP.reg (WO.aB (v:= .slN) rfl (WO.aB (v:= .int .i64 10) rfl (WO.aB (v:= .int .i64 (k:Int)) rfl (WO.nil (WP.ret ?_)))))))))))))
                have hE:Lex.all (s.length+1) 0 s []= .error (10,k):=by
                 rw [hs,cK hb];simp [Lex.blank,one,Lex.put,c0,c1,c2,c3,c4,c5,c6,hb1,hb2,cn9,cn1,hdr,hnd,hb5,c10,Lex.number,Lex.within,hw3,e48]
                rw [hE]
                exact ⟨_,(ak (aD (v:= .slN) rfl) (ak (aD (v:= .int .i64 10) rfl) (ak (aD (v:= .int .i64 (k:Int)) rfl) (aF _ _)))),rfl,st.tail⟩
               ·replace c10:¬(bd.toNat=95):=by omega
                refine WO.yes rfl (WO.val (v:= .bool false) rfl (WO.yes rfl (WO.val (v:= .bool false) rfl (WO.aB (v:= .bool false) rfl (WO.nil (WP.cond (t:=false) rfl (WP.skip (WP.seq (WP.reg (WO.val (v:=L.str ((s.drop k).takeWhile Lex.digit)) (L.sJ rfl rfl rfl (by omega) (by omega) (by rw [Nat.add_sub_cancel_left];exact qf _)) (WO.val (v:= .agg [.int .i64 2,L.str ((s.drop k).takeWhile Lex.digit), .int .i64 (k:Int)]) (L.build rfl) (WO.iY (rows:=[[.int .i64 2,L.str ((s.drop k).takeWhile Lex.digit), .int .i64 (k:Int)]]) st rfl (by decide) rfl (by simp) (fun bs4 h st=> ?_)))))))))))))
                refine WO.kN st 1 rfl rfl rfl (st.aJ 0 rfl) (by decide) (by simp;omega) (fun f4 v4 h st=> ?_)
                rw [show (ts.map Tok.row)++[[V.int .i64 2,L.str ((s.drop k).takeWhile Lex.digit),V.int .i64 (k:Int)]]=(ts++[Tok.mk 2 ((s.drop k).takeWhile Lex.digit) k]).map Tok.row from by simp [Tok.row]] at st
                obtain ⟨ab4,rfl⟩:=(st.bQ 1 rfl).ne (by simp)
                refine WO.nil (WP.reg (WO.aB (v:= .int .i64 ((k+((s.drop k).takeWhile Lex.digit).length:Nat):Int)) rfl (WO.nil ?_)))
                exact ⟨g,(Nat.lt_succ_self _),k+((s.drop k).takeWhile Lex.digit).length,(ts++[Tok.mk 2 ((s.drop k).takeWhile Lex.digit) k]),f4,(.sl ab4 0 ((ts++[Tok.mk 2 ((s.drop k).takeWhile Lex.digit) k]).map Tok.row).length none),dz1,dz2,dz3,(.bool true),(.int .u8 (b.toNat:Int)),(.bool false),(.bool false),dz10,(.bool false),dz12,dz13,dz14,dz15,dz16,(.bool true),(.int .i64 ((k+((s.drop k).takeWhile Lex.digit).length:Nat):Int)),z20,(.bool false),(.bool false),dz23,dz24,⟨by rw [hs,cK hb];simp [Lex.blank,one,Lex.put,c0,c1,c2,c3,c4,c5,c6,hb1,hb2,cn9,cn1,hdr,hnd,hb5,c10,Lex.number,Lex.within,hw3,e48],(by omega),(by omega),(by first|omega|(simp;omega))⟩,by kernel_rfl,st.tail⟩
              ·refine WO.yes rfl (WO.val (v:= .bool true) rfl (WO.no rfl (WO.no rfl (WO.no rfl (WO.no rfl (WO.yes rfl (WO.val (v:= .bool true) rfl (WO.yes rfl (WO.val (v:= .bool true) rfl (WO.aB (v:= .bool true) rfl (WO.nil (WP.cond (t:=true) rfl (WP.seq (WP.reg (WO.aB (v:= .slN) rfl (WO.aB (v:= .int .i64 10) rfl (WO.aB (v:= .int .i64 (k:Int)) rfl (WO.nil (WP.ret ?_)))))))))))))))))))
               have hE:Lex.all (s.length+1) 0 s []= .error (10,k):=by
                rw [hs,cK hb];simp [Lex.blank,one,Lex.put,c0,c1,c2,c3,c4,c5,c6,hb1,hb2,cn9,cn1,hdr,hnd,hb5,Lex.number,Lex.within,hw3,e48]
               rw [hE]
               exact ⟨_,(ak (aD (v:= .slN) rfl) (ak (aD (v:= .int .i64 10) rfl) (ak (aD (v:= .int .i64 (k:Int)) rfl) (aF _ _)))),rfl,st.tail⟩
             ·have hdr:s.drop (k+((s.drop k).takeWhile Lex.digit).length)=[]:=List.drop_of_length_le (by omega)
              refine WO.yes rfl (WO.val (v:= .bool false) rfl (WO.no rfl (WO.no rfl (WO.no rfl (WO.no rfl (WO.no rfl (WO.no rfl (WO.no rfl (WO.no rfl (WO.no rfl (WO.no rfl (WO.yes rfl (WO.val (v:= .bool false) rfl (WO.aB (v:= .bool false) rfl (WO.nil (WP.cond (t:=false) rfl (WP.skip (WP.seq (WP.reg (WO.val (v:=L.str ((s.drop k).takeWhile Lex.digit)) (L.sJ rfl rfl rfl (by omega) (by omega) (by rw [Nat.add_sub_cancel_left];exact qf _)) (WO.val (v:= .agg [.int .i64 2,L.str ((s.drop k).takeWhile Lex.digit), .int .i64 (k:Int)]) (L.build rfl) (WO.iY (rows:=[[.int .i64 2,L.str ((s.drop k).takeWhile Lex.digit), .int .i64 (k:Int)]]) st rfl (by decide) rfl (by simp) (fun bs5 h st=> ?_)))))))))))))))))))))))
              refine WO.kN st 1 rfl rfl rfl (st.aJ 0 rfl) (by decide) (by simp;omega) (fun f5 v5 h st=> ?_)
              rw [show (ts.map Tok.row)++[[V.int .i64 2,L.str ((s.drop k).takeWhile Lex.digit),V.int .i64 (k:Int)]]=(ts++[Tok.mk 2 ((s.drop k).takeWhile Lex.digit) k]).map Tok.row from by simp [Tok.row]] at st
              obtain ⟨ab5,rfl⟩:=(st.bQ 1 rfl).ne (by simp)
              refine WO.nil (WP.reg (WO.aB (v:= .int .i64 ((k+((s.drop k).takeWhile Lex.digit).length:Nat):Int)) rfl (WO.nil ?_)))
              exact ⟨g,(Nat.lt_succ_self _),k+((s.drop k).takeWhile Lex.digit).length,(ts++[Tok.mk 2 ((s.drop k).takeWhile Lex.digit) k]),f5,(.sl ab5 0 ((ts++[Tok.mk 2 ((s.drop k).takeWhile Lex.digit) k]).map Tok.row).length none),dz1,dz2,dz3,(.bool true),(.int .u8 (b.toNat:Int)),(.bool false),(.bool false),dz10,(.bool false),dz12,dz13,dz14,dz15,dz16,(.bool true),(.int .i64 ((k+((s.drop k).takeWhile Lex.digit).length:Nat):Int)),z20,(.bool false),(.bool false),dz23,dz24,⟨by rw [hs,cK hb];simp [Lex.blank,one,Lex.put,c0,c1,c2,c3,c4,c5,c6,hb1,hb2,cn9,cn1,hdr,Lex.number,Lex.within,hw3,e48],(by omega),(by omega),(by first|omega|(simp;omega))⟩,by kernel_rfl,st.tail⟩
        ·refine WO.nil (WP.cond (t:=true) rfl (WP.seq (WP.reg (WO.aB (v:= .int .i64 (k:Int)) rfl (WO.nil (WP.vY (fun env h=>∃z13,env=bG [L.str s,dz1,dz2,dz3, .bool false, .int .i64 (k:Int), .bool true, .int .u8 (b.toNat:Int), .bool false, .bool false,dz10, .bool true, .int .i64 ((k+((s.drop k).takeWhile Lex.within).length:Nat):Int),z13,dz14,dz15,dz16,vy,dz18,dz19,dz20,dz21,dz22,dz23,dz24] 0 Env.nil∧St (.acc fy 3 vy (ts.map Tok.row)::fs) h) ?_ ?_))))))
         ·refine WP.block (WP.eO (α:=Nat) (fun j env h=>∃dz13,(k+j≤s.length∧(s.drop k).takeWhile Lex.within=(s.drop k).take j++(s.drop (k+j)).takeWhile Lex.within)∧env=bG [L.str s,dz1,dz2,dz3, .bool false, .int .i64 (k:Int), .bool true, .int .u8 (b.toNat:Int), .bool false, .bool false,dz10, .bool true, .int .i64 ((k+j:Nat):Int),dz13,dz14,dz15,dz16,vy,dz18,dz19,dz20,dz21,dz22,dz23,dz24] 0 Env.nil∧St (.acc fy 3 vy (ts.map Tok.row)::fs) h) (fun j=>s.length - (k+j)) 0 ?_ ?_)
          ·exact ⟨dz13,⟨by omega,by simp⟩,by kernel_rfl,st⟩
          rintro j _ h ⟨dz13,⟨hj1,hj2⟩,rfl,st⟩
          refine WP.seq (WP.seq (WP.reg (WO.val (v:= .int .i64 (s.length:Int)) (L.nT rfl) (WO.ifV (L.lss rfl rfl) (fun cj=> ?_) (fun cj=> ?_)))))
          ·obtain ⟨bj,hbj⟩:∃b,s[k+j]? =some b:=⟨_,List.getElem?_eq_getElem (by omega)⟩
           refine WO.yes rfl (WO.val (v:=L.str s) rfl (WO.yes rfl (WO.val (v:= .int .i64 ((k+j:Nat):Int)) rfl (WO.yes rfl (WO.val (v:= .int .u8 (bj.toNat:Int)) (L.qm rfl rfl hbj) (WO.yes rfl (WO.aM rfl (vk D st) ?_)))))))
           rintro _ h ⟨rfl,st⟩
           cases hb6:Lex.small bj
           ·refine WO.yes rfl (WO.val (v:= .bool false) rfl (WO.yes rfl (WO.val (v:=L.str s) rfl (WO.yes rfl (WO.val (v:= .int .i64 ((k+j:Nat):Int)) rfl (WO.yes rfl (WO.val (v:= .int .u8 (bj.toNat:Int)) (L.qm rfl rfl hbj) (WO.yes rfl (WO.aM rfl (Cm D st) ?_)))))))))
            rintro _ h ⟨rfl,st⟩
            cases hb7:Lex.digit bj
            ·refine WO.yes rfl (WO.val (v:= .bool false) rfl (WO.yes rfl (WO.val (v:= .bool false) rfl (WO.yes rfl (WO.val (v:=L.str s) rfl (WO.yes rfl (WO.val (v:= .int .i64 ((k+j:Nat):Int)) rfl (WO.yes rfl (WO.val (v:= .int .u8 (bj.toNat:Int)) (L.qm rfl rfl hbj) (WO.yes rfl (WO.ifV (L.eql rfl rfl) (fun c11=> ?_) (fun c11=> ?_))))))))))))
             ·replace c11:bj.toNat=95:=by omega
              refine WO.yes rfl (WO.val (v:= .bool true) rfl (WO.aB (v:= .bool true) rfl (WO.nil (WP.cond (t:=true) rfl (WP.skip (WP.block (WP.reg (WO.aB (v:= .int .i64 ((k+(j+1):Nat):Int)) (L.fQ rfl rfl (by omega) (And.intro (by omega) (by omega))) (WO.nil ?_)))))))))
              have hnx:(s.drop k).takeWhile Lex.within=(s.drop k).take (j+1)++(s.drop (k+(j+1))).takeWhile Lex.within:=by
               rw [hj2,iR hbj (by first|assumption|simp [Lex.within,hb6,hb7,c11]),List.take_add_one,List.getElem?_drop,hbj];simp [Nat.add_assoc]
              exact ⟨j+1,(by omega),(.bool true),⟨by omega,hnx⟩,by kernel_rfl,st⟩
             ·replace c11:¬(bj.toNat=95):=by omega
              refine WO.yes rfl (WO.val (v:= .bool false) rfl (WO.aB (v:= .bool false) rfl (WO.nil (WP.cond (t:=false) rfl (WP.exit ?_)))))
              have hz:(s.drop (k+j)).takeWhile Lex.within=[]:=(lW hbj (by first|assumption|simp [Lex.within,hb6,hb7,c11]))
              have htw:(s.drop k).takeWhile Lex.within=(s.drop k).take j:=by rw [hj2,hz,List.append_nil]
              obtain rfl:((s.drop k).takeWhile Lex.within).length=j:=by rw [htw];simp;omega
              exact ⟨(.bool false),by kernel_rfl,st⟩
            ·refine WO.yes rfl (WO.val (v:= .bool true) rfl (WO.yes rfl (WO.val (v:= .bool true) rfl (WO.no rfl (WO.no rfl (WO.no rfl (WO.no rfl (WO.yes rfl (WO.val (v:= .bool true) rfl (WO.aB (v:= .bool true) rfl (WO.nil (WP.cond (t:=true) rfl (WP.skip (WP.block (WP.reg (WO.aB (v:= .int .i64 ((k+(j+1):Nat):Int)) (L.fQ rfl rfl (by omega) (And.intro (by omega) (by omega))) (WO.nil ?_)))))))))))))))))
             have hnx:(s.drop k).takeWhile Lex.within=(s.drop k).take (j+1)++(s.drop (k+(j+1))).takeWhile Lex.within:=by
              rw [hj2,iR hbj (by first|assumption|simp [Lex.within,hb6,hb7]),List.take_add_one,List.getElem?_drop,hbj];simp [Nat.add_assoc]
             exact ⟨j+1,(by omega),(.bool true),⟨by omega,hnx⟩,by kernel_rfl,st⟩
           ·refine WO.yes rfl (WO.val (v:= .bool true) rfl (WO.no rfl (WO.no rfl (WO.no rfl (WO.no rfl (WO.yes rfl (WO.val (v:= .bool true) rfl (WO.yes rfl (WO.val (v:= .bool true) rfl (WO.no rfl (WO.no rfl (WO.no rfl (WO.no rfl (WO.yes rfl (WO.val (v:= .bool true) rfl (WO.aB (v:= .bool true) rfl (WO.nil (WP.cond (t:=true) rfl (WP.skip (WP.block (WP.reg (WO.aB (v:= .int .i64 ((k+(j+1):Nat):Int)) (L.fQ rfl rfl (by omega) (And.intro (by omega) (by omega))) (WO.nil ?_)))))))))))))))))))))))
            have hnx:(s.drop k).takeWhile Lex.within=(s.drop k).take (j+1)++(s.drop (k+(j+1))).takeWhile Lex.within:=by
             rw [hj2,iR hbj (by first|assumption|simp [Lex.within,hb6]),List.take_add_one,List.getElem?_drop,hbj];simp [Nat.add_assoc]
            exact ⟨j+1,(by omega),(.bool true),⟨by omega,hnx⟩,by kernel_rfl,st⟩
          ·have lnf:¬k+j<s.length:=by omega
           refine WO.no rfl (WO.no rfl (WO.no rfl (WO.no rfl (WO.no rfl (WO.no rfl (WO.no rfl (WO.no rfl (WO.no rfl (WO.no rfl (WO.no rfl (WO.no rfl (WO.no rfl (WO.no rfl (WO.no rfl (WO.no rfl (WO.aB (v:= .bool false) rfl (WO.nil (WP.cond (t:=false) rfl (WP.exit ?_)))))))))))))))))))
           have hz:(s.drop (k+j)).takeWhile Lex.within=[]:=(by rw [List.drop_of_length_le (by omega)];rfl)
           have htw:(s.drop k).takeWhile Lex.within=(s.drop k).take j:=by rw [hj2,hz,List.append_nil]
           obtain rfl:((s.drop k).takeWhile Lex.within).length=j:=by rw [htw];simp;omega
           exact ⟨(.bool false),by kernel_rfl,st⟩
         ·rintro _ h ⟨z13,rfl,st⟩
          obtain ⟨hw1,hw2,hw3⟩:=qp (f:=Lex.within) hb (by first|assumption|simp [Lex.within,one,c0,c1,c2,c3,c4,c5,c6,hb1])
          refine WP.seq (WP.reg (WO.aB (v:= .int .i64 1) rfl (WO.nil (WP.seq (WP.seq (WP.reg (WO.val (v:=L.str ((s.drop k).takeWhile Lex.within)) (L.sJ rfl rfl rfl (by omega) (by omega) (by rw [Nat.add_sub_cancel_left];exact qf _)) (WO.aU rfl (xkey_c D st) ?_))))))))
          rintro _ h ⟨rfl,st⟩
          by_cases hk1:((s.drop k).takeWhile Lex.within)∈Lex.keys
          ·rw [show decide (((s.drop k).takeWhile Lex.within)∈Lex.keys)=true by simp [hk1]]
           refine WO.nil (WP.cond (t:=true) rfl (WP.reg (WO.aB (v:= .int .i64 3) rfl (WO.nil (WP.seq (WP.seq (WP.reg (WO.val (v:= .int .i64 (((s.drop k).takeWhile Lex.within).length:Int)) (L.rV rfl rfl (by omega) (And.intro (by omega) (by omega))) ?_))))))))
           have hkl:=Q5 hk1
           refine WO.ifS (L.gtr rfl rfl) (fun cg=>by exfalso;omega) (fun cg=> ?_)
           refine WO.nil (WP.cond (t:=false) rfl (WP.skip (WP.seq (WP.reg (WO.val (v:=L.str ((s.drop k).takeWhile Lex.within)) (L.sJ rfl rfl rfl (by omega) (by omega) (by rw [Nat.add_sub_cancel_left];exact qf _)) (WO.val (v:= .agg [.int .i64 3,L.str ((s.drop k).takeWhile Lex.within), .int .i64 (k:Int)]) (L.build rfl) (WO.iY (rows:=[[.int .i64 3,L.str ((s.drop k).takeWhile Lex.within), .int .i64 (k:Int)]]) st rfl (by decide) rfl (by simp) (fun bs6 h st=> ?_))))))))
           refine WO.kN st 1 rfl rfl rfl (st.aJ 0 rfl) (by decide) (by simp;omega) (fun f6 v6 h st=> ?_)
           rw [show (ts.map Tok.row)++[[V.int .i64 3,L.str ((s.drop k).takeWhile Lex.within),V.int .i64 (k:Int)]]=(ts++[Tok.mk 3 ((s.drop k).takeWhile Lex.within) k]).map Tok.row from by simp [Tok.row]] at st
           obtain ⟨ab6,rfl⟩:=(st.bQ 1 rfl).ne (by simp)
           refine WO.nil (WP.reg (WO.aB (v:= .int .i64 ((k+((s.drop k).takeWhile Lex.within).length:Nat):Int)) rfl (WO.nil ?_)))
           exact ⟨g,(Nat.lt_succ_self _),k+((s.drop k).takeWhile Lex.within).length,(ts++[Tok.mk 3 ((s.drop k).takeWhile Lex.within) k]),f6,(.sl ab6 0 ((ts++[Tok.mk 3 ((s.drop k).takeWhile Lex.within) k]).map Tok.row).length none),dz1,dz2,dz3,(.bool true),(.int .u8 (b.toNat:Int)),(.bool false),(.bool false),dz10,(.bool true),(.int .i64 ((k+((s.drop k).takeWhile Lex.within).length:Nat):Int)),z13,(.bool true),(.bool false),(.int .i64 3),dz18,dz19,dz20,dz21,dz22,dz23,dz24,⟨by rw [hs,cK hb];simp [Lex.blank,one,Lex.put,c0,c1,c2,c3,c4,c5,c6,hb1,hk1,Lex.word],(by omega),(by omega),(by first|omega|(simp;omega))⟩,by kernel_rfl,st.tail⟩
          ·rw [show decide (((s.drop k).takeWhile Lex.within)∈Lex.keys)=false by simp [hk1]]
           refine WO.nil (WP.cond (t:=false) rfl (WP.skip (WP.seq (WP.seq (WP.reg (WO.val (v:= .int .i64 (((s.drop k).takeWhile Lex.within).length:Int)) (L.rV rfl rfl (by omega) (And.intro (by omega) (by omega))) (WO.ifS (L.gtr rfl rfl) (fun cg=> ?_) (fun cg=> ?_))))))))
           ·replace cg:20<((s.drop k).takeWhile Lex.within).length:=by omega
            refine WO.nil (WP.cond (t:=true) rfl (WP.seq (WP.reg (WO.aB (v:= .slN) rfl (WO.aB (v:= .int .i64 9) rfl (WO.aB (v:= .int .i64 (k:Int)) rfl (WO.nil (WP.ret ?_))))))))
            have hE:Lex.all (s.length+1) 0 s []= .error (9,k):=by
             rw [hs,cK hb];simp [Lex.blank,one,Lex.put,c0,c1,c2,c3,c4,c5,c6,hb1,hk1,cg,Lex.word]
            rw [hE]
            exact ⟨_,(ak (aD (v:= .slN) rfl) (ak (aD (v:= .int .i64 9) rfl) (ak (aD (v:= .int .i64 (k:Int)) rfl) (aF _ _)))),rfl,st.tail⟩
           ·replace cg:¬20<((s.drop k).takeWhile Lex.within).length:=by omega
            refine WO.nil (WP.cond (t:=false) rfl (WP.skip (WP.seq (WP.reg (WO.val (v:=L.str ((s.drop k).takeWhile Lex.within)) (L.sJ rfl rfl rfl (by omega) (by omega) (by rw [Nat.add_sub_cancel_left];exact qf _)) (WO.val (v:= .agg [.int .i64 1,L.str ((s.drop k).takeWhile Lex.within), .int .i64 (k:Int)]) (L.build rfl) (WO.iY (rows:=[[.int .i64 1,L.str ((s.drop k).takeWhile Lex.within), .int .i64 (k:Int)]]) st rfl (by decide) rfl (by simp) (fun bs7 h st=> ?_))))))))
            refine WO.kN st 1 rfl rfl rfl (st.aJ 0 rfl) (by decide) (by simp;omega) (fun f7 v7 h st=> ?_)
            rw [show (ts.map Tok.row)++[[V.int .i64 1,L.str ((s.drop k).takeWhile Lex.within),V.int .i64 (k:Int)]]=(ts++[Tok.mk 1 ((s.drop k).takeWhile Lex.within) k]).map Tok.row from by simp [Tok.row]] at st
            obtain ⟨ab7,rfl⟩:=(st.bQ 1 rfl).ne (by simp)
            refine WO.nil (WP.reg (WO.aB (v:= .int .i64 ((k+((s.drop k).takeWhile Lex.within).length:Nat):Int)) rfl (WO.nil ?_)))
            exact ⟨g,(Nat.lt_succ_self _),k+((s.drop k).takeWhile Lex.within).length,(ts++[Tok.mk 1 ((s.drop k).takeWhile Lex.within) k]),f7,(.sl ab7 0 ((ts++[Tok.mk 1 ((s.drop k).takeWhile Lex.within) k]).map Tok.row).length none),dz1,dz2,dz3,(.bool true),(.int .u8 (b.toNat:Int)),(.bool false),(.bool false),dz10,(.bool true),(.int .i64 ((k+((s.drop k).takeWhile Lex.within).length:Nat):Int)),z13,(.bool false),(.bool false),(.int .i64 1),dz18,dz19,dz20,dz21,dz22,dz23,dz24,⟨by rw [hs,cK hb];simp [Lex.blank,one,Lex.put,c0,c1,c2,c3,c4,c5,c6,hb1,hk1,cg,Lex.word],(by omega),(by omega),(by first|omega|(simp;omega))⟩,by kernel_rfl,st.tail⟩
  ·replace c1:¬(k<s.length):=by omega
   refine WO.nil (WP.cond (t:=false) rfl (WP.exit (WP.seq (WP.reg (WO.val (v:= .int .i64 (s.length:Int)) (L.nT rfl) (WO.val (v:= .agg [.int .i64 0, .str 0 0, .int .i64 (s.length:Int)]) (L.build rfl) (WO.iY (rows:=[[.int .i64 0, .str 0 0, .int .i64 (s.length:Int)]]) st rfl (by decide) rfl (by simp) (fun bs8 h st=> ?_))))))))
   refine WO.kN st 1 rfl rfl rfl (st.aJ 0 rfl) (by decide) (by simp;omega) (fun f8 v8 h st=> ?_)
   rw [show (ts.map Tok.row)++[[V.int .i64 0,V.str 0 0,V.int .i64 (s.length:Int)]]=(ts++[Tok.mk 0 [] s.length]).map Tok.row from by simp [Tok.row];rfl] at st
   obtain ⟨ab8,rfl⟩:=(st.bQ 1 rfl).ne (by simp)
   refine WO.aB (v:= .int .i64 0) rfl (WO.aB (v:= .int .i64 0) rfl (WO.nil (WP.ret ?_)))
   have hz:s.drop k=[]:=List.drop_of_length_le (by omega)
   have hE:Lex.all (s.length+1) 0 s []= .ok (ts++[⟨0,[],s.length⟩]):=by
    rw [hs,hz,show k=s.length by omega];rfl
   rw [hE]
   exact ⟨_,(ak (aD (v:= .sl ab8 0 (((ts++[Tok.mk 0 [] s.length]).map Tok.row).length) none) rfl) (ak (aD (v:= .int .i64 0) rfl) (ak (aD (v:= .int .i64 0) rfl) (aF _ _)))),_,rfl,(st.tail).shut (by decide)⟩
end
end Go.Eng.YtjobofnpmmjeoaaGreatDoor
namespace Go.Eng.YtjobofnpmmjeoaaGreatDoor
open Go.Eng
noncomputable section
variable {c:Ctx}
theorem lX (D:ko c) {fs:List Fact} {h:Heap} {p:RP} {i d e a:Nat} {S:Par.SQ} (st:St (p.bD i d e a::p.toks::fs) h) (hx:XAt p i e a S):
 aV c 19 [.ptr p.rb 0] h fun v h1=>v= .int .i64 (aL p i:Int)∧St (p.bD i d e a::p.toks::fs) h1:=by
 obtain ⟨t,ht,hrow⟩:=hx.row
 rw [wS ht]
 refine aV.dh D.f19 rfl (WP.seq (WP.reg (WO.aB (v:= .int .i64 0) rfl (WO.nil (WP.seq (WP.draw (WD.val (v:= .ptr p.rb 0) rfl (WD.val (v:= .ptr p.rb 0) rfl (WD.val (v:= .ptr p.rb 0) (L.aA rfl) (WD.val (v:= .sl p.tb p.to p.ts.length p.cap) (L.aC rfl (st.aj 0 rfl) rfl) (WD.val (v:= .ptr p.rb 0) rfl (WD.val (v:= .ptr p.rb 0) rfl (WD.val (v:= .ptr p.rb 1) (L.aA rfl) (WD.val (v:= .int .i64 (i:Int)) (L.aC rfl (st.aj 0 rfl) rfl) (WD.val (v:= .ptr p.tb (p.to+i * 3)) (L.bT rfl rfl hx.lt) (WD.val (v:= .ptr p.tb (p.to+i * 3+2)) (L.aA rfl) (WD.val (v:= .int .i64 (t.at_:Int)) (L.load rfl ((st.aJ 1 rfl).yV hrow (show _=some _ from rfl))) (WD.aB (v:= .int .i64 (t.at_:Int)) rfl (WD.nil (WP.ret ?_))))))))))))))))))))
 exact ⟨_,(ak (aD (v:= .int .i64 (t.at_:Int)) rfl) (aF _ _)),(rfl),st⟩
theorem uI (D:ko c) {fs:List Fact} {h:Heap} {p:RP} {i d e a:Nat} {S:Par.SQ} {s:List UInt8} (st:St (p.bD i d e a::p.toks::fs) h) (hx:XAt p i e a S):
 aV c 21 [.ptr p.rb 0,L.str s] h fun v h1=>v= .bool (Par.isS s S)∧St (p.bD i d e a::p.toks::fs) h1:=by
 obtain ⟨t,ht,hrow⟩:=hx.row
 rw [hx.isS_eq ht]
 refine aV.dh D.f21 rfl (WP.seq (WP.reg (WO.aB (v:= .bool false) rfl (WO.nil (WP.seq (WP.draw (WD.val (v:= .ptr p.rb 0) rfl (WD.val (v:= .ptr p.rb 0) rfl (WD.val (v:= .ptr p.rb 0) (L.aA rfl) (WD.val (v:= .sl p.tb p.to p.ts.length p.cap) (L.aC rfl (st.aj 0 rfl) rfl) (WD.val (v:= .ptr p.rb 0) rfl (WD.val (v:= .ptr p.rb 0) rfl (WD.val (v:= .ptr p.rb 1) (L.aA rfl) (WD.val (v:= .int .i64 (i:Int)) (L.aC rfl (st.aj 0 rfl) rfl) (WD.val (v:= .ptr p.tb (p.to+i * 3)) (L.bT rfl rfl hx.lt) (WD.val (v:= .agg [.int .i64 (t.kind:Int),L.str t.text, .int .i64 (t.at_:Int)]) (L.aY rfl ((st.aJ 1 rfl).aY hrow)) (WD.bL st L.alloc (fun b1 h st=> ?_))))))))))))))))))
 refine WD.aG (row':=[.int .i64 (t.kind:Int),L.str t.text, .int .i64 (t.at_:Int)]) st 0 rfl rfl rfl rfl rfl rfl rfl (fun h st=>rfl) (fun h st=> ?_)
 refine WD.nil (WP.seq (WP.reg (WO.val (v:= .ptr p.rb 0) rfl (WO.val (v:= .ptr p.rb 3) (L.aA rfl) (WO.val (v:= .int .i64 (e:Int)) (L.aC rfl (st.aj 1 rfl) rfl) (WO.ifV (L.eql rfl rfl) (fun c1=> ?_) (fun c1=> ?_)))))))
 ·replace c1:e=0:=by omega
  refine WO.yes rfl (WO.val (v:= .ptr b1 0) (L.aA rfl) (WO.yes rfl (WO.val (v:= .int .i64 (t.kind:Int)) (L.aC rfl (st.aj 0 rfl) rfl) (WO.yes rfl (WO.ifV (L.eql rfl rfl) (fun c2=> ?_) (fun c2=> ?_))))))
  ·replace c2:t.kind=4:=by omega
   refine WO.yes rfl (WO.val (v:= .bool true) rfl (WO.no rfl (WO.no rfl (WO.no rfl (WO.yes rfl (WO.val (v:= .bool true) rfl (WO.val (v:= .bool true) rfl (WO.yes rfl (WO.val (v:= .ptr b1 1) (L.aA rfl) (WO.yes rfl (WO.val (v:=L.str t.text) (L.aC rfl (st.aj 0 rfl) rfl) (WO.yes rfl (WO.val (v:=L.str s) rfl (WO.yes rfl (WO.ifV (L.seq rfl rfl) (fun c3=> ?_) (fun c3=> ?_))))))))))))))))
   ·refine WO.aB (v:= .bool true) rfl (WO.nil (WP.ret ?_))
    exact ⟨_,(ak (aD (v:= .bool true) rfl) (aF _ _)),((by simp [one, *])),st.tail⟩
   ·refine WO.aB (v:= .bool false) rfl (WO.nil (WP.ret ?_))
    exact ⟨_,(ak (aD (v:= .bool false) rfl) (aF _ _)),((by simp [one, *])),st.tail⟩
  ·replace c2:¬(t.kind=4):=by omega
   refine WO.yes rfl (WO.val (v:= .bool false) rfl (WO.yes rfl (WO.val (v:= .ptr b1 0) (L.aA rfl) (WO.yes rfl (WO.val (v:= .int .i64 (t.kind:Int)) (L.aC rfl (st.aj 0 rfl) rfl) (WO.yes rfl (WO.ifV (L.eql rfl rfl) (fun c4=> ?_) (fun c4=> ?_))))))))
   ·replace c4:t.kind=3:=by omega
    refine WO.yes rfl (WO.val (v:= .bool true) rfl (WO.val (v:= .bool true) rfl (WO.yes rfl (WO.val (v:= .ptr b1 1) (L.aA rfl) (WO.yes rfl (WO.val (v:=L.str t.text) (L.aC rfl (st.aj 0 rfl) rfl) (WO.yes rfl (WO.val (v:=L.str s) rfl (WO.yes rfl (WO.ifV (L.seq rfl rfl) (fun c5=> ?_) (fun c5=> ?_)))))))))))
    ·refine WO.aB (v:= .bool true) rfl (WO.nil (WP.ret ?_))
     exact ⟨_,(ak (aD (v:= .bool true) rfl) (aF _ _)),((by simp [one, *])),st.tail⟩
    ·refine WO.aB (v:= .bool false) rfl (WO.nil (WP.ret ?_))
     exact ⟨_,(ak (aD (v:= .bool false) rfl) (aF _ _)),((by simp [one, *])),st.tail⟩
   ·replace c4:¬(t.kind=3):=by omega
    refine WO.yes rfl (WO.val (v:= .bool false) rfl (WO.val (v:= .bool false) rfl (WO.no rfl (WO.no rfl (WO.no rfl (WO.no rfl (WO.aB (v:= .bool false) rfl (WO.nil (WP.ret ?_)))))))))
    exact ⟨_,(ak (aD (v:= .bool false) rfl) (aF _ _)),((by simp [one, *])),st.tail⟩
 ·replace c1:¬(e=0):=by omega
  refine WO.no rfl (WO.no rfl (WO.no rfl (WO.no rfl (WO.no rfl (WO.no rfl (WO.no rfl (WO.no rfl (WO.val (v:= .bool false) rfl (WO.no rfl (WO.no rfl (WO.no rfl (WO.no rfl (WO.aB (v:= .bool false) rfl (WO.nil (WP.ret ?_)))))))))))))))
  exact ⟨_,(ak (aD (v:= .bool false) rfl) (aF _ _)),((by simp [one, *])),st.tail⟩
theorem eF (D:ko c) {fs:List Fact} {h:Heap} {p:RP} {i d e a:Nat} {S:Par.SQ} {s:List UInt8} (st:St (p.bD i d e a::p.toks::fs) h) (hx:XAt p i e a S):
 aV c 22 [.ptr p.rb 0,L.str s] h fun v h1=>(v= .bool true∧(∃l,S= .ok l∧e=0∧a=0∧Par.is s l=true∧Left p (i+1) l.tail)∧St (p.bD (i+1) d 0 0::p.toks::fs) h1)∨(v= .bool false∧Par.isS s S=false∧St (p.bD i d e a::p.toks::fs) h1):=by
 refine aV.dh D.f22 rfl (WP.seq (WP.reg (WO.aB (v:= .bool false) rfl (WO.nil (WP.seq (WP.seq (WP.reg (WO.aM rfl (uI D st hx) ?_))))))))
 rintro _ h ⟨rfl,st⟩
 cases his:Par.isS s S
 ·refine WO.aB (v:= .bool true) rfl (WO.nil (WP.cond (t:=true) rfl (WP.seq (WP.reg (WO.aB (v:= .bool false) rfl (WO.nil (WP.ret ?_)))))))
  exact ⟨_,(ak (aD (v:= .bool false) rfl) (aF _ _)),Or.inr ⟨rfl,rfl,st⟩⟩
 ·obtain ⟨l,hS,he,ha,hi,hl⟩:=hx.isS his
  have hsm:=hx.small
  have hlt:=hl.lt
  refine WO.aB (v:= .bool false) rfl (WO.nil (WP.cond (t:=false) rfl (WP.skip (WP.seq (WP.reg (WO.val (v:= .ptr p.rb 0) rfl (WO.val (v:= .ptr p.rb 1) (L.aA rfl) (WO.val (v:= .int .i64 (i:Int)) (L.aC rfl (st.aj 0 rfl) rfl) (WO.val (v:= .int .i64 ((i+1:Nat):Int)) (L.fQ rfl rfl (by omega) (And.intro (by omega) (by omega))) (WO.val (v:= .ptr p.rb 0) rfl (WO.val (v:= .ptr p.rb 1) (L.aA rfl) (WO.aG (row':=[.sl p.tb p.to p.ts.length p.cap, .int .i64 ((i+1:Nat):Int), .int .i64 (d:Int), .int .i64 (e:Int), .int .i64 (a:Int)]) st 0 rfl rfl rfl rfl rfl rfl rfl (fun h st=> ?_)))))))))))))
  refine WO.nil (WP.seq (WP.reg (WO.aB (v:= .bool true) rfl (WO.nil (WP.ret ?_)))))
  exact ⟨_,(ak (aD (v:= .bool true) rfl) (aF _ _)),Or.inl ⟨rfl,⟨l,hS,he,ha,hi,hl.is hi⟩,by subst he ha;exact st⟩⟩
theorem mY (D:ko c) {fs:List Fact} {h:Heap} {p:RP} {i d e a:Nat} {S:Par.SQ} {k:Nat} (st:St (p.bD i d e a::p.toks::fs) h) (hx:XAt p i e a S) (hk:k≠0):
 aV c 33 [.ptr p.rb 0, .int .i64 (k:Int)] h fun v h1=>v= .tup []∧∃e' a',e'≠0∧XAt p i e' a' (Par.yh k S)∧St (p.bD i d e' a'::p.toks::fs) h1:=by
 obtain ⟨t,ht,hrow⟩:=hx.row
 refine aV.dh D.f33 rfl (WP.seq (WP.reg (WO.val (v:= .ptr p.rb 0) rfl (WO.val (v:= .ptr p.rb 3) (L.aA rfl) (WO.val (v:= .int .i64 (e:Int)) (L.aC rfl (st.aj 0 rfl) rfl) (WO.ifS (L.eql rfl rfl) (fun ce=> ?_) (fun ce=> ?_)))))))
 ·replace ce:e=0:=by omega
  obtain ⟨l1,hS1,ha1,hl1⟩:=hx.good ce
  subst hS1 ha1 ce
  refine WO.nil (WP.cond (t:=true) rfl (WP.seq (WP.reg (WO.val (v:= .ptr p.rb 0) rfl (WO.val (v:= .ptr p.rb 3) (L.aA rfl) (WO.aG (row':=[.sl p.tb p.to p.ts.length p.cap, .int .i64 (i:Int), .int .i64 (d:Int), .int .i64 (k:Int), .int .i64 0]) st 0 rfl rfl rfl rfl rfl rfl rfl (fun h st=> ?_)))))))
  refine WO.nil (WP.draw (WD.val (v:= .ptr p.rb 0) rfl (WD.val (v:= .ptr p.rb 0) rfl (WD.val (v:= .ptr p.rb 0) rfl (WD.val (v:= .ptr p.rb 0) (L.aA rfl) (WD.val (v:= .sl p.tb p.to p.ts.length p.cap) (L.aC rfl (st.aj 0 rfl) rfl) (WD.val (v:= .ptr p.rb 0) rfl (WD.val (v:= .ptr p.rb 0) rfl (WD.val (v:= .ptr p.rb 1) (L.aA rfl) (WD.val (v:= .int .i64 (i:Int)) (L.aC rfl (st.aj 0 rfl) rfl) (WD.val (v:= .ptr p.tb (p.to+i * 3)) (L.bT rfl rfl (XAt.ok hl1).lt) (WD.val (v:= .ptr p.tb (p.to+i * 3+2)) (L.aA rfl) (WD.val (v:= .int .i64 (aL p i:Int)) (by rw [wS ht];exact L.load rfl ((st.aJ 1 rfl).yV hrow (show _=some _ from rfl))) (WD.val (v:= .ptr p.rb 0) rfl (WD.val (v:= .ptr p.rb 4) (L.aA rfl) (WD.aG (row':=[.sl p.tb p.to p.ts.length p.cap, .int .i64 (i:Int), .int .i64 (d:Int), .int .i64 (k:Int), .int .i64 (aL p i:Int)]) st 0 rfl rfl rfl rfl rfl rfl rfl (fun h st=>rfl) (fun h st=> ?_)))))))))))))))))
  refine WD.nil ?_
  exact ⟨_,(aF _ _),rfl,k,_,hk,by rw [hl1.here];exact XAt.err hk hx.lt hx.small,st⟩
 ·replace ce:e≠0:=by omega
  have hbad:=hx.bad ce
  refine WO.nil (WP.cond (t:=false) rfl (WP.skip ?_))
  exact ⟨_,(aF _ _),rfl,e,a,ce,by rw [hbad];exact XAt.err ce hx.lt hx.small,st⟩
theorem cu (D:ko c) {fs:List Fact} {h:Heap} {p:RP} {i d e a:Nat} {S:Par.SQ} {s:List UInt8} (st:St (p.bD i d e a::p.toks::fs) h) (hx:XAt p i e a S):
 aV c 18 [.ptr p.rb 0,L.str s] h fun v h1=>∃(x:Nat) (S':Par.SQ) (i' e' a':Nat),v= .tup []∧Stp p S i (Par.must s) x S' i' e' a'∧St (p.bD i' d e' a'::p.toks::fs) h1:=by
 refine aV.dh D.f18 rfl (WP.seq (WP.reg (WO.aM rfl (eF (s:=s) D st hx) ?_)))
 rintro _ h (⟨rfl,⟨l1,hS1,he1,ha1,hi,hl1⟩,stn⟩|⟨rfl,hi,stn⟩)
 ·subst hS1 he1 ha1
  replace st:St ((p.bD (i+1) d 0 0)::p.toks::fs) h:=stn
  have lt1:=hl1.lt
  refine WO.aB (v:= .bool false) rfl (WO.nil (WP.cond (t:=false) rfl (WP.skip ?_)))
  exact ⟨_,(aF _ _),Par.here l1,_,_,_,_,rfl,⟨.ok hl1,Par.Res.qN (by unfold Par.must;rw [if_pos hi]),by omega⟩,st⟩
 ·replace st:St ((p.bD i d e a)::p.toks::fs) h:=stn
  refine WO.aB (v:= .bool true) rfl (WO.nil (WP.cond (t:=true) rfl (WP.reg (WO.aM rfl (mY D st hx (by decide)) ?_))))
  rintro _ h ⟨rfl,ef,af,hef,hxf,st⟩
  refine WO.nil ?_
  exact ⟨_,(aF _ _),0,_,_,_,_,rfl,⟨hxf,Par.Res.must_no hi,by omega⟩,st⟩
theorem jf (D:ko c) {fs:List Fact} {h:Heap} {p:RP} {i d e a:Nat} {S:Par.SQ} (st:St (p.bD i d e a::p.toks::fs) h) (hx:XAt p i e a S):
 aV c 20 [.ptr p.rb 0] h fun v h1=>∃(x:List UInt8) (S':Par.SQ) (i' e' a':Nat),v=L.str x∧Stp p S i (Par.name) x S' i' e' a'∧St (p.bD i' d e' a'::p.toks::fs) h1:=by
 obtain ⟨t,ht,hrow⟩:=hx.row
 have hsm:=hx.small
 have hlt:=hx.lt
 refine aV.dh D.f20 rfl (WP.seq (WP.reg (WO.aB (v:= .str 0 0) rfl (WO.nil (WP.seq (WP.draw (WD.val (v:= .ptr p.rb 0) rfl (WD.val (v:= .ptr p.rb 0) rfl (WD.val (v:= .ptr p.rb 0) (L.aA rfl) (WD.val (v:= .sl p.tb p.to p.ts.length p.cap) (L.aC rfl (st.aj 0 rfl) rfl) (WD.val (v:= .ptr p.rb 0) rfl (WD.val (v:= .ptr p.rb 0) rfl (WD.val (v:= .ptr p.rb 1) (L.aA rfl) (WD.val (v:= .int .i64 (i:Int)) (L.aC rfl (st.aj 0 rfl) rfl) (WD.val (v:= .ptr p.tb (p.to+i * 3)) (L.bT rfl rfl hx.lt) (WD.val (v:= .agg [.int .i64 (t.kind:Int),L.str t.text, .int .i64 (t.at_:Int)]) (L.aY rfl ((st.aJ 1 rfl).aY hrow)) (WD.bL st L.alloc (fun b1 h st=> ?_))))))))))))))))))
 refine WD.aG (row':=[.int .i64 (t.kind:Int),L.str t.text, .int .i64 (t.at_:Int)]) st 0 rfl rfl rfl rfl rfl rfl rfl (fun h st=>rfl) (fun h st=> ?_)
 refine WD.nil (WP.seq (WP.seq (WP.reg (WO.val (v:= .ptr p.rb 0) rfl (WO.val (v:= .ptr p.rb 3) (L.aA rfl) (WO.val (v:= .int .i64 (e:Int)) (L.aC rfl (st.aj 1 rfl) rfl) (WO.ifV (L.neq rfl rfl) (fun ce=> ?_) (fun ce=> ?_))))))))
 ·replace ce:e≠0:=by omega
  have hbad:=hx.bad ce
  refine WO.no rfl (WO.no rfl (WO.no rfl (WO.aB (v:= .bool true) rfl (WO.nil (WP.cond (t:=true) rfl (WP.seq (WP.reg (WO.aM rfl (mY D ((st.pick 2 rfl).pick 2 rfl) hx (by decide)) ?_))))))))
  rintro _ h ⟨rfl,ef,af,hef,hxf,st⟩
  refine WO.nil (WP.seq (WP.reg (WO.aB (v:= .str 0 0) rfl (WO.nil (WP.ret ?_)))))
  exact ⟨_,(ak (aD (v:= .str 0 0) rfl) (aF _ _)),[],_,_,_,_,rfl,⟨hxf,Par.Res.Ll (fun l hS=>by rw [hbad] at hS;cases hS),by omega⟩,(st.pick 2 rfl).tail⟩
 ·replace ce:e=0:=by omega
  obtain ⟨l1,hS1,ha1,hl1⟩:=hx.good ce
  subst hS1 ha1 ce
  have hx:XAt p i 0 0 (.ok l1):= .ok hl1
  refine WO.yes rfl (WO.val (v:= .ptr b1 0) (L.aA rfl) (WO.yes rfl (WO.val (v:= .int .i64 (t.kind:Int)) (L.aC rfl (st.aj 0 rfl) rfl) (WO.yes rfl (WO.ifV (L.neq rfl rfl) (fun ck=> ?_) (fun ck=> ?_))))))
  ·replace ck:t.kind≠1:=by omega
   have hdt:=hx.hd ht
   refine WO.aB (v:= .bool true) rfl (WO.nil (WP.cond (t:=true) rfl (WP.seq (WP.reg (WO.aM rfl (mY D ((st.pick 2 rfl).pick 2 rfl) (XAt.ok hl1) (by decide)) ?_)))))
   rintro _ h ⟨rfl,ef,af,hef,hxf,st⟩
   refine WO.nil (WP.seq (WP.reg (WO.aB (v:= .str 0 0) rfl (WO.nil (WP.ret ?_)))))
   exact ⟨_,(ak (aD (v:= .str 0 0) rfl) (aF _ _)),[],_,_,_,_,rfl,⟨hxf,Par.Res.Ll (fun l hS=>by cases hS;rw [hdt];exact ck),by omega⟩,(st.pick 2 rfl).tail⟩
  ·replace ck:t.kind=1:=by omega
   have hdt:=hx.hd ht
   refine WO.aB (v:= .bool false) rfl (WO.nil (WP.cond (t:=false) rfl (WP.skip (WP.seq (WP.reg (WO.val (v:= .ptr p.rb 0) rfl (WO.val (v:= .ptr p.rb 1) (L.aA rfl) (WO.val (v:= .int .i64 (i:Int)) (L.aC rfl (st.aj 1 rfl) rfl) (WO.val (v:= .int .i64 ((i+1:Nat):Int)) (L.fQ rfl rfl (by omega) (And.intro (by omega) (by omega))) (WO.val (v:= .ptr p.rb 0) rfl (WO.val (v:= .ptr p.rb 1) (L.aA rfl) (WO.aG (row':=[.sl p.tb p.to p.ts.length p.cap, .int .i64 ((i+1:Nat):Int), .int .i64 (d:Int), .int .i64 0, .int .i64 0]) st 1 rfl rfl rfl rfl rfl rfl rfl (fun h st=> ?_)))))))))))))
   refine WO.nil (WP.seq (WP.reg (WO.val (v:= .ptr b1 1) (L.aA rfl) (WO.aB (v:=L.str t.text) (L.aC rfl (st.aj 0 rfl) rfl) (WO.nil (WP.ret ?_))))))
   exact ⟨_,(ak (aD (v:=L.str t.text) rfl) (aF _ _)),t.text,_,_,_,_,rfl,⟨.ok (hl1.tail (by rw [hdt];omega)),by rw [←hdt];exact Par.Res.name_ok (by rw [hdt];exact ck),by omega⟩,st.tail⟩
theorem RG (D:ko c) {fs:List Fact} {h:Heap} {p:RP} {i d e a:Nat} {S:Par.SQ} {s:List UInt8} (st:St (p.bD i d e a::p.toks::fs) h) (hx:XAt p i e a S) (hno:Par.isS s S=false):
 aV c 22 [.ptr p.rb 0,L.str s] h fun v h1=>v= .bool false∧St (p.bD i d e a::p.toks::fs) h1:=by
 obtain ⟨v,h1,hr,hp⟩:=eF (s:=s) D st hx
 refine ⟨v,h1,hr, ?_⟩
 rcases hp with ⟨_,⟨l,rfl,_,_,hi,_⟩,_⟩|⟨hv,_,st⟩
 ·exact absurd (show Par.is s l=false from hno) (by rw [hi];decide)
 ·exact ⟨hv,st⟩
theorem NR (D:ko c) {fs:List Fact} {h:Heap} {s:List UInt8} (st:St fs h):
 aV c 8 [L.str s] h fun v h1=>match Par.rows s with
  | .ok m=>∃x,v= .tup [x, .int .i64 0, .int .i64 0]∧x.bM=some [x]∧St (.stb (fun h=>Rows 3 h x (m.map Pm.row))::fs) h1
  | .error (e,a)=>e≠0∧v= .tup [.slN, .int .i64 (e:Int), .int .i64 (a:Int)]∧St fs h1:=by
 refine aV.dh D.f8 rfl (WP.seq (WP.reg (WO.aB (v:= .slN) rfl (WO.aB (v:= .int .i64 0) rfl (WO.aB (v:= .int .i64 0) rfl (WO.nil (WP.seq (WP.reg ?_))))))))
 have hc:=RF (s:=s) D st
 cases hsp:Lex.lex s with
 |error z=>
  obtain ⟨ex,ax⟩:=z
  rw [hsp] at hc
  refine WO.aM rfl hc ?_
  rintro _ h ⟨rfl,st⟩
  have hex:=Ap hsp
  refine WO.val (v:= .slN) rfl (WO.val (v:= .int .i64 (ex:Int)) rfl (WO.val (v:= .int .i64 (ax:Int)) rfl (WO.aB (v:= .slN) rfl (WO.aB (v:= .int .i64 (ex:Int)) rfl (WO.aB (v:= .int .i64 (ax:Int)) rfl (WO.nil (WP.seq (WP.seq (WP.reg (WO.ifS (L.neq rfl rfl) (fun c_=> ?_) (fun c_=>by exfalso;omega)))))))))))
  refine WO.nil (WP.cond (t:=true) rfl (WP.seq (WP.reg (WO.aB (v:= .slN) rfl (WO.aB (v:= .int .i64 (ex:Int)) rfl (WO.aB (v:= .int .i64 (ax:Int)) rfl (WO.nil (WP.ret ?_))))))))
  have hE:Par.rows s= .error (ex,ax):=by unfold Par.rows;rw [hsp]
  rw [hE]
  exact ⟨_,(ak (aD (v:= .slN) rfl) (ak (aD (v:= .int .i64 (ex:Int)) rfl) (ak (aD (v:= .int .i64 (ax:Int)) rfl) (aF _ _)))),hex,rfl,st⟩
 |ok ts=>
  rw [hsp] at hc
  refine WO.aM rfl hc ?_
  rintro _ h ⟨y,rfl,st⟩
  obtain ⟨p0,rfl,rfl⟩:=Ao st (uH hsp ⟨0,0,0,none,ts⟩ rfl).2
  refine WO.val (v:= .sl p0.tb p0.to p0.ts.length p0.cap) rfl (WO.val (v:= .int .i64 0) rfl (WO.val (v:= .int .i64 0) rfl (WO.aB (v:= .sl p0.tb p0.to p0.ts.length p0.cap) rfl (WO.aB (v:= .int .i64 0) rfl (WO.aB (v:= .int .i64 0) rfl (WO.nil (WP.seq (WP.seq (WP.reg (WO.ifS (L.neq rfl rfl) (fun c_=>by exfalso;omega) (fun c_=> ?_)))))))))))
  refine WO.nil (WP.cond (t:=false) rfl (WP.skip (WP.seq (WP.reg (WO.val (v:= .agg [.sl p0.tb p0.to p0.ts.length p0.cap, .int .i64 0, .int .i64 0, .int .i64 0, .int .i64 0]) (L.build rfl) (WO.bL st (L.box (l:=[.sl p0.tb p0.to p0.ts.length p0.cap, .int .i64 0, .int .i64 0, .int .i64 0, .int .i64 0]) rfl rfl) (fun rb h st=> ?_)))))))
  obtain ⟨p,hp,hpr,hpt,hpo,hpc,hlf⟩:∃p:RP,p.ts=p0.ts∧p.rb=rb∧p.tb=p0.tb∧p.to=p0.to∧p.cap=p0.cap∧Left p 0 p.ts:=⟨{p0 with rb:=rb},rfl,rfl,rfl,rfl,rfl,(uH hsp {p0 with rb:=rb} rfl).1⟩
  rw [←hp] at hsp
  rw [←hp,←hpr,←hpt,←hpo,←hpc] at st
  rw [←hp,←hpr,←hpt,←hpo,←hpc]
  refine WO.nil (WP.seq (WP.reg (WO.aB (v:= .slN) rfl (WO.nil (WP.seq (WP.reg (WO.aM rfl (cu (s:=[108,97,98,101,108,115]) D st (XAt.ok hlf)) ?_)))))))
  rintro _ h ⟨x1,S1,i1,e1,a1,rfl,q1,st⟩
  have ad1:=q1.adv
  have lt1:=q1.at_.lt
  refine WO.nil (WP.seq (WP.block ?_))
  replace st:St (.acc 0 3 .slN (([]:List Pm).map Pm.row)::(p.bD i1 0 e1 a1)::p.toks::fs) h:=st.acc0 3
  have ltS:=q1.at_
  refine WP.eO (α:=Nat) (fun k env h=>∃Sz iz ez az xz fz vz dz9 dz10 dz11 dz12 dz14 dz15,((∀y S',Par.Res Sz (fun l=>Par.fI k l xz) y S'→Par.Res S1 (fun l=>Par.fI l.length l []) y S')∧XAt p iz ez az Sz∧(ez=0→p.ts.length≤iz+k)∧xz.length≤iz+min ez 1)∧env=bG [L.str s, .slN, .int .i64 0, .int .i64 0, .int .i64 0, .bool false, .int .i64 0, .sl p.tb p.to p.ts.length p.cap, .ptr p.rb 0,dz9,dz10,dz11,dz12,vz,dz14,dz15] 0 Env.nil∧St ((p.bD iz 0 ez az)::p.toks:: .acc fz 3 vz (xz.map Pm.row)::fs) h) (fun k=>k) (Par.SQ.len S1) ?_ ?_
  ·exact ⟨S1,i1,e1,a1,[],0, .slN, .bot, .bot, .bot, .bot, .bot, .bot,⟨fun _ _ r=>Par.Res.len (F:=fun n l=>Par.fI n l []) r,ltS,ltS.fuel,Nat.zero_le _⟩,by kernel_rfl,((st.pick 2 rfl).pick 2 rfl)⟩
  rintro k _ h ⟨Sz,iz,ez,az,xz,fz,vz,dz9,dz10,dz11,dz12,dz14,dz15,⟨hs,hz,hk,hxl⟩,rfl,st⟩
  have ltz:=hz.lt
  have smz:=hz.small
  refine WP.seq (WP.seq (WP.draw (WD.val (v:= .ptr p.rb 0) rfl (WD.val (v:= .ptr p.rb 0) rfl (WD.val (v:= .ptr p.rb 3) (L.aA rfl) (WD.val (v:= .int .i64 (ez:Int)) (L.aC rfl (st.aj 0 rfl) rfl) (WD.ifV (L.eql rfl rfl) (fun _ ce=> ?_) (fun _ ce=> ?_))))))))
  ·replace ce:ez=0:=by omega
   obtain ⟨l2,hS2,ha2,hl2⟩:=hz.good ce
   subst hS2 ha2 ce
   refine WD.val (v:= .bool true) rfl (WD.yes rfl (WD.val (v:= .ptr p.rb 0) rfl (WD.yes rfl (WD.val (v:= .ptr p.rb 0) rfl (WD.yes rfl (WD.val (v:= .ptr p.rb 0) (L.aA rfl) (WD.yes rfl (WD.val (v:= .sl p.tb p.to p.ts.length p.cap) (L.aC rfl (st.aj 0 rfl) rfl) (WD.yes rfl (WD.val (v:= .ptr p.rb 0) rfl (WD.yes rfl (WD.val (v:= .ptr p.rb 0) rfl (WD.yes rfl (WD.val (v:= .ptr p.rb 1) (L.aA rfl) (WD.yes rfl (WD.val (v:= .int .i64 (iz:Int)) (L.aC rfl (st.aj 0 rfl) rfl) (WD.yes rfl (WD.val (v:= .ptr p.tb (p.to+iz * 3)) (L.bT rfl rfl (XAt.ok hl2).lt) (WD.yes rfl (WD.val (v:= .ptr p.tb (p.to+iz * 3+0)) (L.aA rfl) (WD.yes rfl ?_)))))))))))))))))))))
   obtain ⟨t,ht,hrow⟩:=(XAt.ok hl2).row
   have hdt:=(XAt.ok hl2).hd ht
   refine WD.val (v:= .int .i64 ((Par.hd l2).kind:Int)) (by rw [hdt];exact L.load rfl ((st.aJ 1 rfl).yV hrow (show _=some _ from rfl))) (WD.yes rfl (WD.ifV (L.neq rfl rfl) (fun _ ckd=> ?_) (fun _ ckd=> ?_)))
   ·replace ckd:(Par.hd l2).kind≠0:=by omega
    obtain ⟨k,rfl⟩:∃m,k=m+1:=⟨k - 1,by omega⟩
    refine WD.aB (v:= .bool true) rfl (WD.nil (WP.cond (t:=true) rfl (WP.skip (WP.block (WP.seq (WP.reg (WO.aU rfl (lX D st (XAt.ok hl2)) ?_)))))))
    rintro _ h ⟨rfl,st⟩
    refine WO.nil (WP.seq (WP.reg (WO.aU rfl (jf D st (XAt.ok hl2)) ?_)))
    rintro _ h ⟨x3,S3,i3,e3,a3,rfl,q3,st⟩
    have ad3:=q3.adv
    have lt3:=q3.at_.lt
    refine WO.nil (WP.seq (WP.seq (WP.reg (WO.aM rfl (uI (s:=[60]) D st q3.at_) ?_))))
    rintro _ h ⟨rfl,st⟩
    cases hi1:Par.isS [60] S3
    ·refine WO.aB (v:= .bool true) rfl (WO.nil (WP.cond (t:=true) rfl (WP.reg (WO.val (v:= .agg [L.str x3, .str 0 0, .int .i64 (aL p iz:Int)]) (L.build rfl) (WO.iY (rows:=[[L.str x3, .str 0 0, .int .i64 (aL p iz:Int)]]) st rfl (by decide) rfl (by simp) (fun bs1 h st=> ?_))))))
     refine WO.kN st 3 rfl rfl rfl (st.aJ 0 rfl) (by decide) (by simp;omega) (fun f4 v4 h st=> ?_)
     rw [show (xz.map Pm.row)++[[L.str x3,V.str 0 0,V.int .i64 (aL p iz:Int)]]=(xz++[Pm.mk x3 [] (aL p iz)]).map Pm.row from by simp [Pm.row];rfl] at st
     obtain ⟨ab4,rfl⟩:=(st.bQ 3 rfl).ne (by simp)
     refine WO.nil (WP.seq (WP.block ?_))
     have hR:=Par.Eo (k:=S3.len) (last:=x3) (x:=xz) (al:=true) hi1 (fun l e=>by have:=q3.at_;rw [e] at this ⊢;exact List.length_pos_iff.2 this.ok0.2.2.ne)
     replace hR:=Par.Res.len (F:=fun k l=>Par.mM k l x3 xz true) hR
     refine WP.eO (α:=Nat) (fun u env h=>∃dz14 dz15,True∧env=bG [L.str s, .slN, .int .i64 0, .int .i64 0, .int .i64 0, .bool false, .int .i64 0, .sl p.tb p.to p.ts.length p.cap, .ptr p.rb 0, .bool true, .bool true,L.str x3, .int .i64 (aL p iz:Int), .sl ab4 0 (((xz++[Pm.mk x3 [] (aL p iz)]).map Pm.row).length) none,dz14,dz15] 0 Env.nil∧St (.stb (fun h=>Rows 3 h (.sl bs1 0 1 (some 1)) [[L.str x3, .str 0 0, .int .i64 (aL p iz:Int)]])::(p.bD i3 0 e3 a3)::p.toks:: .acc f4 3 (.sl ab4 0 ((xz++[Pm.mk x3 [] (aL p iz)]).map Pm.row).length none) ((xz++[Pm.mk x3 [] (aL p iz)]).map Pm.row)::fs) h) (fun u=>u) 0 ?_ ?_
     ·exact ⟨dz14,dz15,trivial,by kernel_rfl,st⟩
     rintro u _ h ⟨dz14,dz15,hpre,rfl,st⟩
     refine WP.seq (WP.seq (WP.reg (WO.aU rfl (RG D ((st.pick 2 rfl).pick 2 rfl) q3.at_ hi1) ?_)))
     rintro _ h ⟨rfl,st⟩
     refine WO.nil (WP.cond (t:=false) rfl (WP.exit (WP.reg (WO.aM rfl (cu (s:=[59]) D st q3.at_) ?_))))
     rintro _ h ⟨x5,S5,i5,e5,a5,rfl,q5,st⟩
     have ad5:=q5.adv
     have lt5:=q5.at_.lt
     refine WO.nil ?_
     exact ⟨k,(Nat.lt_succ_self _),S5,i5,e5,a5,(xz++[Pm.mk x3 [] (aL p iz)]),f4,(.sl ab4 0 ((xz++[Pm.mk x3 [] (aL p iz)]).map Pm.row).length none),(.bool true),(.bool true),(L.str x3),(.int .i64 (aL p iz:Int)),(.bool false),dz15,⟨fun y S' r=>hs y S' (Par.yj ckd hl2.here q3.res hR q5.res r),q5.at_,(by omega),(by first|omega|(simp;omega))⟩,by kernel_rfl,(st.pick 2 rfl).tail⟩
    ·refine WO.aB (v:= .bool false) rfl (WO.nil (WP.cond (t:=false) rfl (WP.skip (WP.seq (WP.block (WP.eO (α:=Nat) (fun k2 env h=>∃Sq iq eq aq lq xq al fq vq dz12 dz14 dz15,((∀y S',Par.Res Sq (fun l=>Par.mM k2 l lq xq al) y S'→Par.Res S3 (fun l=>Par.mM l.length l x3 xz true) y S')∧XAt p iq eq aq Sq∧(eq=0→p.ts.length≤iq+k2)∧xq.length≤iq+min eq 1∧(al=true→Par.isS [60] Sq=true)∧iz+1≤iq+min eq 1)∧env=bG [L.str s, .slN, .int .i64 0, .int .i64 0, .int .i64 0, .bool false, .int .i64 0, .sl p.tb p.to p.ts.length p.cap, .ptr p.rb 0, .bool true, .bool false,L.str lq,dz12,vq,dz14,dz15] 0 Env.nil∧St ((p.bD iq 0 eq aq)::p.toks:: .acc fq 3 vq (xq.map Pm.row)::fs) h) (fun k2=>k2) (Par.SQ.len S3) ?_ ?_))))))
     ·exact ⟨S3,i3,e3,a3,x3,xz,true,fz,vz,(.int .i64 (aL p iz:Int)),dz14,dz15,⟨fun _ _ r=>Par.Res.len (F:=fun k l=>Par.mM k l x3 xz true) r,q3.at_,q3.at_.fuel,(by omega),(fun _=>hi1),ad3⟩,by kernel_rfl,st⟩
     rintro k2 _ h ⟨Sq,iq,eq,aq,lq,xq,al,fq,vq,dz12,dz14,dz15,⟨hs2,hq,hk2,hxl2,hal,hadq⟩,rfl,st⟩
     have ltq:=hq.lt
     have smq:=hq.small
     refine WP.seq (WP.seq (WP.reg (WO.aU rfl (eF (s:=[60]) D st hq) ?_)))
     rintro _ h (⟨rfl,⟨l6,hS6,he6,ha6,hi2,hl6⟩,stn⟩|⟨rfl,hi2,stn⟩)
     ·subst hS6 he6 ha6
      replace st:St ((p.bD (iq+1) 0 0 0)::p.toks:: .acc fq 3 vq (xq.map Pm.row)::fs) h:=stn
      have lt6:=hl6.lt
      obtain ⟨k2,rfl⟩:∃m,k2=m+1:=⟨k2 - 1,by omega⟩
      refine WO.nil (WP.cond (t:=true) rfl (WP.skip (WP.block (WP.seq (WP.reg (WO.aU rfl (lX D st (XAt.ok hl6)) ?_))))))
      rintro _ h ⟨rfl,st⟩
      refine WO.nil (WP.seq (WP.reg (WO.aU rfl (jf D st (XAt.ok hl6)) ?_)))
      rintro _ h ⟨x7,S7,i7,e7,a7,rfl,q7,st⟩
      have ad7:=q7.adv
      have lt7:=q7.at_.lt
      refine WO.nil (WP.seq (WP.reg (WO.val (v:= .agg [L.str lq,L.str x7, .int .i64 (aL p (iq+1):Int)]) (L.build rfl) (WO.iY (rows:=[[L.str lq,L.str x7, .int .i64 (aL p (iq+1):Int)]]) st rfl (by decide) rfl (by simp) (fun bs2 h st=> ?_)))))
      refine WO.kN st 3 rfl rfl rfl (st.aJ 0 rfl) (by decide) (by simp;omega) (fun f8 v8 h st=> ?_)
      rw [show (xq.map Pm.row)++[[L.str lq,L.str x7,V.int .i64 (aL p (iq+1):Int)]]=(xq++[Pm.mk lq x7 (aL p (iq+1))]).map Pm.row from by simp [Pm.row]] at st
      obtain ⟨ab8,rfl⟩:=(st.bQ 3 rfl).ne (by simp)
      refine WO.nil (WP.reg (WO.aB (v:=L.str x7) rfl (WO.nil ?_)))
      exact ⟨k2,(Nat.lt_succ_self _),S7,i7,e7,a7,x7,(xq++[Pm.mk lq x7 (aL p (iq+1))]),false,f8,(.sl ab8 0 ((xq++[Pm.mk lq x7 (aL p (iq+1))]).map Pm.row).length none),(.int .i64 (aL p (iq+1):Int)),(.bool true),(L.str x7),⟨fun y S' r=>hs2 y S' (Par.Nw hi2 hl6.here q7.res r),q7.at_,(by omega),(by simp;omega),(by intro hf;cases hf),(by omega)⟩,by kernel_rfl,st.tail⟩
     ·replace st:St ((p.bD iq 0 eq aq)::p.toks:: .acc fq 3 vq (xq.map Pm.row)::fs) h:=stn
      have hR:=hs2 _ _ (Par.Eo hi2 (fun l e=>by subst e;have:=hq.ok0.1;omega))
      obtain rfl:al=false:=by cases al with
       |false=>rfl
       |true=>exact absurd (hal rfl) (by rw [hi2];decide)
      refine WO.nil (WP.cond (t:=false) rfl (WP.exit (WP.reg (WO.aM rfl (cu (s:=[59]) D st hq) ?_))))
      rintro _ h ⟨x9,S9,i9,e9,a9,rfl,q9,st⟩
      have ad9:=q9.adv
      have lt9:=q9.at_.lt
      refine WO.nil ?_
      exact ⟨k,(Nat.lt_succ_self _),S9,i9,e9,a9,xq,fq,vq,(.bool true),(.bool false),(L.str lq),dz12,(.bool false),dz15,⟨fun y S' r=>hs y S' (Par.yj ckd hl2.here q3.res hR q9.res r),q9.at_,(by omega),(by first|omega|(simp;omega))⟩,by kernel_rfl,st⟩
   ·replace ckd:(Par.hd l2).kind=0:=by omega
    obtain ⟨k,rfl⟩:∃m,k=m+1:=⟨k - 1,by omega⟩
    refine WD.aB (v:= .bool false) rfl (WD.nil (WP.cond (t:=false) rfl (WP.exit (WP.seq (WP.seq (WP.reg (WO.val (v:= .ptr p.rb 0) rfl (WO.val (v:= .ptr p.rb 3) (L.aA rfl) (WO.val (v:= .int .i64 0) (L.aC rfl (st.aj 0 rfl) rfl) (WO.ifS (L.neq rfl rfl) (fun ce=>by exfalso;omega) (fun ce=> ?_)))))))))))
    refine WO.nil (WP.cond (t:=false) rfl (WP.skip (WP.seq (WP.reg (WO.aB (v:=vz) rfl (WO.aB (v:= .int .i64 0) rfl (WO.aB (v:= .int .i64 0) rfl (WO.nil (WP.ret ?_)))))))))
    have hF:=Par.Res.out (Par.Res.cast (fun l _=>Par.Ep l) (q1.res.bn (hs xz _ (Par.Ht ckd))))
    have hE:Par.rows s= .ok xz:=by unfold Par.rows;rw [hsp];simp only [hF]
    rw [hE]
    exact ⟨_,(ak (aD (v:=vz) rfl) (ak (aD (v:= .int .i64 0) rfl) (ak (aD (v:= .int .i64 0) rfl) (aF _ _)))),vz,rfl,(st.bQ 2 rfl).cells,(st.tail.tail).shut (by decide)⟩
  ·replace ce:ez≠0:=by omega
   have hbad:=hz.bad ce
   refine WD.val (v:= .bool false) rfl (WD.no rfl (WD.no rfl (WD.no rfl (WD.no rfl (WD.no rfl (WD.no rfl (WD.no rfl (WD.no rfl (WD.no rfl (WD.no rfl (WD.no rfl (WD.no rfl (WD.aB (v:= .bool false) rfl (WD.nil (WP.cond (t:=false) rfl (WP.exit (WP.seq (WP.seq (WP.reg (WO.val (v:= .ptr p.rb 0) rfl (WO.val (v:= .ptr p.rb 3) (L.aA rfl) (WO.val (v:= .int .i64 (ez:Int)) (L.aC rfl (st.aj 0 rfl) rfl) (WO.ifS (L.neq rfl rfl) (fun ce=> ?_) (fun ce=>by exfalso;omega))))))))))))))))))))))))
   refine WO.nil (WP.cond (t:=true) rfl (WP.seq (WP.draw (WD.val (v:= .ptr p.rb 0) rfl (WD.val (v:= .ptr p.rb 0) rfl (WD.val (v:= .ptr p.rb 3) (L.aA rfl) (WD.val (v:= .int .i64 (ez:Int)) (L.aC rfl (st.aj 0 rfl) rfl) (WD.val (v:= .ptr p.rb 0) rfl (WD.val (v:= .ptr p.rb 0) rfl (WD.val (v:= .ptr p.rb 4) (L.aA rfl) (WD.val (v:= .int .i64 (az:Int)) (L.aC rfl (st.aj 0 rfl) rfl) (WD.aB (v:= .slN) rfl (WD.aB (v:= .int .i64 (ez:Int)) rfl (WD.aB (v:= .int .i64 (az:Int)) rfl (WD.nil (WP.ret ?_))))))))))))))))
   have hZ:Par.Res Sz (fun l=>Par.fI k l xz) xz (.error (ez,az)):=by rw [hbad];rfl
   have hF:=Par.Res.out (Par.Res.cast (fun l _=>Par.Ep l) (q1.res.bn (hs xz _ hZ)))
   have hE:Par.rows s= .error (ez,az):=by unfold Par.rows;rw [hsp];simp only [hF]
   rw [hE]
   exact ⟨_,(ak (aD (v:= .slN) rfl) (ak (aD (v:= .int .i64 (ez:Int)) rfl) (ak (aD (v:= .int .i64 (az:Int)) rfl) (aF _ _)))),(by omega),rfl,st.tail.tail.tail⟩
end
end Go.Eng.YtjobofnpmmjeoaaGreatDoor
