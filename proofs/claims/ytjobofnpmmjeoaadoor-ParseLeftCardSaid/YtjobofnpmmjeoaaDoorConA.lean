/- Part of a proof of a law, by an evaluator that the machine follows: rules, contracts of functions, what they come to. No condition of its own. -/
import Derived.Test.YtjobofnpmmjeoaaDoorSpec
import Derived.Test.YtjobofnpmmjeoaaDoorCode
set_option linter.unusedVariables false
set_option linter.unusedSimpArgs false
namespace Go.Eng.YtjobofnpmmjeoaaDoor
open Go.Eng
noncomputable section
variable {c : Ctx}
structure HasF (c : Ctx) : Prop where
 f10 : T.get 10 c.funs = some i10
 f11 : T.get 11 c.funs = some i11
 f12 : T.get 12 c.funs = some i12
 f16 : T.get 16 c.funs = some i16
 f17 : T.get 17 c.funs = some i17
 f18 : T.get 18 c.funs = some i18
 f21 : T.get 21 c.funs = some i21
 f23 : T.get 23 c.funs = some i23
 f24 : T.get 24 c.funs = some i24
 f25 : T.get 25 c.funs = some i25
 f26 : T.get 26 c.funs = some i26
 f27 : T.get 27 c.funs = some i27
 f28 : T.get 28 c.funs = some i28
 f29 : T.get 29 c.funs = some i29
 f30 : T.get 30 c.funs = some i30
 f31 : T.get 31 c.funs = some i31
 f35 : T.get 35 c.funs = some i35
 f36 : T.get 36 c.funs = some i36
 f37 : T.get 37 c.funs = some i37
 f38 : T.get 38 c.funs = some i38
 f40 : T.get 40 c.funs = some i40
 f41 : T.get 41 c.funs = some i41
 f42 : T.get 42 c.funs = some i42
 f43 : T.get 43 c.funs = some i43
 f44 : T.get 44 c.funs = some i44
 f46 : T.get 46 c.funs = some i46
 f47 : T.get 47 c.funs = some i47
 f48 : T.get 48 c.funs = some i48
 f49 : T.get 49 c.funs = some i49
 f50 : T.get 50 c.funs = some i50
 f51 : T.get 51 c.funs = some i51
 f52 : T.get 52 c.funs = some i52
 f53 : T.get 53 c.funs = some i53
 f54 : T.get 54 c.funs = some i54
 f55 : T.get 55 c.funs = some i55
 f58 : T.get 58 c.funs = some i58
 f59 : T.get 59 c.funs = some i59
 f60 : T.get 60 c.funs = some i60
 f61 : T.get 61 c.funs = some i61
 f63 : T.get 63 c.funs = some i63
 f65 : T.get 65 c.funs = some i65
 f66 : T.get 66 c.funs = some i66
 f67 : T.get 67 c.funs = some i67
 f73 : T.get 73 c.funs = some i73
 f78 : T.get 78 c.funs = some i78
 f79 : T.get 79 c.funs = some i79
 f80 : T.get 80 c.funs = some i80
 f84 : T.get 84 c.funs = some i84
 f85 : T.get 85 c.funs = some i85
 f87 : T.get 87 c.funs = some i87
theorem now_c (D : HasF c) {fs : List Fact} {h : Heap} {p : RP} {i d : Nat} {t : Tok} {l : List Tok} (st : St (p.box i d :: p.toks :: fs) h) (hl : Left p i (t :: l)) :
  RunP c 36 [.ptr p.rb 0] h fun v h1 => v = .agg t.row ∧ St (p.box i d :: p.toks :: fs) h1 := by
 refine RunP.fun_ D.f36 rfl (WP.seq (WP.reg (WO.boxFS st L.alloc (fun b1 h st => ?_))))
 refine WO.nil (WP.seq (WP.draw (WD.val (v := .ptr p.rb 0) rfl (WD.val (v := .ptr p.rb 0) rfl (WD.val (v := .ptr p.rb 0) (L.faddr rfl) (WD.val (v := .sl p.tb p.to p.ts.length p.cap) (L.loadB rfl (st.box_at 1 rfl) rfl) (WD.val (v := .ptr p.rb 0) rfl (WD.val (v := .ptr p.rb 0) rfl (WD.val (v := .ptr p.rb 1) (L.faddr rfl) (WD.val (v := .int .i64 (i : Int)) (L.loadB rfl (st.box_at 1 rfl) rfl) (WD.val (L.iaddr rfl rfl hl.get.2) (WD.val (v := .agg [.int .i64 (t.kind : Int), L.str t.text, .int .i64 (t.at_ : Int)]) (L.loadn rfl ((st.stb_at 2 rfl).loadn hl.row)) (WD.storeF (row' := [.int .i64 (t.kind : Int), L.str t.text, .int .i64 (t.at_ : Int)]) st 0 rfl rfl rfl rfl rfl rfl rfl (fun h st => rfl) (fun h st => ?_))))))))))))))
 refine WD.nil (WP.ret ?_)
 exact ⟨_, (res_cons (res_cellA (l := [.int .i64 (t.kind : Int), L.str t.text, .int .i64 (t.at_ : Int)]) rfl (L.load_box (st.box_at 0 rfl) rfl rfl rfl)) (res_nil _ _)), (rfl), st.tail⟩
theorem is_c (D : HasF c) {fs : List Fact} {h : Heap} {p : RP} {i d : Nat} {l : List Tok} {s : List UInt8} (st : St (p.box i d :: p.toks :: fs) h) (hl : Left p i l) :
  RunP c 48 [.ptr p.rb 0, L.str s] h fun v h1 => v = .bool (Par.is s l) ∧ St (p.box i d :: p.toks :: fs) h1 := by
 obtain ⟨t, l, rfl⟩ := hl.cons
 refine RunP.fun_ D.f48 rfl (WP.seq (WP.reg (WO.valS (v := .bool false) rfl (WO.nil (WP.seq (WP.reg (WO.callF rfl (now_c D st hl) ?_)))))))
 rintro _ h ⟨rfl, st⟩
 refine WO.boxFS st L.alloc (fun b1 h st => ?_)
 refine WO.storeF (row' := [.int .i64 (t.kind : Int), L.str t.text, .int .i64 (t.at_ : Int)]) st 0 rfl rfl rfl rfl rfl rfl rfl (fun h st => ?_)
 refine WO.nil (WP.seq (WP.reg (WO.val (v := .ptr b1 1) (L.faddr rfl) (WO.val (v := L.str t.text) (L.loadB rfl (st.box_at 0 rfl) rfl) (WO.ifV (L.seq rfl rfl) (fun c1 => ?_) (fun c1 => ?_))))))
 ·refine WO.yes rfl (WO.val (v := .ptr b1 0) (L.faddr rfl) (WO.yes rfl (WO.val (v := .int .i64 (t.kind : Int)) (L.loadB rfl (st.box_at 0 rfl) rfl) (WO.yes rfl (WO.ifV (L.eql rfl rfl) (fun c2 => ?_) (fun c2 => ?_))))))
  ·replace c2 : t.kind = 4 := by omega
   refine WO.yes rfl (WO.val (v := .bool true) rfl (WO.no rfl (WO.no rfl (WO.no rfl (WO.yes rfl (WO.val (v := .bool true) rfl (WO.valS (v := .bool true) rfl (WO.nil (WP.ret ?_)))))))))
   exact ⟨_, (res_cons (res_tmp (v := .bool true) rfl) (res_nil _ _)), (by simp [Par.is, Par.hd, one, *] <;> omega), st.tail⟩
  ·replace c2 : ¬ (t.kind = 4) := by omega
   refine WO.yes rfl (WO.val (v := .bool false) rfl (WO.yes rfl (WO.val (v := .ptr b1 0) (L.faddr rfl) (WO.yes rfl (WO.val (v := .int .i64 (t.kind : Int)) (L.loadB rfl (st.box_at 0 rfl) rfl) (WO.yes rfl (WO.ifV (L.eql rfl rfl) (fun c3 => ?_) (fun c3 => ?_))))))))
   ·replace c3 : t.kind = 3 := by omega
    refine WO.yes rfl (WO.val (v := .bool true) rfl (WO.valS (v := .bool true) rfl (WO.nil (WP.ret ?_))))
    exact ⟨_, (res_cons (res_tmp (v := .bool true) rfl) (res_nil _ _)), (by simp [Par.is, Par.hd, one, *] <;> omega), st.tail⟩
   ·replace c3 : ¬ (t.kind = 3) := by omega
    refine WO.yes rfl (WO.val (v := .bool false) rfl (WO.valS (v := .bool false) rfl (WO.nil (WP.ret ?_))))
    exact ⟨_, (res_cons (res_tmp (v := .bool false) rfl) (res_nil _ _)), (by simp [Par.is, Par.hd, one, *] <;> omega), st.tail⟩
 ·refine WO.no rfl (WO.no rfl (WO.no rfl (WO.no rfl (WO.no rfl (WO.no rfl (WO.no rfl (WO.no rfl (WO.valS (v := .bool false) rfl (WO.nil (WP.ret ?_))))))))))
  exact ⟨_, (res_cons (res_tmp (v := .bool false) rfl) (res_nil _ _)), (by simp [Par.is, Par.hd, one, *] <;> omega), st.tail⟩
theorem may_c (D : HasF c) {fs : List Fact} {h : Heap} {p : RP} {i d : Nat} {l : List Tok} {s : List UInt8} (st : St (p.box i d :: p.toks :: fs) h) (hl : Left p i l) :
  RunP c 38 [.ptr p.rb 0, L.str s] h fun v h1 => (v = .bool true ∧ Par.is s l = true ∧ Left p (i + 1) l.tail ∧ St (p.box (i + 1) d :: p.toks :: fs) h1) ∨ (v = .bool false ∧ Par.is s l = false ∧ St (p.box i d :: p.toks :: fs) h1) := by
 refine RunP.fun_ D.f38 rfl (WP.seq (WP.reg (WO.valS (v := .bool false) rfl (WO.nil (WP.seq (WP.reg (WO.callFS rfl (is_c D st hl) ?_)))))))
 rintro _ h ⟨rfl, st⟩
 cases his : Par.is s l
 ·refine WO.nil (WP.seq (WP.seq (WP.reg (WO.valS (v := .bool false) rfl (WO.nil (WP.cond (t := false) rfl (WP.skip (WP.seq (WP.reg (WO.valS (v := .bool false) rfl (WO.nil (WP.ret ?_))))))))))))
  exact ⟨_, (res_cons (res_tmp (v := .bool false) rfl) (res_nil _ _)), Or.inr ⟨rfl, rfl, st⟩⟩
 ·refine WO.nil (WP.seq (WP.seq (WP.reg (WO.valS (v := .bool true) rfl (WO.nil (WP.cond (t := true) rfl (WP.reg (WO.val (v := .ptr p.rb 0) rfl (WO.val (v := .ptr p.rb 1) (L.faddr rfl) (WO.val (v := .int .i64 (i : Int)) (L.loadB rfl (st.box_at 0 rfl) rfl) (WO.val (v := .int .i64 ((i + 1 : Nat) : Int)) (L.addE rfl rfl (by omega) (And.intro (by omega) (by have := hl.lt; have := hl.small; omega))) (WO.val (v := .ptr p.rb 0) rfl (WO.val (v := .ptr p.rb 1) (L.faddr rfl) (WO.storeF (row' := [.sl p.tb p.to p.ts.length p.cap, .int .i64 ((i + 1 : Nat) : Int), .int .i64 (d : Int)]) st 0 rfl rfl rfl rfl rfl rfl rfl (fun h st => ?_)))))))))))))))
  refine WO.nil (WP.seq (WP.reg (WO.valS (v := .bool true) rfl (WO.nil (WP.ret ?_)))))
  exact ⟨_, (res_cons (res_tmp (v := .bool true) rfl) (res_nil _ _)), Or.inl ⟨rfl, rfl, hl.is his, st⟩⟩
theorem fail_c (D : HasF c) {fs : List Fact} {h : Heap} {p : RP} {i d : Nat} {l : List Tok} {e : Nat} (st : St (p.box i d :: p.toks :: fs) h) (hl : Left p i l) :
  RunPan c 46 [.ptr p.rb 0, .int .i64 (e : Int)] h (stopV 83 e (Par.here l)) (St fs) := by
 obtain ⟨t, l, rfl⟩ := hl.cons
 refine RunPan.fun_ D.f46 rfl (WP.reg (WO.callF rfl (now_c D st hl) ?_))
 rintro _ h ⟨rfl, st⟩
 refine WO.val (v := .int .i64 (t.at_ : Int)) rfl (WO.val (v := .agg [.int .i64 (e : Int), .int .i64 (t.at_ : Int)]) (L.build rfl) (WO.val (v := .ifc 83 (.agg [.int .i64 (e : Int), .int .i64 (t.at_ : Int)])) rfl (WO.pan rfl ?_)))
 exact ⟨rfl, st.tail.tail⟩
theorem must_c (D : HasF c) {fs : List Fact} {h : Heap} {p : RP} {i d : Nat} {l : List Tok} {s : List UInt8} (st : St (p.box i d :: p.toks :: fs) h) (hl : Left p i l) :
  RunR c 35 [.ptr p.rb 0, L.str s] h (Outc p 83 (Par.must s l) (fun a i v h1 => v = .int .i64 (a : Int) ∧ St (p.box i d :: p.toks :: fs) h1) (St fs)) := by
 refine RunR.fun_ D.f35 rfl (WP.seq (WP.reg (WO.valS (v := .int .i64 0) rfl (WO.nil (WP.seq (WP.reg ?_))))))
 obtain ⟨t, l', rfl⟩ := hl.cons
 refine WO.callF rfl (now_c D st hl) ?_
 rintro _ h ⟨rfl, st⟩
 refine WO.valS (v := .int .i64 (t.at_ : Int)) rfl (WO.nil (WP.seq (WP.seq (WP.reg (WO.callF rfl (may_c D st hl) ?_)))))
 rintro _ h (⟨rfl, hi1, hl1, st⟩ | ⟨rfl, hi1, st⟩)
 ·replace st : St ((p.box (i + 1 : Nat) d) :: p.toks :: fs) h := st
  refine WO.valS (v := .bool false) rfl (WO.nil (WP.cond (t := false) rfl (WP.skip (WP.seq (WP.reg (WO.valS (v := .int .i64 (t.at_ : Int)) rfl (WO.nil (WP.ret ?_))))))))
  exact ⟨_, (res_cons (res_tmp (v := .int .i64 (t.at_ : Int)) rfl) (res_nil _ _)), Outc.ok (by simp [Par.must, hi1] <;> rfl) hl1 ⟨rfl, st⟩⟩
 ·replace st : St ((p.box i d) :: p.toks :: fs) h := st
  refine WO.valS (v := .bool true) rfl (WO.nil (WP.cond (t := true) rfl (WP.reg (WO.callPanF rfl (fail_c D st hl) (fun h st => ?_)))))
  exact Outc.pan (by simp [Par.must, Par.fail, hi1]) st
theorem of_c (D : HasF c) {fs : List Fact} {h : Heap} {p : RP} {i d : Nat} {l : List Tok} {k : Nat} (st : St (p.box i d :: p.toks :: fs) h) (hl : Left p i l) (hk : k ≠ 0) :
  RunR c 47 [.ptr p.rb 0, .int .i64 (k : Int)] h (Outc p 83 (Par.of k l) (fun t i v h1 => v = .agg t.row ∧ St (p.box i d :: p.toks :: fs) h1) (St fs)) := by
 obtain ⟨t, l, rfl⟩ := hl.cons
 refine RunR.fun_ D.f47 rfl (WP.seq (WP.reg (WO.boxFS st L.alloc (fun b1 h st => ?_))))
 refine WO.nil (WP.seq (WP.reg (WO.callF rfl (now_c D ((st.pick 2 rfl).pick 2 rfl) hl) ?_)))
 rintro _ h ⟨rfl, st⟩
 refine WO.boxFS st L.alloc (fun b2 h st => ?_)
 refine WO.storeF (row' := [.int .i64 (t.kind : Int), L.str t.text, .int .i64 (t.at_ : Int)]) st 0 rfl rfl rfl rfl rfl rfl rfl (fun h st => ?_)
 refine WO.nil (WP.seq (WP.seq (WP.reg (WO.val (v := .ptr b2 0) (L.faddr rfl) (WO.val (v := .int .i64 (t.kind : Int)) (L.loadB rfl (st.box_at 0 rfl) rfl) (WO.ifS (L.neq rfl rfl) (fun c1 => ?_) (fun c1 => ?_)))))))
 ·replace c1 : t.kind ≠ k := by omega
  refine WO.nil (WP.cond (t := true) rfl (WP.reg (WO.callPanF rfl (fail_c D ((st.pick 2 rfl).pick 2 rfl) hl) (fun h st => ?_))))
  exact Outc.pan (by simp [Par.of, Par.fail, Par.hd, c1]) st.tail.tail
 ·replace c1 : ¬ (t.kind ≠ k) := by omega
  refine WO.nil (WP.cond (t := false) rfl (WP.skip (WP.seq (WP.reg (WO.val (v := .ptr p.rb 0) rfl (WO.val (v := .ptr p.rb 1) (L.faddr rfl) (WO.val (v := .int .i64 (i : Int)) (L.loadB rfl (st.box_at 1 rfl) rfl) (WO.val (v := .int .i64 ((i + 1 : Nat) : Int)) (L.addE rfl rfl (by omega) (And.intro (by omega) (by have := hl.lt; have := hl.small; omega))) (WO.val (v := .ptr p.rb 0) rfl (WO.val (v := .ptr p.rb 1) (L.faddr rfl) (WO.storeF (row' := [.sl p.tb p.to p.ts.length p.cap, .int .i64 ((i + 1 : Nat) : Int), .int .i64 (d : Int)]) st 1 rfl rfl rfl rfl rfl rfl rfl (fun h st => ?_))))))))))))
  refine WO.nil (WP.seq (WP.reg (WO.val (v := .agg [.int .i64 (t.kind : Int), L.str t.text, .int .i64 (t.at_ : Int)]) (L.loadnB rfl (st.box_at 0 rfl) rfl rfl rfl) (WO.storeF (row' := [.int .i64 (t.kind : Int), L.str t.text, .int .i64 (t.at_ : Int)]) st 3 rfl rfl rfl rfl rfl rfl rfl (fun h st => ?_)))))
  refine WO.nil (WP.ret ?_)
  have hk1 : t.kind = k := by omega
  exact ⟨_, (res_cons (res_cellA (l := [.int .i64 (t.kind : Int), L.str t.text, .int .i64 (t.at_ : Int)]) rfl (L.load_box (st.box_at 3 rfl) rfl rfl rfl)) (res_nil _ _)), Outc.ok (x := t) (l := l) (by simp [Par.of, Par.hd, hk1]) (hl.next (by omega)) ⟨rfl, (st.tail.pick 2 rfl).tail⟩⟩
theorem name_c (D : HasF c) {fs : List Fact} {h : Heap} {p : RP} {i d : Nat} {l : List Tok} (st : St (p.box i d :: p.toks :: fs) h) (hl : Left p i l) :
  RunR c 37 [.ptr p.rb 0] h (Outc p 83 (Par.name l) (fun a i v h1 => v = L.str a ∧ St (p.box i d :: p.toks :: fs) h1) (St fs)) := by
 refine RunR.fun_ D.f37 rfl (WP.seq (WP.reg (WO.valS (v := .str 0 0) rfl (WO.nil (WP.seq (WP.reg (WO.callO rfl (of_c (k := 1) D st hl (by decide)) (fun e a h hm st => ?_) ?_)))))))
 ·exact Outc.pan (by simp [Par.name, hm]) (st)
 rintro t1 l1 _ h i1 m1 hl1 ⟨rfl, st⟩
 refine WO.valS (v := L.str t1.text) rfl (WO.nil (WP.ret ?_))
 exact ⟨_, (res_cons (res_tmp (v := L.str t1.text) rfl) (res_nil _ _)), Outc.ok (by simp [Par.name, m1] <;> rfl) hl1 ⟨rfl, st⟩⟩
theorem qname_c (D : HasF c) {fs : List Fact} {h : Heap} {p : RP} {i d : Nat} {l : List Tok} (st : St (p.box i d :: p.toks :: fs) h) (hl : Left p i l) :
  RunR c 67 [.ptr p.rb 0] h (Outc p 83 (Par.qname l) (fun a i v h1 => v = .tup [L.str a.1, L.str a.2] ∧ St (p.box i d :: p.toks :: fs) h1) (St fs)) := by
 refine RunR.fun_ D.f67 rfl (WP.seq (WP.reg (WO.valS (v := .str 0 0) rfl (WO.valS (v := .str 0 0) rfl (WO.nil (WP.seq (WP.reg (WO.callOS rfl (name_c D st hl) (fun e a h hm st => ?_) ?_))))))))
 ·exact Outc.pan (by simp [Par.qname, hm]) (st)
 rintro a1 l1 _ h i1 m1 hl1 ⟨rfl, st⟩
 refine WO.nil (WP.seq (WP.seq (WP.reg (WO.callFS rfl (may_c (s := [46]) D st hl1) ?_))))
 rintro _ h (⟨rfl, hi2, hl2, st⟩ | ⟨rfl, hi2, st⟩)
 ·replace st : St ((p.box (i1 + 1 : Nat) d) :: p.toks :: fs) h := st
  refine WO.nil (WP.cond (t := true) rfl (WP.reg (WO.callO rfl (name_c D st hl2) (fun e a h hm st => ?_) ?_)))
  ·exact Outc.pan (by simp [Par.qname, hm, m1, hi2]) (st)
  rintro a3 l3 _ h i3 m3 hl3 ⟨rfl, st⟩
  refine WO.valS (v := L.str a1) rfl (WO.valS (v := L.str a3) rfl (WO.nil (WP.seq (WP.reg (WO.nil (WP.ret ?_))))))
  exact ⟨_, (res_cons (res_tmp (v := L.str a1) rfl) (res_cons (res_tmp (v := L.str a3) rfl) (res_nil _ _))), Outc.ok (by simp [Par.qname, m1, hi2, m3] <;> rfl) hl3 ⟨rfl, st⟩⟩
 ·replace st : St ((p.box i1 d) :: p.toks :: fs) h := st
  refine WO.nil (WP.cond (t := false) rfl (WP.skip (WP.seq (WP.reg (WO.nil (WP.ret ?_))))))
  exact ⟨_, (res_cons (res_tmp (v := .str 0 0) rfl) (res_cons (res_tmp (v := L.str a1) rfl) (res_nil _ _))), Outc.ok (by simp [Par.qname, m1, hi2] <;> rfl) hl1 ⟨rfl, st⟩⟩
theorem open_ok (D : HasF c) {fs : List Fact} {h : Heap} {p : RP} {i d : Nat} {l : List Tok} (st : St (p.box i d :: p.toks :: fs) h) (hl : Left p i l) (hd : ¬ 40 ≤ d) :
  RunP c 59 [.ptr p.rb 0] h fun v h1 => v = .tup [] ∧ St (p.box i (d + 1) :: p.toks :: fs) h1 := by
 refine RunP.fun_ D.f59 rfl (WP.seq (WP.seq (WP.reg (WO.val (v := .ptr p.rb 0) rfl (WO.val (v := .ptr p.rb 2) (L.faddr rfl) (WO.val (v := .int .i64 (d : Int)) (L.loadB rfl (st.box_at 0 rfl) rfl) (WO.ifS (L.geq rfl rfl) (fun c1 => by exfalso; omega) (fun c1 => ?_))))))))
 refine WO.nil (WP.cond (t := false) rfl (WP.skip (WP.reg (WO.val (v := .ptr p.rb 0) rfl (WO.val (v := .ptr p.rb 2) (L.faddr rfl) (WO.val (v := .int .i64 (d : Int)) (L.loadB rfl (st.box_at 0 rfl) rfl) (WO.val (v := .int .i64 ((d + 1 : Nat) : Int)) (L.addE rfl rfl (by omega) (And.intro (by omega) (by omega))) (WO.val (v := .ptr p.rb 0) rfl (WO.val (v := .ptr p.rb 2) (L.faddr rfl) (WO.storeF (row' := [.sl p.tb p.to p.ts.length p.cap, .int .i64 (i : Int), .int .i64 ((d + 1 : Nat) : Int)]) st 0 rfl rfl rfl rfl rfl rfl rfl (fun h st => ?_)))))))))))
 refine WO.nil ?_
 exact ⟨_, (res_nil _ _), (rfl), st⟩
theorem open_pan (D : HasF c) {fs : List Fact} {h : Heap} {p : RP} {i d : Nat} {l : List Tok} (st : St (p.box i d :: p.toks :: fs) h) (hl : Left p i l) (hd : 40 ≤ d) :
  RunPan c 59 [.ptr p.rb 0] h (stopV 83 12 (Par.here l)) (St fs) := by
 refine RunPan.fun_ D.f59 rfl (WP.seq (WP.seq (WP.reg (WO.val (v := .ptr p.rb 0) rfl (WO.val (v := .ptr p.rb 2) (L.faddr rfl) (WO.val (v := .int .i64 (d : Int)) (L.loadB rfl (st.box_at 0 rfl) rfl) (WO.ifS (L.geq rfl rfl) (fun c1 => ?_) (fun c1 => by exfalso; omega))))))))
 refine WO.nil (WP.cond (t := true) rfl (WP.reg (WO.callPanF rfl (fail_c D st hl) (fun h st => ?_))))
 exact ⟨rfl, st⟩
theorem atoi1_c (D : HasF c) {fs : List Fact} {h : Heap} {s : List UInt8} (st : St fs h) (hd : Digits s) :
  RunP c 63 [L.str s] h fun v h1 => v = .tup [.int .i64 (num s : Int), .ifcN] ∧ St fs h1 := by
 obtain ⟨b0, hb0⟩ : ∃ b, s[0]? = some b := ⟨_, List.getElem?_eq_getElem (List.length_pos_iff.2 hd.ne)⟩
 have hr0 := hd.dig b0 (List.mem_of_getElem? hb0)
 have hs9 := hd.len
 have hs0 : 0 < s.length := List.length_pos_iff.2 hd.ne
 refine RunP.fun_ D.f63 rfl (WP.seq (WP.reg (WO.valS (v := .int .i64 0) rfl (WO.valS (v := .ifcN) rfl (WO.nil (WP.seq (WP.reg (WO.valS (v := .int .i64 (s.length : Int)) (L.slen rfl) (WO.nil (WP.seq (WP.seq (WP.reg (WO.no rfl (WO.no rfl (WO.no rfl (WO.no rfl (WO.no rfl (WO.no rfl (WO.val (v := .bool false) rfl (WO.yes rfl (WO.val (v := .bool true) rfl (WO.yes rfl (WO.val (v := .int .i64 (s.length : Int)) rfl (WO.yes rfl (WO.ifV (L.lss rfl rfl) (fun c1 => ?_) (fun c1 => by exfalso; omega))))))))))))))))))))))))))
 refine WO.yes rfl (WO.val (v := .bool true) rfl (WO.yes rfl (WO.val (v := .int .i64 (s.length : Int)) rfl (WO.yes rfl (WO.ifV (L.lss rfl rfl) (fun c2 => ?_) (fun c2 => by exfalso; omega))))))
 refine WO.yes rfl (WO.val (v := .bool true) rfl (WO.yes rfl (WO.val (v := .bool true) rfl (WO.valS (v := .bool true) rfl (WO.nil (WP.cond (t := true) rfl (WP.seq (WP.reg (WO.valS (v := L.str s) rfl (WO.nil (WP.seq (WP.seq (WP.reg (WO.val (v := .int .u8 (b0.toNat : Int)) (L.sidx rfl rfl hb0) (WO.ifV (L.eql rfl rfl) (fun c3 => by exfalso; omega) (fun c3 => ?_))))))))))))))))
 refine WO.yes rfl (WO.val (v := L.str s) rfl (WO.yes rfl (WO.val (v := .int .u8 (b0.toNat : Int)) (L.sidx rfl rfl hb0) (WO.yes rfl (WO.ifV (L.eql rfl rfl) (fun c4 => by exfalso; omega) (fun c4 => ?_))))))
 refine WO.valS (v := .bool false) rfl (WO.nil (WP.cond (t := false) rfl (WP.skip (WP.seq (WP.reg (WO.valS (v := .int .i64 0) rfl (WO.nil (WP.seq (WP.seq (WP.reg (WO.sbytesFS st rfl (fun bs1 h st => ?_))))))))))))
 refine WO.valS (v := .int .i64 (s.length : Int)) (L.llen rfl) (WO.valS (v := .int .i64 0) rfl (WO.nil (WP.block (WP.loopG (α := Nat) (fun k env h => ∃ x1 x2 x9 x11 x12, (k ≤ s.length) ∧ env = argsP [L.str s, x1, x2, .int .i64 (s.length : Int), .bool true, .bool false, .bot, .int .i64 (k : Int), .int .i64 (s.length : Int), x9, .sl bs1 0 s.length none, x11, x12, .int .i64 (num (s.take k) : Int), L.str s] 0 Env.nil ∧ St (.stb (fun h => Rows 1 h (.sl bs1 0 s.length none) (byteRows s)) :: fs) h) (fun k => s.length - k) 0 ?_ ?_))))
 ·exact ⟨(.int .i64 0), .ifcN, .bot, .bot, .bot, (Nat.zero_le _), by kernel_rfl, st⟩
 rintro k _ h ⟨x1, x2, x9, x11, x12, hk, rfl, st⟩
 have hbd := hd.bound k
 refine WP.seq (WP.reg (WO.ifS (L.lss rfl rfl) (fun c5 => ?_) (fun c5 => ?_)))
 ·replace c5 : k < s.length := by omega
  refine WO.nil (WP.seq (WP.cond (t := true) rfl (WP.skip (WP.seq (WP.block (WP.seq (WP.reg ?_)))))))
  obtain ⟨b, hb⟩ : ∃ b, s[k]? = some b := ⟨_, List.getElem?_eq_getElem c5⟩
  have hrb := hd.dig b (List.mem_of_getElem? hb)
  refine WO.val (v := .ptr bs1 (0 + k * 1)) (L.iaddr rfl rfl c5) (WO.valS (v := .int .u8 (b.toNat : Int)) (L.load rfl ((st.stb_at 0 rfl).load1 (by unfold byteRows; rw [List.getElem?_map, hb]; rfl))) ?_)
  refine WO.nil (WP.seq (WP.reg (WO.valS (v := .int .u8 ((b.toNat - 48 : Nat) : Int)) (L.subU8 (a := b.toNat) (b := 48) rfl rfl rfl (by omega) (by omega)) (WO.nil (WP.seq (WP.seq (WP.reg (WO.ifS (L.gtr rfl rfl) (fun c6 => by exfalso; omega) (fun c6 => ?_)))))))))
  refine WO.nil (WP.cond (t := false) rfl (WP.skip (WP.reg (WO.val (v := .int .i64 ((num (s.take k) * 10 : Nat) : Int)) (L.mulE rfl rfl (by omega) (And.intro (by omega) (by omega))) (WO.val (v := .int .i64 ((b.toNat - 48 : Nat) : Int)) (L.conv64 rfl (And.intro (by omega) (by omega))) (WO.valS (v := .int .i64 (num (s.take (k + 1)) : Int)) (L.addE rfl rfl (by rw [num_take hb]; omega) (by rw [num_take hb]; exact And.intro (by omega) (by omega))) (WO.nil (WP.reg (WO.valS (v := .int .i64 ((k + 1 : Nat) : Int)) (L.addE rfl rfl (by omega) (And.intro (by omega) (by omega))) (WO.nil ?_))))))))))
  have _ := trivial
  exact ⟨k + 1, (by omega), x1, x2, (.bool true), (.int .u8 ((b.toNat - 48 : Nat) : Int)), (.bool false), by omega, by kernel_rfl, st⟩
 ·replace c5 : ¬ (k < s.length) := by omega
  refine WO.nil (WP.seq (WP.cond (t := false) rfl (WP.exit (WP.seq (WP.seq (WP.reg (WO.val (v := .int .u8 (b0.toNat : Int)) (L.sidx rfl rfl hb0) (WO.ifS (L.eql rfl rfl) (fun c7 => by exfalso; omega) (fun c7 => ?_)))))))))
  refine WO.nil (WP.cond (t := false) rfl (WP.skip (WP.seq (WP.reg (WO.valS (v := .int .i64 (num (s.take k) : Int)) rfl (WO.valS (v := .ifcN) rfl (WO.nil (WP.ret ?_))))))))
  exact ⟨_, (res_cons (res_tmp (v := .int .i64 (num (s.take k) : Int)) rfl) (res_cons (res_tmp (v := .ifcN) rfl) (res_nil _ _))), (by rw [List.take_of_length_le (by omega)]; rfl), st.tail⟩
theorem atoi_c (D : HasF c) {fs : List Fact} {h : Heap} {s : List UInt8} (st : St fs h) (hd : Digits s) :
  RunP c 58 [L.str s] h fun v h1 => v = .tup [.int .i64 (num s : Int), .ifcN] ∧ St fs h1 := by
 refine RunP.fun_ D.f58 rfl (WP.seq (WP.reg (WO.valS (v := .int .i64 0) rfl (WO.valS (v := .ifcN) rfl (WO.nil (WP.seq (WP.reg (WO.callF rfl (atoi1_c D st hd) ?_))))))))
 rintro _ h ⟨rfl, st⟩
 refine WO.val (v := .int .i64 (num s : Int)) rfl (WO.val (v := .ifcN) rfl (WO.valS (v := .int .i64 (num s : Int)) rfl (WO.valS (v := .ifcN) rfl (WO.nil (WP.seq (WP.seq (WP.reg (WO.valS (v := .bool false) rfl (WO.nil (WP.cond (t := false) rfl (WP.skip (WP.seq (WP.reg (WO.valS (v := .int .i64 (num s : Int)) rfl (WO.valS (v := .ifcN) rfl (WO.nil (WP.ret ?_)))))))))))))))))
 exact ⟨_, (res_cons (res_tmp (v := .int .i64 (num s : Int)) rfl) (res_cons (res_tmp (v := .ifcN) rfl) (res_nil _ _))), rfl, st⟩
theorem number_c (D : HasF c) {fs : List Fact} {h : Heap} {p : RP} {i d : Nat} {l : List Tok} (st : St (p.box i d :: p.toks :: fs) h) (hl : Left p i l) :
  RunR c 49 [.ptr p.rb 0] h (Outc p 83 (Par.number l) (fun a i v h1 => v = .int .i64 (a : Int) ∧ St (p.box i d :: p.toks :: fs) h1) (St fs)) := by
 refine RunR.fun_ D.f49 rfl (WP.seq (WP.reg (WO.valS (v := .int .i64 0) rfl (WO.nil (WP.seq (WP.reg (WO.callO rfl (of_c (k := 2) D st hl (by decide)) (fun e a h hm st => ?_) ?_)))))))
 ·exact Outc.pan (by simp [Par.number, hm]) (st)
 rintro t1 l1 _ h i1 m1 hl1 ⟨rfl, st⟩
 refine WO.val (v := L.str t1.text) rfl (WO.callF rfl (atoi_c D st (Par.of_num hl m1)) ?_)
 rintro _ h ⟨rfl, st⟩
 refine WO.val (v := .int .i64 (num t1.text : Int)) rfl (WO.val (v := .ifcN) rfl (WO.valS (v := .int .i64 (num t1.text : Int)) rfl (WO.nil (WP.seq (WP.reg (WO.valS (v := .int .i64 (num t1.text : Int)) rfl (WO.nil (WP.ret ?_))))))))
 exact ⟨_, (res_cons (res_tmp (v := .int .i64 (num t1.text : Int)) rfl) (res_nil _ _)), Outc.ok (by simp [Par.number, m1] <;> rfl) hl1 ⟨rfl, st⟩⟩
end
end Go.Eng.YtjobofnpmmjeoaaDoor
namespace Go.Eng.YtjobofnpmmjeoaaDoor
open Go.Eng
noncomputable section
variable {c : Ctx}
theorem put_c (D : HasF c) {fs : List Fact} {h : Heap} {p : RP} {xb fam : Nat} {lv : V} {ns : List Nd} {n : Nd} (st : St (.box xb [.ptr p.rb 0, lv] :: .acc fam 7 lv (ns.map Nd.row) :: fs) h) (hfit : ns.length < 4294967296) :
  RunP c 80 [.ptr xb 0, .agg n.row] h fun v h1 => v = .int .i64 (ns.length : Int) ∧ ∃ fam lv, St (.box xb [.ptr p.rb 0, lv] :: .acc fam 7 lv ((ns ++ [n]).map Nd.row) :: fs) h1 := by
 refine RunP.fun_ D.f80 rfl (WP.seq (WP.reg (WO.boxFS st (L.box (l := [.int .i64 (n.kind : Int), .int .i64 n.num, L.str n.mod, L.str n.name, .int .i64 n.a, .int .i64 n.b, .int .i64 (n.at_ : Int)]) rfl rfl) (fun b1 h st => ?_))))
 refine WO.valS (v := .int .i64 0) rfl (WO.nil (WP.seq (WP.draw (WD.val (v := .ptr xb 0) rfl (WD.val (v := .ptr xb 0) rfl (WD.val (v := .ptr xb 0) rfl (WD.val (v := .ptr xb 1) (L.faddr rfl) (WD.val (v := lv) (L.loadB rfl (st.box_at 1 rfl) rfl) (WD.val (v := .agg [.int .i64 (n.kind : Int), .int .i64 n.num, L.str n.mod, L.str n.name, .int .i64 n.a, .int .i64 n.b, .int .i64 (n.at_ : Int)]) (L.loadnB rfl (st.box_at 0 rfl) rfl rfl rfl) (WD.bslF (rows := [[.int .i64 (n.kind : Int), .int .i64 n.num, L.str n.mod, L.str n.name, .int .i64 n.a, .int .i64 n.b, .int .i64 (n.at_ : Int)]]) st rfl (by decide) rfl (by simp) (fun bs1 h _ st => ?_)))))))))))
 refine WD.appF st 3 rfl rfl rfl (st.stb_at 0 rfl) (by decide) (by simp; omega) (fun _ _ h st => rfl) (fun f1 v1 h st => ?_)
 rw [show (ns.map Nd.row) ++ [[V.int .i64 (n.kind : Int), V.int .i64 n.num, L.str n.mod, L.str n.name, V.int .i64 n.a, V.int .i64 n.b, V.int .i64 (n.at_ : Int)]] = (ns ++ [n]).map Nd.row from by simp [Nd.row]] at st
 obtain ⟨ab1, rfl⟩ := (st.acc_at 3 rfl).ne (by simp)
 refine WD.val (v := .ptr xb 0) rfl (WD.val (v := .ptr xb 1) (L.faddr rfl) (WD.storeF (row' := [.ptr p.rb 0, .sl ab1 0 (((ns ++ [n]).map Nd.row).length) none]) st 2 rfl rfl rfl rfl rfl rfl rfl (fun h st => rfl) (fun h st => ?_)))
 refine WD.nil (WP.seq (WP.reg (WO.val (v := .ptr xb 0) rfl (WO.val (v := .ptr xb 1) (L.faddr rfl) (WO.val (v := .sl ab1 0 (((ns ++ [n]).map Nd.row).length) none) (L.loadB rfl (st.box_at 2 rfl) rfl) (WO.val (v := .int .i64 ((ns.length + 1 : Nat) : Int)) ((L.llenA rfl (st.acc_at 3 rfl)).trans (by simp)) (WO.valS (v := .int .i64 (ns.length : Int)) (L.subE rfl rfl (by omega) (And.intro (by omega) (by omega))) (WO.nil (WP.ret ?_)))))))))
 exact ⟨_, (res_cons (res_tmp (v := .int .i64 (ns.length : Int)) rfl) (res_nil _ _)), rfl, _, _, st.tail.tail⟩
theorem find_c (D : HasF c) {fs : List Fact} {h : Heap} {p : RP} {i d xb : Nat} {lv : V} {ob oo : Nat} {oc : Option Nat} {ops : List Opn} {l : List Tok} (st : St (.box xb [.ptr p.rb 0, lv] :: .stb (fun h => Rows 2 h (.sl ob oo ops.length oc) (ops.map Opn.row)) :: p.box i d :: p.toks :: fs) h) (hl : Left p i l) (hsm : ops.length < 4294967296) :
  RunP c 79 [.ptr xb 0, .sl ob oo ops.length oc] h fun v h1 => (∃ o, v = .tup [.agg (Opn.row o), .int .i64 (Par.here l : Int), .bool true] ∧ Par.find ops l = some o ∧ Left p (i + 1) l.tail ∧ St (.box xb [.ptr p.rb 0, lv] :: .stb (fun h => Rows 2 h (.sl ob oo ops.length oc) (ops.map Opn.row)) :: p.box (i + 1) d :: p.toks :: fs) h1) ∨ (∃ o1 o2, v = .tup [.agg [o1, o2], .int .i64 (Par.here l : Int), .bool false] ∧ Par.find ops l = none ∧ St (.box xb [.ptr p.rb 0, lv] :: .stb (fun h => Rows 2 h (.sl ob oo ops.length oc) (ops.map Opn.row)) :: p.box i d :: p.toks :: fs) h1) := by
 obtain ⟨t, l', rfl⟩ := hl.cons
 refine RunP.fun_ D.f79 rfl (WP.seq (WP.reg (WO.boxFS st L.alloc (fun b1 h st => ?_))))
 refine WO.valS (v := .int .i64 0) rfl (WO.valS (v := .bool false) rfl (WO.nil (WP.seq (WP.reg (WO.val (v := .ptr xb 0) rfl (WO.val (v := .ptr xb 0) (L.faddr rfl) (WO.val (v := .ptr p.rb 0) (L.loadB rfl (st.box_at 1 rfl) rfl) (WO.callF rfl (now_c D ((st.pick 4 rfl).pick 4 rfl) hl) ?_))))))))
 rintro _ h ⟨rfl, st⟩
 refine WO.valS (v := .int .i64 (t.at_ : Int)) rfl (WO.nil (WP.seq (WP.skip (WP.seq (WP.seq (WP.reg (WO.valS (v := .sl ob oo ops.length oc) rfl (WO.valS (v := .int .i64 (ops.length : Int)) (L.llen rfl) (WO.valS (v := .int .i64 0) rfl (WO.nil (WP.block (WP.loopG (α := Nat) (fun k env h => ∃ o1 o2 x7 x9, (k ≤ ops.length ∧ ∀ j o, ops[j]? = some o → j < k → Par.is o.1 (t :: l') = false) ∧ env = argsP [.ptr xb 0, .sl ob oo ops.length oc, .ptr b1 0, .int .i64 (t.at_ : Int), .bool false, .int .i64 (k : Int), .int .i64 (ops.length : Int), x7, .sl ob oo ops.length oc, x9] 0 Env.nil ∧ St (.box b1 [o1, o2] :: .box xb [.ptr p.rb 0, lv] :: .stb (fun h => Rows 2 h (.sl ob oo ops.length oc) (ops.map Opn.row)) :: (p.box i d) :: p.toks :: fs) h) (fun k => ops.length - k) 0 ?_ ?_))))))))))))
 ·exact ⟨(.str 0 0), (.int .i64 0), .bot, .bot, ⟨Nat.zero_le _, fun _ _ _ h => absurd h (Nat.not_lt_zero _)⟩, by kernel_rfl, (((st.pick 4 rfl).pick 4 rfl).pick 4 rfl)⟩
 rintro k _ h ⟨o1, o2, x7, x9, ⟨hk, hno⟩, rfl, st⟩
 refine WP.seq (WP.reg (WO.ifS (L.lss rfl rfl) (fun c1 => ?_) (fun c1 => ?_)))
 ·replace c1 : k < ops.length := by omega
  refine WO.nil (WP.seq (WP.cond (t := true) rfl (WP.skip (WP.seq (WP.block (WP.seq (WP.reg ?_)))))))
  obtain ⟨o, ho⟩ : ∃ o, ops[k]? = some o := ⟨_, List.getElem?_eq_getElem c1⟩
  refine WO.val (L.iaddr rfl rfl c1) (WO.val (v := .agg [L.str o.1, .int .i64 (o.2 : Int)]) (L.loadn rfl ((st.stb_at 2 rfl).loadn (by rw [List.getElem?_map, ho]; rfl))) ?_)
  refine WO.storeF (row' := [L.str o.1, .int .i64 (o.2 : Int)]) st 0 rfl rfl rfl rfl rfl rfl rfl (fun h st => ?_)
  refine WO.nil (WP.seq (WP.draw (WD.val (v := .ptr xb 0) rfl (WD.val (v := .ptr xb 0) rfl (WD.val (v := .ptr xb 0) (L.faddr rfl) (WD.val (v := .ptr p.rb 0) (L.loadB rfl (st.box_at 1 rfl) rfl) (WD.val (v := .ptr b1 0) (L.faddr rfl) (WD.val (v := L.str o.1) (L.loadB rfl (st.box_at 0 rfl) rfl) (WD.callFS rfl (may_c D ((st.pick 4 rfl).pick 4 rfl) hl) (fun _ h hp => ?_) ?_)))))))))
  ·rfl
  rintro _ h (⟨rfl, hi1, hl1, st⟩ | ⟨rfl, hi1, st⟩)
  ·replace st : St ((p.box (i + 1 : Nat) d) :: p.toks :: .box b1 [L.str o.1, .int .i64 (o.2 : Int)] :: .box xb [.ptr p.rb 0, lv] :: .stb (fun h => Rows 2 h (.sl ob oo ops.length oc) (ops.map Opn.row)) :: fs) h := st
   refine WD.nil (WP.cond (t := true) rfl (WP.seq (WP.reg (WO.valS (v := .bool true) rfl (WO.nil (WP.exit (WP.seq (WP.reg (WO.val (v := .agg [L.str o.1, .int .i64 (o.2 : Int)]) (L.loadnB rfl (st.box_at 2 rfl) rfl rfl rfl) (WO.storeF (row' := [L.str o.1, .int .i64 (o.2 : Int)]) st 2 rfl rfl rfl rfl rfl rfl rfl (fun h st => ?_)))))))))))
   refine WO.nil (WP.ret ?_)
   exact ⟨_, (res_cons (res_cellA (l := [L.str o.1, .int .i64 (o.2 : Int)]) rfl (L.load_box (st.box_at 2 rfl) rfl rfl rfl)) (res_cons (res_tmp (v := .int .i64 (t.at_ : Int)) rfl) (res_cons (res_tmp (v := .bool true) rfl) (res_nil _ _)))), Or.inl ⟨o, rfl, find_some ho hno hi1, hl1, (((st.pick 2 rfl).tail.pick 3 rfl).pick 3 rfl)⟩⟩
  ·replace st : St ((p.box i d) :: p.toks :: .box b1 [L.str o.1, .int .i64 (o.2 : Int)] :: .box xb [.ptr p.rb 0, lv] :: .stb (fun h => Rows 2 h (.sl ob oo ops.length oc) (ops.map Opn.row)) :: fs) h := st
   refine WD.nil (WP.cond (t := false) rfl (WP.skip (WP.reg (WO.valS (v := .int .i64 ((k + 1 : Nat) : Int)) (L.addE rfl rfl (by omega) (And.intro (by omega) (by have := hsm; omega))) (WO.nil ?_)))))
   have hno' : ∀ j o', ops[j]? = some o' → j < k + 1 → Par.is o'.1 (t :: l') = false := by
    intro j o' hj hlt
    rcases Nat.lt_succ_iff_lt_or_eq.1 hlt with hlt | rfl
    ·exact hno j o' hj hlt
    ·rw [ho] at hj; cases hj; exact hi1
   exact ⟨k + 1, (by omega), (L.str o.1), (.int .i64 (o.2 : Int)), (.bool true), (.bool false), ⟨by omega, hno'⟩, by kernel_rfl, (((st.pick 4 rfl).pick 4 rfl).pick 4 rfl)⟩
 ·replace c1 : ¬ (k < ops.length) := by omega
  refine WO.nil (WP.seq (WP.cond (t := false) rfl (WP.exit (WP.seq (WP.reg (WO.val (v := .agg [o1, o2]) (L.loadnB rfl (st.box_at 0 rfl) rfl rfl rfl) (WO.storeF (row' := [o1, o2]) st 0 rfl rfl rfl rfl rfl rfl rfl (fun h st => ?_))))))))
  refine WO.nil (WP.ret ?_)
  exact ⟨_, (res_cons (res_cellA (l := [o1, o2]) rfl (L.load_box (st.box_at 0 rfl) rfl rfl rfl)) (res_cons (res_tmp (v := .int .i64 (t.at_ : Int)) rfl) (res_cons (res_tmp (v := .bool false) rfl) (res_nil _ _)))), Or.inr ⟨o1, o2, rfl, find_none fun j o hj hlt => hno j o hj (by omega), st.tail⟩⟩
def Reads (c : Ctx) (p : RP) (xb N : Nat) (g : Nat) (un : Par.E) : Prop := ∀ {fs : List Fact} {h : Heap} {i d fam : Nat} {lv : V} {ns : List Nd} {l : List Tok},
 St (.box xb [.ptr p.rb 0, lv] :: .acc fam 7 lv (ns.map Nd.row) :: p.box i d :: p.toks :: fs) h → Left p i l → d ≤ 40 → l.length ≤ N → ns.length + l.length < 4294967296 →
 RunR c g [.ptr xb 0] h (Outc p 83 (un d l ns) (fun a i v h1 => v = .int .i64 (a.1 : Int) ∧ ∃ fam lv, St (.box xb [.ptr p.rb 0, lv] :: .acc fam 7 lv (a.2.map Nd.row) :: p.box i d :: p.toks :: fs) h1) (St fs))
theorem chain_c (D : HasF c) {p : RP} {xb N g : Nat} {un : Par.E} {ob oo : Nat} {oc : Option Nat} {ops : List Opn} (hun : Reads c p xb N g un) (hgood : Par.Good un N) (hops : ops.length < 4294967296) {fs : List Fact} {h : Heap} {i d fam : Nat} {lv : V} {ns : List Nd} {l : List Tok} (st : St (.box xb [.ptr p.rb 0, lv] :: .acc fam 7 lv (ns.map Nd.row) :: .stb (fun h => Rows 2 h (.sl ob oo ops.length oc) (ops.map Opn.row)) :: p.box i d :: p.toks :: fs) h) (hl : Left p i l) (hd : d ≤ 40) (hN : l.length ≤ N) (hb : ns.length + l.length < 4294967296) :
  RunR c 84 [.ptr xb 0, .fn g [.ptr xb 0] [], .sl ob oo ops.length oc] h (Outc p 83 (Par.chain un ops d l ns) (fun a i v h1 => v = .int .i64 (a.1 : Int) ∧ ∃ fam lv, St (.box xb [.ptr p.rb 0, lv] :: .acc fam 7 lv (a.2.map Nd.row) :: p.box i d :: p.toks :: fs) h1) (St fs)) := by
 refine RunR.fun_ D.f84 rfl (WP.seq (WP.reg (WO.valS (v := .int .i64 0) rfl (WO.nil (WP.seq (WP.reg (WO.callvOS rfl rfl (hun ((((st.pick 4 rfl).pick 4 rfl).pick 3 rfl).pick 3 rfl) hl (by omega) hN (by omega)) (fun e a h hm st => ?_) ?_)))))))
 ·exact Outc.pan (by simp [Par.chain, hm]) (st.tail)
 rintro ⟨a1, ns1⟩ l1 _ h i1 m1 hl1 ⟨rfl, fam1, lv1, st⟩
 obtain ⟨g1, w1⟩ := hgood hN m1
 refine WO.nil (WP.block (WP.loopG (α := Nat) (fun k env h => ∃ l2 i2 a ns2 fam2 lv2 x3 x4 x5 x7 x8 x9, (Par.chain un ops d l ns = Par.chainL un ops k d l2 a ns2 ∧ l2.length ≤ k ∧ Left p i2 l2 ∧ l2.length ≤ N ∧ ns2.length + l2.length < 4294967296) ∧ env = argsP [.ptr xb 0, .fn g [.ptr xb 0] [], .sl ob oo ops.length oc, x3, x4, x5, .int .i64 (a : Int), x7, x8, x9] 0 Env.nil ∧ St (.box xb [.ptr p.rb 0, lv2] :: .acc fam2 7 lv2 (ns2.map Nd.row) :: .stb (fun h => Rows 2 h (.sl ob oo ops.length oc) (ops.map Opn.row)) :: (p.box i2 d) :: p.toks :: fs) h) (fun k => k) l1.length ?_ ?_))
 ·exact ⟨l1, i1, a1, ns1, fam1, lv1, (.int .i64 0), .bot, .bot, .bot, .bot, .bot, ⟨by simp [Par.chain, m1], Nat.le_refl _, hl1, by omega, by omega⟩, by kernel_rfl, (((st.pick 4 rfl).pick 2 rfl).pick 2 rfl)⟩
 rintro k _ h ⟨l2, i2, a, ns2, fam2, lv2, x3, x4, x5, x7, x8, x9, ⟨hs, hk, hl2, hN2, hb2⟩, rfl, st⟩
 obtain ⟨t, l', rfl⟩ := hl2.cons
 simp only [List.length_cons] at hk hN2 hb2
 obtain ⟨k, rfl⟩ : ∃ m, k = m + 1 := ⟨k - 1, by omega⟩
 refine WP.block (WP.seq (WP.reg (WO.callF rfl (find_c D ((((st.pick 4 rfl).pick 4 rfl).pick 4 rfl).pick 3 rfl) hl2 hops) ?_)))
 rintro _ h (⟨o2, rfl, q2, hl2, st⟩ | ⟨y2, z2, rfl, q2, st⟩)
 ·replace hl2 : Left p (i2 + 1) l' := hl2
  refine WO.val (v := .agg [L.str o2.1, .int .i64 (o2.2 : Int)]) rfl (WO.val (v := .int .i64 (Par.here (t :: l') : Int)) rfl (WO.val (v := .bool true) rfl (WO.boxFS st L.alloc (fun b1 h st => ?_))))
  refine WO.storeF (row' := [L.str o2.1, .int .i64 (o2.2 : Int)]) st 0 rfl rfl rfl rfl rfl rfl rfl (fun h st => ?_)
  refine WO.valS (v := .int .i64 (Par.here (t :: l') : Int)) rfl (WO.valS (v := .bool true) rfl (WO.nil (WP.seq (WP.seq (WP.reg (WO.valS (v := .bool false) rfl (WO.nil (WP.cond (t := false) rfl (WP.skip (WP.seq (WP.reg (WO.callvOS rfl rfl (hun (((((st.pick 4 rfl).pick 4 rfl).pick 5 rfl).pick 4 rfl) : St (.box xb [.ptr p.rb 0, lv2] :: .acc fam2 7 lv2 (ns2.map Nd.row) :: (p.box (i2 + 1 : Nat) d) :: p.toks :: .box b1 [L.str o2.1, .int .i64 (o2.2 : Int)] :: .stb (fun h => Rows 2 h (.sl ob oo ops.length oc) (ops.map Opn.row)) :: fs) _) hl2 (by omega) (by omega) (by omega)) (fun e a h hm st => ?_) ?_))))))))))))
  ·exact Outc.pan (by simp [Par.chainL, hm, hs, q2]) (st.tail.tail)
  rintro ⟨a3, ns3⟩ l3 _ h i3 m3 hl3 ⟨rfl, fam3, lv3, st⟩
  obtain ⟨g3, w3⟩ := hgood (by omega) m3
  replace st : St (.box xb [.ptr p.rb 0, lv3] :: .acc fam3 7 lv3 (ns3.map Nd.row) :: (p.box i3 d) :: p.toks :: .box b1 [L.str o2.1, .int .i64 (o2.2 : Int)] :: .stb (fun h => Rows 2 h (.sl ob oo ops.length oc) (ops.map Opn.row)) :: fs) h := st
  refine WO.nil (WP.reg (WO.val (v := .ptr b1 1) (L.faddr rfl) (WO.val (v := .int .i64 (o2.2 : Int)) (L.loadB rfl (st.box_at 4 rfl) rfl) (WO.val (v := .agg [.int .i64 (o2.2 : Int), .int .i64 0, .str 0 0, .str 0 0, .int .i64 (a : Int), .int .i64 (a3 : Int), .int .i64 (Par.here (t :: l') : Int)]) (L.build rfl) (WO.callFS rfl (put_c (n := (Nd.mk o2.2 0 [] [] (a : Int) (a3 : Int) (Par.here (t :: l')))) D st (by omega)) ?_)))))
  rintro _ h ⟨rfl, fam4, lv4, st⟩
  refine WO.nil ?_
  exact ⟨k, (Nat.lt_succ_self _), l3, i3, ns3.length, (ns3 ++ [(Nd.mk o2.2 0 [] [] (a : Int) (a3 : Int) (Par.here (t :: l')))]), fam4, lv4, x3, (.bool true), (.bool false), (.ptr b1 0), (.int .i64 (a3 : Int)), (.int .i64 (Par.here (t :: l') : Int)), ⟨by rw [hs]; simp [Par.chainL, q2, m3], by omega, hl3, by omega, by simp; omega⟩, by kernel_rfl, ((((st.pick 4 rfl).tail.pick 4 rfl).pick 2 rfl).pick 2 rfl)⟩
 ·replace st : St (.box xb [.ptr p.rb 0, lv2] :: .stb (fun h => Rows 2 h (.sl ob oo ops.length oc) (ops.map Opn.row)) :: (p.box i2 d) :: p.toks :: .acc fam2 7 lv2 (ns2.map Nd.row) :: fs) h := st
  refine WO.val (v := .agg [y2, z2]) rfl (WO.val (v := .int .i64 (Par.here (t :: l') : Int)) rfl (WO.val (v := .bool false) rfl (WO.boxFS st L.alloc (fun b2 h st => ?_))))
  refine WO.storeF (row' := [y2, z2]) st 0 rfl rfl rfl rfl rfl rfl rfl (fun h st => ?_)
  refine WO.valS (v := .int .i64 (Par.here (t :: l') : Int)) rfl (WO.valS (v := .bool false) rfl (WO.nil (WP.seq (WP.seq (WP.reg (WO.valS (v := .bool true) rfl (WO.nil (WP.cond (t := true) rfl (WP.seq (WP.reg (WO.valS (v := .int .i64 (a : Int)) rfl (WO.nil (WP.ret ?_)))))))))))))
  exact ⟨_, (res_cons (res_tmp (v := .int .i64 (a : Int)) rfl) (res_nil _ _)), Outc.ok (x := (a, ns2)) (l := (t :: l')) (by rw [hs]; simp [Par.chainL, q2]) hl2 ⟨rfl, _, _, (((st.tail.pick 1 rfl).tail.pick 3 rfl).pick 1 rfl)⟩⟩
theorem term_c (D : HasF c) {p : RP} {xb N : Nat} {un : Par.E} (hun : Reads c p xb N 87 un) (hgood : Par.Good un N) {fs : List Fact} {h : Heap} {i d fam : Nat} {lv : V} {ns : List Nd} {l : List Tok} (st : St (.box xb [.ptr p.rb 0, lv] :: .acc fam 7 lv (ns.map Nd.row) :: p.box i d :: p.toks :: fs) h) (hl : Left p i l) (hd : d ≤ 40) (hN : l.length ≤ N) (hb : ns.length + l.length < 4294967296) :
  RunR c 85 [.ptr xb 0] h (Outc p 83 (Par.term un d l ns) (fun a i v h1 => v = .int .i64 (a.1 : Int) ∧ ∃ fam lv, St (.box xb [.ptr p.rb 0, lv] :: .acc fam 7 lv (a.2.map Nd.row) :: p.box i d :: p.toks :: fs) h1) (St fs)) := by
 refine RunR.fun_ D.f85 rfl (WP.seq (WP.reg (WO.valS (v := .int .i64 0) rfl (WO.nil (WP.seq (WP.reg (WO.val (v := .fn 87 [.ptr xb 0] []) rfl (WO.val (v := .agg [.str 1 42, .int .i64 7]) (L.build rfl) (WO.val (v := .agg [.str 1 47, .int .i64 8]) (L.build rfl) (WO.val (v := .agg [.str 1 37, .int .i64 9]) (L.build rfl) (WO.bslF (rows := Par.mulOps.map Opn.row) st rfl (by decide) rfl (opn_len _) (fun o1 h st => ?_))))))))))))
 refine WO.callOS rfl (chain_c (ops := Par.mulOps) D hun hgood (by decide) ((st.pick 2 rfl).pick 2 rfl) hl (by omega) (by first | exact hN | (simp only [List.length_cons] at hN; omega) | omega) (by first | exact hb | (simp only [List.length_cons] at hb; omega) | omega)) (fun e a h hm st => ?_) ?_
 ·exact Outc.pan (by simp [Par.term, hm]) (st)
 rintro ⟨a1, ns1⟩ l1 _ h i1 m1 hl1 ⟨rfl, fam1, lv1, st⟩
 refine WO.nil (WP.ret ?_)
 exact ⟨_, (res_cons (res_tmp (v := .int .i64 (a1 : Int)) rfl) (res_nil _ _)), Outc.ok (x := (a1, ns1)) (l := l1) (by simp [Par.term, m1]) hl1 ⟨rfl, _, _, st⟩⟩
theorem term_reads (D : HasF c) {p : RP} {xb N : Nat} {un : Par.E} (hun : Reads c p xb N 87 un) (hgood : Par.Good un N) : Reads c p xb N 85 (Par.term un) := fun st hl hd hN hb => term_c D hun hgood st hl hd hN hb
theorem sum_c (D : HasF c) {p : RP} {xb N : Nat} {un : Par.E} (hun : Reads c p xb N 87 un) (hgood : Par.Good un N) {fs : List Fact} {h : Heap} {i d fam : Nat} {lv : V} {ns : List Nd} {l : List Tok} (st : St (.box xb [.ptr p.rb 0, lv] :: .acc fam 7 lv (ns.map Nd.row) :: p.box i d :: p.toks :: fs) h) (hl : Left p i l) (hd : d ≤ 40) (hN : l.length ≤ N) (hb : ns.length + l.length < 4294967296) :
  RunR c 78 [.ptr xb 0] h (Outc p 83 (Par.sum un d l ns) (fun a i v h1 => v = .int .i64 (a.1 : Int) ∧ ∃ fam lv, St (.box xb [.ptr p.rb 0, lv] :: .acc fam 7 lv (a.2.map Nd.row) :: p.box i d :: p.toks :: fs) h1) (St fs)) := by
 refine RunR.fun_ D.f78 rfl (WP.seq (WP.reg (WO.valS (v := .int .i64 0) rfl (WO.nil (WP.seq (WP.reg (WO.val (v := .fn 85 [.ptr xb 0] []) rfl (WO.val (v := .agg [.str 1 43, .int .i64 5]) (L.build rfl) (WO.val (v := .agg [.str 1 45, .int .i64 6]) (L.build rfl) (WO.bslF (rows := Par.addOps.map Opn.row) st rfl (by decide) rfl (opn_len _) (fun o1 h st => ?_)))))))))))
 refine WO.callOS rfl (chain_c (ops := Par.addOps) D (term_reads D hun hgood) (chain_good hgood) (by decide) ((st.pick 2 rfl).pick 2 rfl) hl (by omega) (by first | exact hN | (simp only [List.length_cons] at hN; omega) | omega) (by first | exact hb | (simp only [List.length_cons] at hb; omega) | omega)) (fun e a h hm st => ?_) ?_
 ·exact Outc.pan (by simp [Par.sum, hm]) (st)
 rintro ⟨a1, ns1⟩ l1 _ h i1 m1 hl1 ⟨rfl, fam1, lv1, st⟩
 refine WO.nil (WP.ret ?_)
 exact ⟨_, (res_cons (res_tmp (v := .int .i64 (a1 : Int)) rfl) (res_nil _ _)), Outc.ok (x := (a1, ns1)) (l := l1) (by simp [Par.sum, m1]) hl1 ⟨rfl, _, _, st⟩⟩
theorem whole_c (D : HasF c) {p : RP} {xb N : Nat} {un : Par.E} (hun : Reads c p xb N 87 un) (hgood : Par.Good un N) {fs : List Fact} {h : Heap} {i d fam : Nat} {lv : V} {ns : List Nd} {l : List Tok} (st : St (.box xb [.ptr p.rb 0, lv] :: .acc fam 7 lv (ns.map Nd.row) :: p.box i d :: p.toks :: fs) h) (hl : Left p i l) (hd : d ≤ 40) (hN : l.length ≤ N) (hb : ns.length + l.length < 4294967296) :
  RunR c 73 [.ptr xb 0] h (Outc p 83 (Par.whole un d l ns) (fun a i v h1 => v = .int .i64 (a.1 : Int) ∧ ∃ fam lv, St (.box xb [.ptr p.rb 0, lv] :: .acc fam 7 lv (a.2.map Nd.row) :: p.box i d :: p.toks :: fs) h1) (St fs)) := by
 have hsg : Par.Good (Par.sum un) N := sum_good hgood
 refine RunR.fun_ D.f73 rfl (WP.seq (WP.reg (WO.valS (v := .int .i64 0) rfl (WO.nil (WP.seq (WP.reg (WO.callOS rfl (sum_c D hun hgood st hl (by omega) (by first | exact hN | (simp only [List.length_cons] at hN; omega) | omega) (by first | exact hb | (simp only [List.length_cons] at hb; omega) | omega)) (fun e a h hm st => ?_) ?_)))))))
 ·exact Outc.pan (by simp [Par.whole, hm]) (st)
 rintro ⟨a1, ns1⟩ l1 _ h i1 m1 hl1 ⟨rfl, fam1, lv1, st⟩
 obtain ⟨g1, w1⟩ := hsg (by first | exact hN | (simp only [List.length_cons] at hN; omega) | omega) m1
 refine WO.nil (WP.seq (WP.reg (WO.val (v := .agg [.str 2 15677, .int .i64 10]) (L.build rfl) (WO.val (v := .agg [.str 2 15676, .int .i64 12]) (L.build rfl) (WO.val (v := .agg [.str 1 60, .int .i64 11]) (L.build rfl) (WO.bslF (rows := Par.cmpOps.map Opn.row) st rfl (by decide) rfl (opn_len _) (fun o1 h st => ?_)))))))
 refine WO.callF rfl (find_c (ops := Par.cmpOps) D ((((st.pick 4 rfl).pick 4 rfl).pick 2 rfl).pick 3 rfl) hl1 (by decide)) ?_
 rintro _ h (⟨o2, rfl, q2, hl2, st⟩ | ⟨y2, z2, rfl, q2, st⟩)
 ·replace st : St (.box xb [.ptr p.rb 0, lv1] :: .stb (fun h => Rows 2 h (.sl o1 0 3 (some 3)) (Par.cmpOps.map Opn.row)) :: (p.box (i1 + 1 : Nat) d) :: p.toks :: .acc fam1 7 lv1 (ns1.map Nd.row) :: fs) h := st
  refine WO.val (v := .agg [L.str o2.1, .int .i64 (o2.2 : Int)]) rfl (WO.val (v := .int .i64 (Par.here l1 : Int)) rfl (WO.val (v := .bool true) rfl (WO.boxFS st L.alloc (fun b1 h st => ?_))))
  refine WO.storeF (row' := [L.str o2.1, .int .i64 (o2.2 : Int)]) st 0 rfl rfl rfl rfl rfl rfl rfl (fun h st => ?_)
  refine WO.valS (v := .int .i64 (Par.here l1 : Int)) rfl (WO.valS (v := .bool true) rfl (WO.nil (WP.seq (WP.seq (WP.reg (WO.valS (v := .bool false) rfl (WO.nil (WP.cond (t := false) rfl (WP.skip (WP.seq (WP.reg ?_)))))))))))
  have htl := List.length_tail (l := l1)
  refine WO.callOS rfl (sum_c D hun hgood (((((st.pick 4 rfl).pick 4 rfl).pick 5 rfl).pick 4 rfl) : St (.box xb [.ptr p.rb 0, lv1] :: .acc fam1 7 lv1 (ns1.map Nd.row) :: (p.box (i1 + 1 : Nat) d) :: p.toks :: .box b1 [L.str o2.1, .int .i64 (o2.2 : Int)] :: .stb (fun h => Rows 2 h (.sl o1 0 3 (some 3)) (Par.cmpOps.map Opn.row)) :: fs) _) hl2 (by omega) (by first | exact hN | (simp only [List.length_cons] at hN; omega) | omega) (by first | exact hb | (simp only [List.length_cons] at hb; omega) | omega)) (fun e a h hm st => ?_) ?_
  ·exact Outc.pan (by simp [Par.whole, hm, m1, q2]) (st.tail.tail)
  rintro ⟨a3, ns3⟩ l3 _ h i3 m3 hl3 ⟨rfl, fam3, lv3, st⟩
  obtain ⟨g3, w3⟩ := hsg (by first | exact hN | (simp only [List.length_cons] at hN; omega) | omega) m3
  replace st : St (.box xb [.ptr p.rb 0, lv3] :: .acc fam3 7 lv3 (ns3.map Nd.row) :: (p.box i3 d) :: p.toks :: .box b1 [L.str o2.1, .int .i64 (o2.2 : Int)] :: .stb (fun h => Rows 2 h (.sl o1 0 3 (some 3)) (Par.cmpOps.map Opn.row)) :: fs) h := st
  refine WO.nil (WP.seq (WP.reg (WO.val (v := .ptr b1 1) (L.faddr rfl) (WO.val (v := .int .i64 (o2.2 : Int)) (L.loadB rfl (st.box_at 4 rfl) rfl) (WO.val (v := .agg [.int .i64 (o2.2 : Int), .int .i64 0, .str 0 0, .str 0 0, .int .i64 (a1 : Int), .int .i64 (a3 : Int), .int .i64 (Par.here l1 : Int)]) (L.build rfl) (WO.callFS rfl (put_c (n := (Nd.mk o2.2 0 [] [] (a1 : Int) (a3 : Int) (Par.here l1))) D st (by omega)) ?_))))))
  rintro _ h ⟨rfl, fam4, lv4, st⟩
  refine WO.nil (WP.ret ?_)
  exact ⟨_, (res_cons (res_tmp (v := .int .i64 (ns3.length : Int)) rfl) (res_nil _ _)), Outc.ok (x := (ns3.length, (ns3 ++ [(Nd.mk o2.2 0 [] [] (a1 : Int) (a3 : Int) (Par.here l1))]))) (l := l3) (by simp [Par.whole, m1, q2, m3]) hl3 ⟨rfl, _, _, ((st.pick 4 rfl).tail.pick 4 rfl).tail⟩⟩
 ·replace st : St (.box xb [.ptr p.rb 0, lv1] :: .stb (fun h => Rows 2 h (.sl o1 0 3 (some 3)) (Par.cmpOps.map Opn.row)) :: (p.box i1 d) :: p.toks :: .acc fam1 7 lv1 (ns1.map Nd.row) :: fs) h := st
  refine WO.val (v := .agg [y2, z2]) rfl (WO.val (v := .int .i64 (Par.here l1 : Int)) rfl (WO.val (v := .bool false) rfl (WO.boxFS st L.alloc (fun b2 h st => ?_))))
  refine WO.storeF (row' := [y2, z2]) st 0 rfl rfl rfl rfl rfl rfl rfl (fun h st => ?_)
  refine WO.valS (v := .int .i64 (Par.here l1 : Int)) rfl (WO.valS (v := .bool false) rfl (WO.nil (WP.seq (WP.seq (WP.reg (WO.valS (v := .bool true) rfl (WO.nil (WP.cond (t := true) rfl (WP.seq (WP.reg (WO.valS (v := .int .i64 (a1 : Int)) rfl (WO.nil (WP.ret ?_)))))))))))))
  exact ⟨_, (res_cons (res_tmp (v := .int .i64 (a1 : Int)) rfl) (res_nil _ _)), Outc.ok (x := (a1, ns1)) (l := l1) (by simp [Par.whole, m1, q2]) hl1 ⟨rfl, _, _, (((st.tail.pick 1 rfl).tail.pick 3 rfl).pick 1 rfl)⟩⟩
theorem unary_c (D : HasF c) {p : RP} {xb N : Nat} {un : Par.E} (hun : Reads c p xb N 87 un) (hgood : Par.Good un N) {fs : List Fact} {h : Heap} {i d fam : Nat} {lv : V} {ns : List Nd} {l : List Tok} (st : St (.box xb [.ptr p.rb 0, lv] :: .acc fam 7 lv (ns.map Nd.row) :: p.box i d :: p.toks :: fs) h) (hl : Left p i l) (hd : d ≤ 40) (hN : l.length ≤ N + 1) (hb : ns.length + l.length < 4294967296) :
  RunR c 87 [.ptr xb 0] h (Outc p 83 (Par.unaryS un d l ns) (fun a i v h1 => v = .int .i64 (a.1 : Int) ∧ ∃ fam lv, St (.box xb [.ptr p.rb 0, lv] :: .acc fam 7 lv (a.2.map Nd.row) :: p.box i d :: p.toks :: fs) h1) (St fs)) := by
 obtain ⟨t, l', rfl⟩ := hl.cons
 simp only [List.length_cons] at hN hb
 have hwg : Par.Good (Par.whole un) N := whole_good hgood
 refine RunR.fun_ D.f87 rfl (WP.seq (WP.reg (WO.valS (v := .int .i64 0) rfl (WO.nil (WP.seq (WP.reg (WO.val (v := .ptr xb 0) rfl (WO.val (v := .ptr xb 0) (L.faddr rfl) (WO.val (v := .ptr p.rb 0) (L.loadB rfl (st.box_at 0 rfl) rfl) (WO.callF rfl (now_c D ((st.pick 3 rfl).pick 3 rfl) hl) ?_))))))))))
 rintro _ h ⟨rfl, st⟩
 refine WO.valS (v := .int .i64 (t.at_ : Int)) rfl (WO.nil (WP.seq (WP.seq (WP.reg (WO.val (v := .agg [.str 1 45, .int .i64 3]) (L.build rfl) (WO.val (v := .agg [.str 1 33, .int .i64 4]) (L.build rfl) (WO.bslFS (rows := Par.negOps.map Opn.row) st rfl (by decide) rfl (opn_len _) (fun o1 h st => ?_))))))))
 refine WO.valS (v := .int .i64 ((2 : Nat) : Int)) (L.llen rfl) (WO.valS (v := .int .i64 0) rfl (WO.nil (WP.block (WP.loopG (α := Nat) (fun k env h => ∃ x1 x4 x6 x7 x8, (k ≤ 2 ∧ ∀ j o, Par.negOps[j]? = some o → j < k → Par.is o.1 (t :: l') = false) ∧ env = argsP [.ptr xb 0, x1, .int .i64 (k : Int), .int .i64 ((2 : Nat) : Int), x4, .sl o1 0 2 (some 2), x6, x7, x8, .int .i64 (t.at_ : Int)] 0 Env.nil ∧ St (.box xb [.ptr p.rb 0, lv] :: .acc fam 7 lv (ns.map Nd.row) :: .stb (fun h => Rows 2 h (.sl o1 0 2 (some 2)) (Par.negOps.map Opn.row)) :: (p.box i d) :: p.toks :: fs) h) (fun k => 2 - k) 0 ?_ ?_))))
 ·exact ⟨(.int .i64 0), .bot, .bot, .bot, .bot, ⟨Nat.zero_le _, fun _ _ _ h => absurd h (Nat.not_lt_zero _)⟩, by kernel_rfl, ((st.pick 4 rfl).pick 4 rfl)⟩
 rintro k _ h ⟨x1, x4, x6, x7, x8, ⟨hk, hno⟩, rfl, st⟩
 refine WP.seq (WP.reg (WO.ifS (L.lss rfl rfl) (fun c1 => ?_) (fun c1 => ?_)))
 ·replace c1 : k < 2 := by omega
  refine WO.nil (WP.seq (WP.cond (t := true) rfl (WP.skip (WP.seq (WP.block (WP.seq (WP.reg ?_)))))))
  obtain ⟨o, ho⟩ : ∃ o, Par.negOps[k]? = some o := ⟨_, List.getElem?_eq_getElem (show k < Par.negOps.length from c1)⟩
  refine WO.val (L.iaddr rfl rfl c1) (WO.val (v := .agg [L.str o.1, .int .i64 (o.2 : Int)]) (L.loadn rfl ((st.stb_at 2 rfl).loadn (by rw [List.getElem?_map, ho]; rfl))) ?_)
  refine WO.boxFS st L.alloc (fun b1 h st => ?_)
  refine WO.storeF (row' := [L.str o.1, .int .i64 (o.2 : Int)]) st 0 rfl rfl rfl rfl rfl rfl rfl (fun h st => ?_)
  refine WO.nil (WP.seq (WP.draw (WD.val (v := .ptr xb 0) rfl (WD.val (v := .ptr xb 0) rfl (WD.val (v := .ptr xb 0) (L.faddr rfl) (WD.val (v := .ptr p.rb 0) (L.loadB rfl (st.box_at 1 rfl) rfl) (WD.val (v := .ptr b1 0) (L.faddr rfl) (WD.val (v := L.str o.1) (L.loadB rfl (st.box_at 0 rfl) rfl) (WD.callFS rfl (is_c D ((st.pick 5 rfl).pick 5 rfl) hl) (fun _ _ _ => rfl) ?_)))))))))
  rintro _ h ⟨rfl, st⟩
  cases his1 : Par.is o.1 (t :: l')
  ·refine WD.nil (WP.cond (t := false) rfl (WP.skip (WP.reg (WO.valS (v := .int .i64 ((k + 1 : Nat) : Int)) (L.addE rfl rfl (by omega) (And.intro (by omega) (by omega))) (WO.nil ?_)))))
   have hno' : ∀ j o', Par.negOps[j]? = some o' → j < k + 1 → Par.is o'.1 (t :: l') = false := by
    intro j o' hj hlt
    rcases Nat.lt_succ_iff_lt_or_eq.1 hlt with hlt | rfl
    ·exact hno j o' hj hlt
    ·rw [ho] at hj; cases hj; exact his1
   exact ⟨k + 1, (by omega), x1, (.bool true), (.ptr b1 0), (.bool false), x8, ⟨by omega, hno'⟩, by kernel_rfl, ((((st.pick 2 rfl).tail.pick 4 rfl).pick 4 rfl).pick 4 rfl)⟩
  ·refine WD.nil (WP.cond (t := true) rfl (WP.seq (WP.reg (WO.val (v := .ptr xb 0) rfl (WO.val (v := .ptr xb 0) (L.faddr rfl) (WO.val (v := .ptr p.rb 0) (L.loadB rfl (st.box_at 3 rfl) rfl) ?_))))))
   by_cases hd40 : 40 ≤ d
   ·refine WO.callPanF rfl (open_pan D st hl hd40) (fun h st => ?_)
    exact Outc.pan (by simp [Par.unaryS, Par.fail, (show Par.find Par.negOps (t :: l') = some o from find_some ho hno his1), hd40]) (st.tail.tail.tail.tail)
   refine WO.callF rfl (open_ok D st hl hd40) ?_
   rintro _ h ⟨rfl, st⟩
   refine WO.nil (WP.seq (WP.reg (WO.val (v := .ptr xb 0) rfl (WO.val (v := .ptr xb 0) (L.faddr rfl) (WO.val (v := .ptr p.rb 0) (L.loadB rfl (st.box_at 3 rfl) rfl) (WO.val (v := .ptr p.rb 0) rfl (WO.val (v := .ptr p.rb 1) (L.faddr rfl) (WO.val (v := .int .i64 (i : Int)) (L.loadB rfl (st.box_at 0 rfl) rfl) ?_))))))))
   have hl0 : Left p (i + 1) l' := hl.is his1
   have hq : Par.find Par.negOps (t :: l') = some o := find_some ho hno his1
   refine WO.val (v := .int .i64 ((i + 1 : Nat) : Int)) (L.addE rfl rfl (by omega) (And.intro (by omega) (by have := hl.lt; have := hl.small; omega))) (WO.val (v := .ptr p.rb 0) rfl (WO.val (v := .ptr p.rb 1) (L.faddr rfl) (WO.storeF (row' := [.sl p.tb p.to p.ts.length p.cap, .int .i64 ((i + 1 : Nat) : Int), .int .i64 ((d + 1 : Nat) : Int)]) st 0 rfl rfl rfl rfl rfl rfl rfl (fun h st => ?_))))
   refine WO.nil (WP.seq (WP.reg (WO.callOS rfl (hun ((st.pick 4 rfl).pick 4 rfl) hl0 (by omega) (by first | exact hN | (simp only [List.length_cons] at hN; omega) | omega) (by first | exact hb | (simp only [List.length_cons] at hb; omega) | omega)) (fun e a h hm st => ?_) ?_)))
   ·exact Outc.pan (by simp [Par.unaryS, hm, hq, hd40]) (st.tail.tail)
   rintro ⟨a1, ns1⟩ l1 _ h i1 m1 hl1 ⟨rfl, fam1, lv1, st⟩
   obtain ⟨g1, w1⟩ := hgood (by first | exact hN | (simp only [List.length_cons] at hN; omega) | omega) m1
   replace st : St (.box xb [.ptr p.rb 0, lv1] :: .acc fam1 7 lv1 (ns1.map Nd.row) :: (p.box i1 (d + 1 : Nat)) :: p.toks :: .box b1 [L.str o.1, .int .i64 (o.2 : Int)] :: .stb (fun h => Rows 2 h (.sl o1 0 2 (some 2)) (Par.negOps.map Opn.row)) :: fs) h := st
   refine WO.nil (WP.seq (WP.reg (WO.val (v := .ptr xb 0) rfl (WO.val (v := .ptr xb 0) (L.faddr rfl) (WO.val (v := .ptr p.rb 0) (L.loadB rfl (st.box_at 0 rfl) rfl) (WO.val (v := .ptr p.rb 0) rfl (WO.val (v := .ptr p.rb 2) (L.faddr rfl) (WO.val (v := .int .i64 ((d + 1 : Nat) : Int)) (L.loadB rfl (st.box_at 2 rfl) rfl) (WO.val (v := .int .i64 (d : Int)) (L.subE rfl rfl (by omega) (And.intro (by omega) (by omega))) (WO.val (v := .ptr p.rb 0) rfl (WO.val (v := .ptr p.rb 2) (L.faddr rfl) (WO.storeF (row' := [.sl p.tb p.to p.ts.length p.cap, .int .i64 (i1 : Int), .int .i64 (d : Int)]) st 2 rfl rfl rfl rfl rfl rfl rfl (fun h (st : St (.box xb [.ptr p.rb 0, lv1] :: .acc fam1 7 lv1 (ns1.map Nd.row) :: (p.box i1 d) :: p.toks :: .box b1 [L.str o.1, .int .i64 (o.2 : Int)] :: .stb (fun h => Rows 2 h (.sl o1 0 2 (some 2)) (Par.negOps.map Opn.row)) :: fs) h) => ?_)))))))))))))
   refine WO.nil (WP.seq (WP.reg (WO.val (v := .ptr b1 1) (L.faddr rfl) (WO.val (v := .int .i64 (o.2 : Int)) (L.loadB rfl (st.box_at 4 rfl) rfl) (WO.val (v := .agg [.int .i64 (o.2 : Int), .int .i64 0, .str 0 0, .str 0 0, .int .i64 (a1 : Int), .int .i64 (-1), .int .i64 (t.at_ : Int)]) (L.build rfl) (WO.callFS rfl (put_c (n := (Nd.mk o.2 0 [] [] (a1 : Int) (-1) (Par.here (t :: l')))) D st (by omega)) ?_))))))
   rintro _ h ⟨rfl, fam2, lv2, st⟩
   refine WO.nil (WP.ret ?_)
   exact ⟨_, (res_cons (res_tmp (v := .int .i64 (ns1.length : Int)) rfl) (res_nil _ _)), Outc.ok (x := (ns1.length, (ns1 ++ [(Nd.mk o.2 0 [] [] (a1 : Int) (-1) (Par.here (t :: l')))]))) (l := l1) (by simp [Par.unaryS, Par.hd, hq, hd40, m1]) hl1 ⟨rfl, _, _, ((st.pick 4 rfl).tail.pick 4 rfl).tail⟩⟩
 ·replace c1 : ¬ (k < 2) := by omega
  refine WO.nil (WP.seq (WP.cond (t := false) rfl (WP.exit (WP.seq (WP.seq (WP.reg (WO.val (v := .ptr xb 0) rfl (WO.val (v := .ptr xb 0) (L.faddr rfl) (WO.val (v := .ptr p.rb 0) (L.loadB rfl (st.box_at 0 rfl) rfl) ?_)))))))))
  have hq : Par.find Par.negOps (t :: l') = none := find_none fun j o hj hlt => hno j o hj (Nat.lt_of_lt_of_le hlt (by show 2 ≤ k; omega))
  refine WO.callFS rfl (is_c (s := [40]) D ((st.pick 4 rfl).pick 4 rfl) hl) ?_
  rintro _ h ⟨rfl, st⟩
  cases his2 : Par.is [40] (t :: l')
  ·refine WO.nil (WP.cond (t := false) rfl (WP.skip (WP.seq (WP.seq (WP.reg (WO.val (v := .ptr xb 0) rfl (WO.val (v := .ptr xb 0) (L.faddr rfl) (WO.val (v := .ptr p.rb 0) (L.loadB rfl (st.box_at 2 rfl) rfl) (WO.callF rfl (now_c D st hl) ?_)))))))))
   rintro _ h ⟨rfl, st⟩
   refine WO.val (v := .int .i64 (t.kind : Int)) rfl (WO.ifS (L.eql rfl rfl) (fun c2 => ?_) (fun c2 => ?_))
   ·replace c2 : t.kind = 2 := by omega
    refine WO.nil (WP.cond (t := true) rfl (WP.seq (WP.reg (WO.val (v := .ptr xb 0) rfl (WO.val (v := .ptr xb 0) (L.faddr rfl) (WO.val (v := .ptr p.rb 0) (L.loadB rfl (st.box_at 2 rfl) rfl) (WO.callO rfl (number_c D st hl) (fun e a h hm st => ?_) ?_)))))))
    ·exact Outc.pan (by simp [Par.unaryS, Par.hd, hm, hq, his2, c2]) (st.tail.tail.tail)
    rintro n3 l3 _ h i3 m3 hl3 ⟨rfl, st⟩
    refine WO.val (v := .agg [.int .i64 1, .int .i64 (n3 : Int), .str 0 0, .str 0 0, .int .i64 (-1), .int .i64 (-1), .int .i64 (t.at_ : Int)]) (L.build rfl) (WO.callFS rfl (put_c (n := (Nd.mk 1 (n3 : Int) [] [] (-1) (-1) (Par.here (t :: l')))) D ((st.pick 3 rfl).pick 3 rfl) (by omega)) ?_)
    rintro _ h ⟨rfl, fam4, lv4, st⟩
    refine WO.nil (WP.ret ?_)
    exact ⟨_, (res_cons (res_tmp (v := .int .i64 (ns.length : Int)) rfl) (res_nil _ _)), Outc.ok (x := (ns.length, (ns ++ [(Nd.mk 1 (n3 : Int) [] [] (-1) (-1) (Par.here (t :: l')))]))) (l := l3) (by simp [Par.unaryS, Par.hd, hq, his2, c2, m3]) hl3 ⟨rfl, _, _, (st.pick 4 rfl).tail⟩⟩
   ·replace c2 : ¬ (t.kind = 2) := by omega
    refine WO.nil (WP.cond (t := false) rfl (WP.skip (WP.seq (WP.reg (WO.val (v := .ptr xb 0) rfl (WO.val (v := .ptr xb 0) (L.faddr rfl) (WO.val (v := .ptr p.rb 0) (L.loadB rfl (st.box_at 2 rfl) rfl) (WO.callO rfl (qname_c D st hl) (fun e a h hm st => ?_) ?_))))))))
    ·exact Outc.pan (by simp [Par.unaryS, Par.hd, hm, hq, his2, c2]) (st.tail.tail.tail)
    rintro ⟨q5, r5⟩ l5 _ h i5 m5 hl5 ⟨rfl, st⟩
    refine WO.val (v := L.str q5) rfl (WO.val (v := L.str r5) rfl (WO.valS (v := L.str q5) rfl (WO.valS (v := L.str r5) rfl (WO.nil (WP.seq (WP.reg (WO.val (v := .agg [.int .i64 2, .int .i64 0, L.str q5, L.str r5, .int .i64 (-1), .int .i64 (-1), .int .i64 (t.at_ : Int)]) (L.build rfl) (WO.callFS rfl (put_c (n := (Nd.mk 2 0 q5 r5 (-1) (-1) (Par.here (t :: l')))) D ((st.pick 3 rfl).pick 3 rfl) (by omega)) ?_))))))))
    rintro _ h ⟨rfl, fam6, lv6, st⟩
    refine WO.nil (WP.ret ?_)
    exact ⟨_, (res_cons (res_tmp (v := .int .i64 (ns.length : Int)) rfl) (res_nil _ _)), Outc.ok (x := (ns.length, (ns ++ [(Nd.mk 2 0 q5 r5 (-1) (-1) (Par.here (t :: l')))]))) (l := l5) (by simp [Par.unaryS, Par.hd, hq, his2, c2, m5]) hl5 ⟨rfl, _, _, (st.pick 4 rfl).tail⟩⟩
  ·refine WO.nil (WP.cond (t := true) rfl (WP.seq (WP.reg (WO.val (v := .ptr xb 0) rfl (WO.val (v := .ptr xb 0) (L.faddr rfl) (WO.val (v := .ptr p.rb 0) (L.loadB rfl (st.box_at 2 rfl) rfl) ?_))))))
   by_cases hd40 : 40 ≤ d
   ·refine WO.callPanF rfl (open_pan D st hl hd40) (fun h st => ?_)
    exact Outc.pan (by simp [Par.unaryS, Par.fail, hq, his2, hd40]) (st.tail.tail.tail)
   refine WO.callF rfl (open_ok D st hl hd40) ?_
   rintro _ h ⟨rfl, st⟩
   refine WO.nil (WP.seq (WP.reg (WO.val (v := .ptr xb 0) rfl (WO.val (v := .ptr xb 0) (L.faddr rfl) (WO.val (v := .ptr p.rb 0) (L.loadB rfl (st.box_at 2 rfl) rfl) (WO.val (v := .ptr p.rb 0) rfl (WO.val (v := .ptr p.rb 1) (L.faddr rfl) (WO.val (v := .int .i64 (i : Int)) (L.loadB rfl (st.box_at 0 rfl) rfl) ?_))))))))
   have hl0 : Left p (i + 1) l' := hl.is his2
   refine WO.val (v := .int .i64 ((i + 1 : Nat) : Int)) (L.addE rfl rfl (by omega) (And.intro (by omega) (by have := hl.lt; have := hl.small; omega))) (WO.val (v := .ptr p.rb 0) rfl (WO.val (v := .ptr p.rb 1) (L.faddr rfl) (WO.storeF (row' := [.sl p.tb p.to p.ts.length p.cap, .int .i64 ((i + 1 : Nat) : Int), .int .i64 ((d + 1 : Nat) : Int)]) st 0 rfl rfl rfl rfl rfl rfl rfl (fun h st => ?_))))
   refine WO.nil (WP.seq (WP.reg (WO.callOS rfl (whole_c D hun hgood ((st.pick 3 rfl).pick 3 rfl) hl0 (by omega) (by first | exact hN | (simp only [List.length_cons] at hN; omega) | omega) (by first | exact hb | (simp only [List.length_cons] at hb; omega) | omega)) (fun e a h hm st => ?_) ?_)))
   ·exact Outc.pan (by simp [Par.unaryS, hm, hq, his2, hd40]) (st.tail)
   rintro ⟨a7, ns7⟩ l7 _ h i7 m7 hl7 ⟨rfl, fam7, lv7, st⟩
   obtain ⟨g7, w7⟩ := hwg (by first | exact hN | (simp only [List.length_cons] at hN; omega) | omega) m7
   refine WO.nil (WP.seq (WP.reg (WO.val (v := .ptr xb 0) rfl (WO.val (v := .ptr xb 0) (L.faddr rfl) (WO.val (v := .ptr p.rb 0) (L.loadB rfl (st.box_at 0 rfl) rfl) (WO.callO rfl (must_c (s := [41]) D ((st.pick 3 rfl).pick 3 rfl) hl7) (fun e a h hm st => ?_) ?_))))))
   ·exact Outc.pan (by simp [Par.unaryS, hm, hq, his2, hd40, m7]) (st.tail.tail.tail)
   rintro b8 l8 _ h i8 m8 hl8 ⟨rfl, st⟩
   refine WO.nil (WP.seq (WP.reg (WO.val (v := .ptr xb 0) rfl (WO.val (v := .ptr xb 0) (L.faddr rfl) (WO.val (v := .ptr p.rb 0) (L.loadB rfl (st.box_at 2 rfl) rfl) (WO.val (v := .ptr p.rb 0) rfl (WO.val (v := .ptr p.rb 2) (L.faddr rfl) (WO.val (v := .int .i64 ((d + 1 : Nat) : Int)) (L.loadB rfl (st.box_at 0 rfl) rfl) (WO.val (v := .int .i64 (d : Int)) (L.subE rfl rfl (by omega) (And.intro (by omega) (by omega))) (WO.val (v := .ptr p.rb 0) rfl (WO.val (v := .ptr p.rb 2) (L.faddr rfl) (WO.storeF (row' := [.sl p.tb p.to p.ts.length p.cap, .int .i64 (i8 : Int), .int .i64 (d : Int)]) st 0 rfl rfl rfl rfl rfl rfl rfl (fun h st => ?_)))))))))))))
   refine WO.nil (WP.seq (WP.reg (WO.valS (v := .int .i64 (a7 : Int)) rfl (WO.nil (WP.ret ?_)))))
   exact ⟨_, (res_cons (res_tmp (v := .int .i64 (a7 : Int)) rfl) (res_nil _ _)), Outc.ok (x := (a7, ns7)) (l := l8) (by simp [Par.unaryS, Par.hd, hq, his2, hd40, m7, m8]) hl8 ⟨rfl, _, _, (((st.pick 4 rfl).tail.pick 3 rfl).pick 3 rfl)⟩⟩
theorem unary_all (D : HasF c) {p : RP} {xb : Nat} : ∀ f, Reads c p xb f 87 (Par.unary f) ∧ Par.Good (Par.unary f) f
 | 0 => ⟨fun st hl hd hN hb => absurd (List.length_eq_zero_iff.1 (Nat.le_zero.1 hN)) hl.ne, fun hl hr => by cases hr⟩
 | f + 1 => by
  obtain ⟨h1, h2⟩ := unary_all D (p := p) (xb := xb) f
  exact ⟨fun st hl hd hN hb => unary_c D h1 h2 st hl hd hN hb, unaryS_good h2⟩
theorem expr_c (D : HasF c) {fs : List Fact} {h : Heap} {p : RP} {i d : Nat} {l : List Tok} (st : St (p.box i d :: p.toks :: fs) h) (hl : Left p i l) (hd : d ≤ 40) :
  RunR c 65 [.ptr p.rb 0] h (Outc p 83 (Par.expr d l) (fun a i v h1 => v.asCells = some [v] ∧ St (.stb (fun h => Rows 7 h v (a.map Nd.row)) :: p.box i d :: p.toks :: fs) h1) (St fs)) := by
 have hlen := hl.len
 have hsm := hl.small
 have hN := Nat.le_refl l.length
 have hb : ([] : List Nd).length + l.length < 4294967296 := by simp; omega
 refine RunR.fun_ D.f65 rfl (WP.seq (WP.reg (WO.valS (v := .slN) rfl (WO.nil (WP.seq (WP.reg (WO.val (v := .agg [.ptr p.rb 0, .slN]) (L.build rfl) (WO.boxFS st (L.box (l := [.ptr p.rb 0, .slN]) rfl rfl) (fun b1 h st => ?_)))))))))
 replace st : St (.box b1 [.ptr p.rb 0, .slN] :: .acc 0 7 .slN (([] : List Nd).map Nd.row) :: (p.box i d) :: p.toks :: fs) h := (st.acc0 7).pick 1 rfl
 refine WO.nil (WP.seq (WP.reg (WO.callO rfl (whole_c D (unary_all D l.length).1 (unary_all D (p := p) (xb := b1) l.length).2 st hl (by omega) (by first | exact hN | (simp only [List.length_cons] at hN; omega) | omega) (by first | exact hb | (simp only [List.length_cons] at hb; omega) | omega)) (fun e a h hm st => ?_) ?_)))
 ·exact Outc.pan (by simp [Par.expr, hm]) (st)
 rintro ⟨a1, ns1⟩ l1 _ h i1 m1 hl1 ⟨rfl, fam1, lv1, st⟩
 refine WO.nil (WP.seq (WP.reg (WO.val (v := .ptr b1 0) rfl (WO.val (v := .ptr b1 1) (L.faddr rfl) (WO.valS (v := lv1) (L.loadB rfl (st.box_at 0 rfl) rfl) (WO.nil (WP.ret ?_)))))))
 exact ⟨_, (res_cons (res_tmp (v := lv1) rfl) (res_nil _ _)), Outc.ok (x := ns1) (l := l1) (by simp [Par.expr, m1]) hl1 ⟨(st.acc_at 1 rfl).cells, (st.tail).shut (by decide)⟩⟩
end
end Go.Eng.YtjobofnpmmjeoaaDoor
