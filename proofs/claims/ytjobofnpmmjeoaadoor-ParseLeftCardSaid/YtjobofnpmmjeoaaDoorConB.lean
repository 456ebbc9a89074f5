/- Part of a proof of a law, by an evaluator that the machine follows: rules, contracts of functions, what they come to. No condition of its own. -/
import Derived.Test.YtjobofnpmmjeoaaDoorConA
import Derived.Test.YtjobofnpmmjeoaaDoorSpec
set_option linter.unusedVariables false
set_option linter.unusedSimpArgs false
namespace Go.Eng.YtjobofnpmmjeoaaDoor
open Go.Eng
noncomputable section
variable {c : Ctx}
theorem call_c (D : HasF c) {fs : List Fact} {h : Heap} {p : RP} {i d sb at_ : Nat} {l : List Tok} (st : St (.box sb [.int .i64 4, .int .i64 (at_ : Int), L.str [], L.str [], L.str [], .bool false, L.str [], L.str [], .slN, .slN, .slN, .slN] :: p.box i d :: p.toks :: fs) h) (hl : Left p i l) (hd : d ≤ 40) :
  RunR c 66 [.ptr p.rb 0, .ptr sb 0] h (Outc p 83 (Par.call d l) (fun a i v h1 => ∃ va, va.asCells = some [va] ∧ St (.stb (fun h => ArgsR h va a.args) :: .box sb [.int .i64 4, .int .i64 (at_ : Int), L.str a.mod, L.str a.name, L.str [], .bool a.has, L.str a.tomod, L.str a.to, .slN, va, .slN, .slN] :: p.box i d :: p.toks :: fs) h1) (St fs)) := by
 refine RunR.fun_ D.f66 rfl (WP.seq (WP.reg (WO.callO rfl (qname_c D ((st.pick 2 rfl).pick 2 rfl) hl) (fun e a h hm st => ?_) ?_)))
 ·exact Outc.pan (by simp [Par.call, hm]) (st.tail)
 rintro a1 l1 _ h i1 m1 hl1 ⟨rfl, st⟩
 refine WO.val (v := L.str a1.1) rfl (WO.val (v := L.str a1.2) rfl (WO.val (v := .ptr sb 0) rfl (WO.val (v := .ptr sb 6) (L.faddr rfl) (WO.storeF (row' := [.int .i64 4, .int .i64 (at_ : Int), L.str [], L.str [], L.str [], .bool false, L.str a1.1, L.str [], .slN, .slN, .slN, .slN]) st 2 rfl rfl rfl rfl rfl rfl rfl (fun h st => ?_)))))
 refine WO.val (v := .ptr sb 0) rfl (WO.val (v := .ptr sb 7) (L.faddr rfl) (WO.storeF (row' := [.int .i64 4, .int .i64 (at_ : Int), L.str [], L.str [], L.str [], .bool false, L.str a1.1, L.str a1.2, .slN, .slN, .slN, .slN]) st 2 rfl rfl rfl rfl rfl rfl rfl (fun h st => ?_)))
 refine WO.nil (WP.seq (WP.seq (WP.reg (WO.callFS rfl (may_c (s := [61]) D st hl1) ?_))))
 rintro _ h (⟨rfl, hi2, hl2, st⟩ | ⟨rfl, hi2, st⟩)
 ·replace st : St ((p.box (i1 + 1 : Nat) d) :: p.toks :: .box sb [.int .i64 4, .int .i64 (at_ : Int), L.str [], L.str [], L.str [], .bool false, L.str a1.1, L.str a1.2, .slN, .slN, .slN, .slN] :: fs) h := st
  refine WO.nil (WP.cond (t := true) rfl (WP.seq (WP.draw (WD.val (v := .ptr sb 0) rfl (WD.val (v := .ptr sb 0) rfl (WD.val (v := .ptr sb 0) rfl (WD.val (v := .ptr sb 0) rfl (WD.val (v := .ptr sb 0) rfl (WD.val (v := .ptr sb 6) (L.faddr rfl) (WD.val (v := L.str a1.1) (L.loadB rfl (st.box_at 2 rfl) rfl) (WD.val (v := .ptr sb 0) rfl (WD.val (v := .ptr sb 0) rfl (WD.val (v := .ptr sb 7) (L.faddr rfl) (WD.val (v := L.str a1.2) (L.loadB rfl (st.box_at 2 rfl) rfl) (WD.val (v := .ptr sb 0) rfl (WD.val (v := .ptr sb 5) (L.faddr rfl) (WD.storeF (row' := [.int .i64 4, .int .i64 (at_ : Int), L.str [], L.str [], L.str [], .bool true, L.str a1.1, L.str a1.2, .slN, .slN, .slN, .slN]) st 2 rfl rfl rfl rfl rfl rfl rfl (fun h st => rfl) (fun h st => ?_))))))))))))))))))
  refine WD.val (v := .ptr sb 0) rfl (WD.val (v := .ptr sb 2) (L.faddr rfl) (WD.storeF (row' := [.int .i64 4, .int .i64 (at_ : Int), L.str a1.1, L.str [], L.str [], .bool true, L.str a1.1, L.str a1.2, .slN, .slN, .slN, .slN]) st 2 rfl rfl rfl rfl rfl rfl rfl (fun h st => rfl) (fun h st => ?_)))
  refine WD.val (v := .ptr sb 0) rfl (WD.val (v := .ptr sb 3) (L.faddr rfl) (WD.storeF (row' := [.int .i64 4, .int .i64 (at_ : Int), L.str a1.1, L.str a1.2, L.str [], .bool true, L.str a1.1, L.str a1.2, .slN, .slN, .slN, .slN]) st 2 rfl rfl rfl rfl rfl rfl rfl (fun h st => rfl) (fun h st => ?_)))
  refine WD.nil (WP.reg (WO.callO rfl (qname_c D st hl2) (fun e a h hm st => ?_) ?_))
  ·exact Outc.pan (by simp [Par.call, hm, m1, hi2]) (st.tail)
  rintro a3 l3 _ h i3 m3 hl3 ⟨rfl, st⟩
  refine WO.val (v := L.str a3.1) rfl (WO.val (v := L.str a3.2) rfl (WO.val (v := .ptr sb 0) rfl (WO.val (v := .ptr sb 6) (L.faddr rfl) (WO.storeF (row' := [.int .i64 4, .int .i64 (at_ : Int), L.str a1.1, L.str a1.2, L.str [], .bool true, L.str a3.1, L.str a1.2, .slN, .slN, .slN, .slN]) st 2 rfl rfl rfl rfl rfl rfl rfl (fun h st => ?_)))))
  refine WO.val (v := .ptr sb 0) rfl (WO.val (v := .ptr sb 7) (L.faddr rfl) (WO.storeF (row' := [.int .i64 4, .int .i64 (at_ : Int), L.str a1.1, L.str a1.2, L.str [], .bool true, L.str a3.1, L.str a3.2, .slN, .slN, .slN, .slN]) st 2 rfl rfl rfl rfl rfl rfl rfl (fun h st => ?_)))
  refine WO.nil (WP.seq (WP.reg (WO.callO rfl (must_c (s := [40]) D st hl3) (fun e a h hm st => ?_) ?_)))
  ·exact Outc.pan (by simp [Par.call, Par.callA, hm, m1, hi2, m3]) (st.tail)
  rintro a4 l4 _ h i4 m4 hl4 ⟨rfl, st⟩
  refine WO.nil (WP.block ?_)
  replace st : St (.acc 0 1 .slN (([] : List V).map fun x => [x]) :: .stb (fun h => ArgRows h ([]) ([])) :: (p.box i4 d) :: p.toks :: .box sb [.int .i64 4, .int .i64 (at_ : Int), L.str a1.1, L.str a1.2, L.str [], .bool true, L.str a3.1, L.str a3.2, .slN, .slN, .slN, .slN] :: fs) h := ((st.acc0 1).pick 0 rfl |> fun st => ((St.pure st (Q := True) trivial).imp0 (Q := fun h => ArgRows h [] []) (fun _ _ => trivial)).pick 1 rfl)
  refine WP.loopG (α := Nat) (fun k env h => ∃ l2 i2 as2 vs2 f2 va2 x3 x4, (Par.argsL d l4.length l4 [] = Par.argsL d k l2 as2 ∧ l2.length ≤ k ∧ Left p i2 l2 ∧ as2.length + l2.length ≤ l4.length) ∧ env = argsP [.ptr p.rb 0, .ptr sb 0, .bool true, x3, x4] 0 Env.nil ∧ St (.box sb [.int .i64 4, .int .i64 (at_ : Int), L.str a1.1, L.str a1.2, L.str [], .bool true, L.str a3.1, L.str a3.2, .slN, va2, .slN, .slN] :: .acc f2 1 va2 (vs2.map fun x => [x]) :: .stb (fun h => ArgRows h as2 vs2) :: (p.box i2 d) :: p.toks :: fs) h) (fun k => k) l4.length ?_ ?_
  ·exact ⟨l4, i4, [], [], 0, .slN, .bot, .bot, ⟨rfl, Nat.le_refl _, hl4, by simp⟩, by kernel_rfl, (st.pick 4 rfl)⟩
  rintro k _ h ⟨l2, i2, as2, vs2, f2, va2, x3, x4, ⟨hs, hk, hl2, hal⟩, rfl, st⟩
  have hlp := List.length_pos_iff.2 hl2.ne
  have hl0n := hl4.len
  obtain ⟨k, rfl⟩ : ∃ m, k = m + 1 := ⟨k - 1, by omega⟩
  refine WP.seq (WP.seq (WP.reg (WO.callF rfl (may_c (s := [41]) D ((st.pick 4 rfl).pick 4 rfl) hl2) ?_)))
  rintro _ h (⟨rfl, hi5, hl5, st⟩ | ⟨rfl, hi5, st⟩)
  ·replace st : St ((p.box (i2 + 1 : Nat) d) :: p.toks :: .box sb [.int .i64 4, .int .i64 (at_ : Int), L.str a1.1, L.str a1.2, L.str [], .bool true, L.str a3.1, L.str a3.2, .slN, va2, .slN, .slN] :: .acc f2 1 va2 (vs2.map fun x => [x]) :: .stb (fun h => ArgRows h as2 vs2) :: fs) h := st
   refine WO.valS (v := .bool false) rfl (WO.nil (WP.cond (t := false) rfl (WP.exit ?_)))
   have hsh : St (.stb (fun h => Rows 1 h va2 (vs2.map fun x => [x])) :: .stb (fun h => ArgRows h as2 vs2) :: .box sb [.int .i64 4, .int .i64 (at_ : Int), L.str a1.1, L.str a1.2, L.str [], .bool true, L.str a3.1, L.str a3.2, .slN, va2, .slN, .slN] :: p.box (i2 + 1) d :: p.toks :: fs) h := ((((st.pick 2 rfl).pick 4 rfl).pick 4 rfl)).shut (by decide)
   exact ⟨_, (res_nil _ _), Outc.ok (x := ⟨true, a1.1, a1.2, a3.1, a3.2, as2⟩) (l := l2.tail) (by simp [Par.call, Par.callA, Par.argsL, m1, hi2, m3, m4, hs, hi5]) (hl2.is hi5) ⟨va2, (st.acc_at 3 rfl).cells, hsh.and.imp0 (fun h hx => ⟨_, hx.1, hx.2⟩)⟩⟩
  ·replace st : St ((p.box i2 d) :: p.toks :: .box sb [.int .i64 4, .int .i64 (at_ : Int), L.str a1.1, L.str a1.2, L.str [], .bool true, L.str a3.1, L.str a3.2, .slN, va2, .slN, .slN] :: .acc f2 1 va2 (vs2.map fun x => [x]) :: .stb (fun h => ArgRows h as2 vs2) :: fs) h := st
   refine WO.valS (v := .bool true) rfl (WO.nil (WP.cond (t := true) rfl (WP.skip (WP.block (WP.seq (WP.seq (WP.reg (WO.val (v := .ptr sb 0) rfl (WO.val (v := .ptr sb 9) (L.faddr rfl) (WO.val (v := va2) (L.loadB rfl (st.box_at 2 rfl) rfl) ?_))))))))))
   have hvl := (st.stb_at 4 rfl : ArgRows h as2 vs2).len
   refine WO.val (v := .int .i64 (vs2.length : Int)) ((L.llenA rfl (st.acc_at 3 rfl)).trans (by simp)) (WO.ifS (L.gtr rfl rfl) (fun c1 => ?_) (fun c1 => ?_))
   ·replace c1 : 0 < vs2.length := by omega
    obtain ⟨a0, as', has⟩ : ∃ a0 as', as2 = a0 :: as' := List.exists_cons_of_length_pos (by omega)
    refine WO.nil (WP.cond (t := true) rfl (WP.reg (WO.callO rfl (must_c (s := [44]) D st hl2) (fun e a h hm st => ?_) ?_)))
    ·exact Outc.pan (by simp [Par.call, Par.callA, Par.argsL, has, hm, m1, hi2, m3, m4, hs, hi5]) (st.tail.tail.tail)
    rintro a6 l6 _ h i6 m6 hl6 ⟨rfl, st⟩
    refine WO.nil (WP.draw (WD.val (v := .ptr sb 0) rfl (WD.val (v := .ptr sb 0) rfl (WD.val (v := .ptr sb 0) rfl (WD.val (v := .ptr sb 9) (L.faddr rfl) (WD.val (v := va2) (L.loadB rfl (st.box_at 2 rfl) rfl) (WD.val (v := .ptr p.rb 0) rfl (WD.callO rfl (expr_c D st hl6 (by omega)) (fun e a h hm st => ?_) (fun _ _ h _ hp => ?_) ?_))))))))
    ·exact Outc.pan (by simp [Par.call, Par.callA, Par.argsL, has, hm, m1, hi2, m3, m4, hs, hi5, m6]) (st.tail.tail.tail)
    ·obtain ⟨hc7, st⟩ := hp
     exact stills_cons (by first | exact still_rd (L.loadB rfl (st.box_at 1 rfl) rfl) | exact still_box st 1 rfl | exact still_rd (L.loadnB rfl (st.box_at 1 rfl) rfl rfl rfl) | exact still_rd (L.loadB rfl (st.box_at 3 rfl) rfl) | exact still_box st 3 rfl | exact still_rd (L.loadnB rfl (st.box_at 3 rfl) rfl rfl rfl)) (stills_nil _ _)
    rintro a7 l7 v7 h i7 m7 hl7 ⟨hc7, st⟩
    refine WD.bslF (rows := [[v7]]) st (fill_one hc7) (by decide) rfl (by simp) (fun bs1 h _ st => ?_)
    refine WD.appF st 5 rfl rfl rfl (st.stb_at 0 rfl) (by decide) (by have := hl2.small; simp; omega) (fun _ _ h st => rfl) (fun f8 v8 h st => ?_)
    rw [show (vs2.map fun x => [x]) ++ [[v7]] = (vs2 ++ [v7]).map fun x => [x] from by simp] at st
    obtain ⟨ab8, rfl⟩ := (st.acc_at 5 rfl).ne (by simp)
    refine WD.val (v := .ptr sb 0) rfl (WD.val (v := .ptr sb 9) (L.faddr rfl) (WD.storeF (row' := [.int .i64 4, .int .i64 (at_ : Int), L.str a1.1, L.str a1.2, L.str [], .bool true, L.str a3.1, L.str a3.2, .slN, .sl ab8 0 (((vs2 ++ [v7]).map fun x => [x]).length) none, .slN, .slN]) st 4 rfl rfl rfl rfl rfl rfl rfl (fun h st => rfl) (fun h st => ?_)))
    replace st := ((((st.pick 6 rfl).pick 2 rfl)).and).imp0 (fun h hx => hx.2.snoc hx.1)
    refine WD.nil ?_
    exact ⟨k, (Nat.lt_succ_self _), l7, i7, (as2 ++ [a7]), (vs2 ++ [v7]), f8, (.sl ab8 0 ((vs2 ++ [v7]).map fun x => [x]).length none), (.bool true), (.bool true), ⟨by rw [hs]; simp [Par.argsL, has, hi5, m6, m7], (by have _ := Par.must_len m6; have _ := hl6.len; have _ := expr_len m7; have _ := hl7.len; omega), hl7, (by have _ := Par.must_len m6; have _ := hl6.len; have _ := expr_len m7; have _ := hl7.len; simp; omega)⟩, by kernel_rfl, (((st.pick 1 rfl).tail.pick 4 rfl).pick 4 rfl)⟩
   ·replace c1 : vs2.length = 0 := by omega
    have has : as2 = [] := List.length_eq_zero_iff.1 (by omega)
    refine WO.nil (WP.cond (t := false) rfl (WP.skip (WP.draw (WD.val (v := .ptr sb 0) rfl (WD.val (v := .ptr sb 0) rfl (WD.val (v := .ptr sb 0) rfl (WD.val (v := .ptr sb 9) (L.faddr rfl) (WD.val (v := va2) (L.loadB rfl (st.box_at 2 rfl) rfl) (WD.val (v := .ptr p.rb 0) rfl (WD.callO rfl (expr_c D st hl2 (by omega)) (fun e a h hm st => ?_) (fun _ _ h _ hp => ?_) ?_))))))))))
    ·exact Outc.pan (by simp [Par.call, Par.callA, Par.argsL, has, hm, m1, hi2, m3, m4, hs, hi5]) (st.tail.tail.tail)
    ·obtain ⟨hc9, st⟩ := hp
     exact stills_cons (by first | exact still_rd (L.loadB rfl (st.box_at 1 rfl) rfl) | exact still_box st 1 rfl | exact still_rd (L.loadnB rfl (st.box_at 1 rfl) rfl rfl rfl) | exact still_rd (L.loadB rfl (st.box_at 3 rfl) rfl) | exact still_box st 3 rfl | exact still_rd (L.loadnB rfl (st.box_at 3 rfl) rfl rfl rfl)) (stills_nil _ _)
    rintro a9 l9 v9 h i9 m9 hl9 ⟨hc9, st⟩
    refine WD.bslF (rows := [[v9]]) st (fill_one hc9) (by decide) rfl (by simp) (fun bs2 h _ st => ?_)
    refine WD.appF st 5 rfl rfl rfl (st.stb_at 0 rfl) (by decide) (by have := hl2.small; simp; omega) (fun _ _ h st => rfl) (fun f10 v10 h st => ?_)
    rw [show (vs2.map fun x => [x]) ++ [[v9]] = (vs2 ++ [v9]).map fun x => [x] from by simp] at st
    obtain ⟨ab10, rfl⟩ := (st.acc_at 5 rfl).ne (by simp)
    refine WD.val (v := .ptr sb 0) rfl (WD.val (v := .ptr sb 9) (L.faddr rfl) (WD.storeF (row' := [.int .i64 4, .int .i64 (at_ : Int), L.str a1.1, L.str a1.2, L.str [], .bool true, L.str a3.1, L.str a3.2, .slN, .sl ab10 0 (((vs2 ++ [v9]).map fun x => [x]).length) none, .slN, .slN]) st 4 rfl rfl rfl rfl rfl rfl rfl (fun h st => rfl) (fun h st => ?_)))
    replace st := ((((st.pick 6 rfl).pick 2 rfl)).and).imp0 (fun h hx => hx.2.snoc hx.1)
    refine WD.nil ?_
    exact ⟨k, (Nat.lt_succ_self _), l9, i9, (as2 ++ [a9]), (vs2 ++ [v9]), f10, (.sl ab10 0 ((vs2 ++ [v9]).map fun x => [x]).length none), (.bool true), (.bool false), ⟨by rw [hs]; simp [Par.argsL, has, hi5, m9], (by have _ := expr_len m9; have _ := hl9.len; omega), hl9, (by have _ := expr_len m9; have _ := hl9.len; simp; omega)⟩, by kernel_rfl, (((st.pick 1 rfl).tail.pick 4 rfl).pick 4 rfl)⟩
 ·replace st : St ((p.box i1 d) :: p.toks :: .box sb [.int .i64 4, .int .i64 (at_ : Int), L.str [], L.str [], L.str [], .bool false, L.str a1.1, L.str a1.2, .slN, .slN, .slN, .slN] :: fs) h := st
  refine WO.nil (WP.cond (t := false) rfl (WP.skip (WP.seq (WP.reg (WO.callO rfl (must_c (s := [40]) D st hl1) (fun e a h hm st => ?_) ?_)))))
  ·exact Outc.pan (by simp [Par.call, Par.callA, hm, m1, hi2]) (st.tail)
  rintro a11 l11 _ h i11 m11 hl11 ⟨rfl, st⟩
  refine WO.nil (WP.block ?_)
  replace st : St (.acc 0 1 .slN (([] : List V).map fun x => [x]) :: .stb (fun h => ArgRows h ([]) ([])) :: (p.box i11 d) :: p.toks :: .box sb [.int .i64 4, .int .i64 (at_ : Int), L.str [], L.str [], L.str [], .bool false, L.str a1.1, L.str a1.2, .slN, .slN, .slN, .slN] :: fs) h := ((st.acc0 1).pick 0 rfl |> fun st => ((St.pure st (Q := True) trivial).imp0 (Q := fun h => ArgRows h [] []) (fun _ _ => trivial)).pick 1 rfl)
  refine WP.loopG (α := Nat) (fun k env h => ∃ l2 i2 as2 vs2 f2 va2 x3 x4, (Par.argsL d l11.length l11 [] = Par.argsL d k l2 as2 ∧ l2.length ≤ k ∧ Left p i2 l2 ∧ as2.length + l2.length ≤ l11.length) ∧ env = argsP [.ptr p.rb 0, .ptr sb 0, .bool false, x3, x4] 0 Env.nil ∧ St (.box sb [.int .i64 4, .int .i64 (at_ : Int), L.str [], L.str [], L.str [], .bool false, L.str a1.1, L.str a1.2, .slN, va2, .slN, .slN] :: .acc f2 1 va2 (vs2.map fun x => [x]) :: .stb (fun h => ArgRows h as2 vs2) :: (p.box i2 d) :: p.toks :: fs) h) (fun k => k) l11.length ?_ ?_
  ·exact ⟨l11, i11, [], [], 0, .slN, .bot, .bot, ⟨rfl, Nat.le_refl _, hl11, by simp⟩, by kernel_rfl, (st.pick 4 rfl)⟩
  rintro k _ h ⟨l2, i2, as2, vs2, f2, va2, x3, x4, ⟨hs, hk, hl2, hal⟩, rfl, st⟩
  have hlp := List.length_pos_iff.2 hl2.ne
  have hl0n := hl11.len
  obtain ⟨k, rfl⟩ : ∃ m, k = m + 1 := ⟨k - 1, by omega⟩
  refine WP.seq (WP.seq (WP.reg (WO.callF rfl (may_c (s := [41]) D ((st.pick 4 rfl).pick 4 rfl) hl2) ?_)))
  rintro _ h (⟨rfl, hi12, hl12, st⟩ | ⟨rfl, hi12, st⟩)
  ·replace st : St ((p.box (i2 + 1 : Nat) d) :: p.toks :: .box sb [.int .i64 4, .int .i64 (at_ : Int), L.str [], L.str [], L.str [], .bool false, L.str a1.1, L.str a1.2, .slN, va2, .slN, .slN] :: .acc f2 1 va2 (vs2.map fun x => [x]) :: .stb (fun h => ArgRows h as2 vs2) :: fs) h := st
   refine WO.valS (v := .bool false) rfl (WO.nil (WP.cond (t := false) rfl (WP.exit ?_)))
   have hsh : St (.stb (fun h => Rows 1 h va2 (vs2.map fun x => [x])) :: .stb (fun h => ArgRows h as2 vs2) :: .box sb [.int .i64 4, .int .i64 (at_ : Int), L.str [], L.str [], L.str [], .bool false, L.str a1.1, L.str a1.2, .slN, va2, .slN, .slN] :: p.box (i2 + 1) d :: p.toks :: fs) h := ((((st.pick 2 rfl).pick 4 rfl).pick 4 rfl)).shut (by decide)
   exact ⟨_, (res_nil _ _), Outc.ok (x := ⟨false, [], [], a1.1, a1.2, as2⟩) (l := l2.tail) (by simp [Par.call, Par.callA, Par.argsL, m1, hi2, m11, hs, hi12]) (hl2.is hi12) ⟨va2, (st.acc_at 3 rfl).cells, hsh.and.imp0 (fun h hx => ⟨_, hx.1, hx.2⟩)⟩⟩
  ·replace st : St ((p.box i2 d) :: p.toks :: .box sb [.int .i64 4, .int .i64 (at_ : Int), L.str [], L.str [], L.str [], .bool false, L.str a1.1, L.str a1.2, .slN, va2, .slN, .slN] :: .acc f2 1 va2 (vs2.map fun x => [x]) :: .stb (fun h => ArgRows h as2 vs2) :: fs) h := st
   refine WO.valS (v := .bool true) rfl (WO.nil (WP.cond (t := true) rfl (WP.skip (WP.block (WP.seq (WP.seq (WP.reg (WO.val (v := .ptr sb 0) rfl (WO.val (v := .ptr sb 9) (L.faddr rfl) (WO.val (v := va2) (L.loadB rfl (st.box_at 2 rfl) rfl) ?_))))))))))
   have hvl := (st.stb_at 4 rfl : ArgRows h as2 vs2).len
   refine WO.val (v := .int .i64 (vs2.length : Int)) ((L.llenA rfl (st.acc_at 3 rfl)).trans (by simp)) (WO.ifS (L.gtr rfl rfl) (fun c2 => ?_) (fun c2 => ?_))
   ·replace c2 : 0 < vs2.length := by omega
    obtain ⟨a0, as', has⟩ : ∃ a0 as', as2 = a0 :: as' := List.exists_cons_of_length_pos (by omega)
    refine WO.nil (WP.cond (t := true) rfl (WP.reg (WO.callO rfl (must_c (s := [44]) D st hl2) (fun e a h hm st => ?_) ?_)))
    ·exact Outc.pan (by simp [Par.call, Par.callA, Par.argsL, has, hm, m1, hi2, m11, hs, hi12]) (st.tail.tail.tail)
    rintro a13 l13 _ h i13 m13 hl13 ⟨rfl, st⟩
    refine WO.nil (WP.draw (WD.val (v := .ptr sb 0) rfl (WD.val (v := .ptr sb 0) rfl (WD.val (v := .ptr sb 0) rfl (WD.val (v := .ptr sb 9) (L.faddr rfl) (WD.val (v := va2) (L.loadB rfl (st.box_at 2 rfl) rfl) (WD.val (v := .ptr p.rb 0) rfl (WD.callO rfl (expr_c D st hl13 (by omega)) (fun e a h hm st => ?_) (fun _ _ h _ hp => ?_) ?_))))))))
    ·exact Outc.pan (by simp [Par.call, Par.callA, Par.argsL, has, hm, m1, hi2, m11, hs, hi12, m13]) (st.tail.tail.tail)
    ·obtain ⟨hc14, st⟩ := hp
     exact stills_cons (by first | exact still_rd (L.loadB rfl (st.box_at 1 rfl) rfl) | exact still_box st 1 rfl | exact still_rd (L.loadnB rfl (st.box_at 1 rfl) rfl rfl rfl) | exact still_rd (L.loadB rfl (st.box_at 3 rfl) rfl) | exact still_box st 3 rfl | exact still_rd (L.loadnB rfl (st.box_at 3 rfl) rfl rfl rfl)) (stills_nil _ _)
    rintro a14 l14 v14 h i14 m14 hl14 ⟨hc14, st⟩
    refine WD.bslF (rows := [[v14]]) st (fill_one hc14) (by decide) rfl (by simp) (fun bs3 h _ st => ?_)
    refine WD.appF st 5 rfl rfl rfl (st.stb_at 0 rfl) (by decide) (by have := hl2.small; simp; omega) (fun _ _ h st => rfl) (fun f15 v15 h st => ?_)
    rw [show (vs2.map fun x => [x]) ++ [[v14]] = (vs2 ++ [v14]).map fun x => [x] from by simp] at st
    obtain ⟨ab15, rfl⟩ := (st.acc_at 5 rfl).ne (by simp)
    refine WD.val (v := .ptr sb 0) rfl (WD.val (v := .ptr sb 9) (L.faddr rfl) (WD.storeF (row' := [.int .i64 4, .int .i64 (at_ : Int), L.str [], L.str [], L.str [], .bool false, L.str a1.1, L.str a1.2, .slN, .sl ab15 0 (((vs2 ++ [v14]).map fun x => [x]).length) none, .slN, .slN]) st 4 rfl rfl rfl rfl rfl rfl rfl (fun h st => rfl) (fun h st => ?_)))
    replace st := ((((st.pick 6 rfl).pick 2 rfl)).and).imp0 (fun h hx => hx.2.snoc hx.1)
    refine WD.nil ?_
    exact ⟨k, (Nat.lt_succ_self _), l14, i14, (as2 ++ [a14]), (vs2 ++ [v14]), f15, (.sl ab15 0 ((vs2 ++ [v14]).map fun x => [x]).length none), (.bool true), (.bool true), ⟨by rw [hs]; simp [Par.argsL, has, hi12, m13, m14], (by have _ := Par.must_len m13; have _ := hl13.len; have _ := expr_len m14; have _ := hl14.len; omega), hl14, (by have _ := Par.must_len m13; have _ := hl13.len; have _ := expr_len m14; have _ := hl14.len; simp; omega)⟩, by kernel_rfl, (((st.pick 1 rfl).tail.pick 4 rfl).pick 4 rfl)⟩
   ·replace c2 : vs2.length = 0 := by omega
    have has : as2 = [] := List.length_eq_zero_iff.1 (by omega)
    refine WO.nil (WP.cond (t := false) rfl (WP.skip (WP.draw (WD.val (v := .ptr sb 0) rfl (WD.val (v := .ptr sb 0) rfl (WD.val (v := .ptr sb 0) rfl (WD.val (v := .ptr sb 9) (L.faddr rfl) (WD.val (v := va2) (L.loadB rfl (st.box_at 2 rfl) rfl) (WD.val (v := .ptr p.rb 0) rfl (WD.callO rfl (expr_c D st hl2 (by omega)) (fun e a h hm st => ?_) (fun _ _ h _ hp => ?_) ?_))))))))))
    ·exact Outc.pan (by simp [Par.call, Par.callA, Par.argsL, has, hm, m1, hi2, m11, hs, hi12]) (st.tail.tail.tail)
    ·obtain ⟨hc16, st⟩ := hp
     exact stills_cons (by first | exact still_rd (L.loadB rfl (st.box_at 1 rfl) rfl) | exact still_box st 1 rfl | exact still_rd (L.loadnB rfl (st.box_at 1 rfl) rfl rfl rfl) | exact still_rd (L.loadB rfl (st.box_at 3 rfl) rfl) | exact still_box st 3 rfl | exact still_rd (L.loadnB rfl (st.box_at 3 rfl) rfl rfl rfl)) (stills_nil _ _)
    rintro a16 l16 v16 h i16 m16 hl16 ⟨hc16, st⟩
    refine WD.bslF (rows := [[v16]]) st (fill_one hc16) (by decide) rfl (by simp) (fun bs4 h _ st => ?_)
    refine WD.appF st 5 rfl rfl rfl (st.stb_at 0 rfl) (by decide) (by have := hl2.small; simp; omega) (fun _ _ h st => rfl) (fun f17 v17 h st => ?_)
    rw [show (vs2.map fun x => [x]) ++ [[v16]] = (vs2 ++ [v16]).map fun x => [x] from by simp] at st
    obtain ⟨ab17, rfl⟩ := (st.acc_at 5 rfl).ne (by simp)
    refine WD.val (v := .ptr sb 0) rfl (WD.val (v := .ptr sb 9) (L.faddr rfl) (WD.storeF (row' := [.int .i64 4, .int .i64 (at_ : Int), L.str [], L.str [], L.str [], .bool false, L.str a1.1, L.str a1.2, .slN, .sl ab17 0 (((vs2 ++ [v16]).map fun x => [x]).length) none, .slN, .slN]) st 4 rfl rfl rfl rfl rfl rfl rfl (fun h st => rfl) (fun h st => ?_)))
    replace st := ((((st.pick 6 rfl).pick 2 rfl)).and).imp0 (fun h hx => hx.2.snoc hx.1)
    refine WD.nil ?_
    exact ⟨k, (Nat.lt_succ_self _), l16, i16, (as2 ++ [a16]), (vs2 ++ [v16]), f17, (.sl ab17 0 ((vs2 ++ [v16]).map fun x => [x]).length none), (.bool true), (.bool false), ⟨by rw [hs]; simp [Par.argsL, has, hi12, m16], (by have _ := expr_len m16; have _ := hl16.len; omega), hl16, (by have _ := expr_len m16; have _ := hl16.len; simp; omega)⟩, by kernel_rfl, (((st.pick 1 rfl).tail.pick 4 rfl).pick 4 rfl)⟩
def BlkOk (c : Ctx) (p : RP) (blk : Par.Bk) (N : Nat) : Prop := ∀ {fs : List Fact} {h : Heap} {i d : Nat} {l : List Tok}, St (p.box i d :: p.toks :: fs) h → Left p i l → d ≤ 40 → l.length ≤ N →
 RunR c 53 [.ptr p.rb 0] h (Outc p 83 (blk d l) (fun a i1 v h1 => i < i1 ∧ v.asCells = some [v] ∧ St (.stb (fun h => SmsR h v a) :: p.box i1 d :: p.toks :: fs) h1) (St fs))
def StmOk (c : Ctx) (p : RP) (stm : Nat → List Tok → Par.R Sm) (N : Nat) : Prop := ∀ {fs : List Fact} {h : Heap} {i d : Nat} {l : List Tok}, St (p.box i d :: p.toks :: fs) h → Left p i l → d ≤ 40 → l.length ≤ N →
 RunR c 60 [.ptr p.rb 0] h (Outc p 83 (stm d l) (fun a i1 v h1 => ∃ row, v = .agg row ∧ row.length = 12 ∧ i < i1 ∧ St (.stb (fun h => SmR h a row) :: p.box i1 d :: p.toks :: fs) h1) (St fs))
theorem block_c (D : HasF c) {p : RP} {N : Nat} {stm : Nat → List Tok → Par.R Sm} (hstm : StmOk c p stm N) {fs : List Fact} {h : Heap} {i d : Nat} {l : List Tok} (st : St (p.box i d :: p.toks :: fs) h) (hl : Left p i l) (hd : d ≤ 40) (hN : l.length ≤ N + 1) :
  RunR c 53 [.ptr p.rb 0] h (Outc p 83 (Par.blockS stm d l) (fun a i1 v h1 => i < i1 ∧ v.asCells = some [v] ∧ St (.stb (fun h => SmsR h v a) :: p.box i1 d :: p.toks :: fs) h1) (St fs)) := by
 refine RunR.fun_ D.f53 rfl (WP.seq (WP.reg (WO.valS (v := .slN) rfl (WO.nil (WP.seq (WP.seq (WP.reg (WO.callF rfl (is_c (s := [123]) D st hl) ?_))))))))
 rintro _ h ⟨rfl, st⟩
 cases hb : Par.is [123] l
 ·refine WO.valS (v := .bool true) rfl (WO.nil (WP.cond (t := true) rfl (WP.reg (WO.callPanF rfl (fail_c D st hl) (fun h st => ?_)))))
  exact Outc.pan (by simp [Par.blockS, Par.fail, hb]) st
 ·refine WO.valS (v := .bool false) rfl (WO.nil (WP.cond (t := false) rfl (WP.skip (WP.seq (WP.reg ?_)))))
  by_cases hd40 : 40 ≤ d
  ·refine WO.callPanF rfl (open_pan D st hl hd40) (fun h st => ?_)
   exact Outc.pan (by simp [Par.blockS, Par.fail, hb, hd40]) st
  refine WO.callF rfl (open_ok D st hl hd40) ?_
  rintro _ h ⟨rfl, st⟩
  refine WO.nil (WP.seq (WP.reg (WO.val (v := .ptr p.rb 0) rfl (WO.val (v := .ptr p.rb 1) (L.faddr rfl) (WO.val (v := .int .i64 (i : Int)) (L.loadB rfl (st.box_at 0 rfl) rfl) ?_)))))
  have hl0 : Left p (i + 1) l.tail := hl.is hb
  refine WO.val (v := .int .i64 ((i + 1 : Nat) : Int)) (L.addE rfl rfl (by omega) (And.intro (by omega) (by have := hl.lt; have := hl.small; omega))) (WO.val (v := .ptr p.rb 0) rfl (WO.val (v := .ptr p.rb 1) (L.faddr rfl) (WO.storeF (row' := [.sl p.tb p.to p.ts.length p.cap, .int .i64 ((i + 1 : Nat) : Int), .int .i64 ((d + 1 : Nat) : Int)]) st 0 rfl rfl rfl rfl rfl rfl rfl (fun h st => ?_))))
  refine WO.nil (WP.seq (WP.reg (WO.valS (v := .slN) rfl (WO.nil (WP.seq (WP.block ?_))))))
  replace st : St (.acc 0 12 .slN ([]) :: .stb (fun h => SmRows h ([]) ([])) :: (p.box (i + 1 : Nat) (d + 1 : Nat)) :: p.toks :: fs) h := ((st.acc0 12) |> fun st => ((St.pure st (Q := True) trivial).imp0 (Q := fun h => SmRows h [] []) (fun _ _ => SmRows.nil)).pick 1 rfl)
  refine WP.loopG (α := Nat) (fun k env h => ∃ lz iz ssz rsz fz vaz x3, (Par.blockL stm (d + 1) l.tail.length l.tail [] = Par.blockL stm (d + 1) k lz ssz ∧ lz.length ≤ k ∧ Left p iz lz ∧ rsz.length + lz.length ≤ l.tail.length ∧ i < iz) ∧ env = argsP [.ptr p.rb 0, .slN, .bool false, x3, vaz] 0 Env.nil ∧ St (.acc fz 12 vaz rsz :: .stb (fun h => SmRows h ssz rsz) :: (p.box iz (d + 1 : Nat)) :: p.toks :: fs) h) (fun k => k) l.tail.length ?_ ?_
  ·exact ⟨l.tail, (i + 1), [], [], 0, .slN, .bot, ⟨rfl, Nat.le_refl _, hl0, (by show 0 + l.tail.length ≤ l.tail.length; omega), Nat.lt_succ_self _⟩, by kernel_rfl, st⟩
  rintro k _ h ⟨lz, iz, ssz, rsz, fz, vaz, x3, ⟨hs, hk, hlz, hal, hii⟩, rfl, st⟩
  have hlp := List.length_pos_iff.2 hlz.ne
  have hl0n := hl.len
  have htl := List.length_tail (l := l)
  have hbp := Par.is_pos hb
  obtain ⟨k, rfl⟩ : ∃ m, k = m + 1 := ⟨k - 1, by omega⟩
  refine WP.seq (WP.seq (WP.reg (WO.callF rfl (may_c (s := [125]) D ((st.pick 3 rfl).pick 3 rfl) hlz) ?_)))
  rintro _ h (⟨rfl, hi1, hl1, st⟩ | ⟨rfl, hi1, st⟩)
  ·replace st : St ((p.box (iz + 1 : Nat) (d + 1 : Nat)) :: p.toks :: .acc fz 12 vaz rsz :: .stb (fun h => SmRows h ssz rsz) :: fs) h := st
   refine WO.valS (v := .bool false) rfl (WO.nil (WP.cond (t := false) rfl (WP.exit (WP.seq (WP.reg (WO.val (v := .ptr p.rb 0) rfl (WO.val (v := .ptr p.rb 2) (L.faddr rfl) (WO.val (v := .int .i64 ((d + 1 : Nat) : Int)) (L.loadB rfl (st.box_at 0 rfl) rfl) (WO.val (v := .int .i64 (d : Int)) (L.subE rfl rfl (by omega) (And.intro (by omega) (by omega))) (WO.val (v := .ptr p.rb 0) rfl (WO.val (v := .ptr p.rb 2) (L.faddr rfl) (WO.storeF (row' := [.sl p.tb p.to p.ts.length p.cap, .int .i64 ((iz + 1 : Nat) : Int), .int .i64 (d : Int)]) st 0 rfl rfl rfl rfl rfl rfl rfl (fun h st => ?_)))))))))))))
   refine WO.nil (WP.seq (WP.reg (WO.valS (v := vaz) rfl (WO.nil (WP.ret ?_)))))
   have hac := (st.acc_at 2 rfl).cells
   exact ⟨_, (res_cons (res_tmp (v := vaz) rfl) (res_nil _ _)), Outc.ok (x := ssz) (l := lz.tail) (by simp [Par.blockS, Par.blockL, hb, hd40, hs, hi1, -List.length_tail]) (hlz.is hi1) ⟨by omega, hac, ((((st.pick 3 rfl).pick 3 rfl)).shut (by decide)).and.imp0 (fun h hx => ⟨_, hx.1, hx.2⟩)⟩⟩
  ·replace st : St ((p.box iz (d + 1 : Nat)) :: p.toks :: .acc fz 12 vaz rsz :: .stb (fun h => SmRows h ssz rsz) :: fs) h := st
   refine WO.valS (v := .bool true) rfl (WO.nil (WP.cond (t := true) rfl (WP.skip (WP.block (WP.reg (WO.callO rfl (hstm st hlz (by omega) (by omega)) (fun e a h hm st => ?_) ?_))))))
   ·exact Outc.pan (by simp [Par.blockS, Par.blockL, -List.length_tail, hm, hb, hd40, hs, hi1]) (st.tail.tail)
   rintro a2 l2 _ h i2 m2 hl2 ⟨row2, rfl, hr2, hlt2, st⟩
   refine WO.bslF (rows := [row2]) st (fill_agg rfl hr2) (by decide) rfl (by simpa using hr2) (fun bs1 h st => ?_)
   refine WO.appFS st 4 rfl rfl rfl (st.stb_at 0 rfl) (by decide) (by have := hlz.small; have := hl.small; simp; omega) (fun f3 v3 h st => ?_)
   obtain ⟨ab3, rfl⟩ := (st.acc_at 4 rfl).ne (by simp)
   replace st := ((((st.pick 5 rfl).pick 2 rfl)).and).imp0 (fun h hx => hx.2.snoc hx.1)
   refine WO.nil ?_
   exact ⟨k, (Nat.lt_succ_self _), l2, i2, (ssz ++ [a2]), (rsz ++ [row2]), f3, (.sl ab3 0 (rsz ++ [row2]).length none), (.bool true), ⟨by rw [hs]; simp [Par.blockL, hi1, m2], (by have _ := hlz.len; have _ := hlz.lt; have _ := hl2.len; omega), hl2, (by have _ := hlz.len; have _ := hlz.lt; have _ := hl2.len; simp; omega), by omega⟩, by kernel_rfl, ((st.pick 1 rfl).tail.pick 3 rfl)⟩
theorem now_h (D : HasF c) {fs : List Fact} {h : Heap} {p : RP} {i d : Nat} {l : List Tok} (st : St (p.box i d :: p.toks :: fs) h) (hl : Left p i l) : RunP c 36 [.ptr p.rb 0] h fun v h1 => v = .agg (Par.hd l).row ∧ St (p.box i d :: p.toks :: fs) h1 := by
 obtain ⟨t, l, rfl⟩ := hl.cons
 exact now_c D st hl
theorem stmt_c (D : HasF c) {p : RP} {N : Nat} {blk : Par.Bk} (hblk : BlkOk c p blk N) {fs : List Fact} {h : Heap} {i d : Nat} {l : List Tok} (st : St (p.box i d :: p.toks :: fs) h) (hl : Left p i l) (hd : d ≤ 40) (hN : l.length ≤ N + 1) :
  RunR c 60 [.ptr p.rb 0] h (Outc p 83 (Par.stmtS blk d l) (fun a i1 v h1 => ∃ row, v = .agg row ∧ row.length = 12 ∧ i < i1 ∧ St (.stb (fun h => SmR h a row) :: p.box i1 d :: p.toks :: fs) h1) (St fs)) := by
 refine RunR.fun_ D.f60 rfl (WP.seq (WP.reg (WO.boxFS st L.alloc (fun rb_ h st => ?_))))
 refine WO.nil (WP.seq (WP.reg (WO.callF rfl (now_h D ((st.pick 2 rfl).pick 2 rfl) hl) ?_)))
 rintro _ h ⟨rfl, st⟩
 refine WO.val (v := .int .i64 (Par.here l : Int)) rfl (WO.val (v := .agg [.int .i64 0, .int .i64 (Par.here l : Int), .str 0 0, .str 0 0, .str 0 0, .bool false, .str 0 0, .str 0 0, .slN, .slN, .slN, .slN]) (L.build rfl) (WO.boxFS st L.alloc (fun sb h st => ?_)))
 refine WO.storeF (row' := [.int .i64 0, .int .i64 (Par.here l : Int), .str 0 0, .str 0 0, .str 0 0, .bool false, .str 0 0, .str 0 0, .slN, .slN, .slN, .slN]) st 0 rfl rfl rfl rfl rfl rfl rfl (fun h st => ?_)
 refine WO.nil (WP.seq (WP.block (WP.seq (WP.reg (WO.callFS rfl (may_c (s := [105, 102]) D ((st.pick 2 rfl).pick 2 rfl) hl) ?_)))))
 rintro _ h (⟨rfl, hi1, hl1, st⟩ | ⟨rfl, hi1, st⟩)
 ·replace st : St ((p.box (i + 1 : Nat) d) :: p.toks :: .box sb [.int .i64 0, .int .i64 (Par.here l : Int), .str 0 0, .str 0 0, .str 0 0, .bool false, .str 0 0, .str 0 0, .slN, .slN, .slN, .slN] :: .box rb_ [.int .i64 0, .int .i64 0, .str 0 0, .str 0 0, .str 0 0, .bool false, .str 0 0, .str 0 0, .slN, .slN, .slN, .slN] :: fs) h := st
  refine WO.nil (WP.cond (t := true) rfl (WP.seq (WP.reg (WO.callO rfl (expr_c D st hl1 (by omega)) (fun e a h hm st => ?_) ?_))))
  ·exact Outc.pan (by simp [Par.stmtS, Par.stIf, hm, hi1]) (st.tail.tail)
  rintro a2 l2 v2 h i2 m2 hl2 ⟨hc2, st⟩
  refine WO.val (v := .ptr sb 0) (L.faddr rfl) (WO.storeF (row' := [.int .i64 5, .int .i64 (Par.here l : Int), .str 0 0, .str 0 0, .str 0 0, .bool false, .str 0 0, .str 0 0, .slN, .slN, .slN, .slN]) st 3 rfl rfl rfl rfl rfl rfl rfl (fun h st => ?_))
  refine WO.val (v := .ptr sb 8) (L.faddr rfl) (WO.storeF (row' := [.int .i64 5, .int .i64 (Par.here l : Int), .str 0 0, .str 0 0, .str 0 0, .bool false, .str 0 0, .str 0 0, v2, .slN, .slN, .slN]) st 3 rfl rfl hc2 rfl rfl rfl rfl (fun h st => ?_))
  refine WO.nil (WP.seq (WP.reg (WO.callO rfl (hblk ((st.pick 2 rfl).pick 2 rfl) hl2 (by omega) (by have _ := hl.len; have _ := hl.lt; have _ := Par.is_pos hi1; have _ := List.length_tail (l := l); have _ := hl1.len; have _ := expr_len m2; have _ := hl2.len; omega)) (fun e a h hm st => ?_) ?_)))
  ·exact Outc.pan (by simp [Par.stmtS, Par.stIf, hm, hi1, m2]) (st.tail.tail.tail)
  rintro a3 l3 v3 h i3 m3 hl3 ⟨hlt3, hc3, st⟩
  refine WO.val (v := .ptr sb 10) (L.faddr rfl) (WO.storeF (row' := [.int .i64 5, .int .i64 (Par.here l : Int), .str 0 0, .str 0 0, .str 0 0, .bool false, .str 0 0, .str 0 0, v2, .slN, v3, .slN]) st 4 rfl rfl hc3 rfl rfl rfl rfl (fun h st => ?_))
  refine WO.nil (WP.seq (WP.seq (WP.reg (WO.callFS rfl (may_c (s := [101, 108, 115, 101]) D ((st.pick 2 rfl).pick 2 rfl) hl3) ?_))))
  rintro _ h (⟨rfl, hi4, hl4, st⟩ | ⟨rfl, hi4, st⟩)
  ·replace st : St ((p.box (i3 + 1 : Nat) d) :: p.toks :: .stb (fun h => SmsR h v3 a3) :: .stb (fun h => Rows 7 h v2 (a2.map Nd.row)) :: .box sb [.int .i64 5, .int .i64 (Par.here l : Int), .str 0 0, .str 0 0, .str 0 0, .bool false, .str 0 0, .str 0 0, v2, .slN, v3, .slN] :: .box rb_ [.int .i64 0, .int .i64 0, .str 0 0, .str 0 0, .str 0 0, .bool false, .str 0 0, .str 0 0, .slN, .slN, .slN, .slN] :: fs) h := st
   refine WO.nil (WP.cond (t := true) rfl (WP.reg (WO.callO rfl (hblk st hl4 (by omega) (by have _ := hl.len; have _ := hl.lt; have _ := Par.is_pos hi1; have _ := List.length_tail (l := l); have _ := hl1.len; have _ := expr_len m2; have _ := hl2.len; have _ := hl3.len; have _ := Par.is_pos hi4; have _ := List.length_tail (l := l3); have _ := hl4.len; omega)) (fun e a h hm st => ?_) ?_)))
   ·exact Outc.pan (by simp [Par.stmtS, Par.stIf, hm, hi1, m2, m3, hi4]) (st.tail.tail.tail.tail)
   rintro a5 l5 v5 h i5 m5 hl5 ⟨hlt5, hc5, st⟩
   refine WO.val (v := .ptr sb 11) (L.faddr rfl) (WO.storeF (row' := [.int .i64 5, .int .i64 (Par.here l : Int), .str 0 0, .str 0 0, .str 0 0, .bool false, .str 0 0, .str 0 0, v2, .slN, v3, v5]) st 5 rfl rfl hc5 rfl rfl rfl rfl (fun h st => ?_))
   refine WO.nil (WP.seq (WP.reg (WO.val (v := .agg [.int .i64 5, .int .i64 (Par.here l : Int), .str 0 0, .str 0 0, .str 0 0, .bool false, .str 0 0, .str 0 0, v2, .slN, v3, v5]) (L.loadnB rfl (st.box_at 5 rfl) rfl rfl rfl) (WO.storeF (row' := [.int .i64 5, .int .i64 (Par.here l : Int), .str 0 0, .str 0 0, .str 0 0, .bool false, .str 0 0, .str 0 0, v2, .slN, v3, v5]) st 6 rfl rfl rfl rfl rfl rfl rfl (fun h st => ?_)))))
   refine WO.nil (WP.ret ?_)
   exact ⟨_, (res_cons (res_cellA (l := [.int .i64 5, .int .i64 (Par.here l : Int), .str 0 0, .str 0 0, .str 0 0, .bool false, .str 0 0, .str 0 0, v2, .slN, v3, v5]) rfl (L.load_box (st.box_at 6 rfl) rfl rfl rfl)) (res_nil _ _)), Outc.ok (x := (Sm.mk 5 (Par.here l) ([]) ([]) ([]) false ([]) ([]) a2 [] a3 a5)) (l := l5) (by simp [Par.stmtS, Par.stIf, hi1, m2, m3, hi4, m5]) hl5 ⟨[.int .i64 5, .int .i64 (Par.here l : Int), .str 0 0, .str 0 0, .str 0 0, .bool false, .str 0 0, .str 0 0, v2, .slN, v3, v5], rfl, rfl, (by have _ := hl.len; have _ := hl.lt; have _ := Par.is_pos hi1; have _ := List.length_tail (l := l); have _ := hl1.len; have _ := expr_len m2; have _ := hl2.len; have _ := hl3.len; have _ := Par.is_pos hi4; have _ := List.length_tail (l := l3); have _ := hl4.len; have _ := hl5.len; have _ := hl.len; have _ := hl.lt; omega), (((((st.pick 5 rfl).tail.pick 5 rfl).tail.pick 3 rfl).pick 4 rfl)).and.and.imp0 (Q := fun h => SmR h (Sm.mk 5 (Par.here l) ([]) ([]) ([]) false ([]) ([]) a2 [] a3 a5) [.int .i64 5, .int .i64 (Par.here l : Int), .str 0 0, .str 0 0, .str 0 0, .bool false, .str 0 0, .str 0 0, v2, .slN, v3, v5]) (fun h hx => by simp only [SmR]; exact ⟨_, _, _, _, rfl, hx.1.1, ⟨[], Rows.nil, trivial⟩, hx.1.2, hx.2⟩)⟩⟩
  ·replace st : St ((p.box i3 d) :: p.toks :: .stb (fun h => SmsR h v3 a3) :: .stb (fun h => Rows 7 h v2 (a2.map Nd.row)) :: .box sb [.int .i64 5, .int .i64 (Par.here l : Int), .str 0 0, .str 0 0, .str 0 0, .bool false, .str 0 0, .str 0 0, v2, .slN, v3, .slN] :: .box rb_ [.int .i64 0, .int .i64 0, .str 0 0, .str 0 0, .str 0 0, .bool false, .str 0 0, .str 0 0, .slN, .slN, .slN, .slN] :: fs) h := st
   refine WO.nil (WP.cond (t := false) rfl (WP.skip (WP.seq (WP.reg (WO.val (v := .agg [.int .i64 5, .int .i64 (Par.here l : Int), .str 0 0, .str 0 0, .str 0 0, .bool false, .str 0 0, .str 0 0, v2, .slN, v3, .slN]) (L.loadnB rfl (st.box_at 4 rfl) rfl rfl rfl) (WO.storeF (row' := [.int .i64 5, .int .i64 (Par.here l : Int), .str 0 0, .str 0 0, .str 0 0, .bool false, .str 0 0, .str 0 0, v2, .slN, v3, .slN]) st 5 rfl rfl rfl rfl rfl rfl rfl (fun h st => ?_)))))))
   refine WO.nil (WP.ret ?_)
   exact ⟨_, (res_cons (res_cellA (l := [.int .i64 5, .int .i64 (Par.here l : Int), .str 0 0, .str 0 0, .str 0 0, .bool false, .str 0 0, .str 0 0, v2, .slN, v3, .slN]) rfl (L.load_box (st.box_at 5 rfl) rfl rfl rfl)) (res_nil _ _)), Outc.ok (x := (Sm.mk 5 (Par.here l) ([]) ([]) ([]) false ([]) ([]) a2 [] a3 [])) (l := l3) (by simp [Par.stmtS, Par.stIf, hi1, m2, m3, hi4]) hl3 ⟨[.int .i64 5, .int .i64 (Par.here l : Int), .str 0 0, .str 0 0, .str 0 0, .bool false, .str 0 0, .str 0 0, v2, .slN, v3, .slN], rfl, rfl, (by have _ := hl.len; have _ := hl.lt; have _ := Par.is_pos hi1; have _ := List.length_tail (l := l); have _ := hl1.len; have _ := expr_len m2; have _ := hl2.len; have _ := hl3.len; have _ := hl.len; have _ := hl.lt; omega), (((((st.pick 4 rfl).tail.pick 4 rfl).tail.pick 2 rfl).pick 3 rfl)).and.imp0 (Q := fun h => SmR h (Sm.mk 5 (Par.here l) ([]) ([]) ([]) false ([]) ([]) a2 [] a3 []) [.int .i64 5, .int .i64 (Par.here l : Int), .str 0 0, .str 0 0, .str 0 0, .bool false, .str 0 0, .str 0 0, v2, .slN, v3, .slN]) (fun h hx => by simp only [SmR]; exact ⟨_, _, _, _, rfl, hx.1, ⟨[], Rows.nil, trivial⟩, hx.2, ⟨[], Rows.nil, SmRows.nil⟩⟩)⟩⟩
 ·replace st : St ((p.box i d) :: p.toks :: .box sb [.int .i64 0, .int .i64 (Par.here l : Int), .str 0 0, .str 0 0, .str 0 0, .bool false, .str 0 0, .str 0 0, .slN, .slN, .slN, .slN] :: .box rb_ [.int .i64 0, .int .i64 0, .str 0 0, .str 0 0, .str 0 0, .bool false, .str 0 0, .str 0 0, .slN, .slN, .slN, .slN] :: fs) h := st
  refine WO.nil (WP.cond (t := false) rfl (WP.seq (WP.reg (WO.callFS rfl (may_c (s := [119, 104, 105, 108, 101]) D st hl) ?_))))
  rintro _ h (⟨rfl, hi6, hl6, st⟩ | ⟨rfl, hi6, st⟩)
  ·replace st : St ((p.box (i + 1 : Nat) d) :: p.toks :: .box sb [.int .i64 0, .int .i64 (Par.here l : Int), .str 0 0, .str 0 0, .str 0 0, .bool false, .str 0 0, .str 0 0, .slN, .slN, .slN, .slN] :: .box rb_ [.int .i64 0, .int .i64 0, .str 0 0, .str 0 0, .str 0 0, .bool false, .str 0 0, .str 0 0, .slN, .slN, .slN, .slN] :: fs) h := st
   refine WO.nil (WP.cond (t := true) rfl (WP.seq (WP.reg (WO.callO rfl (expr_c D st hl6 (by omega)) (fun e a h hm st => ?_) ?_))))
   ·exact Outc.pan (by simp [Par.stmtS, Par.stWhile, hm, hi1, hi6]) (st.tail.tail)
   rintro a7 l7 v7 h i7 m7 hl7 ⟨hc7, st⟩
   refine WO.val (v := .ptr sb 0) (L.faddr rfl) (WO.storeF (row' := [.int .i64 6, .int .i64 (Par.here l : Int), .str 0 0, .str 0 0, .str 0 0, .bool false, .str 0 0, .str 0 0, .slN, .slN, .slN, .slN]) st 3 rfl rfl rfl rfl rfl rfl rfl (fun h st => ?_))
   refine WO.val (v := .ptr sb 8) (L.faddr rfl) (WO.storeF (row' := [.int .i64 6, .int .i64 (Par.here l : Int), .str 0 0, .str 0 0, .str 0 0, .bool false, .str 0 0, .str 0 0, v7, .slN, .slN, .slN]) st 3 rfl rfl hc7 rfl rfl rfl rfl (fun h st => ?_))
   refine WO.nil (WP.seq (WP.reg (WO.callO rfl (hblk ((st.pick 2 rfl).pick 2 rfl) hl7 (by omega) (by have _ := hl.len; have _ := hl.lt; have _ := Par.is_pos hi6; have _ := List.length_tail (l := l); have _ := hl6.len; have _ := expr_len m7; have _ := hl7.len; omega)) (fun e a h hm st => ?_) ?_)))
   ·exact Outc.pan (by simp [Par.stmtS, Par.stWhile, hm, hi1, hi6, m7]) (st.tail.tail.tail)
   rintro a8 l8 v8 h i8 m8 hl8 ⟨hlt8, hc8, st⟩
   refine WO.val (v := .ptr sb 10) (L.faddr rfl) (WO.storeF (row' := [.int .i64 6, .int .i64 (Par.here l : Int), .str 0 0, .str 0 0, .str 0 0, .bool false, .str 0 0, .str 0 0, v7, .slN, v8, .slN]) st 4 rfl rfl hc8 rfl rfl rfl rfl (fun h st => ?_))
   refine WO.nil (WP.seq (WP.reg (WO.val (v := .agg [.int .i64 6, .int .i64 (Par.here l : Int), .str 0 0, .str 0 0, .str 0 0, .bool false, .str 0 0, .str 0 0, v7, .slN, v8, .slN]) (L.loadnB rfl (st.box_at 4 rfl) rfl rfl rfl) (WO.storeF (row' := [.int .i64 6, .int .i64 (Par.here l : Int), .str 0 0, .str 0 0, .str 0 0, .bool false, .str 0 0, .str 0 0, v7, .slN, v8, .slN]) st 5 rfl rfl rfl rfl rfl rfl rfl (fun h st => ?_)))))
   refine WO.nil (WP.ret ?_)
   exact ⟨_, (res_cons (res_cellA (l := [.int .i64 6, .int .i64 (Par.here l : Int), .str 0 0, .str 0 0, .str 0 0, .bool false, .str 0 0, .str 0 0, v7, .slN, v8, .slN]) rfl (L.load_box (st.box_at 5 rfl) rfl rfl rfl)) (res_nil _ _)), Outc.ok (x := (Sm.mk 6 (Par.here l) ([]) ([]) ([]) false ([]) ([]) a7 [] a8 [])) (l := l8) (by simp [Par.stmtS, Par.stWhile, hi1, hi6, m7, m8]) hl8 ⟨[.int .i64 6, .int .i64 (Par.here l : Int), .str 0 0, .str 0 0, .str 0 0, .bool false, .str 0 0, .str 0 0, v7, .slN, v8, .slN], rfl, rfl, (by have _ := hl.len; have _ := hl.lt; have _ := Par.is_pos hi6; have _ := List.length_tail (l := l); have _ := hl6.len; have _ := expr_len m7; have _ := hl7.len; have _ := hl8.len; have _ := hl.len; have _ := hl.lt; omega), ((((st.pick 4 rfl).tail.pick 4 rfl).tail.pick 3 rfl)).and.imp0 (Q := fun h => SmR h (Sm.mk 6 (Par.here l) ([]) ([]) ([]) false ([]) ([]) a7 [] a8 []) [.int .i64 6, .int .i64 (Par.here l : Int), .str 0 0, .str 0 0, .str 0 0, .bool false, .str 0 0, .str 0 0, v7, .slN, v8, .slN]) (fun h hx => by simp only [SmR]; exact ⟨_, _, _, _, rfl, hx.1, ⟨[], Rows.nil, trivial⟩, hx.2, ⟨[], Rows.nil, SmRows.nil⟩⟩)⟩⟩
  ·replace st : St ((p.box i d) :: p.toks :: .box sb [.int .i64 0, .int .i64 (Par.here l : Int), .str 0 0, .str 0 0, .str 0 0, .bool false, .str 0 0, .str 0 0, .slN, .slN, .slN, .slN] :: .box rb_ [.int .i64 0, .int .i64 0, .str 0 0, .str 0 0, .str 0 0, .bool false, .str 0 0, .str 0 0, .slN, .slN, .slN, .slN] :: fs) h := st
   refine WO.nil (WP.cond (t := false) rfl (WP.seq (WP.reg (WO.callFS rfl (may_c (s := [108, 101, 116]) D st hl) ?_))))
   rintro _ h (⟨rfl, hi9, hl9, st⟩ | ⟨rfl, hi9, st⟩)
   ·replace st : St ((p.box (i + 1 : Nat) d) :: p.toks :: .box sb [.int .i64 0, .int .i64 (Par.here l : Int), .str 0 0, .str 0 0, .str 0 0, .bool false, .str 0 0, .str 0 0, .slN, .slN, .slN, .slN] :: .box rb_ [.int .i64 0, .int .i64 0, .str 0 0, .str 0 0, .str 0 0, .bool false, .str 0 0, .str 0 0, .slN, .slN, .slN, .slN] :: fs) h := st
    refine WO.nil (WP.cond (t := true) rfl (WP.seq (WP.reg (WO.callO rfl (name_c D st hl9) (fun e a h hm st => ?_) ?_))))
    ·exact Outc.pan (by simp [Par.stmtS, Par.stLet, hm, hi1, hi6, hi9]) (st.tail.tail)
    rintro a10 l10 _ h i10 m10 hl10 ⟨rfl, st⟩
    refine WO.val (v := .ptr sb 0) (L.faddr rfl) (WO.storeF (row' := [.int .i64 1, .int .i64 (Par.here l : Int), .str 0 0, .str 0 0, .str 0 0, .bool false, .str 0 0, .str 0 0, .slN, .slN, .slN, .slN]) st 2 rfl rfl rfl rfl rfl rfl rfl (fun h st => ?_))
    refine WO.val (v := .ptr sb 3) (L.faddr rfl) (WO.storeF (row' := [.int .i64 1, .int .i64 (Par.here l : Int), .str 0 0, L.str a10, .str 0 0, .bool false, .str 0 0, .str 0 0, .slN, .slN, .slN, .slN]) st 2 rfl rfl rfl rfl rfl rfl rfl (fun h st => ?_))
    refine WO.nil (WP.seq (WP.reg (WO.callO rfl (must_c (s := [58]) D st hl10) (fun e a h hm st => ?_) ?_)))
    ·exact Outc.pan (by simp [Par.stmtS, Par.stLet, hm, hi1, hi6, hi9, m10]) (st.tail.tail)
    rintro a11 l11 _ h i11 m11 hl11 ⟨rfl, st⟩
    refine WO.nil (WP.seq (WP.reg (WO.callO rfl (name_c D st hl11) (fun e a h hm st => ?_) ?_)))
    ·exact Outc.pan (by simp [Par.stmtS, Par.stLet, hm, hi1, hi6, hi9, m10, m11]) (st.tail.tail)
    rintro a12 l12 _ h i12 m12 hl12 ⟨rfl, st⟩
    refine WO.val (v := .ptr sb 4) (L.faddr rfl) (WO.storeF (row' := [.int .i64 1, .int .i64 (Par.here l : Int), .str 0 0, L.str a10, L.str a12, .bool false, .str 0 0, .str 0 0, .slN, .slN, .slN, .slN]) st 2 rfl rfl rfl rfl rfl rfl rfl (fun h st => ?_))
    refine WO.nil (WP.seq (WP.reg (WO.callO rfl (must_c (s := [61]) D st hl12) (fun e a h hm st => ?_) ?_)))
    ·exact Outc.pan (by simp [Par.stmtS, Par.stLet, hm, hi1, hi6, hi9, m10, m11, m12]) (st.tail.tail)
    rintro a13 l13 _ h i13 m13 hl13 ⟨rfl, st⟩
    refine WO.nil (WP.reg (WO.callO rfl (expr_c D st hl13 (by omega)) (fun e a h hm st => ?_) ?_))
    ·exact Outc.pan (by simp [Par.stmtS, Par.stLet, hm, hi1, hi6, hi9, m10, m11, m12, m13]) (st.tail.tail)
    rintro a14 l14 v14 h i14 m14 hl14 ⟨hc14, st⟩
    refine WO.val (v := .ptr sb 8) (L.faddr rfl) (WO.storeF (row' := [.int .i64 1, .int .i64 (Par.here l : Int), .str 0 0, L.str a10, L.str a12, .bool false, .str 0 0, .str 0 0, v14, .slN, .slN, .slN]) st 3 rfl rfl hc14 rfl rfl rfl rfl (fun h st => ?_))
    refine WO.nil (WP.seq (WP.reg (WO.callO rfl (must_c (s := [59]) D ((st.pick 2 rfl).pick 2 rfl) hl14) (fun e a h hm st => ?_) ?_)))
    ·exact Outc.pan (by simp [Par.stmtS, Par.stLet, Par.fin, hm, hi1, hi6, hi9, m10, m11, m12, m13, m14]) (st.tail.tail.tail)
    rintro a15 l15 _ h i15 m15 hl15 ⟨rfl, st⟩
    refine WO.nil (WP.seq (WP.reg (WO.val (v := .agg [.int .i64 1, .int .i64 (Par.here l : Int), .str 0 0, L.str a10, L.str a12, .bool false, .str 0 0, .str 0 0, v14, .slN, .slN, .slN]) (L.loadnB rfl (st.box_at 3 rfl) rfl rfl rfl) (WO.storeF (row' := [.int .i64 1, .int .i64 (Par.here l : Int), .str 0 0, L.str a10, L.str a12, .bool false, .str 0 0, .str 0 0, v14, .slN, .slN, .slN]) st 4 rfl rfl rfl rfl rfl rfl rfl (fun h st => ?_)))))
    refine WO.nil (WP.ret ?_)
    exact ⟨_, (res_cons (res_cellA (l := [.int .i64 1, .int .i64 (Par.here l : Int), .str 0 0, L.str a10, L.str a12, .bool false, .str 0 0, .str 0 0, v14, .slN, .slN, .slN]) rfl (L.load_box (st.box_at 4 rfl) rfl rfl rfl)) (res_nil _ _)), Outc.ok (x := (Sm.mk 1 (Par.here l) ([]) a10 a12 false ([]) ([]) a14 [] [] [])) (l := l15) (by simp [Par.stmtS, Par.stLet, Par.fin, hi1, hi6, hi9, m10, m11, m12, m13, m14, m15]) hl15 ⟨[.int .i64 1, .int .i64 (Par.here l : Int), .str 0 0, L.str a10, L.str a12, .bool false, .str 0 0, .str 0 0, v14, .slN, .slN, .slN], rfl, rfl, (by have _ := hl.len; have _ := hl.lt; have _ := Par.is_pos hi9; have _ := List.length_tail (l := l); have _ := hl9.len; have _ := Par.name_len m10; have _ := hl10.len; have _ := Par.must_len m11; have _ := hl11.len; have _ := Par.name_len m12; have _ := hl12.len; have _ := Par.must_len m13; have _ := hl13.len; have _ := expr_len m14; have _ := hl14.len; have _ := Par.must_len m15; have _ := hl15.len; have _ := hl.len; have _ := hl.lt; omega), ((((st.pick 3 rfl).tail.pick 3 rfl).tail.pick 2 rfl)).imp0 (Q := fun h => SmR h (Sm.mk 1 (Par.here l) ([]) a10 a12 false ([]) ([]) a14 [] [] []) [.int .i64 1, .int .i64 (Par.here l : Int), .str 0 0, L.str a10, L.str a12, .bool false, .str 0 0, .str 0 0, v14, .slN, .slN, .slN]) (fun h hx => by simp only [SmR]; exact ⟨_, _, _, _, rfl, hx, ⟨[], Rows.nil, trivial⟩, ⟨[], Rows.nil, SmRows.nil⟩, ⟨[], Rows.nil, SmRows.nil⟩⟩)⟩⟩
   ·replace st : St ((p.box i d) :: p.toks :: .box sb [.int .i64 0, .int .i64 (Par.here l : Int), .str 0 0, .str 0 0, .str 0 0, .bool false, .str 0 0, .str 0 0, .slN, .slN, .slN, .slN] :: .box rb_ [.int .i64 0, .int .i64 0, .str 0 0, .str 0 0, .str 0 0, .bool false, .str 0 0, .str 0 0, .slN, .slN, .slN, .slN] :: fs) h := st
    refine WO.nil (WP.cond (t := false) rfl (WP.seq (WP.reg (WO.callFS rfl (may_c (s := [114, 101, 115, 117, 108, 116]) D st hl) ?_))))
    rintro _ h (⟨rfl, hi16, hl16, st⟩ | ⟨rfl, hi16, st⟩)
    ·replace st : St ((p.box (i + 1 : Nat) d) :: p.toks :: .box sb [.int .i64 0, .int .i64 (Par.here l : Int), .str 0 0, .str 0 0, .str 0 0, .bool false, .str 0 0, .str 0 0, .slN, .slN, .slN, .slN] :: .box rb_ [.int .i64 0, .int .i64 0, .str 0 0, .str 0 0, .str 0 0, .bool false, .str 0 0, .str 0 0, .slN, .slN, .slN, .slN] :: fs) h := st
     refine WO.nil (WP.cond (t := true) rfl (WP.seq (WP.reg (WO.val (v := .ptr sb 0) (L.faddr rfl) (WO.storeF (row' := [.int .i64 3, .int .i64 (Par.here l : Int), .str 0 0, .str 0 0, .str 0 0, .bool false, .str 0 0, .str 0 0, .slN, .slN, .slN, .slN]) st 2 rfl rfl rfl rfl rfl rfl rfl (fun h st => ?_))))))
     refine WO.nil (WP.seq (WP.reg (WO.callO rfl (must_c (s := [61]) D st hl16) (fun e a h hm st => ?_) ?_)))
     ·exact Outc.pan (by simp [Par.stmtS, Par.stResult, hm, hi1, hi6, hi9, hi16]) (st.tail.tail)
     rintro a17 l17 _ h i17 m17 hl17 ⟨rfl, st⟩
     refine WO.nil (WP.reg (WO.callO rfl (expr_c D st hl17 (by omega)) (fun e a h hm st => ?_) ?_))
     ·exact Outc.pan (by simp [Par.stmtS, Par.stResult, hm, hi1, hi6, hi9, hi16, m17]) (st.tail.tail)
     rintro a18 l18 v18 h i18 m18 hl18 ⟨hc18, st⟩
     refine WO.val (v := .ptr sb 8) (L.faddr rfl) (WO.storeF (row' := [.int .i64 3, .int .i64 (Par.here l : Int), .str 0 0, .str 0 0, .str 0 0, .bool false, .str 0 0, .str 0 0, v18, .slN, .slN, .slN]) st 3 rfl rfl hc18 rfl rfl rfl rfl (fun h st => ?_))
     refine WO.nil (WP.seq (WP.reg (WO.callO rfl (must_c (s := [59]) D ((st.pick 2 rfl).pick 2 rfl) hl18) (fun e a h hm st => ?_) ?_)))
     ·exact Outc.pan (by simp [Par.stmtS, Par.stResult, Par.fin, hm, hi1, hi6, hi9, hi16, m17, m18]) (st.tail.tail.tail)
     rintro a19 l19 _ h i19 m19 hl19 ⟨rfl, st⟩
     refine WO.nil (WP.seq (WP.reg (WO.val (v := .agg [.int .i64 3, .int .i64 (Par.here l : Int), .str 0 0, .str 0 0, .str 0 0, .bool false, .str 0 0, .str 0 0, v18, .slN, .slN, .slN]) (L.loadnB rfl (st.box_at 3 rfl) rfl rfl rfl) (WO.storeF (row' := [.int .i64 3, .int .i64 (Par.here l : Int), .str 0 0, .str 0 0, .str 0 0, .bool false, .str 0 0, .str 0 0, v18, .slN, .slN, .slN]) st 4 rfl rfl rfl rfl rfl rfl rfl (fun h st => ?_)))))
     refine WO.nil (WP.ret ?_)
     exact ⟨_, (res_cons (res_cellA (l := [.int .i64 3, .int .i64 (Par.here l : Int), .str 0 0, .str 0 0, .str 0 0, .bool false, .str 0 0, .str 0 0, v18, .slN, .slN, .slN]) rfl (L.load_box (st.box_at 4 rfl) rfl rfl rfl)) (res_nil _ _)), Outc.ok (x := (Sm.mk 3 (Par.here l) ([]) ([]) ([]) false ([]) ([]) a18 [] [] [])) (l := l19) (by simp [Par.stmtS, Par.stResult, Par.fin, hi1, hi6, hi9, hi16, m17, m18, m19]) hl19 ⟨[.int .i64 3, .int .i64 (Par.here l : Int), .str 0 0, .str 0 0, .str 0 0, .bool false, .str 0 0, .str 0 0, v18, .slN, .slN, .slN], rfl, rfl, (by have _ := hl.len; have _ := hl.lt; have _ := Par.is_pos hi16; have _ := List.length_tail (l := l); have _ := hl16.len; have _ := Par.must_len m17; have _ := hl17.len; have _ := expr_len m18; have _ := hl18.len; have _ := Par.must_len m19; have _ := hl19.len; have _ := hl.len; have _ := hl.lt; omega), ((((st.pick 3 rfl).tail.pick 3 rfl).tail.pick 2 rfl)).imp0 (Q := fun h => SmR h (Sm.mk 3 (Par.here l) ([]) ([]) ([]) false ([]) ([]) a18 [] [] []) [.int .i64 3, .int .i64 (Par.here l : Int), .str 0 0, .str 0 0, .str 0 0, .bool false, .str 0 0, .str 0 0, v18, .slN, .slN, .slN]) (fun h hx => by simp only [SmR]; exact ⟨_, _, _, _, rfl, hx, ⟨[], Rows.nil, trivial⟩, ⟨[], Rows.nil, SmRows.nil⟩, ⟨[], Rows.nil, SmRows.nil⟩⟩)⟩⟩
    ·replace st : St ((p.box i d) :: p.toks :: .box sb [.int .i64 0, .int .i64 (Par.here l : Int), .str 0 0, .str 0 0, .str 0 0, .bool false, .str 0 0, .str 0 0, .slN, .slN, .slN, .slN] :: .box rb_ [.int .i64 0, .int .i64 0, .str 0 0, .str 0 0, .str 0 0, .bool false, .str 0 0, .str 0 0, .slN, .slN, .slN, .slN] :: fs) h := st
     refine WO.nil (WP.cond (t := false) rfl (WP.seq (WP.reg (WO.callFS rfl (may_c (s := [99, 97, 108, 108]) D st hl) ?_))))
     rintro _ h (⟨rfl, hi20, hl20, st⟩ | ⟨rfl, hi20, st⟩)
     ·replace st : St ((p.box (i + 1 : Nat) d) :: p.toks :: .box sb [.int .i64 0, .int .i64 (Par.here l : Int), .str 0 0, .str 0 0, .str 0 0, .bool false, .str 0 0, .str 0 0, .slN, .slN, .slN, .slN] :: .box rb_ [.int .i64 0, .int .i64 0, .str 0 0, .str 0 0, .str 0 0, .bool false, .str 0 0, .str 0 0, .slN, .slN, .slN, .slN] :: fs) h := st
      refine WO.nil (WP.cond (t := true) rfl (WP.seq (WP.reg (WO.val (v := .ptr sb 0) (L.faddr rfl) (WO.storeF (row' := [.int .i64 4, .int .i64 (Par.here l : Int), .str 0 0, .str 0 0, .str 0 0, .bool false, .str 0 0, .str 0 0, .slN, .slN, .slN, .slN]) st 2 rfl rfl rfl rfl rfl rfl rfl (fun h st => ?_))))))
      refine WO.nil (WP.reg (WO.callO rfl (call_c D (st.pick 2 rfl) hl20 (by omega)) (fun e a h hm st => ?_) ?_))
      ·exact Outc.pan (by simp [Par.stmtS, Par.stCall, hm, hi1, hi6, hi9, hi16, hi20]) (st.tail)
      rintro a21 l21 _ h i21 m21 hl21 ⟨va21, hv21, st⟩
      refine WO.nil (WP.seq (WP.reg (WO.callO rfl (must_c (s := [59]) D ((st.pick 3 rfl).pick 3 rfl) hl21) (fun e a h hm st => ?_) ?_)))
      ·exact Outc.pan (by simp [Par.stmtS, Par.stCall, Par.fin, hm, hi1, hi6, hi9, hi16, hi20, m21]) (st.tail.tail.tail)
      rintro a22 l22 _ h i22 m22 hl22 ⟨rfl, st⟩
      refine WO.nil (WP.seq (WP.reg (WO.val (v := .agg [.int .i64 4, .int .i64 (Par.here l : Int), L.str a21.mod, L.str a21.name, L.str [], .bool a21.has, L.str a21.tomod, L.str a21.to, .slN, va21, .slN, .slN]) (L.loadnB rfl (st.box_at 3 rfl) rfl rfl rfl) (WO.storeF (row' := [.int .i64 4, .int .i64 (Par.here l : Int), L.str a21.mod, L.str a21.name, L.str [], .bool a21.has, L.str a21.tomod, L.str a21.to, .slN, va21, .slN, .slN]) st 4 rfl rfl rfl rfl rfl rfl rfl (fun h st => ?_)))))
      refine WO.nil (WP.ret ?_)
      exact ⟨_, (res_cons (res_cellA (l := [.int .i64 4, .int .i64 (Par.here l : Int), L.str a21.mod, L.str a21.name, L.str [], .bool a21.has, L.str a21.tomod, L.str a21.to, .slN, va21, .slN, .slN]) rfl (L.load_box (st.box_at 4 rfl) rfl rfl rfl)) (res_nil _ _)), Outc.ok (x := (Sm.mk 4 (Par.here l) a21.mod a21.name ([]) a21.has a21.tomod a21.to [] a21.args [] [])) (l := l22) (by simp [Par.stmtS, Par.stCall, Par.fin, hi1, hi6, hi9, hi16, hi20, m21, m22]) hl22 ⟨[.int .i64 4, .int .i64 (Par.here l : Int), L.str a21.mod, L.str a21.name, L.str [], .bool a21.has, L.str a21.tomod, L.str a21.to, .slN, va21, .slN, .slN], rfl, rfl, (by have _ := hl.len; have _ := hl.lt; have _ := Par.is_pos hi20; have _ := List.length_tail (l := l); have _ := hl20.len; have _ := call_len m21; have _ := hl21.len; have _ := Par.must_len m22; have _ := hl22.len; have _ := hl.len; have _ := hl.lt; omega), ((((st.pick 3 rfl).tail.pick 3 rfl).tail.pick 2 rfl)).imp0 (Q := fun h => SmR h (Sm.mk 4 (Par.here l) a21.mod a21.name ([]) a21.has a21.tomod a21.to [] a21.args [] []) [.int .i64 4, .int .i64 (Par.here l : Int), L.str a21.mod, L.str a21.name, L.str [], .bool a21.has, L.str a21.tomod, L.str a21.to, .slN, va21, .slN, .slN]) (fun h hx => by simp only [SmR]; exact ⟨_, _, _, _, rfl, Rows.nil, hx, ⟨[], Rows.nil, SmRows.nil⟩, ⟨[], Rows.nil, SmRows.nil⟩⟩)⟩⟩
     ·replace st : St ((p.box i d) :: p.toks :: .box sb [.int .i64 0, .int .i64 (Par.here l : Int), .str 0 0, .str 0 0, .str 0 0, .bool false, .str 0 0, .str 0 0, .slN, .slN, .slN, .slN] :: .box rb_ [.int .i64 0, .int .i64 0, .str 0 0, .str 0 0, .str 0 0, .bool false, .str 0 0, .str 0 0, .slN, .slN, .slN, .slN] :: fs) h := st
      refine WO.nil (WP.cond (t := false) rfl (WP.seq (WP.reg (WO.callFS rfl (may_c (s := [101, 109, 105, 116]) D st hl) ?_))))
      rintro _ h (⟨rfl, hi23, hl23, st⟩ | ⟨rfl, hi23, st⟩)
      ·replace st : St ((p.box (i + 1 : Nat) d) :: p.toks :: .box sb [.int .i64 0, .int .i64 (Par.here l : Int), .str 0 0, .str 0 0, .str 0 0, .bool false, .str 0 0, .str 0 0, .slN, .slN, .slN, .slN] :: .box rb_ [.int .i64 0, .int .i64 0, .str 0 0, .str 0 0, .str 0 0, .bool false, .str 0 0, .str 0 0, .slN, .slN, .slN, .slN] :: fs) h := st
       refine WO.nil (WP.cond (t := true) rfl (WP.reg (WO.callO rfl (name_c D st hl23) (fun e a h hm st => ?_) ?_)))
       ·exact Outc.pan (by simp [Par.stmtS, Par.stEmit, hm, hi1, hi6, hi9, hi16, hi20, hi23]) (st.tail.tail)
       rintro a24 l24 _ h i24 m24 hl24 ⟨rfl, st⟩
       refine WO.val (v := .ptr sb 0) (L.faddr rfl) (WO.storeF (row' := [.int .i64 7, .int .i64 (Par.here l : Int), .str 0 0, .str 0 0, .str 0 0, .bool false, .str 0 0, .str 0 0, .slN, .slN, .slN, .slN]) st 2 rfl rfl rfl rfl rfl rfl rfl (fun h st => ?_))
       refine WO.val (v := .ptr sb 3) (L.faddr rfl) (WO.storeF (row' := [.int .i64 7, .int .i64 (Par.here l : Int), .str 0 0, L.str a24, .str 0 0, .bool false, .str 0 0, .str 0 0, .slN, .slN, .slN, .slN]) st 2 rfl rfl rfl rfl rfl rfl rfl (fun h st => ?_))
       refine WO.nil (WP.seq (WP.reg (WO.callO rfl (must_c (s := [59]) D st hl24) (fun e a h hm st => ?_) ?_)))
       ·exact Outc.pan (by simp [Par.stmtS, Par.stEmit, Par.fin, hm, hi1, hi6, hi9, hi16, hi20, hi23, m24]) (st.tail.tail)
       rintro a25 l25 _ h i25 m25 hl25 ⟨rfl, st⟩
       refine WO.nil (WP.seq (WP.reg (WO.val (v := .agg [.int .i64 7, .int .i64 (Par.here l : Int), .str 0 0, L.str a24, .str 0 0, .bool false, .str 0 0, .str 0 0, .slN, .slN, .slN, .slN]) (L.loadnB rfl (st.box_at 2 rfl) rfl rfl rfl) (WO.storeF (row' := [.int .i64 7, .int .i64 (Par.here l : Int), .str 0 0, L.str a24, .str 0 0, .bool false, .str 0 0, .str 0 0, .slN, .slN, .slN, .slN]) st 3 rfl rfl rfl rfl rfl rfl rfl (fun h st => ?_)))))
       refine WO.nil (WP.ret ?_)
       exact ⟨_, (res_cons (res_cellA (l := [.int .i64 7, .int .i64 (Par.here l : Int), .str 0 0, L.str a24, .str 0 0, .bool false, .str 0 0, .str 0 0, .slN, .slN, .slN, .slN]) rfl (L.load_box (st.box_at 3 rfl) rfl rfl rfl)) (res_nil _ _)), Outc.ok (x := (Sm.mk 7 (Par.here l) ([]) a24 ([]) false ([]) ([]) [] [] [] [])) (l := l25) (by simp [Par.stmtS, Par.stEmit, Par.fin, hi1, hi6, hi9, hi16, hi20, hi23, m24, m25]) hl25 ⟨[.int .i64 7, .int .i64 (Par.here l : Int), .str 0 0, L.str a24, .str 0 0, .bool false, .str 0 0, .str 0 0, .slN, .slN, .slN, .slN], rfl, rfl, (by have _ := hl.len; have _ := hl.lt; have _ := Par.is_pos hi23; have _ := List.length_tail (l := l); have _ := hl23.len; have _ := Par.name_len m24; have _ := hl24.len; have _ := Par.must_len m25; have _ := hl25.len; have _ := hl.len; have _ := hl.lt; omega), (St.pure (((st.pick 2 rfl).tail.pick 2 rfl).tail) (Q := True) trivial).imp0 (Q := fun h => SmR h (Sm.mk 7 (Par.here l) ([]) a24 ([]) false ([]) ([]) [] [] [] []) [.int .i64 7, .int .i64 (Par.here l : Int), .str 0 0, L.str a24, .str 0 0, .bool false, .str 0 0, .str 0 0, .slN, .slN, .slN, .slN]) (fun h hx => by simp only [SmR]; exact ⟨_, _, _, _, rfl, Rows.nil, ⟨[], Rows.nil, trivial⟩, ⟨[], Rows.nil, SmRows.nil⟩, ⟨[], Rows.nil, SmRows.nil⟩⟩)⟩⟩
      ·replace st : St ((p.box i d) :: p.toks :: .box sb [.int .i64 0, .int .i64 (Par.here l : Int), .str 0 0, .str 0 0, .str 0 0, .bool false, .str 0 0, .str 0 0, .slN, .slN, .slN, .slN] :: .box rb_ [.int .i64 0, .int .i64 0, .str 0 0, .str 0 0, .str 0 0, .bool false, .str 0 0, .str 0 0, .slN, .slN, .slN, .slN] :: fs) h := st
       refine WO.nil (WP.cond (t := false) rfl (WP.seq (WP.reg (WO.callFS rfl (may_c (s := [115, 107, 105, 112]) D st hl) ?_))))
       rintro _ h (⟨rfl, hi26, hl26, st⟩ | ⟨rfl, hi26, st⟩)
       ·replace st : St ((p.box (i + 1 : Nat) d) :: p.toks :: .box sb [.int .i64 0, .int .i64 (Par.here l : Int), .str 0 0, .str 0 0, .str 0 0, .bool false, .str 0 0, .str 0 0, .slN, .slN, .slN, .slN] :: .box rb_ [.int .i64 0, .int .i64 0, .str 0 0, .str 0 0, .str 0 0, .bool false, .str 0 0, .str 0 0, .slN, .slN, .slN, .slN] :: fs) h := st
        refine WO.nil (WP.cond (t := true) rfl (WP.reg (WO.val (v := .ptr sb 0) (L.faddr rfl) (WO.storeF (row' := [.int .i64 8, .int .i64 (Par.here l : Int), .str 0 0, .str 0 0, .str 0 0, .bool false, .str 0 0, .str 0 0, .slN, .slN, .slN, .slN]) st 2 rfl rfl rfl rfl rfl rfl rfl (fun h st => ?_)))))
        refine WO.nil (WP.seq (WP.reg (WO.callO rfl (must_c (s := [59]) D st hl26) (fun e a h hm st => ?_) ?_)))
        ·exact Outc.pan (by simp [Par.stmtS, Par.stSkip, Par.fin, hm, hi1, hi6, hi9, hi16, hi20, hi23, hi26]) (st.tail.tail)
        rintro a27 l27 _ h i27 m27 hl27 ⟨rfl, st⟩
        refine WO.nil (WP.seq (WP.reg (WO.val (v := .agg [.int .i64 8, .int .i64 (Par.here l : Int), .str 0 0, .str 0 0, .str 0 0, .bool false, .str 0 0, .str 0 0, .slN, .slN, .slN, .slN]) (L.loadnB rfl (st.box_at 2 rfl) rfl rfl rfl) (WO.storeF (row' := [.int .i64 8, .int .i64 (Par.here l : Int), .str 0 0, .str 0 0, .str 0 0, .bool false, .str 0 0, .str 0 0, .slN, .slN, .slN, .slN]) st 3 rfl rfl rfl rfl rfl rfl rfl (fun h st => ?_)))))
        refine WO.nil (WP.ret ?_)
        exact ⟨_, (res_cons (res_cellA (l := [.int .i64 8, .int .i64 (Par.here l : Int), .str 0 0, .str 0 0, .str 0 0, .bool false, .str 0 0, .str 0 0, .slN, .slN, .slN, .slN]) rfl (L.load_box (st.box_at 3 rfl) rfl rfl rfl)) (res_nil _ _)), Outc.ok (x := (Sm.mk 8 (Par.here l) ([]) ([]) ([]) false ([]) ([]) [] [] [] [])) (l := l27) (by simp [Par.stmtS, Par.stSkip, Par.fin, hi1, hi6, hi9, hi16, hi20, hi23, hi26, m27]) hl27 ⟨[.int .i64 8, .int .i64 (Par.here l : Int), .str 0 0, .str 0 0, .str 0 0, .bool false, .str 0 0, .str 0 0, .slN, .slN, .slN, .slN], rfl, rfl, (by have _ := hl.len; have _ := hl.lt; have _ := Par.is_pos hi26; have _ := List.length_tail (l := l); have _ := hl26.len; have _ := Par.must_len m27; have _ := hl27.len; have _ := hl.len; have _ := hl.lt; omega), (St.pure (((st.pick 2 rfl).tail.pick 2 rfl).tail) (Q := True) trivial).imp0 (Q := fun h => SmR h (Sm.mk 8 (Par.here l) ([]) ([]) ([]) false ([]) ([]) [] [] [] []) [.int .i64 8, .int .i64 (Par.here l : Int), .str 0 0, .str 0 0, .str 0 0, .bool false, .str 0 0, .str 0 0, .slN, .slN, .slN, .slN]) (fun h hx => by simp only [SmR]; exact ⟨_, _, _, _, rfl, Rows.nil, ⟨[], Rows.nil, trivial⟩, ⟨[], Rows.nil, SmRows.nil⟩, ⟨[], Rows.nil, SmRows.nil⟩⟩)⟩⟩
       ·replace st : St ((p.box i d) :: p.toks :: .box sb [.int .i64 0, .int .i64 (Par.here l : Int), .str 0 0, .str 0 0, .str 0 0, .bool false, .str 0 0, .str 0 0, .slN, .slN, .slN, .slN] :: .box rb_ [.int .i64 0, .int .i64 0, .str 0 0, .str 0 0, .str 0 0, .bool false, .str 0 0, .str 0 0, .slN, .slN, .slN, .slN] :: fs) h := st
        refine WO.nil (WP.cond (t := false) rfl (WP.seq (WP.reg (WO.val (v := .ptr sb 0) (L.faddr rfl) (WO.storeF (row' := [.int .i64 2, .int .i64 (Par.here l : Int), .str 0 0, .str 0 0, .str 0 0, .bool false, .str 0 0, .str 0 0, .slN, .slN, .slN, .slN]) st 2 rfl rfl rfl rfl rfl rfl rfl (fun h st => ?_))))))
        refine WO.nil (WP.seq (WP.reg (WO.callO rfl (qname_c D st hl) (fun e a h hm st => ?_) ?_)))
        ·exact Outc.pan (by simp [Par.stmtS, Par.stSet, hm, hi1, hi6, hi9, hi16, hi20, hi23, hi26]) (st.tail.tail)
        rintro a28 l28 _ h i28 m28 hl28 ⟨rfl, st⟩
        refine WO.val (v := L.str a28.1) rfl (WO.val (v := L.str a28.2) rfl (WO.val (v := .ptr sb 2) (L.faddr rfl) (WO.storeF (row' := [.int .i64 2, .int .i64 (Par.here l : Int), L.str a28.1, .str 0 0, .str 0 0, .bool false, .str 0 0, .str 0 0, .slN, .slN, .slN, .slN]) st 2 rfl rfl rfl rfl rfl rfl rfl (fun h st => ?_))))
        refine WO.val (v := .ptr sb 3) (L.faddr rfl) (WO.storeF (row' := [.int .i64 2, .int .i64 (Par.here l : Int), L.str a28.1, L.str a28.2, .str 0 0, .bool false, .str 0 0, .str 0 0, .slN, .slN, .slN, .slN]) st 2 rfl rfl rfl rfl rfl rfl rfl (fun h st => ?_))
        refine WO.nil (WP.seq (WP.reg (WO.callO rfl (must_c (s := [61]) D st hl28) (fun e a h hm st => ?_) ?_)))
        ·exact Outc.pan (by simp [Par.stmtS, Par.stSet, hm, hi1, hi6, hi9, hi16, hi20, hi23, hi26, m28]) (st.tail.tail)
        rintro a29 l29 _ h i29 m29 hl29 ⟨rfl, st⟩
        refine WO.nil (WP.reg (WO.callO rfl (expr_c D st hl29 (by omega)) (fun e a h hm st => ?_) ?_))
        ·exact Outc.pan (by simp [Par.stmtS, Par.stSet, hm, hi1, hi6, hi9, hi16, hi20, hi23, hi26, m28, m29]) (st.tail.tail)
        rintro a30 l30 v30 h i30 m30 hl30 ⟨hc30, st⟩
        refine WO.val (v := .ptr sb 8) (L.faddr rfl) (WO.storeF (row' := [.int .i64 2, .int .i64 (Par.here l : Int), L.str a28.1, L.str a28.2, .str 0 0, .bool false, .str 0 0, .str 0 0, v30, .slN, .slN, .slN]) st 3 rfl rfl hc30 rfl rfl rfl rfl (fun h st => ?_))
        refine WO.nil (WP.seq (WP.reg (WO.callO rfl (must_c (s := [59]) D ((st.pick 2 rfl).pick 2 rfl) hl30) (fun e a h hm st => ?_) ?_)))
        ·exact Outc.pan (by simp [Par.stmtS, Par.stSet, Par.fin, hm, hi1, hi6, hi9, hi16, hi20, hi23, hi26, m28, m29, m30]) (st.tail.tail.tail)
        rintro a31 l31 _ h i31 m31 hl31 ⟨rfl, st⟩
        refine WO.nil (WP.seq (WP.reg (WO.val (v := .agg [.int .i64 2, .int .i64 (Par.here l : Int), L.str a28.1, L.str a28.2, .str 0 0, .bool false, .str 0 0, .str 0 0, v30, .slN, .slN, .slN]) (L.loadnB rfl (st.box_at 3 rfl) rfl rfl rfl) (WO.storeF (row' := [.int .i64 2, .int .i64 (Par.here l : Int), L.str a28.1, L.str a28.2, .str 0 0, .bool false, .str 0 0, .str 0 0, v30, .slN, .slN, .slN]) st 4 rfl rfl rfl rfl rfl rfl rfl (fun h st => ?_)))))
        refine WO.nil (WP.ret ?_)
        exact ⟨_, (res_cons (res_cellA (l := [.int .i64 2, .int .i64 (Par.here l : Int), L.str a28.1, L.str a28.2, .str 0 0, .bool false, .str 0 0, .str 0 0, v30, .slN, .slN, .slN]) rfl (L.load_box (st.box_at 4 rfl) rfl rfl rfl)) (res_nil _ _)), Outc.ok (x := (Sm.mk 2 (Par.here l) a28.1 a28.2 ([]) false ([]) ([]) a30 [] [] [])) (l := l31) (by simp [Par.stmtS, Par.stSet, Par.fin, hi1, hi6, hi9, hi16, hi20, hi23, hi26, m28, m29, m30, m31]) hl31 ⟨[.int .i64 2, .int .i64 (Par.here l : Int), L.str a28.1, L.str a28.2, .str 0 0, .bool false, .str 0 0, .str 0 0, v30, .slN, .slN, .slN], rfl, rfl, (by have _ := hl.len; have _ := hl.lt; have _ := Par.qname_len m28; have _ := hl28.len; have _ := Par.must_len m29; have _ := hl29.len; have _ := expr_len m30; have _ := hl30.len; have _ := Par.must_len m31; have _ := hl31.len; have _ := hl.len; have _ := hl.lt; omega), ((((st.pick 3 rfl).tail.pick 3 rfl).tail.pick 2 rfl)).imp0 (Q := fun h => SmR h (Sm.mk 2 (Par.here l) a28.1 a28.2 ([]) false ([]) ([]) a30 [] [] []) [.int .i64 2, .int .i64 (Par.here l : Int), L.str a28.1, L.str a28.2, .str 0 0, .bool false, .str 0 0, .str 0 0, v30, .slN, .slN, .slN]) (fun h hx => by simp only [SmR]; exact ⟨_, _, _, _, rfl, hx, ⟨[], Rows.nil, trivial⟩, ⟨[], Rows.nil, SmRows.nil⟩, ⟨[], Rows.nil, SmRows.nil⟩⟩)⟩⟩
theorem stmt_all (D : HasF c) {p : RP} : ∀ f, StmOk c p (Par.stmt f) f
 | 0 => fun st hl hd hN => absurd (List.length_eq_zero_iff.1 (Nat.le_zero.1 hN)) hl.ne
 | f + 1 => fun st hl hd hN => stmt_c D (fun st hl hd hN => block_c D (stmt_all D f) st hl hd (Nat.le_succ_of_le hN)) st hl hd hN
theorem blk_c (D : HasF c) {p : RP} {fs : List Fact} {h : Heap} {i d : Nat} {l : List Tok} (st : St (p.box i d :: p.toks :: fs) h) (hl : Left p i l) (hd : d ≤ 40) :
  RunR c 53 [.ptr p.rb 0] h (Outc p 83 (Par.block d l) (fun a i1 v h1 => i < i1 ∧ v.asCells = some [v] ∧ St (.stb (fun h => SmsR h v a) :: p.box i1 d :: p.toks :: fs) h1) (St fs)) := block_c D (stmt_all D l.length) st hl hd (Nat.le_succ _)
end
end Go.Eng.YtjobofnpmmjeoaaDoor
