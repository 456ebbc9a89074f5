/- Part of a proof of a law, by an evaluator that the machine follows: rules, contracts of functions, what they come to. No condition of its own. -/
import Derived.Test.YtjobofnpmmjeoaaDoorConC
import Derived.Test.YtjobofnpmmjeoaaDoorSpec
set_option linter.unusedVariables false
set_option linter.unusedSimpArgs false
namespace Go.Eng.YtjobofnpmmjeoaaDoor
open Go.Eng
noncomputable section
variable {c : Ctx}
structure HasD (c : Ctx) : Prop where
 is_ : ∃ more, c = Ctx.of funs dfuns more
 idx : ∀ {fs : List Fact} {h : Heap} {l : List UInt8} {b : UInt8}, St fs h → RunP c 56 [L.str l, .int .u8 (b.toNat : Int)] h fun v h1 => v = .int .i64 (Lib.indexByte l b) ∧ St fs h1
theorem readL_c (D : HasF c) (DD : HasD c) {fs : List Fact} {h : Heap} {p : RP} (st : St (p.toks :: fs) h) (hl : Left p 0 p.ts) :
  RunP c 20 [.sl p.tb p.to p.ts.length p.cap, .fn 21 [] []] h fun v h1 => match Par.labels p.ts with
   | .ok (m, _) => ∃ x, v = .tup [x, .int .i64 0, .int .i64 0] ∧ x.asCells = some [x] ∧ St (.stb (fun h => Rows 3 h x (m.map Pm.row)) :: fs) h1
   | .error (e, a) => v = .tup [.slN, .int .i64 (e : Int), .int .i64 (a : Int)] ∧ St fs h1 := by
 obtain ⟨more, hmore⟩ := DD.is_
 refine RunP.funD hmore (f := 20) (F := d20) rfl rfl rfl rfl rfl (WP.reg (WO.boxFS st L.alloc (fun xb h st => ?_)))
 refine WO.boxFS st L.alloc (fun eb h st => ?_)
 refine WO.boxFS st L.alloc (fun ab h st => ?_)
 refine WO.nil ?_
 show WO _ _ _ _ _ _
 refine WO.val (v := .agg [.sl p.tb p.to p.ts.length p.cap, .int .i64 0, .int .i64 0]) (L.build rfl) (WO.boxF st (L.box (l := [.sl p.tb p.to p.ts.length p.cap, .int .i64 0, .int .i64 0]) rfl rfl) (fun rb h st => ?_))
 replace st : St (({ p with rb := rb } : RP).box 0 0 :: ({ p with rb := rb } : RP).toks :: .box ab [.int .i64 0] :: .box eb [.int .i64 0] :: .box xb [.slN] :: fs) h := ((st.pick 4 rfl).pick 1 rfl)
 cases hsp : Par.labels p.ts with
 | error x =>
  obtain ⟨e, a⟩ := x
  refine WO.callvO rfl rfl (labels_c D st (hl.rb_ rb)) (fun e1 a1 h hm st => ?_) (fun x l v h i hm => by rw [hsp] at hm; cases hm)
  rw [hsp] at hm; cases hm
  refine QD.pan_ [.ptr xb 0, .ptr eb 0, .ptr ab 0] rfl rfl rfl (WP.block (WP.seq (WP.reg (WO.valS (v := .bool false) rfl (WO.nil (WP.cond (t := false) rfl (WP.seq (WP.reg (WO.val (v := .tup [.agg [.int .i64 (e : Int), .int .i64 (a : Int)], .bool true]) rfl (WO.valS (v := .bool true) rfl (WO.valS (v := .agg [.int .i64 (e : Int), .int .i64 (a : Int)]) rfl (WO.nil (WP.cond (t := true) rfl (WP.seq (WP.reg (WO.boxFS st L.alloc (fun b1 h st => ?_)))))))))))))))))
  refine WO.storeF (row' := [.int .i64 (e : Int), .int .i64 (a : Int)]) st 0 rfl rfl rfl rfl rfl rfl rfl (fun h st => ?_)
  refine WO.nil (WP.seq (WP.reg (WO.valS (v := .slN) rfl (WO.nil (WP.draw (WD.val (v := .slN) rfl (WD.val (v := .ptr b1 0) (L.faddr rfl) (WD.val (v := .int .i64 (e : Int)) (L.loadB rfl (st.box_at 0 rfl) rfl) (WD.val (v := .ptr b1 1) (L.faddr rfl) (WD.val (v := .int .i64 (a : Int)) (L.loadB rfl (st.box_at 0 rfl) rfl) (WD.storeF (row' := [.slN]) st 3 rfl rfl rfl rfl rfl rfl rfl (fun h st => stills_cons (by first | exact still_rd (L.loadB rfl (st.box_at 0 rfl) rfl) | exact still_box st 0 rfl | exact still_rd (L.loadnB rfl (st.box_at 0 rfl) rfl rfl rfl) | exact still_rd (L.loadB rfl (st.box_at 1 rfl) rfl) | exact still_box st 1 rfl | exact still_rd (L.loadnB rfl (st.box_at 1 rfl) rfl rfl rfl) | exact still_rd (L.loadB rfl (st.box_at 2 rfl) rfl) | exact still_box st 2 rfl | exact still_rd (L.loadnB rfl (st.box_at 2 rfl) rfl rfl rfl) | exact still_rd (L.loadB rfl (st.box_at 3 rfl) rfl) | exact still_box st 3 rfl | exact still_rd (L.loadnB rfl (st.box_at 3 rfl) rfl rfl rfl)) (stills_cons (by first | exact still_rd (L.loadB rfl (st.box_at 0 rfl) rfl) | exact still_box st 0 rfl | exact still_rd (L.loadnB rfl (st.box_at 0 rfl) rfl rfl rfl) | exact still_rd (L.loadB rfl (st.box_at 1 rfl) rfl) | exact still_box st 1 rfl | exact still_rd (L.loadnB rfl (st.box_at 1 rfl) rfl rfl rfl) | exact still_rd (L.loadB rfl (st.box_at 2 rfl) rfl) | exact still_box st 2 rfl | exact still_rd (L.loadnB rfl (st.box_at 2 rfl) rfl rfl rfl) | exact still_rd (L.loadB rfl (st.box_at 3 rfl) rfl) | exact still_box st 3 rfl | exact still_rd (L.loadnB rfl (st.box_at 3 rfl) rfl rfl rfl)) (stills_nil _ _))) (fun h st => ?_))))))))))))
  refine WD.storeF (row' := [.int .i64 (e : Int)]) st 2 rfl rfl rfl rfl rfl rfl rfl (fun h st => stills_cons (by first | exact still_rd (L.loadB rfl (st.box_at 0 rfl) rfl) | exact still_box st 0 rfl | exact still_rd (L.loadnB rfl (st.box_at 0 rfl) rfl rfl rfl) | exact still_rd (L.loadB rfl (st.box_at 1 rfl) rfl) | exact still_box st 1 rfl | exact still_rd (L.loadnB rfl (st.box_at 1 rfl) rfl rfl rfl) | exact still_rd (L.loadB rfl (st.box_at 2 rfl) rfl) | exact still_box st 2 rfl | exact still_rd (L.loadnB rfl (st.box_at 2 rfl) rfl rfl rfl) | exact still_rd (L.loadB rfl (st.box_at 3 rfl) rfl) | exact still_box st 3 rfl | exact still_rd (L.loadnB rfl (st.box_at 3 rfl) rfl rfl rfl)) (stills_nil _ _)) (fun h st => ?_)
  refine WD.storeF (row' := [.int .i64 (a : Int)]) st 1 rfl rfl rfl rfl rfl rfl rfl (fun h st => rfl) (fun h st => ?_)
  refine WD.nil ?_
  exact ⟨.inl rfl, _, (res_cons (res_cell1 (v := .slN) rfl (L.load1_box (st.box_at 3 rfl) rfl)) (res_cons (res_cell1 (v := .int .i64 (e : Int)) rfl (L.load1_box (st.box_at 2 rfl) rfl)) (res_cons (res_cell1 (v := .int .i64 (a : Int)) rfl (L.load1_box (st.box_at 1 rfl) rfl)) (res_nil _ _)))), rfl, st.tail.tail.tail.tail⟩
 | ok x =>
  obtain ⟨m, lx⟩ := x
  refine WO.callvO rfl rfl (labels_c D st (hl.rb_ rb)) (fun e1 a1 h hm => by rw [hsp] at hm; cases hm) (fun x l v h i hm => ?_)
  rw [hsp] at hm; cases hm
  rintro hlx ⟨hcv, st⟩
  refine WO.storeF (row' := [v]) st 5 rfl rfl hcv rfl rfl rfl rfl (fun h st => ?_)
  refine WO.storeF (row' := [.int .i64 0]) st 4 rfl rfl rfl rfl rfl rfl rfl (fun h st => ?_)
  refine WO.storeF (row' := [.int .i64 0]) st 3 rfl rfl rfl rfl rfl rfl rfl (fun h st => ?_)
  refine WO.nil (QD.nrm_ [.ptr xb 0, .ptr eb 0, .ptr ab 0] rfl rfl (WP.block (WP.seq (WP.reg (WO.valS (v := .bool true) rfl (WO.nil (WP.cond (t := true) rfl (WP.reg (WO.nil ?_)))))))))
  exact ⟨.inl rfl, _, (res_cons (res_cell1 (v := v) rfl (L.load1_box (st.box_at 5 rfl) rfl)) (res_cons (res_cell1 (v := .int .i64 0) rfl (L.load1_box (st.box_at 4 rfl) rfl)) (res_cons (res_cell1 (v := .int .i64 0) rfl (L.load1_box (st.box_at 3 rfl) rfl)) (res_nil _ _)))), v, rfl, hcv, (((((st.pick 1 rfl).tail.pick 1 rfl).tail.pick 1 rfl).tail.pick 1 rfl).tail.pick 1 rfl).tail⟩
theorem readM_c (D : HasF c) (DD : HasD c) {fs : List Fact} {h : Heap} {p : RP} (st : St (p.toks :: fs) h) (hl : Left p 0 p.ts) :
  RunP c 22 [.sl p.tb p.to p.ts.length p.cap, .fn 23 [] []] h fun v h1 => match Par.modul 0 p.ts with
   | .ok (m, _) => ∃ row, v = .tup [.agg row, .int .i64 0, .int .i64 0] ∧ row.length = 5 ∧ St (.stb (fun h => MdR h m row) :: fs) h1
   | .error (e, a) => v = .tup [.agg [.str 0 0, .int .i64 0, .slN, .slN, .slN], .int .i64 (e : Int), .int .i64 (a : Int)] ∧ St fs h1 := by
 obtain ⟨more, hmore⟩ := DD.is_
 refine RunP.funD hmore (f := 22) (F := d22) rfl rfl rfl rfl rfl (WP.reg (WO.boxFS st L.alloc (fun xb h st => ?_)))
 refine WO.boxFS st L.alloc (fun eb h st => ?_)
 refine WO.boxFS st L.alloc (fun ab h st => ?_)
 refine WO.nil ?_
 show WO _ _ _ _ _ _
 refine WO.val (v := .agg [.sl p.tb p.to p.ts.length p.cap, .int .i64 0, .int .i64 0]) (L.build rfl) (WO.boxF st (L.box (l := [.sl p.tb p.to p.ts.length p.cap, .int .i64 0, .int .i64 0]) rfl rfl) (fun rb h st => ?_))
 replace st : St (({ p with rb := rb } : RP).box 0 0 :: ({ p with rb := rb } : RP).toks :: .box ab [.int .i64 0] :: .box eb [.int .i64 0] :: .box xb [.str 0 0, .int .i64 0, .slN, .slN, .slN] :: fs) h := ((st.pick 4 rfl).pick 1 rfl)
 cases hsp : Par.modul 0 p.ts with
 | error x =>
  obtain ⟨e, a⟩ := x
  refine WO.callvO rfl rfl (module_c D st (hl.rb_ rb) (Nat.zero_le _)) (fun e1 a1 h hm st => ?_) (fun x l v h i hm => by rw [hsp] at hm; cases hm)
  rw [hsp] at hm; cases hm
  refine QD.pan_ [.ptr xb 0, .ptr eb 0, .ptr ab 0] rfl rfl rfl (WP.block (WP.seq (WP.reg (WO.valS (v := .bool false) rfl (WO.nil (WP.cond (t := false) rfl (WP.seq (WP.reg (WO.val (v := .tup [.agg [.int .i64 (e : Int), .int .i64 (a : Int)], .bool true]) rfl (WO.valS (v := .bool true) rfl (WO.valS (v := .agg [.int .i64 (e : Int), .int .i64 (a : Int)]) rfl (WO.nil (WP.cond (t := true) rfl (WP.seq (WP.reg (WO.boxFS st L.alloc (fun b1 h st => ?_)))))))))))))))))
  refine WO.storeF (row' := [.int .i64 (e : Int), .int .i64 (a : Int)]) st 0 rfl rfl rfl rfl rfl rfl rfl (fun h st => ?_)
  refine WO.nil (WP.seq (WP.reg (WO.boxFS st L.alloc (fun b2 h st => ?_))))
  refine WO.nil (WP.draw (WD.val (v := .agg [.str 0 0, .int .i64 0, .slN, .slN, .slN]) (L.loadnB rfl (st.box_at 0 rfl) rfl rfl rfl) (WD.val (v := .ptr b1 0) (L.faddr rfl) (WD.val (v := .int .i64 (e : Int)) (L.loadB rfl (st.box_at 1 rfl) rfl) (WD.val (v := .ptr b1 1) (L.faddr rfl) (WD.val (v := .int .i64 (a : Int)) (L.loadB rfl (st.box_at 1 rfl) rfl) (WD.storeF (row' := [.str 0 0, .int .i64 0, .slN, .slN, .slN]) st 4 rfl rfl rfl rfl rfl rfl rfl (fun h st => stills_cons (by first | exact still_rd (L.loadB rfl (st.box_at 0 rfl) rfl) | exact still_box st 0 rfl | exact still_rd (L.loadnB rfl (st.box_at 0 rfl) rfl rfl rfl) | exact still_rd (L.loadB rfl (st.box_at 1 rfl) rfl) | exact still_box st 1 rfl | exact still_rd (L.loadnB rfl (st.box_at 1 rfl) rfl rfl rfl) | exact still_rd (L.loadB rfl (st.box_at 2 rfl) rfl) | exact still_box st 2 rfl | exact still_rd (L.loadnB rfl (st.box_at 2 rfl) rfl rfl rfl) | exact still_rd (L.loadB rfl (st.box_at 3 rfl) rfl) | exact still_box st 3 rfl | exact still_rd (L.loadnB rfl (st.box_at 3 rfl) rfl rfl rfl) | exact still_rd (L.loadB rfl (st.box_at 4 rfl) rfl) | exact still_box st 4 rfl | exact still_rd (L.loadnB rfl (st.box_at 4 rfl) rfl rfl rfl)) (stills_cons (by first | exact still_rd (L.loadB rfl (st.box_at 0 rfl) rfl) | exact still_box st 0 rfl | exact still_rd (L.loadnB rfl (st.box_at 0 rfl) rfl rfl rfl) | exact still_rd (L.loadB rfl (st.box_at 1 rfl) rfl) | exact still_box st 1 rfl | exact still_rd (L.loadnB rfl (st.box_at 1 rfl) rfl rfl rfl) | exact still_rd (L.loadB rfl (st.box_at 2 rfl) rfl) | exact still_box st 2 rfl | exact still_rd (L.loadnB rfl (st.box_at 2 rfl) rfl rfl rfl) | exact still_rd (L.loadB rfl (st.box_at 3 rfl) rfl) | exact still_box st 3 rfl | exact still_rd (L.loadnB rfl (st.box_at 3 rfl) rfl rfl rfl) | exact still_rd (L.loadB rfl (st.box_at 4 rfl) rfl) | exact still_box st 4 rfl | exact still_rd (L.loadnB rfl (st.box_at 4 rfl) rfl rfl rfl)) (stills_nil _ _))) (fun h st => ?_))))))))
  refine WD.storeF (row' := [.int .i64 (e : Int)]) st 3 rfl rfl rfl rfl rfl rfl rfl (fun h st => stills_cons (by first | exact still_rd (L.loadB rfl (st.box_at 0 rfl) rfl) | exact still_box st 0 rfl | exact still_rd (L.loadnB rfl (st.box_at 0 rfl) rfl rfl rfl) | exact still_rd (L.loadB rfl (st.box_at 1 rfl) rfl) | exact still_box st 1 rfl | exact still_rd (L.loadnB rfl (st.box_at 1 rfl) rfl rfl rfl) | exact still_rd (L.loadB rfl (st.box_at 2 rfl) rfl) | exact still_box st 2 rfl | exact still_rd (L.loadnB rfl (st.box_at 2 rfl) rfl rfl rfl) | exact still_rd (L.loadB rfl (st.box_at 3 rfl) rfl) | exact still_box st 3 rfl | exact still_rd (L.loadnB rfl (st.box_at 3 rfl) rfl rfl rfl) | exact still_rd (L.loadB rfl (st.box_at 4 rfl) rfl) | exact still_box st 4 rfl | exact still_rd (L.loadnB rfl (st.box_at 4 rfl) rfl rfl rfl)) (stills_nil _ _)) (fun h st => ?_)
  refine WD.storeF (row' := [.int .i64 (a : Int)]) st 2 rfl rfl rfl rfl rfl rfl rfl (fun h st => rfl) (fun h st => ?_)
  refine WD.nil ?_
  exact ⟨.inl rfl, _, (res_cons (res_cellA (l := [.str 0 0, .int .i64 0, .slN, .slN, .slN]) rfl (L.load_box (st.box_at 4 rfl) rfl rfl rfl)) (res_cons (res_cell1 (v := .int .i64 (e : Int)) rfl (L.load1_box (st.box_at 3 rfl) rfl)) (res_cons (res_cell1 (v := .int .i64 (a : Int)) rfl (L.load1_box (st.box_at 2 rfl) rfl)) (res_nil _ _)))), rfl, st.tail.tail.tail.tail.tail⟩
 | ok x =>
  obtain ⟨m, lx⟩ := x
  refine WO.callvO rfl rfl (module_c D st (hl.rb_ rb) (Nat.zero_le _)) (fun e1 a1 h hm => by rw [hsp] at hm; cases hm) (fun x l v h i hm => ?_)
  rw [hsp] at hm; cases hm
  rintro hlx ⟨rowm, rfl, hrow, st⟩
  refine WO.storeF (row' := rowm) st 5 rfl rfl rfl (by rw [lenV_eq]; exact hrow) rfl rfl (overV_all hrow) (fun h st => ?_)
  refine WO.storeF (row' := [.int .i64 0]) st 4 rfl rfl rfl rfl rfl rfl rfl (fun h st => ?_)
  refine WO.storeF (row' := [.int .i64 0]) st 3 rfl rfl rfl rfl rfl rfl rfl (fun h st => ?_)
  refine WO.nil (QD.nrm_ [.ptr xb 0, .ptr eb 0, .ptr ab 0] rfl rfl (WP.block (WP.seq (WP.reg (WO.valS (v := .bool true) rfl (WO.nil (WP.cond (t := true) rfl (WP.reg (WO.nil ?_)))))))))
  exact ⟨.inl rfl, _, (res_cons (res_cellA (l := rowm) rfl (L.load_box (st.box_at 5 rfl) rfl (by rw [lenV_eq, hrow]; rfl) (takeV_all hrow))) (res_cons (res_cell1 (v := .int .i64 0) rfl (L.load1_box (st.box_at 4 rfl) rfl)) (res_cons (res_cell1 (v := .int .i64 0) rfl (L.load1_box (st.box_at 3 rfl) rfl)) (res_nil _ _)))), rowm, rfl, hrow, (((((st.pick 1 rfl).tail.pick 1 rfl).tail.pick 1 rfl).tail.pick 1 rfl).tail.pick 1 rfl).tail⟩
end
end Go.Eng.YtjobofnpmmjeoaaDoor
namespace Go.Eng.YtjobofnpmmjeoaaDoor
open Go.Eng
noncomputable section
variable {c : Ctx}
theorem small_c (D : HasF c) {fs : List Fact} {h : Heap} {b : UInt8} (st : St fs h) :
  RunP c 26 [.int .u8 (b.toNat : Int)] h fun v h1 => v = .bool (Lex.small b) ∧ St fs h1 := by
 refine RunP.fun_ D.f26 rfl (WP.seq (WP.reg (WO.valS (v := .bool false) rfl (WO.nil (WP.seq (WP.reg (WO.ifV (L.geq rfl rfl) (fun c1 => ?_) (fun c1 => ?_))))))))
 ·replace c1 : b.toNat ≥ 97 := by omega
  refine WO.yes rfl (WO.val (v := .int .u8 (b.toNat : Int)) rfl (WO.yes rfl (WO.ifV (L.leq rfl rfl) (fun c2 => ?_) (fun c2 => ?_))))
  ·replace c2 : b.toNat ≤ 122 := by omega
   refine WO.valS (v := .bool true) rfl (WO.nil (WP.ret ?_))
   exact ⟨_, (res_cons (res_tmp (v := .bool true) rfl) (res_nil _ _)), (by simp [Lex.small, one, *] <;> omega), st⟩
  ·replace c2 : ¬ (b.toNat ≤ 122) := by omega
   refine WO.valS (v := .bool false) rfl (WO.nil (WP.ret ?_))
   exact ⟨_, (res_cons (res_tmp (v := .bool false) rfl) (res_nil _ _)), (by simp [Lex.small, one, *] <;> omega), st⟩
 ·replace c1 : ¬ (b.toNat ≥ 97) := by omega
  refine WO.no rfl (WO.no rfl (WO.valS (v := .bool false) rfl (WO.nil (WP.ret ?_))))
  exact ⟨_, (res_cons (res_tmp (v := .bool false) rfl) (res_nil _ _)), (by simp [Lex.small, one, *] <;> omega), st⟩
theorem digit_c (D : HasF c) {fs : List Fact} {h : Heap} {b : UInt8} (st : St fs h) :
  RunP c 29 [.int .u8 (b.toNat : Int)] h fun v h1 => v = .bool (Lex.digit b) ∧ St fs h1 := by
 refine RunP.fun_ D.f29 rfl (WP.seq (WP.reg (WO.valS (v := .bool false) rfl (WO.nil (WP.seq (WP.reg (WO.ifV (L.geq rfl rfl) (fun c1 => ?_) (fun c1 => ?_))))))))
 ·replace c1 : b.toNat ≥ 48 := by omega
  refine WO.yes rfl (WO.val (v := .int .u8 (b.toNat : Int)) rfl (WO.yes rfl (WO.ifV (L.leq rfl rfl) (fun c2 => ?_) (fun c2 => ?_))))
  ·replace c2 : b.toNat ≤ 57 := by omega
   refine WO.valS (v := .bool true) rfl (WO.nil (WP.ret ?_))
   exact ⟨_, (res_cons (res_tmp (v := .bool true) rfl) (res_nil _ _)), (by simp [Lex.digit, one, *] <;> omega), st⟩
  ·replace c2 : ¬ (b.toNat ≤ 57) := by omega
   refine WO.valS (v := .bool false) rfl (WO.nil (WP.ret ?_))
   exact ⟨_, (res_cons (res_tmp (v := .bool false) rfl) (res_nil _ _)), (by simp [Lex.digit, one, *] <;> omega), st⟩
 ·replace c1 : ¬ (b.toNat ≥ 48) := by omega
  refine WO.no rfl (WO.no rfl (WO.valS (v := .bool false) rfl (WO.nil (WP.ret ?_))))
  exact ⟨_, (res_cons (res_tmp (v := .bool false) rfl) (res_nil _ _)), (by simp [Lex.digit, one, *] <;> omega), st⟩
theorem within_c (D : HasF c) {fs : List Fact} {h : Heap} {b : UInt8} (st : St fs h) :
  RunP c 27 [.int .u8 (b.toNat : Int)] h fun v h1 => v = .bool (Lex.within b) ∧ St fs h1 := by
 refine RunP.fun_ D.f27 rfl (WP.seq (WP.reg (WO.valS (v := .bool false) rfl (WO.nil (WP.seq (WP.reg (WO.callF rfl (small_c D st ) ?_)))))))
 rintro _ h ⟨rfl, st⟩
 cases hb1 : Lex.small b
 ·refine WO.yes rfl (WO.val (v := .int .u8 (b.toNat : Int)) rfl (WO.yes rfl (WO.callF rfl (digit_c D st ) ?_)))
  rintro _ h ⟨rfl, st⟩
  cases hb2 : Lex.digit b
  ·refine WO.val (v := .bool false) rfl (WO.yes rfl (WO.val (v := .int .u8 (b.toNat : Int)) rfl (WO.yes rfl (WO.ifV (L.eql rfl rfl) (fun c1 => ?_) (fun c1 => ?_)))))
   ·replace c1 : b.toNat = 95 := by omega
    refine WO.valS (v := .bool true) rfl (WO.nil (WP.ret ?_))
    exact ⟨_, (res_cons (res_tmp (v := .bool true) rfl) (res_nil _ _)), (by simp [Lex.within, one, *]), st⟩
   ·replace c1 : ¬ (b.toNat = 95) := by omega
    refine WO.valS (v := .bool false) rfl (WO.nil (WP.ret ?_))
    exact ⟨_, (res_cons (res_tmp (v := .bool false) rfl) (res_nil _ _)), (by simp [Lex.within, one, *]), st⟩
  ·refine WO.val (v := .bool true) rfl (WO.no rfl (WO.no rfl (WO.valS (v := .bool true) rfl (WO.nil (WP.ret ?_)))))
   exact ⟨_, (res_cons (res_tmp (v := .bool true) rfl) (res_nil _ _)), (by simp [Lex.within, one, *]), st⟩
 ·refine WO.no rfl (WO.no rfl (WO.val (v := .bool true) rfl (WO.no rfl (WO.no rfl (WO.valS (v := .bool true) rfl (WO.nil (WP.ret ?_)))))))
  exact ⟨_, (res_cons (res_tmp (v := .bool true) rfl) (res_nil _ _)), (by simp [Lex.within, one, *]), st⟩
theorem notnl_c (D : HasF c) {fs : List Fact} {h : Heap} {b : UInt8} (st : St fs h) :
  RunP c 25 [.int .u8 (b.toNat : Int)] h fun v h1 => v = .bool (Lex.notNl b) ∧ St fs h1 := by
 refine RunP.fun_ D.f25 rfl (WP.seq (WP.reg (WO.valS (v := .bool false) rfl (WO.nil (WP.seq (WP.reg (WO.ifS (L.neq rfl rfl) (fun c1 => ?_) (fun c1 => ?_))))))))
 ·replace c1 : b.toNat ≠ 10 := by omega
  refine WO.nil (WP.ret ?_)
  exact ⟨_, (res_cons (res_tmp (v := .bool true) rfl) (res_nil _ _)), (by simp [Lex.notNl, one, *]), st⟩
 ·replace c1 : ¬ (b.toNat ≠ 10) := by omega
  refine WO.nil (WP.ret ?_)
  exact ⟨_, (res_cons (res_tmp (v := .bool false) rfl) (res_nil _ _)), (by simp [Lex.notNl, one, *]), st⟩
theorem run_c (D : HasF c) {isf : UInt8 → Bool} {g : Nat} (hone : ∀ {fs : List Fact} {h : Heap} {b : UInt8}, St fs h → RunP c g [.int .u8 (b.toNat : Int)] h fun v h1 => v = .bool (isf b) ∧ St fs h1) {fs : List Fact} {h : Heap} {ab sb pos : Nat} {s : List UInt8} (st : St (.box ab [.int .i64 (pos : Int)] :: .box sb [L.str s] :: fs) h) (hp : pos ≤ s.length) (hs : s.length < 4294967296) :
  RunP c 24 [.fn g [] [], .ptr ab 0, .ptr sb 0] h fun v h1 => v = L.str ((s.drop pos).takeWhile isf) ∧ St (.box ab [.int .i64 ((pos + ((s.drop pos).takeWhile isf).length : Nat) : Int)] :: .box sb [L.str s] :: fs) h1 := by
 refine RunP.fun_ D.f24 rfl (WP.seq (WP.reg (WO.valS (v := .str 0 0) rfl (WO.nil (WP.seq (WP.reg (WO.valS (v := .int .i64 (pos : Int)) (L.loadB rfl (st.box_at 0 rfl) rfl) (WO.nil (WP.seq (WP.block (WP.loopG (α := Nat) (fun k env h => ∃ x4, (pos + k ≤ s.length ∧ (s.drop pos).takeWhile isf = (s.drop pos).take k ++ (s.drop (pos + k)).takeWhile isf) ∧ env = argsP [.fn g [] [], .ptr ab 0, .ptr sb 0, .str 0 0, x4, .int .i64 (pos : Int)] 0 Env.nil ∧ St (.box ab [.int .i64 ((pos + k : Nat) : Int)] :: .box sb [L.str s] :: fs) h) (fun k => s.length - (pos + k)) 0 ?_ ?_)))))))))))
 ·exact ⟨.bot, ⟨hp, by simp⟩, by kernel_rfl, st⟩
 rintro k _ h ⟨x4, ⟨hk1, hk2⟩, rfl, st⟩
 refine WP.seq (WP.seq (WP.reg (WO.val (v := .int .i64 ((pos + k : Nat) : Int)) (L.loadB rfl (st.box_at 0 rfl) rfl) (WO.val (v := L.str s) (L.loadB rfl (st.box_at 1 rfl) rfl) (WO.val (v := .int .i64 (s.length : Int)) (L.slen rfl) (WO.ifV (L.lss rfl rfl) (fun c1 => ?_) (fun c1 => ?_)))))))
 ·replace c1 : (pos + k) < s.length := by omega
  refine WO.yes rfl (WO.val (v := .fn g [] []) rfl (WO.yes rfl (WO.val (v := L.str s) (L.loadB rfl (st.box_at 1 rfl) rfl) (WO.yes rfl (WO.val (v := .int .i64 ((pos + k : Nat) : Int)) (L.loadB rfl (st.box_at 0 rfl) rfl) (WO.yes rfl ?_))))))
  obtain ⟨b, hb⟩ : ∃ b, s[pos + k]? = some b := ⟨_, List.getElem?_eq_getElem c1⟩
  refine WO.val (v := .int .u8 (b.toNat : Int)) (L.sidx rfl rfl hb) (WO.yes rfl (WO.callvF rfl rfl (hone st ) ?_))
  rintro _ h ⟨rfl, st⟩
  cases hb1 : isf b
  ·refine WO.valS (v := .bool false) rfl (WO.nil (WP.cond (t := false) rfl (WP.exit (WP.seq (WP.reg (WO.val (v := L.str s) (L.loadB rfl (st.box_at 1 rfl) rfl) (WO.val (v := .int .i64 ((pos + k : Nat) : Int)) (L.loadB rfl (st.box_at 0 rfl) rfl) (WO.valS (v := L.str ((s.drop pos).take (pos + k - pos))) (L.ssub rfl rfl rfl (by omega) (by omega)) (WO.nil (WP.ret ?_))))))))))
   have hz : (s.drop (pos + k)).takeWhile isf = [] := takeWhile_stop hb hb1
   have htw : (s.drop pos).takeWhile isf = (s.drop pos).take k := by rw [hk2, hz, List.append_nil]
   have hkl : ((s.drop pos).takeWhile isf).length = k := by rw [htw]; simp; omega
   rw [hkl, htw]
   exact ⟨_, (res_cons (res_tmp (v := L.str ((s.drop pos).take (pos + k - pos))) rfl) (res_nil _ _)), (by rw [show pos + k - pos = k by omega]; rfl), st⟩
  ·refine WO.valS (v := .bool true) rfl (WO.nil (WP.cond (t := true) rfl (WP.skip (WP.block (WP.reg (WO.val (v := .int .i64 ((pos + k : Nat) : Int)) (L.loadB rfl (st.box_at 0 rfl) rfl) (WO.val (v := .int .i64 ((pos + (k + 1) : Nat) : Int)) (L.addE rfl rfl (by omega) (And.intro (by omega) (by omega))) (WO.storeF (row' := [.int .i64 ((pos + (k + 1) : Nat) : Int)]) st 0 rfl rfl rfl rfl rfl rfl rfl (fun h st => ?_)))))))))
   refine WO.nil ?_
   have hnx : (s.drop pos).takeWhile isf = (s.drop pos).take (k + 1) ++ (s.drop (pos + (k + 1))).takeWhile isf := by
    rw [hk2, takeWhile_drop hb hb1, List.take_add_one, List.getElem?_drop, hb]; simp [Nat.add_assoc]
   exact ⟨k + 1, (by omega), (.bool true), ⟨by omega, hnx⟩, by kernel_rfl, st⟩
 ·replace c1 : ¬ ((pos + k) < s.length) := by omega
  refine WO.no rfl (WO.no rfl (WO.no rfl (WO.no rfl (WO.no rfl (WO.valS (v := .bool false) rfl (WO.nil (WP.cond (t := false) rfl (WP.exit (WP.seq (WP.reg (WO.val (v := L.str s) (L.loadB rfl (st.box_at 1 rfl) rfl) (WO.val (v := .int .i64 ((pos + k : Nat) : Int)) (L.loadB rfl (st.box_at 0 rfl) rfl) (WO.valS (v := L.str ((s.drop pos).take (pos + k - pos))) (L.ssub rfl rfl rfl (by omega) (by omega)) (WO.nil (WP.ret ?_)))))))))))))))
  have hz : (s.drop (pos + k)).takeWhile isf = [] := (by rw [List.drop_of_length_le (by omega)]; rfl)
  have htw : (s.drop pos).takeWhile isf = (s.drop pos).take k := by rw [hk2, hz, List.append_nil]
  have hkl : ((s.drop pos).takeWhile isf).length = k := by rw [htw]; simp; omega
  rw [hkl, htw]
  exact ⟨_, (res_cons (res_tmp (v := L.str ((s.drop pos).take (pos + k - pos))) rfl) (res_nil _ _)), (by rw [show pos + k - pos = k by omega]; rfl), st⟩
theorem index_c (D : HasF c) {fs : List Fact} {h : Heap} {b o : Nat} {cap : Option Nat} {ss : List (List UInt8)} {x : List UInt8} (st : St (.stb (fun h => Rows 1 h (.sl b o ss.length cap) (ss.map useRow)) :: fs) h) (hsm : ss.length < 4294967296) :
  RunP c 61 [.sl b o ss.length cap, L.str x] h fun v h1 => ((∃ k : Nat, v = .int .i64 (k : Int) ∧ ss[k]? = some x ∧ ∀ j y, ss[j]? = some y → j < k → y ≠ x) ∨ (v = .int .i64 (-1) ∧ ∀ y ∈ ss, y ≠ x)) ∧ St fs h1 := by
 refine RunP.fun_ D.f61 rfl (WP.seq (WP.reg (WO.valS (v := .int .i64 0) rfl (WO.nil (WP.seq (WP.seq (WP.reg (WO.valS (v := .int .i64 (ss.length : Int)) (L.llen rfl) (WO.valS (v := .int .i64 0) rfl (WO.nil (WP.block (WP.loopG (α := Nat) (fun k env h => ∃ x2 x5 x6 x7, (k ≤ ss.length ∧ ∀ j y, ss[j]? = some y → j < k → y ≠ x) ∧ env = argsP [.sl b o ss.length cap, L.str x, x2, .int .i64 (k : Int), .int .i64 (ss.length : Int), x5, x6, x7] 0 Env.nil ∧ St (.stb (fun h => Rows 1 h (.sl b o ss.length cap) (ss.map useRow)) :: fs) h) (fun k => ss.length - k) 0 ?_ ?_))))))))))))
 ·exact ⟨(.int .i64 0), .bot, .bot, .bot, ⟨Nat.zero_le _, fun _ _ _ h => absurd h (Nat.not_lt_zero _)⟩, by kernel_rfl, st⟩
 rintro k _ h ⟨x2, x5, x6, x7, ⟨hk, hno⟩, rfl, st⟩
 refine WP.seq (WP.reg (WO.ifS (L.lss rfl rfl) (fun c1 => ?_) (fun c1 => ?_)))
 ·replace c1 : k < ss.length := by omega
  refine WO.nil (WP.seq (WP.cond (t := true) rfl (WP.skip (WP.seq (WP.block (WP.seq (WP.reg (WO.valS (v := .int .i64 (k : Int)) rfl (WO.nil (WP.seq (WP.reg ?_)))))))))))
  obtain ⟨y, ho⟩ : ∃ y, ss[k]? = some y := ⟨_, List.getElem?_eq_getElem c1⟩
  refine WO.val (L.iaddr rfl rfl c1) (WO.val (v := L.str y) (L.load rfl ((st.stb_at 0 rfl).load1 (by rw [List.getElem?_map, ho]; rfl))) ?_)
  refine WO.ifS (L.seq rfl rfl) (fun c2 => ?_) (fun c2 => ?_)
  ·refine WO.nil (WP.cond (t := true) rfl (WP.seq (WP.reg (WO.valS (v := .int .i64 (k : Int)) rfl (WO.nil (WP.ret ?_))))))
   exact ⟨_, (res_cons (res_tmp (v := .int .i64 (k : Int)) rfl) (res_nil _ _)), Or.inl ⟨k, rfl, by rw [ho, c2], hno⟩, st.tail⟩
  ·refine WO.nil (WP.cond (t := false) rfl (WP.skip (WP.reg (WO.valS (v := .int .i64 ((k + 1 : Nat) : Int)) (L.addE rfl rfl (by omega) (And.intro (by omega) (by omega))) (WO.nil ?_)))))
   have hno' : ∀ j y, ss[j]? = some y → j < k + 1 → y ≠ x := by
    intro j y hj hlt
    rcases Nat.lt_succ_iff_lt_or_eq.1 hlt with hlt | rfl
    ·exact hno j y hj hlt
    ·rw [ho] at hj; cases hj; exact fun e => c2 e.symm
   exact ⟨k + 1, (by omega), x2, (.bool true), (.int .i64 (k : Int)), (.bool false), ⟨by omega, hno'⟩, by kernel_rfl, st⟩
 ·replace c1 : ¬ (k < ss.length) := by omega
  refine WO.nil (WP.seq (WP.cond (t := false) rfl (WP.exit (WP.seq (WP.reg (WO.valS (v := .int .i64 (-1)) rfl (WO.nil (WP.ret (⟨_, (res_cons (res_tmp (v := .int .i64 (-1)) rfl) (res_nil _ _)), Or.inr ⟨rfl, fun y hy => ?_⟩, st.tail⟩)))))))))
  obtain ⟨j, hj⟩ := List.mem_iff_getElem?.1 hy
  exact hno j y hj (by have := (List.getElem?_eq_some_iff.1 hj).1; omega)
theorem contains_c (D : HasF c) {fs : List Fact} {h : Heap} {b o : Nat} {cap : Option Nat} {ss : List (List UInt8)} {x : List UInt8} (st : St (.stb (fun h => Rows 1 h (.sl b o ss.length cap) (ss.map useRow)) :: fs) h) (hsm : ss.length < 4294967296) :
  RunP c 54 [.sl b o ss.length cap, L.str x] h fun v h1 => v = .bool (decide (x ∈ ss)) ∧ St fs h1 := by
 refine RunP.fun_ D.f54 rfl (WP.seq (WP.reg (WO.valS (v := .bool false) rfl (WO.nil (WP.seq (WP.reg (WO.callF rfl (index_c D st hsm) ?_)))))))
 rintro _ h ⟨(⟨k, rfl, hk, hno⟩ | ⟨rfl, hno⟩), st⟩
 ·replace st : St fs h := st
  refine WO.ifS (L.geq rfl rfl) (fun c1 => ?_) (fun c1 => by exfalso; omega)
  refine WO.nil (WP.ret ?_)
  exact ⟨_, (res_cons (res_tmp (v := .bool true) rfl) (res_nil _ _)), (by simp [one]; exact List.mem_of_getElem? hk), st⟩
 ·replace st : St fs h := st
  refine WO.ifS (L.geq rfl rfl) (fun c1 => by exfalso; omega) (fun c1 => ?_)
  refine WO.nil (WP.ret ?_)
  exact ⟨_, (res_cons (res_tmp (v := .bool false) rfl) (res_nil _ _)), (by simp [one]; exact fun hm => hno x hm rfl), st⟩
theorem key_c (D : HasF c) {fs : List Fact} {h : Heap} {x : List UInt8} (st : St fs h) :
  RunP c 42 [L.str x] h fun v h1 => v = .bool (decide (x ∈ Lex.keys)) ∧ St fs h1 := by
 refine RunP.fun_ D.f42 rfl (WP.seq (WP.reg (WO.valS (v := .bool false) rfl (WO.nil (WP.seq (WP.reg (WO.bslF (rows := Lex.keys.map useRow) st rfl (by decide) rfl (by intro row hm; simp at hm; obtain ⟨a, _, rfl⟩ := hm; rfl) (fun kb h st => ?_))))))))
 refine WO.callFS rfl (contains_c (ss := Lex.keys) D st (by decide)) ?_
 rintro _ h ⟨rfl, st⟩
 refine WO.nil (WP.ret ?_)
 exact ⟨_, (res_cons (res_tmp (v := .bool (decide (x ∈ Lex.keys))) rfl) (res_nil _ _)), rfl, st⟩
theorem hasprefix2_c (D : HasF c) {fs : List Fact} {h : Heap} {l p : List UInt8} (st : St fs h) :
  RunP c 55 [L.str l, L.str p] h fun v h1 => v = .bool (Lex.isPre p l) ∧ St fs h1 := by
 refine RunP.fun_ D.f55 rfl (WP.seq (WP.reg (WO.valS (v := .bool false) rfl (WO.nil (WP.seq (WP.reg (WO.val (v := .int .i64 (l.length : Int)) (L.slen rfl) (WO.val (v := .int .i64 (p.length : Int)) (L.slen rfl) (WO.ifV (L.geq rfl rfl) (fun c1 => ?_) (fun c1 => ?_))))))))))
 ·replace c1 : l.length ≥ p.length := by omega
  refine WO.yes rfl (WO.val (v := L.str l) rfl (WO.yes rfl (WO.val (v := L.str p) rfl (WO.yes rfl (WO.val (v := .int .i64 (p.length : Int)) (L.slen rfl) (WO.yes rfl (WO.val (v := L.str ((l.drop 0).take (p.length - 0))) (L.ssub rfl rfl rfl (by omega) (by omega)) (WO.yes rfl (WO.val (v := L.str p) rfl (WO.yes rfl (WO.ifV (L.seq rfl rfl) (fun c2 => ?_) (fun c2 => ?_))))))))))))
  ·refine WO.valS (v := .bool true) rfl (WO.nil (WP.ret ?_))
   exact ⟨_, (res_cons (res_tmp (v := .bool true) rfl) (res_nil _ _)), (by simp at c2; simp [Lex.isPre, one, *]), st⟩
  ·refine WO.valS (v := .bool false) rfl (WO.nil (WP.ret ?_))
   exact ⟨_, (res_cons (res_tmp (v := .bool false) rfl) (res_nil _ _)), (by simp at c2; simp [Lex.isPre, one, *]), st⟩
 ·replace c1 : ¬ (l.length ≥ p.length) := by omega
  refine WO.no rfl (WO.no rfl (WO.no rfl (WO.no rfl (WO.no rfl (WO.no rfl (WO.valS (v := .bool false) rfl (WO.nil (WP.ret ?_))))))))
  exact ⟨_, (res_cons (res_tmp (v := .bool false) rfl) (res_nil _ _)), (by simp [Lex.isPre, one, *]), st⟩
theorem hasprefix_c (D : HasF c) {fs : List Fact} {h : Heap} {l p : List UInt8} (st : St fs h) :
  RunP c 43 [L.str l, L.str p] h fun v h1 => v = .bool (Lex.isPre p l) ∧ St fs h1 := by
 refine RunP.fun_ D.f43 rfl (WP.seq (WP.reg (WO.valS (v := .bool false) rfl (WO.nil (WP.seq (WP.reg (WO.callFS rfl (hasprefix2_c D st) ?_)))))))
 rintro _ h ⟨rfl, st⟩
 refine WO.nil (WP.ret ?_)
 exact ⟨_, (res_cons (res_tmp (v := .bool (Lex.isPre p l)) rfl) (res_nil _ _)), rfl, st⟩
theorem indexbyte_c (D : HasF c) (DD : HasD c) {fs : List Fact} {h : Heap} {l : List UInt8} {b : UInt8} (st : St fs h) :
  RunP c 44 [L.str l, .int .u8 (b.toNat : Int)] h fun v h1 => v = .int .i64 (Lib.indexByte l b) ∧ St fs h1 := by
 refine RunP.fun_ D.f44 rfl (WP.seq (WP.reg (WO.valS (v := .int .i64 0) rfl (WO.nil (WP.seq (WP.reg (WO.callFS rfl (DD.idx st) ?_)))))))
 rintro _ h ⟨rfl, st⟩
 refine WO.nil (WP.ret ?_)
 exact ⟨_, (res_cons (res_tmp (v := .int .i64 (Lib.indexByte l b)) rfl) (res_nil _ _)), rfl, st⟩
theorem word_c (D : HasF c) {fs : List Fact} {h : Heap} {w : List UInt8} (st : St fs h) :
  RunP c 28 [L.str w] h fun v h1 => v = .tup [.int .i64 ((Lex.word w).1 : Int), .int .i64 ((Lex.word w).2 : Int)] ∧ St fs h1 := by
 refine RunP.fun_ D.f28 rfl (WP.seq (WP.reg (WO.valS (v := .int .i64 0) rfl (WO.valS (v := .int .i64 0) rfl (WO.nil (WP.seq (WP.block (WP.seq (WP.reg (WO.callFS rfl (key_c D st ) ?_))))))))))
 rintro _ h ⟨rfl, st⟩
 cases hb1 : decide (w ∈ Lex.keys)
 ·refine WO.nil (WP.cond (t := false) rfl (WP.seq (WP.reg (WO.val (v := .int .i64 (w.length : Int)) (L.slen rfl) (WO.ifS (L.gtr rfl rfl) (fun c1 => ?_) (fun c1 => ?_))))))
  ·replace c1 : w.length > 20 := by omega
   refine WO.nil (WP.cond (t := true) rfl (WP.seq (WP.reg (WO.valS (v := .int .i64 0) rfl (WO.valS (v := .int .i64 9) rfl (WO.nil (WP.ret ?_)))))))
   have hk : w ∉ Lex.keys := by simpa using hb1
   exact ⟨_, (res_cons (res_tmp (v := .int .i64 0) rfl) (res_cons (res_tmp (v := .int .i64 9) rfl) (res_nil _ _))), (by simp [Lex.word, one, hk, c1]), st⟩
  ·replace c1 : ¬ (w.length > 20) := by omega
   refine WO.nil (WP.cond (t := false) rfl (WP.skip (WP.seq (WP.reg (WO.valS (v := .int .i64 1) rfl (WO.valS (v := .int .i64 0) rfl (WO.nil (WP.ret ?_))))))))
   have hk : w ∉ Lex.keys := by simpa using hb1
   exact ⟨_, (res_cons (res_tmp (v := .int .i64 1) rfl) (res_cons (res_tmp (v := .int .i64 0) rfl) (res_nil _ _))), (by simp [Lex.word, one, hk, c1]), st⟩
 ·refine WO.nil (WP.cond (t := true) rfl (WP.seq (WP.reg (WO.valS (v := .int .i64 3) rfl (WO.valS (v := .int .i64 0) rfl (WO.nil (WP.ret ?_)))))))
  have hk : w ∈ Lex.keys := by simpa using hb1
  exact ⟨_, (res_cons (res_tmp (v := .int .i64 3) rfl) (res_cons (res_tmp (v := .int .i64 0) rfl) (res_nil _ _))), (by simp [Lex.word, one, hk, hk]), st⟩
theorem lnum_c (D : HasF c) {fs : List Fact} {h : Heap} {w f : List UInt8} {b0 : UInt8} (st : St fs h) (hw0 : w.head? = some b0) :
  RunP c 30 [L.str w, L.str f] h fun v h1 => v = .tup [.int .i64 ((Lex.number w f).1 : Int), .int .i64 ((Lex.number w f).2 : Int)] ∧ St fs h1 := by
 have hb0 : w[0]? = some b0 := by rw [← hw0, List.head?_eq_getElem?]
 refine RunP.fun_ D.f30 rfl (WP.seq (WP.reg (WO.valS (v := .int .i64 0) rfl (WO.valS (v := .int .i64 0) rfl (WO.nil (WP.seq (WP.block (WP.seq (WP.reg (WO.val (v := .int .i64 (w.length : Int)) (L.slen rfl) (WO.ifS (L.gtr rfl rfl) (fun c1 => ?_) (fun c1 => ?_))))))))))))
 ·replace c1 : w.length > 9 := by omega
  refine WO.nil (WP.cond (t := true) rfl (WP.seq (WP.reg (WO.valS (v := .int .i64 0) rfl (WO.valS (v := .int .i64 9) rfl (WO.nil (WP.ret ?_)))))))
  have e48 : (b0 = 48) ↔ b0.toNat = 48 := ⟨fun h => by rw [h]; rfl, fun h => UInt8.toNat_inj.1 h⟩
  exact ⟨_, (res_cons (res_tmp (v := .int .i64 0) rfl) (res_cons (res_tmp (v := .int .i64 9) rfl) (res_nil _ _))), (by simp [Lex.number, one, hw0, e48, c1] <;> omega), st⟩
 ·replace c1 : ¬ (w.length > 9) := by omega
  refine WO.nil (WP.cond (t := false) rfl (WP.seq (WP.seq (WP.reg (WO.val (v := .int .u8 (b0.toNat : Int)) (L.sidx rfl rfl hb0) (WO.ifV (L.eql rfl rfl) (fun c2 => ?_) (fun c2 => ?_)))))))
  ·replace c2 : b0.toNat = 48 := by omega
   refine WO.yes rfl (WO.val (v := L.str w) rfl (WO.yes rfl (WO.val (v := .int .i64 (w.length : Int)) (L.slen rfl) (WO.yes rfl (WO.ifV (L.gtr rfl rfl) (fun c3 => ?_) (fun c3 => ?_))))))
   ·replace c3 : w.length > 1 := by omega
    refine WO.valS (v := .bool true) rfl (WO.nil (WP.cond (t := true) rfl (WP.skip (WP.cond (t := true) rfl (WP.seq (WP.reg (WO.valS (v := .int .i64 0) rfl (WO.valS (v := .int .i64 10) rfl (WO.nil (WP.ret ?_))))))))))
    have e48 : (b0 = 48) ↔ b0.toNat = 48 := ⟨fun h => by rw [h]; rfl, fun h => UInt8.toNat_inj.1 h⟩
    exact ⟨_, (res_cons (res_tmp (v := .int .i64 0) rfl) (res_cons (res_tmp (v := .int .i64 10) rfl) (res_nil _ _))), (by simp [Lex.number, one, hw0, e48, c1, c2, c3] <;> omega), st⟩
   ·replace c3 : ¬ (w.length > 1) := by omega
    refine WO.valS (v := .bool false) rfl (WO.nil (WP.cond (t := false) rfl (WP.reg (WO.ifV (L.sne (m := []) rfl rfl) (fun c4 => ?_) (fun c4 => ?_)))))
    ·refine WO.yes rfl (WO.val (v := L.str f) rfl (WO.yes rfl ?_))
     obtain ⟨d0, fr, hf⟩ : ∃ d0 fr, f = d0 :: fr := List.exists_cons_of_ne_nil c4
     refine WO.val (v := .int .u8 (d0.toNat : Int)) (L.sidx (b := d0) rfl rfl (by rw [hf]; rfl)) (WO.yes rfl (WO.callF rfl (within_c D st ) ?_))
     rintro _ h ⟨rfl, st⟩
     cases hb1 : Lex.within d0
     ·refine WO.valS (v := .bool false) rfl (WO.nil (WP.cond (t := false) rfl (WP.skip (WP.seq (WP.reg (WO.valS (v := .int .i64 2) rfl (WO.valS (v := .int .i64 0) rfl (WO.nil (WP.ret ?_)))))))))
      have e48 : (b0 = 48) ↔ b0.toNat = 48 := ⟨fun h => by rw [h]; rfl, fun h => UInt8.toNat_inj.1 h⟩
      exact ⟨_, (res_cons (res_tmp (v := .int .i64 2) rfl) (res_cons (res_tmp (v := .int .i64 0) rfl) (res_nil _ _))), (by simp [Lex.number, one, hw0, e48, c1, c2, c3, c4, hb1, hf] <;> omega), st⟩
     ·refine WO.valS (v := .bool true) rfl (WO.nil (WP.cond (t := true) rfl (WP.seq (WP.reg (WO.valS (v := .int .i64 0) rfl (WO.valS (v := .int .i64 10) rfl (WO.nil (WP.ret ?_))))))))
      have e48 : (b0 = 48) ↔ b0.toNat = 48 := ⟨fun h => by rw [h]; rfl, fun h => UInt8.toNat_inj.1 h⟩
      exact ⟨_, (res_cons (res_tmp (v := .int .i64 0) rfl) (res_cons (res_tmp (v := .int .i64 10) rfl) (res_nil _ _))), (by simp [Lex.number, one, hw0, e48, c1, c2, c3, c4, hb1, hf] <;> omega), st⟩
    ·refine WO.no rfl (WO.no rfl (WO.no rfl (WO.valS (v := .bool false) rfl (WO.nil (WP.cond (t := false) rfl (WP.skip (WP.seq (WP.reg (WO.valS (v := .int .i64 2) rfl (WO.valS (v := .int .i64 0) rfl (WO.nil (WP.ret ?_))))))))))))
     have hf : f = [] := by simpa using c4
     have e48 : (b0 = 48) ↔ b0.toNat = 48 := ⟨fun h => by rw [h]; rfl, fun h => UInt8.toNat_inj.1 h⟩
     exact ⟨_, (res_cons (res_tmp (v := .int .i64 2) rfl) (res_cons (res_tmp (v := .int .i64 0) rfl) (res_nil _ _))), (by simp [Lex.number, one, hw0, e48, c1, c2, c3, c4, hf] <;> omega), st⟩
  ·replace c2 : ¬ (b0.toNat = 48) := by omega
   refine WO.no rfl (WO.no rfl (WO.no rfl (WO.valS (v := .bool false) rfl (WO.nil (WP.cond (t := false) rfl (WP.reg (WO.ifV (L.sne (m := []) rfl rfl) (fun c5 => ?_) (fun c5 => ?_))))))))
   ·refine WO.yes rfl (WO.val (v := L.str f) rfl (WO.yes rfl ?_))
    obtain ⟨d0, fr, hf⟩ : ∃ d0 fr, f = d0 :: fr := List.exists_cons_of_ne_nil c5
    refine WO.val (v := .int .u8 (d0.toNat : Int)) (L.sidx (b := d0) rfl rfl (by rw [hf]; rfl)) (WO.yes rfl (WO.callF rfl (within_c D st ) ?_))
    rintro _ h ⟨rfl, st⟩
    cases hb2 : Lex.within d0
    ·refine WO.valS (v := .bool false) rfl (WO.nil (WP.cond (t := false) rfl (WP.skip (WP.seq (WP.reg (WO.valS (v := .int .i64 2) rfl (WO.valS (v := .int .i64 0) rfl (WO.nil (WP.ret ?_)))))))))
     have e48 : (b0 = 48) ↔ b0.toNat = 48 := ⟨fun h => by rw [h]; rfl, fun h => UInt8.toNat_inj.1 h⟩
     exact ⟨_, (res_cons (res_tmp (v := .int .i64 2) rfl) (res_cons (res_tmp (v := .int .i64 0) rfl) (res_nil _ _))), (by simp [Lex.number, one, hw0, e48, c1, c2, c5, hb2, hf] <;> omega), st⟩
    ·refine WO.valS (v := .bool true) rfl (WO.nil (WP.cond (t := true) rfl (WP.seq (WP.reg (WO.valS (v := .int .i64 0) rfl (WO.valS (v := .int .i64 10) rfl (WO.nil (WP.ret ?_))))))))
     have e48 : (b0 = 48) ↔ b0.toNat = 48 := ⟨fun h => by rw [h]; rfl, fun h => UInt8.toNat_inj.1 h⟩
     exact ⟨_, (res_cons (res_tmp (v := .int .i64 0) rfl) (res_cons (res_tmp (v := .int .i64 10) rfl) (res_nil _ _))), (by simp [Lex.number, one, hw0, e48, c1, c2, c5, hb2, hf] <;> omega), st⟩
   ·refine WO.no rfl (WO.no rfl (WO.no rfl (WO.valS (v := .bool false) rfl (WO.nil (WP.cond (t := false) rfl (WP.skip (WP.seq (WP.reg (WO.valS (v := .int .i64 2) rfl (WO.valS (v := .int .i64 0) rfl (WO.nil (WP.ret ?_))))))))))))
    have hf : f = [] := by simpa using c5
    have e48 : (b0 = 48) ↔ b0.toNat = 48 := ⟨fun h => by rw [h]; rfl, fun h => UInt8.toNat_inj.1 h⟩
    exact ⟨_, (res_cons (res_tmp (v := .int .i64 2) rfl) (res_cons (res_tmp (v := .int .i64 0) rfl) (res_nil _ _))), (by simp [Lex.number, one, hw0, e48, c1, c2, c5, hf] <;> omega), st⟩
end
end Go.Eng.YtjobofnpmmjeoaaDoor
