/- Part of a proof of a law, by an evaluator that the machine follows: rules, contracts of functions, what they come to. No condition of its own. -/
import Derived.Test.YtjobofnpmmjeoaaDoorConE
import Derived.Test.YtjobofnpmmjeoaaDoorSym
import Derived.Test.YtjobofnpmmjeoaaDoorSpec
set_option linter.unusedVariables false
set_option linter.unusedSimpArgs false
namespace Go.Eng.YtjobofnpmmjeoaaDoor
open Go.Eng
noncomputable section
variable {c : Ctx}
theorem num_c (D : HasF c) {fs : List Fact} {h : Heap} {e : Nat} (st : St fs h) :
  RunP c 12 [.int .i64 (e : Int)] h fun v h1 => v = .int .i64 (e : Int) ∧ St fs h1 := by
 refine RunP.fun_ D.f12 rfl (WP.seq (WP.reg (WO.valS (v := .int .i64 0) rfl (WO.nil (WP.seq (WP.reg (WO.valS (v := .int .i64 (e : Int)) rfl (WO.nil (WP.ret ?_)))))))))
 exact ⟨_, (res_cons (res_tmp (v := .int .i64 (e : Int)) rfl) (res_nil _ _)), (rfl), st⟩
theorem rows_two {h : Heap} {x : V} {r : Nat} {rows : List (List V)} (hr : Rows r h x rows) (hne : rows ≠ []) : ∃ b o cap, x = .sl b o rows.length cap := by
 cases hr with
 | nil => exact absurd rfl hne
 | row _ _ _ _ _ _ => exact ⟨_, _, _, rfl⟩
def awT : List UInt8 := [108, 97, 98, 101, 108, 115, 32, 97, 32, 60, 32, 98, 32, 60, 32, 99, 59]
def awR (x : Except (Nat × Nat) (List Pm)) : Bool := match x with
 | .ok [_, p] => decide (p.name = [98]) && decide (p.label = [99])
 | _ => false
theorem aw_ok : awR (Par.rows awT) = true := by kernel_rfl
theorem aw_two : ∃ p q, Par.rows awT = .ok [p, q] ∧ q.name = [98] ∧ q.label = [99] := by
 have h := aw_ok
 generalize Par.rows awT = x at h
 unfold awR at h
 split at h
 ·rename_i p q
  simp at h; exact ⟨p, q, rfl, h.1, h.2⟩
 ·cases h
theorem awake_c (D : HasF c) (h9 : T.get 9 c.funs = some i9) (DD : HasD c) {fs : List Fact} {h : Heap} (st : St fs h) :
  RunP c 9 [] h fun v h1 => v = .bool true ∧ St fs h1 := by
 refine RunP.fun_ h9 rfl (WP.seq (WP.reg (WO.valS (v := .bool false) rfl (WO.nil (WP.seq (WP.reg ?_))))))
 obtain ⟨p, q, hpq, hqn, hql⟩ := aw_two
 have hc := Labels_c (s := awT) D DD st
 rw [hpq] at hc
 refine WO.callF rfl hc ?_
 rintro _ h ⟨x, rfl, hcv, st⟩
 obtain ⟨xb, xo, xc, rfl⟩ := rows_two (st.stb_at 0 rfl) (by simp)
 refine WO.val (v := .sl xb xo 2 xc) rfl (WO.val (v := .int .i64 ((0 : Nat) : Int)) rfl (WO.val (v := .int .i64 ((0 : Nat) : Int)) rfl (WO.valS (v := .sl xb xo 2 xc) rfl (WO.valS (v := .int .i64 ((0 : Nat) : Int)) rfl (WO.nil (WP.seq (WP.reg (WO.callF rfl (num_c (e := 0) D st) ?_))))))))
 rintro _ h ⟨rfl, st⟩
 refine WO.ifV (L.eql rfl rfl) (fun c1 => ?_) (fun c1 => by exfalso; omega)
 refine WO.yes rfl (WO.val (v := .sl xb xo 2 xc) rfl (WO.yes rfl (WO.val (v := .int .i64 ((2 : Nat) : Int)) (L.llen rfl) (WO.yes rfl (WO.ifV (L.eql rfl rfl) (fun c2 => ?_) (fun c2 => by exfalso; omega))))))
 refine WO.val (v := .bool true) rfl (WO.yes rfl (WO.val (v := .sl xb xo 2 xc) rfl (WO.yes rfl (WO.val (v := .ptr xb (xo + 1 * 3)) (L.iaddr rfl rfl (by omega)) (WO.yes rfl (WO.val (v := .ptr xb (xo + 1 * 3 + 0)) (L.faddr rfl) (WO.yes rfl (WO.val (v := L.str q.name) (L.load rfl ((st.stb_at 0 rfl).load1F (i := 1) (j := 0) (v := L.str q.name) rfl rfl)) (WO.yes rfl (WO.ifV (L.seq (m := [98]) rfl rfl) (fun c3 => ?_) (fun c3 => by exfalso; exact c3 hqn)))))))))))
 refine WO.val (v := .bool true) rfl (WO.yes rfl (WO.val (v := .sl xb xo 2 xc) rfl (WO.yes rfl (WO.val (v := .ptr xb (xo + 1 * 3)) (L.iaddr rfl rfl (by omega)) (WO.yes rfl (WO.val (v := .ptr xb (xo + 1 * 3 + 1)) (L.faddr rfl) (WO.yes rfl (WO.val (v := L.str q.label) (L.load rfl ((st.stb_at 0 rfl).load1F (i := 1) (j := 1) (v := L.str q.label) rfl rfl)) (WO.yes rfl (WO.ifV (L.seq (m := [99]) rfl rfl) (fun c4 => ?_) (fun c4 => by exfalso; exact c4 hql)))))))))))
 refine WO.valS (v := .bool true) rfl (WO.nil (WP.ret ?_))
 exact ⟨_, (res_cons (res_tmp (v := .bool true) rfl) (res_nil _ _)), rfl, st.tail⟩
end
end Go.Eng.YtjobofnpmmjeoaaDoor
