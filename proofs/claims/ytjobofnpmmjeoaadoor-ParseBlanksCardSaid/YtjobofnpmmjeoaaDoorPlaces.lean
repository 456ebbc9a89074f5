/- Part of a proof of a law, by an evaluator that the machine follows: rules, contracts of functions, what they come to. No condition of its own. -/
import Derived.Test.YtjobofnpmmjeoaaDoorConE
import Derived.Test.YtjobofnpmmjeoaaDoorSym
import Derived.Test.YtjobofnpmmjeoaaDoorSpec
import Derived.Test.YtjobofnpmmjeoaaDoorBehind
namespace Go.Eng.YtjobofnpmmjeoaaDoor
open Go.Eng
noncomputable section
variable {c : Ctx}
theorem num_c (D : HasF c) {fs : List Fact} {h : Heap} {e : Nat} (st : St fs h) :
  RunP c 12 [.int .i64 (e : Int)] h fun v h1 => v = .int .i64 (e : Int) ∧ St fs h1 := by
 refine RunP.fun_ D.f12 rfl (WP.seq (WP.reg (WO.valS (v := .int .i64 0) rfl (WO.nil (WP.seq (WP.reg (WO.valS (v := .int .i64 (e : Int)) rfl (WO.nil (WP.ret ?_)))))))))
 exact ⟨_, (res_cons (res_tmp (v := .int .i64 (e : Int)) rfl) (res_nil _ _)), (rfl), st⟩
theorem rows_two {h : Heap} {x : V} {r : Nat} {rows : List (List V)} (hr : Rows r h x rows) (hne : rows ≠ []) : ∃ b o cap, x = .sl b o rows.length cap := by
 cases hr with
 | nil => exact absurd rfl hne
 | row _ _ _ _ _ _ => exact ⟨_, _, _, rfl⟩
def awT : List UInt8 := [108, 97, 98, 101, 108, 115, 32, 97, 32, 60, 32, 98, 32, 60, 32, 99, 59]
def awR (x : Except (Nat × Nat) (List Pm)) : Bool := match x with
 | .ok [_, p] => decide (p.name = [98]) && decide (p.label = [99])
 | _ => false
theorem aw_ok : awR (Par.rows awT) = true := by kernel_rfl
theorem aw_two : ∃ p q, Par.rows awT = .ok [p, q] ∧ q.name = [98] ∧ q.label = [99] := by
 have h := aw_ok
 generalize Par.rows awT = x at h
 unfold awR at h
 split at h
 ·rename_i p q
  simp at h; exact ⟨p, q, rfl, h.1, h.2⟩
 ·cases h
theorem awake_c (D : HasF c) (h9 : T.get 9 c.funs = some i9) (DD : HasD c) {fs : List Fact} {h : Heap} (st : St fs h) :
  RunP c 9 [] h fun v h1 => v = .bool true ∧ St fs h1 := by
 refine RunP.fun_ h9 rfl (WP.seq (WP.reg (WO.valS (v := .bool false) rfl (WO.nil (WP.seq (WP.reg ?_))))))
 obtain ⟨p, q, hpq, hqn, hql⟩ := aw_two
 have hc := Labels_c (s := awT) D DD st
 rw [hpq] at hc
 refine WO.callF rfl hc ?_
 rintro _ h ⟨x, rfl, hcv, st⟩
 obtain ⟨xb, xo, xc, rfl⟩ := rows_two (st.stb_at 0 rfl) (by simp)
 refine WO.val (v := .sl xb xo 2 xc) rfl (WO.val (v := .int .i64 ((0 : Nat) : Int)) rfl (WO.val (v := .int .i64 ((0 : Nat) : Int)) rfl (WO.valS (v := .sl xb xo 2 xc) rfl (WO.valS (v := .int .i64 ((0 : Nat) : Int)) rfl (WO.nil (WP.seq (WP.reg (WO.callF rfl (num_c (e := 0) D st) ?_))))))))
 rintro _ h ⟨rfl, st⟩
 refine WO.ifV (L.eql rfl rfl) (fun c1 => ?_) (fun c1 => by exfalso; omega)
 refine WO.yes rfl (WO.val (v := .sl xb xo 2 xc) rfl (WO.yes rfl (WO.val (v := .int .i64 ((2 : Nat) : Int)) (L.llen rfl) (WO.yes rfl (WO.ifV (L.eql rfl rfl) (fun c2 => ?_) (fun c2 => by exfalso; omega))))))
 refine WO.val (v := .bool true) rfl (WO.yes rfl (WO.val (v := .sl xb xo 2 xc) rfl (WO.yes rfl (WO.val (v := .ptr xb (xo + 1 * 3)) (L.iaddr rfl rfl (by omega)) (WO.yes rfl (WO.val (v := .ptr xb (xo + 1 * 3 + 0)) (L.faddr rfl) (WO.yes rfl (WO.val (v := L.str q.name) (L.load rfl ((st.stb_at 0 rfl).load1F (i := 1) (j := 0) (v := L.str q.name) rfl rfl)) (WO.yes rfl (WO.ifV (L.seq (m := [98]) rfl rfl) (fun c3 => ?_) (fun c3 => by exfalso; exact c3 hqn)))))))))))
 refine WO.val (v := .bool true) rfl (WO.yes rfl (WO.val (v := .sl xb xo 2 xc) rfl (WO.yes rfl (WO.val (v := .ptr xb (xo + 1 * 3)) (L.iaddr rfl rfl (by omega)) (WO.yes rfl (WO.val (v := .ptr xb (xo + 1 * 3 + 1)) (L.faddr rfl) (WO.yes rfl (WO.val (v := L.str q.label) (L.load rfl ((st.stb_at 0 rfl).load1F (i := 1) (j := 1) (v := L.str q.label) rfl rfl)) (WO.yes rfl (WO.ifV (L.seq (m := [99]) rfl rfl) (fun c4 => ?_) (fun c4 => by exfalso; exact c4 hql)))))))))))
 refine WO.valS (v := .bool true) rfl (WO.nil (WP.ret ?_))
 exact ⟨_, (res_cons (res_tmp (v := .bool true) rfl) (res_nil _ _)), rfl, st.tail⟩
end
end Go.Eng.YtjobofnpmmjeoaaDoor
namespace Go.Eng.YtjobofnpmmjeoaaDoor
open Go.Eng
noncomputable section
variable {c : Ctx}
def eCode {α : Type} (x : Except (Nat × Nat) α) : Nat × Nat := match x with | .ok _ => (0, 0) | .error e => e
theorem modE_c (D : HasF c) (DD : HasD c) {fs : List Fact} {h : Heap} {s : List UInt8} {e a : Nat} (st : St fs h) (hsz : s.length < 4294967296) (hs : eCode (Par.text s) = (e, a)) : RunP c 10 [L.str s] h fun v h1 => ∃ row, v = .tup [.agg row, .int .i64 (e : Int), .int .i64 (a : Int)] ∧ row.length = 5 ∧ St fs h1 := by
 obtain ⟨v, h1, hr, hp⟩ := Module_c D DD st
 refine ⟨v, h1, hr, ?_⟩
 cases ht : Par.text s with
 | ok m =>
  rw [ht] at hp hs
  obtain ⟨row, rfl, hrow, st⟩ := hp
  cases hs
  exact ⟨row, rfl, hrow, st.tail⟩
 | error x =>
  obtain ⟨e1, a1⟩ := x
  rw [ht] at hp hs
  obtain ⟨rfl, st⟩ := hp
  cases hs
  exact ⟨_, rfl, rfl, st⟩
theorem text_err {s : List UInt8} {ts : List Tok} {e a : Nat} (hl : Lex.lex s = .ok ts) (h : eCode (Par.text s) = (e, a)) (he : e ≠ 0) : Par.modul 0 ts = .error (e, a) := by
 unfold Par.text at h
 rw [hl] at h
 simp only at h
 cases hm : Par.modul 0 ts with
 | error x => rw [hm] at h; exact congrArg Except.error h
 | ok x => obtain ⟨m, l⟩ := x; rw [hm] at h; cases h; exact absurd rfl he
theorem err_text {s : List UInt8} {ts : List Tok} {e a : Nat} (hl : Lex.lex s = .ok ts) (h : Par.modul 0 ts = .error (e, a)) : eCode (Par.text s) = (e, a) := by
 unfold Par.text
 rw [hl]
 simp only
 rw [h]; rfl
def LastAt (ts : List Tok) (a i : Nat) (kk : Int) : Prop := (kk = -1 ∧ ∀ (j : Nat) (u : Tok), ts[j]? = some u → j < i → u.at_ ≠ a) ∨ ∃ k : Nat, kk = (k : Int) ∧ k < i ∧ (∃ t : Tok, ts[k]? = some t ∧ t.at_ = a) ∧ ∀ (j : Nat) (u : Tok), ts[j]? = some u → j < i → u.at_ = a → j ≤ k
theorem LastAt.zero (ts : List Tok) (a : Nat) : LastAt ts a 0 (-1) := Or.inl ⟨rfl, fun _ _ _ h => absurd h (Nat.not_lt_zero _)⟩
theorem LastAt.hit {ts : List Tok} {a i : Nat} {u : Tok} (hu : ts[i]? = some u) (ha : u.at_ = a) : LastAt ts a (i + 1) (i : Int) := Or.inr ⟨i, rfl, Nat.lt_succ_self _, ⟨u, hu, ha⟩, fun j _ _ hj _ => Nat.le_of_lt_succ hj⟩
theorem LastAt.miss {ts : List Tok} {a i : Nat} {kk : Int} {u : Tok} (h : LastAt ts a i kk) (hu : ts[i]? = some u) (ha : u.at_ ≠ a) : LastAt ts a (i + 1) kk := by
 rcases h with ⟨e, h⟩ | ⟨k, e, hk, ht, h⟩
 ·refine Or.inl ⟨e, fun j w hw hj => ?_⟩
  rcases Nat.lt_succ_iff_lt_or_eq.1 hj with hj | rfl
  ·exact h j w hw hj
  ·rw [hu] at hw; cases hw; exact ha
 ·refine Or.inr ⟨k, e, Nat.lt_succ_of_lt hk, ht, fun j w hw hj hwa => ?_⟩
  rcases Nat.lt_succ_iff_lt_or_eq.1 hj with hj | rfl
  ·exact h j w hw hj hwa
  ·rw [hu] at hw; cases hw; exact absurd hwa ha
theorem LastAt.some {ts : List Tok} {a : Nat} {kk : Int} {j : Nat} {t : Tok} (h : LastAt ts a ts.length kk) (ht : ts[j]? = some t) (ha : t.at_ = a) : ∃ (k : Nat) (u : Tok), kk = (k : Int) ∧ k < ts.length ∧ ts[k]? = some u ∧ u.at_ = a ∧ ∀ (j : Nat) (w : Tok), ts[j]? = some w → w.at_ = a → j ≤ k := by
 rcases h with ⟨_, h⟩ | ⟨k, e, hk, ⟨u, hu, hua⟩, h⟩
 ·exact absurd ha (h j t ht (List.getElem?_eq_some_iff.1 ht).1)
 ·exact ⟨k, u, e, hk, hu, hua, fun j w hw hwa => h j w hw (List.getElem?_eq_some_iff.1 hw).1 hwa⟩
end
end Go.Eng.YtjobofnpmmjeoaaDoor
