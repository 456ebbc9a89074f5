/- Part of a proof of a law, by an evaluator that the machine follows: rules, contracts of functions, what they come to. No condition of its own. -/
import Derived.Test.YtjgmahbgfbkhnaaConF
import Derived.Test.YtjgmahbgfbkhnaaConH
import Derived.Test.YtjgmahbgfbkhnaaSymJ
set_option linter.unusedVariables false
set_option linter.unusedSimpArgs false
namespace Go.Eng.Ytjgmahbgfbkhnaa
open Go.Eng
noncomputable section
variable {c : Ctx}
structure HasT (c : Ctx) : Prop where
 f36 : T.get 36 c.funs = some i36
 f37 : T.get 37 c.funs = some i37
 f38 : T.get 38 c.funs = some i38
 f39 : T.get 39 c.funs = some i39
 f40 : T.get 40 c.funs = some i40
 f41 : T.get 41 c.funs = some i41
 f42 : T.get 42 c.funs = some i42
 f43 : T.get 43 c.funs = some i43
 f64 : T.get 64 c.funs = some i64
 f65 : T.get 65 c.funs = some i65
 f66 : T.get 66 c.funs = some i66
 f67 : T.get 67 c.funs = some i67
 f91 : T.get 91 c.funs = some i91
 f92 : T.get 92 c.funs = some i92
theorem eqB_t (D : HasT c) {h0 : Heap} {v w : V} {r : List Bool} (hn : r.length < 4294967296) (R : Rows 1 h0 v (r.map bv)) (R2 : Rows 1 h0 w (r.map bv)) :
  RunP c 41 [v, w] h0 fun v1 h1 => v1 = .bool true ∧ h1 = h0 := by
 refine RunP.fun_ D.f41 rfl (WP.seq (WP.reg (WO.valS (v := .bool false) rfl (WO.nil (WP.seq (WP.seq (WP.reg (WO.val (v := .int .i64 (r.length : Int)) (L.llenRn rfl R (List.length_map _)) (WO.val (v := .int .i64 (r.length : Int)) (L.llenRn rfl R2 (List.length_map _)) (WO.ifS (L.neq rfl rfl) (fun c1 => by exfalso; omega) (fun c1 => ?_)))))))))))
 refine WO.nil (WP.cond (t := false) rfl (WP.skip (WP.seq (WP.seq (WP.reg (WO.valS (v := .int .i64 (r.length : Int)) (L.llenRn rfl R (List.length_map _)) (WO.valS (v := .int .i64 0) rfl (WO.nil (WP.block (WP.loopG (α := Nat) (fun k env h_ => ∃ x2 x6 x7 x8, (k ≤ r.length) ∧ env = argsP [v, w, x2, .bool false, .int .i64 (k : Int), .int .i64 (r.length : Int), x6, x7, x8] 0 Env.nil ∧ h_ = h0) (fun k => r.length - k) 0 ?_ ?_))))))))))
 ·exact ⟨(.bool false), .bot, .bot, .bot, Nat.zero_le _, by kernel_rfl, rfl⟩
 rintro k _ h ⟨x2, x6, x7, x8, hk, rfl, rfl⟩
 refine WP.seq (WP.reg (WO.ifS (L.lss rfl rfl) (fun c1 => ?_) (fun c1 => ?_)))
 ·replace c1 : k < r.length := by omega
  obtain ⟨x, hx⟩ : ∃ y, r[k]? = some y := ⟨r[k]'(by omega), List.getElem?_eq_getElem (by omega)⟩
  refine WO.nil (WP.seq (WP.cond (t := true) rfl (WP.skip (WP.seq (WP.block (WP.seq (WP.reg (WO.valS (v := .int .i64 (k : Int)) rfl (WO.nil (WP.seq (WP.draw (WD.val (v := v) rfl (WD.val (v := .int .i64 (k : Int)) rfl (WD.val (v := .ptr (slB v) (slO v + k * 1)) (L.iaddrZ R (by rw [List.length_map]; omega) rfl rfl) (WD.val (v := .bool x) (L.load rfl (bv_at R hx)) (WD.val (v := w) rfl (WD.val (v := .int .i64 (k : Int)) rfl (WD.val (v := .ptr (slB w) (slO w + k * 1)) (L.iaddrZ R2 (by rw [List.length_map]; omega) rfl rfl) (WD.val (v := .bool x) (L.load rfl (bv_at R2 hx)) (WD.valS (v := .bool false) (L.neBool_same rfl rfl) (WD.nil (WP.cond (t := false) rfl (WP.skip (WP.reg (WO.valS (v := .int .i64 ((k + 1 : Nat) : Int)) (L.addE rfl rfl (by omega) (And.intro (by omega) (by omega))) (WO.nil ?_))))))))))))))))))))))))))
  exact ⟨k + 1, (by omega), x2, (.bool true), (.int .i64 (k : Int)), (.bool false), by omega, by kernel_rfl, rfl⟩
 ·replace c1 : ¬ (k < r.length) := by omega
  refine WO.nil (WP.seq (WP.cond (t := false) rfl (WP.exit (WP.seq (WP.reg (WO.valS (v := .bool true) rfl (WO.nil (WP.ret ?_))))))))
  exact ⟨_, (res_cons (res_tmp (v := .bool true) rfl) (res_nil _ _)), rfl, rfl⟩
theorem eqI_t (D : HasT c) {h0 : Heap} {v w : V} {r : List Nat} (hn : r.length < 4294967296) (R : Rows 1 h0 v (r.map iv)) (R2 : Rows 1 h0 w (r.map iv)) :
  RunP c 43 [v, w] h0 fun v1 h1 => v1 = .bool true ∧ h1 = h0 := by
 refine RunP.fun_ D.f43 rfl (WP.seq (WP.reg (WO.valS (v := .bool false) rfl (WO.nil (WP.seq (WP.seq (WP.reg (WO.val (v := .int .i64 (r.length : Int)) (L.llenRn rfl R (List.length_map _)) (WO.val (v := .int .i64 (r.length : Int)) (L.llenRn rfl R2 (List.length_map _)) (WO.ifS (L.neq rfl rfl) (fun c1 => by exfalso; omega) (fun c1 => ?_)))))))))))
 refine WO.nil (WP.cond (t := false) rfl (WP.skip (WP.seq (WP.seq (WP.reg (WO.valS (v := .int .i64 (r.length : Int)) (L.llenRn rfl R (List.length_map _)) (WO.valS (v := .int .i64 0) rfl (WO.nil (WP.block (WP.loopG (α := Nat) (fun k env h_ => ∃ x2 x6 x7 x8, (k ≤ r.length) ∧ env = argsP [v, w, x2, .bool false, .int .i64 (k : Int), .int .i64 (r.length : Int), x6, x7, x8] 0 Env.nil ∧ h_ = h0) (fun k => r.length - k) 0 ?_ ?_))))))))))
 ·exact ⟨(.bool false), .bot, .bot, .bot, Nat.zero_le _, by kernel_rfl, rfl⟩
 rintro k _ h ⟨x2, x6, x7, x8, hk, rfl, rfl⟩
 refine WP.seq (WP.reg (WO.ifS (L.lss rfl rfl) (fun c1 => ?_) (fun c1 => ?_)))
 ·replace c1 : k < r.length := by omega
  obtain ⟨x, hx⟩ : ∃ y, r[k]? = some y := ⟨r[k]'(by omega), List.getElem?_eq_getElem (by omega)⟩
  refine WO.nil (WP.seq (WP.cond (t := true) rfl (WP.skip (WP.seq (WP.block (WP.seq (WP.reg (WO.valS (v := .int .i64 (k : Int)) rfl (WO.nil (WP.seq (WP.draw (WD.val (v := v) rfl (WD.val (v := .int .i64 (k : Int)) rfl (WD.val (v := .ptr (slB v) (slO v + k * 1)) (L.iaddrZ R (by rw [List.length_map]; omega) rfl rfl) (WD.val (v := .int .i64 (x : Int)) (L.load rfl (iv_at R hx)) (WD.val (v := w) rfl (WD.val (v := .int .i64 (k : Int)) rfl (WD.val (v := .ptr (slB w) (slO w + k * 1)) (L.iaddrZ R2 (by rw [List.length_map]; omega) rfl rfl) (WD.val (v := .int .i64 (x : Int)) (L.load rfl (iv_at R2 hx)) (WD.ifS (L.neq rfl rfl) (fun _ c2 => by exfalso; exact c2 rfl) (fun _ c2 => ?_)))))))))))))))))))))
  refine WD.nil (WP.cond (t := false) rfl (WP.skip (WP.reg (WO.valS (v := .int .i64 ((k + 1 : Nat) : Int)) (L.addE rfl rfl (by omega) (And.intro (by omega) (by omega))) (WO.nil ?_)))))
  exact ⟨k + 1, (by omega), x2, (.bool true), (.int .i64 (k : Int)), (.bool false), by omega, by kernel_rfl, rfl⟩
 ·replace c1 : ¬ (k < r.length) := by omega
  refine WO.nil (WP.seq (WP.cond (t := false) rfl (WP.exit (WP.seq (WP.reg (WO.valS (v := .bool true) rfl (WO.nil (WP.ret ?_))))))))
  exact ⟨_, (res_cons (res_tmp (v := .bool true) rfl) (res_nil _ _)), rfl, rfl⟩
theorem eqfB_t (D : HasT c) {h0 : Heap} {v w : V} {M : List (List Bool)} (sm : smallT M) (a : BTab h0 v M) (b : BTab h0 w M) :
  RunP c 40 [v, w, .fn 41 [] []] h0 fun v1 h1 => v1 = .bool true ∧ h1 = h0 := by
 have sm1 := sm.1
 refine RunP.fun_ D.f40 rfl (WP.seq (WP.reg (WO.valS (v := .bool false) rfl (WO.nil (WP.seq (WP.seq (WP.reg (WO.val (v := .int .i64 (M.length : Int)) (L.llenBT rfl a) (WO.val (v := .int .i64 (M.length : Int)) (L.llenBT rfl b) (WO.ifS (L.neq rfl rfl) (fun c1 => by exfalso; omega) (fun c1 => ?_)))))))))))
 refine WO.nil (WP.cond (t := false) rfl (WP.skip (WP.seq (WP.seq (WP.reg (WO.valS (v := v) rfl (WO.valS (v := .int .i64 (M.length : Int)) (L.llenBT rfl a) (WO.valS (v := .int .i64 0) rfl (WO.nil (WP.block (WP.loopG (α := Nat) (fun i env h_ => ∃ x3 x7 x9 x10 x11 x12, (i ≤ M.length) ∧ env = argsP [v, w, .fn 41 [] [], x3, .bool false, .int .i64 (i : Int), .int .i64 (M.length : Int), x7, v, x9, x10, x11, x12] 0 Env.nil ∧ h_ = h0) (fun i => M.length - i) 0 ?_ ?_)))))))))))
 ·exact ⟨(.bool false), .bot, .bot, .bot, .bot, .bot, Nat.zero_le _, by kernel_rfl, rfl⟩
 rintro i _ h ⟨x3, x7, x9, x10, x11, x12, hi, rfl, rfl⟩
 refine WP.seq (WP.reg (WO.ifS (L.lss rfl rfl) (fun c1 => ?_) (fun c1 => ?_)))
 ·replace c1 : i < M.length := by omega
  obtain ⟨r, hr⟩ : ∃ y, M[i]? = some y := ⟨M[i]'(by omega), List.getElem?_eq_getElem (by omega)⟩
  obtain ⟨u, hu1, hu2⟩ := a.at hr
  obtain ⟨u2, hw1, hw2⟩ := b.at hr
  have hrl : r.length < 4294967296 := sm.2 r (List.mem_of_getElem? hr)
  refine WO.nil (WP.seq (WP.cond (t := true) rfl (WP.skip (WP.seq (WP.block (WP.seq (WP.reg (WO.val (v := .ptr (slB v) (slO v + i * 1)) (L.iaddrBT a c1 rfl rfl) (WO.val (v := u) (L.load rfl hu1) (WO.valS (v := .int .i64 (i : Int)) rfl (WO.valS (v := u) rfl (WO.nil (WP.seq (WP.reg (WO.val (v := .ptr (slB w) (slO w + i * 1)) (L.iaddrBT b c1 rfl rfl) (WO.valS (v := u2) (L.load rfl hw1) (WO.nil (WP.seq (WP.reg (WO.callvF rfl rfl (eqB_t D hrl hu2 hw2) ?_))))))))))))))))))))
  rintro _ h ⟨rfl, rfl⟩
  refine WO.valS (v := .bool false) rfl (WO.nil (WP.cond (t := false) rfl (WP.skip (WP.reg (WO.valS (v := .int .i64 ((i + 1 : Nat) : Int)) (L.addE rfl rfl (by omega) (And.intro (by omega) (by omega))) (WO.nil ?_))))))
  exact ⟨i + 1, (by omega), x3, (.bool true), (.int .i64 (i : Int)), u, u2, (.bool false), by omega, by kernel_rfl, rfl⟩
 ·replace c1 : ¬ (i < M.length) := by omega
  refine WO.nil (WP.seq (WP.cond (t := false) rfl (WP.exit (WP.seq (WP.reg (WO.valS (v := .bool true) rfl (WO.nil (WP.ret ?_))))))))
  exact ⟨_, (res_cons (res_tmp (v := .bool true) rfl) (res_nil _ _)), rfl, rfl⟩
theorem eqfI_t (D : HasT c) {h0 : Heap} {v w : V} {M : List (List Nat)} (sm : smallT M) (a : ITab h0 v M) (b : ITab h0 w M) :
  RunP c 42 [v, w, .fn 43 [] []] h0 fun v1 h1 => v1 = .bool true ∧ h1 = h0 := by
 have sm1 := sm.1
 refine RunP.fun_ D.f42 rfl (WP.seq (WP.reg (WO.valS (v := .bool false) rfl (WO.nil (WP.seq (WP.seq (WP.reg (WO.val (v := .int .i64 (M.length : Int)) (L.llenIT rfl a) (WO.val (v := .int .i64 (M.length : Int)) (L.llenIT rfl b) (WO.ifS (L.neq rfl rfl) (fun c1 => by exfalso; omega) (fun c1 => ?_)))))))))))
 refine WO.nil (WP.cond (t := false) rfl (WP.skip (WP.seq (WP.seq (WP.reg (WO.valS (v := v) rfl (WO.valS (v := .int .i64 (M.length : Int)) (L.llenIT rfl a) (WO.valS (v := .int .i64 0) rfl (WO.nil (WP.block (WP.loopG (α := Nat) (fun i env h_ => ∃ x3 x7 x9 x10 x11 x12, (i ≤ M.length) ∧ env = argsP [v, w, .fn 43 [] [], x3, .bool false, .int .i64 (i : Int), .int .i64 (M.length : Int), x7, v, x9, x10, x11, x12] 0 Env.nil ∧ h_ = h0) (fun i => M.length - i) 0 ?_ ?_)))))))))))
 ·exact ⟨(.bool false), .bot, .bot, .bot, .bot, .bot, Nat.zero_le _, by kernel_rfl, rfl⟩
 rintro i _ h ⟨x3, x7, x9, x10, x11, x12, hi, rfl, rfl⟩
 refine WP.seq (WP.reg (WO.ifS (L.lss rfl rfl) (fun c1 => ?_) (fun c1 => ?_)))
 ·replace c1 : i < M.length := by omega
  obtain ⟨r, hr⟩ : ∃ y, M[i]? = some y := ⟨M[i]'(by omega), List.getElem?_eq_getElem (by omega)⟩
  obtain ⟨u, hu1, hu2⟩ := a.at hr
  obtain ⟨u2, hw1, hw2⟩ := b.at hr
  have hrl : r.length < 4294967296 := sm.2 r (List.mem_of_getElem? hr)
  refine WO.nil (WP.seq (WP.cond (t := true) rfl (WP.skip (WP.seq (WP.block (WP.seq (WP.reg (WO.val (v := .ptr (slB v) (slO v + i * 1)) (L.iaddrIT a c1 rfl rfl) (WO.val (v := u) (L.load rfl hu1) (WO.valS (v := .int .i64 (i : Int)) rfl (WO.valS (v := u) rfl (WO.nil (WP.seq (WP.reg (WO.val (v := .ptr (slB w) (slO w + i * 1)) (L.iaddrIT b c1 rfl rfl) (WO.valS (v := u2) (L.load rfl hw1) (WO.nil (WP.seq (WP.reg (WO.callvF rfl rfl (eqI_t D hrl hu2 hw2) ?_))))))))))))))))))))
  rintro _ h ⟨rfl, rfl⟩
  refine WO.valS (v := .bool false) rfl (WO.nil (WP.cond (t := false) rfl (WP.skip (WP.reg (WO.valS (v := .int .i64 ((i + 1 : Nat) : Int)) (L.addE rfl rfl (by omega) (And.intro (by omega) (by omega))) (WO.nil ?_))))))
  exact ⟨i + 1, (by omega), x3, (.bool true), (.int .i64 (i : Int)), u, u2, (.bool false), by omega, by kernel_rfl, rfl⟩
 ·replace c1 : ¬ (i < M.length) := by omega
  refine WO.nil (WP.seq (WP.cond (t := false) rfl (WP.exit (WP.seq (WP.reg (WO.valS (v := .bool true) rfl (WO.nil (WP.ret ?_))))))))
  exact ⟨_, (res_cons (res_tmp (v := .bool true) rfl) (res_nil _ _)), rfl, rfl⟩
theorem lenB_t (D : HasT c) {h0 : Heap} {v : V} {p n : Nat} {r : List Bool} (hp : h0.load1 p 0 = some (.int .i64 (n : Int))) (hrl : r.length = n) (R : Rows 1 h0 v (r.map bv)) :
  RunP c 65 [v, .ptr p 0] h0 fun v1 h1 => v1 = .bool false ∧ h1 = h0 := by
 refine RunP.fun_ D.f65 rfl (WP.seq (WP.reg (WO.valS (v := .bool false) rfl (WO.nil (WP.seq (WP.reg (WO.val (v := .int .i64 (n : Int)) (L.llenRn rfl R ((List.length_map _).trans hrl)) (WO.val (v := .int .i64 (n : Int)) (L.load rfl hp) (WO.ifS (L.neq rfl rfl) (fun c1 => by exfalso; exact c1 rfl) (fun c1 => ?_))))))))))
 refine WO.nil (WP.ret ?_)
 exact ⟨_, (res_cons (res_tmp (v := .bool false) rfl) (res_nil _ _)), rfl, rfl⟩
theorem lenI_t (D : HasT c) {h0 : Heap} {v : V} {p n : Nat} {r : List Nat} (hp : h0.load1 p 0 = some (.int .i64 (n : Int))) (hrl : r.length = n) (R : Rows 1 h0 v (r.map iv)) :
  RunP c 67 [v, .ptr p 0] h0 fun v1 h1 => v1 = .bool false ∧ h1 = h0 := by
 refine RunP.fun_ D.f67 rfl (WP.seq (WP.reg (WO.valS (v := .bool false) rfl (WO.nil (WP.seq (WP.reg (WO.val (v := .int .i64 (n : Int)) (L.llenRn rfl R ((List.length_map _).trans hrl)) (WO.val (v := .int .i64 (n : Int)) (L.load rfl hp) (WO.ifS (L.neq rfl rfl) (fun c1 => by exfalso; exact c1 rfl) (fun c1 => ?_))))))))))
 refine WO.nil (WP.ret ?_)
 exact ⟨_, (res_cons (res_tmp (v := .bool false) rfl) (res_nil _ _)), rfl, rfl⟩
theorem idxB_t (D : HasT c) {h0 : Heap} {v : V} {p n : Nat} {M : List (List Bool)} (hp : h0.load1 p 0 = some (.int .i64 (n : Int))) (sm : M.length < 4294967296) (sq : ∀ r ∈ M, r.length = n) (a : BTab h0 v M) :
  RunP c 91 [v, .fn 65 [] [.ptr p 0]] h0 fun v1 h1 => v1 = .int .i64 (-1) ∧ h1 = h0 := by
 refine RunP.fun_ D.f91 rfl (WP.seq (WP.reg (WO.valS (v := .int .i64 0) rfl (WO.nil (WP.seq (WP.seq (WP.reg (WO.valS (v := .int .i64 (M.length : Int)) (L.llenBT rfl a) (WO.valS (v := .int .i64 0) rfl (WO.nil (WP.block (WP.loopG (α := Nat) (fun i env h_ => ∃ x2 x5 x6 x7, (i ≤ M.length) ∧ env = argsP [v, .fn 65 [] [.ptr p 0], x2, .int .i64 (i : Int), .int .i64 (M.length : Int), x5, x6, x7] 0 Env.nil ∧ h_ = h0) (fun i => M.length - i) 0 ?_ ?_))))))))))))
 ·exact ⟨(.int .i64 0), .bot, .bot, .bot, Nat.zero_le _, by kernel_rfl, rfl⟩
 rintro i _ h ⟨x2, x5, x6, x7, hi, rfl, rfl⟩
 refine WP.seq (WP.reg (WO.ifS (L.lss rfl rfl) (fun c1 => ?_) (fun c1 => ?_)))
 ·replace c1 : i < M.length := by omega
  obtain ⟨r, hr⟩ : ∃ y, M[i]? = some y := ⟨M[i]'(by omega), List.getElem?_eq_getElem (by omega)⟩
  obtain ⟨u, hu1, hu2⟩ := a.at hr
  refine WO.nil (WP.seq (WP.cond (t := true) rfl (WP.skip (WP.seq (WP.block (WP.seq (WP.reg (WO.valS (v := .int .i64 (i : Int)) rfl (WO.nil (WP.seq (WP.reg (WO.val (v := .ptr (slB v) (slO v + i * 1)) (L.iaddrBT a c1 rfl rfl) (WO.val (v := u) (L.load rfl hu1) (WO.callvFS rfl rfl (lenB_t D hp (sq r (List.mem_of_getElem? hr)) hu2) ?_))))))))))))))
  rintro _ h ⟨rfl, rfl⟩
  refine WO.nil (WP.cond (t := false) rfl (WP.skip (WP.reg (WO.valS (v := .int .i64 ((i + 1 : Nat) : Int)) (L.addE rfl rfl (by omega) (And.intro (by omega) (by omega))) (WO.nil ?_)))))
  exact ⟨i + 1, (by omega), x2, (.bool true), (.int .i64 (i : Int)), (.bool false), by omega, by kernel_rfl, rfl⟩
 ·replace c1 : ¬ (i < M.length) := by omega
  refine WO.nil (WP.seq (WP.cond (t := false) rfl (WP.exit (WP.seq (WP.reg (WO.valS (v := .int .i64 (-1)) rfl (WO.nil (WP.ret ?_))))))))
  exact ⟨_, (res_cons (res_tmp (v := .int .i64 (-1)) rfl) (res_nil _ _)), rfl, rfl⟩
theorem idxI_t (D : HasT c) {h0 : Heap} {v : V} {p n : Nat} {M : List (List Nat)} (hp : h0.load1 p 0 = some (.int .i64 (n : Int))) (sm : M.length < 4294967296) (sq : ∀ r ∈ M, r.length = n) (a : ITab h0 v M) :
  RunP c 92 [v, .fn 67 [] [.ptr p 0]] h0 fun v1 h1 => v1 = .int .i64 (-1) ∧ h1 = h0 := by
 refine RunP.fun_ D.f92 rfl (WP.seq (WP.reg (WO.valS (v := .int .i64 0) rfl (WO.nil (WP.seq (WP.seq (WP.reg (WO.valS (v := .int .i64 (M.length : Int)) (L.llenIT rfl a) (WO.valS (v := .int .i64 0) rfl (WO.nil (WP.block (WP.loopG (α := Nat) (fun i env h_ => ∃ x2 x5 x6 x7, (i ≤ M.length) ∧ env = argsP [v, .fn 67 [] [.ptr p 0], x2, .int .i64 (i : Int), .int .i64 (M.length : Int), x5, x6, x7] 0 Env.nil ∧ h_ = h0) (fun i => M.length - i) 0 ?_ ?_))))))))))))
 ·exact ⟨(.int .i64 0), .bot, .bot, .bot, Nat.zero_le _, by kernel_rfl, rfl⟩
 rintro i _ h ⟨x2, x5, x6, x7, hi, rfl, rfl⟩
 refine WP.seq (WP.reg (WO.ifS (L.lss rfl rfl) (fun c1 => ?_) (fun c1 => ?_)))
 ·replace c1 : i < M.length := by omega
  obtain ⟨r, hr⟩ : ∃ y, M[i]? = some y := ⟨M[i]'(by omega), List.getElem?_eq_getElem (by omega)⟩
  obtain ⟨u, hu1, hu2⟩ := a.at hr
  refine WO.nil (WP.seq (WP.cond (t := true) rfl (WP.skip (WP.seq (WP.block (WP.seq (WP.reg (WO.valS (v := .int .i64 (i : Int)) rfl (WO.nil (WP.seq (WP.reg (WO.val (v := .ptr (slB v) (slO v + i * 1)) (L.iaddrIT a c1 rfl rfl) (WO.val (v := u) (L.load rfl hu1) (WO.callvFS rfl rfl (lenI_t D hp (sq r (List.mem_of_getElem? hr)) hu2) ?_))))))))))))))
  rintro _ h ⟨rfl, rfl⟩
  refine WO.nil (WP.cond (t := false) rfl (WP.skip (WP.reg (WO.valS (v := .int .i64 ((i + 1 : Nat) : Int)) (L.addE rfl rfl (by omega) (And.intro (by omega) (by omega))) (WO.nil ?_)))))
  exact ⟨i + 1, (by omega), x2, (.bool true), (.int .i64 (i : Int)), (.bool false), by omega, by kernel_rfl, rfl⟩
 ·replace c1 : ¬ (i < M.length) := by omega
  refine WO.nil (WP.seq (WP.cond (t := false) rfl (WP.exit (WP.seq (WP.reg (WO.valS (v := .int .i64 (-1)) rfl (WO.nil (WP.ret ?_))))))))
  exact ⟨_, (res_cons (res_tmp (v := .int .i64 (-1)) rfl) (res_nil _ _)), rfl, rfl⟩
theorem conB_t (D : HasT c) {h0 : Heap} {v : V} {p n : Nat} {M : List (List Bool)} (hp : h0.load1 p 0 = some (.int .i64 (n : Int))) (sm : M.length < 4294967296) (sq : ∀ r ∈ M, r.length = n) (a : BTab h0 v M) :
  RunP c 64 [v, .fn 65 [] [.ptr p 0]] h0 fun v1 h1 => v1 = .bool false ∧ h1 = h0 := by
 refine RunP.fun_ D.f64 rfl (WP.seq (WP.reg (WO.valS (v := .bool false) rfl (WO.nil (WP.seq (WP.reg (WO.callF rfl (idxB_t D hp sm sq a) ?_)))))))
 rintro _ h ⟨rfl, rfl⟩
 refine WO.ifS (L.geq rfl rfl) (fun c1 => by exfalso; omega) (fun c1 => ?_)
 refine WO.nil (WP.ret ?_)
 exact ⟨_, (res_cons (res_tmp (v := .bool false) rfl) (res_nil _ _)), rfl, rfl⟩
theorem conI_t (D : HasT c) {h0 : Heap} {v : V} {p n : Nat} {M : List (List Nat)} (hp : h0.load1 p 0 = some (.int .i64 (n : Int))) (sm : M.length < 4294967296) (sq : ∀ r ∈ M, r.length = n) (a : ITab h0 v M) :
  RunP c 66 [v, .fn 67 [] [.ptr p 0]] h0 fun v1 h1 => v1 = .bool false ∧ h1 = h0 := by
 refine RunP.fun_ D.f66 rfl (WP.seq (WP.reg (WO.valS (v := .bool false) rfl (WO.nil (WP.seq (WP.reg (WO.callF rfl (idxI_t D hp sm sq a) ?_)))))))
 rintro _ h ⟨rfl, rfl⟩
 refine WO.ifS (L.geq rfl rfl) (fun c1 => by exfalso; omega) (fun c1 => ?_)
 refine WO.nil (WP.ret ?_)
 exact ⟨_, (res_cons (res_tmp (v := .bool false) rfl) (res_nil _ _)), rfl, rfl⟩
theorem sqB_t (D : HasT c) {fs : List Fact} {h : Heap} {v : V} {n : Nat} {M : List (List Bool)} (sm : M.length < 4294967296) (hl : M.length = n) (sq : ∀ r ∈ M, r.length = n) (st : St (.stb (fun h => BTab h v M) :: fs) h) :
  RunP c 37 [v, .int .i64 (n : Int)] h fun v1 h1 => v1 = .bool true ∧ St (.stb (fun h => BTab h v M) :: fs) h1 := by
 refine RunP.fun_ D.f37 rfl (WP.seq (WP.reg (WO.boxFS st (L.box (l := [.int .i64 (n : Int)]) rfl rfl) (fun p1 h st => ?_))))
 refine WO.valS (v := .bool false) rfl (WO.nil (WP.seq (WP.reg (WO.val (v := .int .i64 (M.length : Int)) (L.llenBT rfl (st.stb_at 1 rfl)) (WO.val (v := .int .i64 (n : Int)) (L.loadB rfl (st.box_at 0 rfl) rfl) (WO.ifV (L.eql rfl rfl) (fun c1 => ?_) (fun c1 => by exfalso; exact c1 (by rw [hl]))))))))
 refine WO.yes rfl (WO.val (v := v) rfl (WO.yes rfl (WO.val (v := .fn 65 [] [.ptr p1 0]) rfl (WO.yes rfl (WO.callF rfl (conB_t D (L.load1_box (st.box_at 0 rfl) rfl) sm sq (st.stb_at 1 rfl)) ?_)))))
 rintro _ h ⟨rfl, rfl⟩
 refine WO.yes rfl (WO.val (v := .bool true) rfl (WO.valS (v := .bool true) rfl (WO.nil (WP.ret ?_))))
 exact ⟨_, (res_cons (res_tmp (v := .bool true) rfl) (res_nil _ _)), rfl, st.tail⟩
theorem sqI_t (D : HasT c) {fs : List Fact} {h : Heap} {v : V} {n : Nat} {M : List (List Nat)} (sm : M.length < 4294967296) (hl : M.length = n) (sq : ∀ r ∈ M, r.length = n) (st : St (.stb (fun h => ITab h v M) :: fs) h) :
  RunP c 38 [v, .int .i64 (n : Int)] h fun v1 h1 => v1 = .bool true ∧ St (.stb (fun h => ITab h v M) :: fs) h1 := by
 refine RunP.fun_ D.f38 rfl (WP.seq (WP.reg (WO.boxFS st (L.box (l := [.int .i64 (n : Int)]) rfl rfl) (fun p1 h st => ?_))))
 refine WO.valS (v := .bool false) rfl (WO.nil (WP.seq (WP.reg (WO.val (v := .int .i64 (M.length : Int)) (L.llenIT rfl (st.stb_at 1 rfl)) (WO.val (v := .int .i64 (n : Int)) (L.loadB rfl (st.box_at 0 rfl) rfl) (WO.ifV (L.eql rfl rfl) (fun c1 => ?_) (fun c1 => by exfalso; exact c1 (by rw [hl]))))))))
 refine WO.yes rfl (WO.val (v := v) rfl (WO.yes rfl (WO.val (v := .fn 67 [] [.ptr p1 0]) rfl (WO.yes rfl (WO.callF rfl (conI_t D (L.load1_box (st.box_at 0 rfl) rfl) sm sq (st.stb_at 1 rfl)) ?_)))))
 rintro _ h ⟨rfl, rfl⟩
 refine WO.yes rfl (WO.val (v := .bool true) rfl (WO.valS (v := .bool true) rfl (WO.nil (WP.ret ?_))))
 exact ⟨_, (res_cons (res_tmp (v := .bool true) rfl) (res_nil _ _)), rfl, st.tail⟩
theorem clone_t (D : HasT c) {fs : List Fact} {h : Heap} {v : V} {r : List Bool} (h0 : 0 < r.length) (hn : r.length < 4294967296) (st : St (.stb (fun h => Rows 1 h v (r.map bv)) :: fs) h) :
  RunP c 39 [v] h fun v1 h1 => ∃ nb, v1 = .sl nb 0 r.length none ∧ St (.cel nb 1 (r.map bv) :: .stb (fun h => Rows 1 h v (r.map bv)) :: fs) h1 := by
 refine RunP.fun_ D.f39 rfl (WP.seq (WP.reg (WO.valS (v := .slN) rfl (WO.nil (WP.seq (WP.seq (WP.reg ?_)))))))
 have hR : Rows 1 h v (r.map bv) := st.stb_at 0 rfl
 have hsl := hR.sl (i := 0) (by rw [List.length_map]; exact h0)
 refine WO.valS (v := .bool false) (L.slnn hsl rfl) (WO.nil (WP.cond (t := false) rfl (WP.skip (WP.seq (WP.reg (WO.bslL (rows := []) st rfl (by decide) rfl (fun row hm => by cases hm) (fun eb h h8 st => ?_)))))))
 refine WO.appES st rfl h8 rfl (st.stb_at 1 rfl) (by decide) (by rw [List.length_map]; exact h0) (by rw [List.length_map]; omega) (fun nb h st => ?_)
 rw [List.length_map]
 refine WO.nil (WP.ret ?_)
 exact ⟨_, (res_cons (res_tmp (v := .sl nb 0 r.length none) rfl) (res_nil _ _)), _, rfl, (st.pick 1 rfl).tail⟩
theorem rsquare_t (D : HasT c) {fs : List Fact} {h : Heap} {vN vL vJ vK : V} {t : Lat} (ok : Lab.LatOK t) (st : St (.stb (fun h => LatR h vN vL vJ vK t) :: fs) h) :
  RunP c 36 [.agg (t.num vN vL vJ vK)] h fun v1 h1 => v1 = .bool true ∧ St (.stb (fun h => LatR h vN vL vJ vK t) :: fs) h1 := by
 have hn12 := ok.few
 have hpos := ok.pos
 refine RunP.fun_ D.f36 rfl (WP.seq (WP.reg (WO.boxFS st (L.box (l := [vN, vL, vJ, vK, .int .i64 (t.lo : Int), .int .i64 (t.hi : Int)]) rfl rfl) (fun p1 h st => ?_))))
 refine WO.valS (v := .bool false) rfl (WO.nil (WP.seq (WP.reg (WO.val (v := .ptr p1 0) (L.faddr rfl) (WO.val (v := vN) (L.loadB rfl (st.box_at 0 rfl) rfl) (WO.valS (v := .int .i64 (t.ns.length : Int)) (L.llenRn rfl (st.stb_at 1 rfl).N (SR_len _)) (WO.nil (WP.seq (WP.seq (WP.reg (WO.ifV (L.lss rfl rfl) (fun c1 => by exfalso; omega) (fun c1 => ?_))))))))))))
 refine WO.yes rfl (WO.val (v := .int .i64 (t.ns.length : Int)) rfl (WO.yes rfl (WO.ifV (L.gtr rfl rfl) (fun c2 => by exfalso; omega) (fun c2 => ?_))))
 refine WO.val (v := .bool false) rfl (WO.yes rfl (WO.val (v := .ptr p1 1) (L.faddr rfl) (WO.yes rfl (WO.val (v := vL) (L.loadB rfl (st.box_at 0 rfl) rfl) (WO.yes rfl (WO.val (v := .int .i64 (t.ns.length : Int)) (L.llenBTn rfl (st.stb_at 1 rfl).L ok.mlen) (WO.yes rfl (WO.val (v := .int .i64 (t.ns.length : Int)) rfl (WO.yes rfl (WO.ifV (L.neq rfl rfl) (fun c3 => by exfalso; exact c3 rfl) (fun c3 => ?_)))))))))))
 refine WO.valS (v := .bool false) rfl (WO.nil (WP.cond (t := false) rfl (WP.skip (WP.seq (WP.seq (WP.reg (WO.valS (v := .int .i64 0) rfl (WO.nil (WP.block (WP.loopG (α := Nat) (fun i env h => ∃ x1 x6 x7, (i ≤ t.ns.length) ∧ env = argsP [.agg [vN, vL, vJ, vK, .int .i64 (t.lo : Int), .int .i64 (t.hi : Int)], x1, .ptr p1 0, .int .i64 (t.ns.length : Int), .bool false, .int .i64 (i : Int), x6, x7] 0 Env.nil ∧ St (.box p1 [vN, vL, vJ, vK, .int .i64 (t.lo : Int), .int .i64 (t.hi : Int)] :: .stb (fun h => LatR h vN vL vJ vK t) :: fs) h) (fun i => t.ns.length - i) 0 ?_ ?_))))))))))
 ·exact ⟨(.bool false), .bot, .bot, Nat.zero_le _, by kernel_rfl, st⟩
 rintro i _ h ⟨x1, x6, x7, hi, rfl, st⟩
 refine WP.seq (WP.seq (WP.reg (WO.ifS (L.lss rfl rfl) (fun c1 => ?_) (fun c1 => ?_))))
 ·replace c1 : i < t.ns.length := by omega
  obtain ⟨u, r, hu1, hu2, hrl, hur⟩ := mat_row ok.good.sq (st.stb_at 1 rfl).L c1
  refine WO.nil (WP.cond (t := true) rfl (WP.skip (WP.seq (WP.block (WP.seq (WP.draw (WD.val (v := .ptr p1 1) (L.faddr rfl) (WD.val (v := vL) (L.loadB rfl (st.box_at 0 rfl) rfl) (WD.val (v := .int .i64 (i : Int)) rfl (WD.val (v := .ptr (slB vL) (slO vL + i * 1)) (L.iaddrBT (st.stb_at 1 rfl).L (by rw [ok.mlen]; omega) rfl rfl) (WD.val (v := u) (L.load rfl hu1) (WD.val (v := .int .i64 (t.ns.length : Int)) (L.llenRn rfl hu2 ((List.length_map _).trans hrl)) (WD.val (v := .int .i64 (t.ns.length : Int)) rfl (WD.ifV (L.neq rfl rfl) (fun _ c4 => by exfalso; exact c4 rfl) (fun _ c4 => ?_)))))))))))))))
  refine WD.val (v := .bool false) rfl (WD.yes rfl (WD.val (v := .int .i64 (i : Int)) rfl (WD.yes rfl (WD.ifV (L.gtr rfl rfl) (fun _ c2 => ?_) (fun _ c2 => ?_)))))
  ·replace c2 : 0 < i := by omega
   obtain ⟨x, hx⟩ : ∃ y, t.ns[i]? = some y := ⟨t.ns[i]'(by omega), List.getElem?_eq_getElem (by omega)⟩
   obtain ⟨y, hy⟩ : ∃ y, t.ns[i - 1]? = some y := ⟨t.ns[i - 1]'(by omega), List.getElem?_eq_getElem (by omega)⟩
   refine WD.yes rfl (WD.val (v := .bool true) rfl (WD.yes rfl (WD.val (v := .ptr p1 0) (L.faddr rfl) (WD.yes rfl (WD.val (v := vN) (L.loadB rfl (st.box_at 0 rfl) rfl) (WD.yes rfl (WD.val (v := .int .i64 (i : Int)) rfl (WD.yes rfl (WD.val (v := .ptr (slB vN) (slO vN + i * 1)) (L.iaddrZ (st.stb_at 1 rfl).N (by rw [SR_len]; omega) rfl rfl) (WD.yes rfl (WD.val (v := L.str x) (L.load rfl ((st.stb_at 1 rfl).N.load1Z (SR_at hx))) (WD.yes rfl (WD.val (v := .ptr p1 0) (L.faddr rfl) (WD.yes rfl (WD.val (v := vN) (L.loadB rfl (st.box_at 0 rfl) rfl) (WD.yes rfl (WD.val (v := .int .i64 (i : Int)) rfl (WD.yes rfl (WD.val (v := .int .i64 ((i - 1 : Nat) : Int)) (L.subE rfl rfl (by omega) (And.intro (by omega) (by omega))) (WD.yes rfl (WD.val (v := .ptr (slB vN) (slO vN + (i - 1) * 1)) (L.iaddrZ (st.stb_at 1 rfl).N (by rw [SR_len]; omega) rfl rfl) (WD.yes rfl (WD.val (v := L.str y) (L.load rfl ((st.stb_at 1 rfl).N.load1Z (SR_at hy))) (WD.yes rfl (WD.val (v := .bool false) (L.sleqF rfl rfl (ok.up c2 hx hy)) (WD.yes rfl (WD.val (v := .bool false) rfl (WD.valS (v := .bool false) rfl (WD.nil (WP.cond (t := false) rfl (WP.skip (WP.reg (WO.valS (v := .int .i64 ((i + 1 : Nat) : Int)) (L.addE rfl rfl (by omega) (And.intro (by omega) (by omega))) (WO.nil ?_))))))))))))))))))))))))))))))))))
   exact ⟨i + 1, (by omega), x1, (.bool true), (.bool false), by omega, by kernel_rfl, st⟩
  ·replace c2 : ¬ 0 < i := by omega
   refine WD.yes rfl (WD.val (v := .bool false) rfl (WD.no rfl (WD.no rfl (WD.no rfl (WD.no rfl (WD.no rfl (WD.no rfl (WD.no rfl (WD.no rfl (WD.no rfl (WD.no rfl (WD.no rfl (WD.no rfl (WD.yes rfl (WD.val (v := .bool false) rfl (WD.valS (v := .bool false) rfl (WD.nil (WP.cond (t := false) rfl (WP.skip (WP.reg (WO.valS (v := .int .i64 ((i + 1 : Nat) : Int)) (L.addE rfl rfl (by omega) (And.intro (by omega) (by omega))) (WO.nil ?_))))))))))))))))))))))
   exact ⟨i + 1, (by omega), x1, (.bool true), (.bool false), by omega, by kernel_rfl, st⟩
 ·replace c1 : ¬ (i < t.ns.length) := by omega
  refine WO.nil (WP.cond (t := false) rfl (WP.exit (WP.seq (WP.reg (WO.valS (v := .bool true) rfl (WO.nil (WP.ret ?_)))))))
  exact ⟨_, (res_cons (res_tmp (v := .bool true) rfl) (res_nil _ _)), rfl, st.tail⟩
end
end Go.Eng.Ytjgmahbgfbkhnaa
namespace Go.Eng.Ytjgmahbgfbkhnaa
open Go.Eng
noncomputable section
variable {c : Ctx}
structure HasU (c : Ctx) : Prop where
 f22 : T.get 22 c.funs = some i22
 f23 : T.get 23 c.funs = some i23
 t : HasT c
 s : HasS c
 l : HasH c
 f26 : T.get 26 c.funs = some i26
 f : HasF c
theorem rright_t (D : HasU c) {fs : List Fact} {h : Heap} {vN vL vJ vK : V} {t : Lat} (ok : Lab.LatOK t) (st : St (.stb (fun h => LatR h vN vL vJ vK t) :: fs) h) :
  RunP c 22 [.agg (t.num vN vL vJ vK)] h fun v1 h1 => v1 = .bool true ∧ St (.stb (fun h => LatR h vN vL vJ vK t) :: fs) h1 := by
 have hn12 := ok.few
 have hpos := ok.pos
 refine RunP.fun_ D.f22 rfl (WP.seq (WP.reg (WO.boxFS st (L.box (l := [vN, vL, vJ, vK, .int .i64 (t.lo : Int), .int .i64 (t.hi : Int)]) rfl rfl) (fun p1 h st => ?_))))
 refine WO.valS (v := .bool false) rfl (WO.nil (WP.seq (WP.seq (WP.reg (WO.val (v := .agg [vN, vL, vJ, vK, .int .i64 (t.lo : Int), .int .i64 (t.hi : Int)]) (L.loadnB rfl (st.box_at 0 rfl) rfl rfl rfl) (WO.callF rfl (rsquare_t D.t ok (st.pick 1 rfl)) ?_))))))
 rintro _ h ⟨rfl, st⟩
 refine WO.valS (v := .bool false) rfl (WO.nil (WP.cond (t := false) rfl (WP.skip (WP.seq (WP.reg (WO.val (v := .ptr p1 0) (L.faddr rfl) (WO.val (v := vN) (L.loadB rfl (st.box_at 1 rfl) rfl) (WO.valS (v := .int .i64 (t.ns.length : Int)) (L.llenRn rfl (st.stb_at 0 rfl).N (SR_len _)) (WO.nil (WP.seq (WP.seq (WP.reg (WO.valS (v := .int .i64 0) rfl (WO.nil (WP.block (WP.loopG (α := Nat) (fun i env h => ∃ x1 x6 x7 x8 x9 x10 x11 x12, (i ≤ t.ns.length) ∧ env = argsP [.agg [vN, vL, vJ, vK, .int .i64 (t.lo : Int), .int .i64 (t.hi : Int)], x1, .ptr p1 0, .bool false, .int .i64 (i : Int), .int .i64 (t.ns.length : Int), x6, x7, x8, x9, x10, x11, x12] 0 Env.nil ∧ St (.box p1 [vN, vL, vJ, vK, .int .i64 (t.lo : Int), .int .i64 (t.hi : Int)] :: .stb (fun h => LatR h vN vL vJ vK t) :: fs) h) (fun i => t.ns.length - i) 0 ?_ ?_))))))))))))))))
 ·exact ⟨(.bool false), .bot, .bot, .bot, .bot, .bot, .bot, .bot, Nat.zero_le _, by kernel_rfl, (st.pick 1 rfl)⟩
 rintro i _ h ⟨x1, x6, x7, x8, x9, x10, x11, x12, hi, rfl, st⟩
 refine WP.seq (WP.seq (WP.reg (WO.ifS (L.lss rfl rfl) (fun c1 => ?_) (fun c1 => ?_))))
 ·replace c1 : i < t.ns.length := by omega
  obtain ⟨u, r, hu1, hu2, hrl, hur⟩ := mat_row ok.good.sq (st.stb_at 1 rfl).L c1
  refine WO.nil (WP.cond (t := true) rfl (WP.skip (WP.seq (WP.block (WP.seq (WP.seq (WP.reg (WO.val (v := .ptr p1 1) (L.faddr rfl) (WO.val (v := vL) (L.loadB rfl (st.box_at 0 rfl) rfl) (WO.val (v := .ptr (slB vL) (slO vL + i * 1)) (L.iaddrBT (st.stb_at 1 rfl).L (by rw [ok.mlen]; omega) rfl rfl) (WO.val (v := u) (L.load rfl hu1) (WO.val (v := .ptr (slB u) (slO u + i * 1)) (L.iaddrZ hu2 (by rw [List.length_map]; omega) rfl rfl) (WO.val (v := .bool true) (L.load rfl (by rw [bv_at hu2 (hur i c1), ok.good.refl i c1])) (WO.valS (v := .bool false) rfl (WO.nil (WP.cond (t := false) rfl (WP.skip (WP.seq (WP.reg (WO.valS (v := .int .i64 0) rfl (WO.nil (WP.block (WP.loopG (α := Nat) (fun j env h => ∃ x1 x9 x10 x11 x12, (j ≤ t.ns.length) ∧ env = argsP [.agg [vN, vL, vJ, vK, .int .i64 (t.lo : Int), .int .i64 (t.hi : Int)], x1, .ptr p1 0, .bool false, .int .i64 (i : Int), .int .i64 (t.ns.length : Int), .bool true, .bool false, .int .i64 (j : Int), x9, x10, x11, x12] 0 Env.nil ∧ St (.box p1 [vN, vL, vJ, vK, .int .i64 (t.lo : Int), .int .i64 (t.hi : Int)] :: .stb (fun h => LatR h vN vL vJ vK t) :: fs) h) (fun j => t.ns.length - j) 0 ?_ ?_)))))))))))))))))))))))
  ·exact ⟨x1, x9, x10, x11, x12, Nat.zero_le _, by kernel_rfl, st⟩
  rintro j _ h ⟨x1, x9, x10, x11, x12, hj, rfl, st⟩
  refine WP.seq (WP.seq (WP.reg (WO.ifS (L.lss rfl rfl) (fun c2 => ?_) (fun c2 => ?_))))
  ·replace c2 : j < t.ns.length := by omega
   refine WO.nil (WP.cond (t := true) rfl (WP.skip (WP.seq (WP.block (WP.seq (WP.reg (WO.valS (v := .int .i64 0) rfl (WO.nil (WP.block (WP.loopG (α := Nat) (fun k env h => ∃ x1 x11 x12, (k ≤ t.ns.length) ∧ env = argsP [.agg [vN, vL, vJ, vK, .int .i64 (t.lo : Int), .int .i64 (t.hi : Int)], x1, .ptr p1 0, .bool false, .int .i64 (i : Int), .int .i64 (t.ns.length : Int), .bool true, .bool false, .int .i64 (j : Int), .bool true, .int .i64 (k : Int), x11, x12] 0 Env.nil ∧ St (.box p1 [vN, vL, vJ, vK, .int .i64 (t.lo : Int), .int .i64 (t.hi : Int)] :: .stb (fun h => LatR h vN vL vJ vK t) :: fs) h) (fun k => t.ns.length - k) 0 ?_ ?_))))))))))
   ·exact ⟨x1, x11, x12, Nat.zero_le _, by kernel_rfl, st⟩
   rintro k _ h ⟨x1, x11, x12, hk, rfl, st⟩
   refine WP.seq (WP.seq (WP.reg (WO.ifS (L.lss rfl rfl) (fun c3 => ?_) (fun c3 => ?_))))
   ·replace c3 : k < t.ns.length := by omega
    obtain ⟨u, r, hu1, hu2, hrl, hur⟩ := mat_row ok.good.sq (st.stb_at 1 rfl).L c1
    obtain ⟨u2, r2, hw1, hw2, hrl2, hur2⟩ := mat_row ok.good.sq (st.stb_at 1 rfl).L c2
    refine WO.nil (WP.cond (t := true) rfl (WP.skip (WP.seq (WP.block (WP.seq (WP.reg (WO.val (v := .ptr p1 1) (L.faddr rfl) (WO.val (v := vL) (L.loadB rfl (st.box_at 0 rfl) rfl) (WO.val (v := .ptr (slB vL) (slO vL + i * 1)) (L.iaddrBT (st.stb_at 1 rfl).L (by rw [ok.mlen]; omega) rfl rfl) (WO.val (v := u) (L.load rfl hu1) (WO.val (v := .ptr (slB u) (slO u + j * 1)) (L.iaddrZ hu2 (by rw [List.length_map]; omega) rfl rfl) ?_)))))))))))
    rcases bool_or (Lab.at2 t.M i j) with hqa | hqa
    ·refine WO.val (v := .bool false) (L.load rfl (by rw [bv_at hu2 (hur j c2), hqa])) (WO.no rfl (WO.no rfl (WO.no rfl (WO.no rfl (WO.no rfl (WO.no rfl (WO.no rfl (WO.no rfl (WO.val (v := .bool false) rfl (WO.no rfl (WO.no rfl (WO.no rfl (WO.no rfl (WO.no rfl (WO.no rfl (WO.no rfl (WO.no rfl (WO.no rfl (WO.valS (v := .bool false) rfl (WO.nil (WP.cond (t := false) rfl (WP.skip (WP.reg (WO.valS (v := .int .i64 ((k + 1 : Nat) : Int)) (L.addE rfl rfl (by omega) (And.intro (by omega) (by omega))) (WO.nil ?_)))))))))))))))))))))))))
     exact ⟨k + 1, (by omega), x1, (.bool true), (.bool false), by omega, by kernel_rfl, st⟩
    ·refine WO.val (v := .bool true) (L.load rfl (by rw [bv_at hu2 (hur j c2), hqa])) (WO.yes rfl (WO.val (v := .ptr p1 1) (L.faddr rfl) (WO.yes rfl (WO.val (v := vL) (L.loadB rfl (st.box_at 0 rfl) rfl) (WO.yes rfl (WO.val (v := .int .i64 (j : Int)) rfl (WO.yes rfl (WO.val (v := .ptr (slB vL) (slO vL + j * 1)) (L.iaddrBT (st.stb_at 1 rfl).L (by rw [ok.mlen]; omega) rfl rfl) (WO.yes rfl (WO.val (v := u2) (L.load rfl hw1) (WO.yes rfl (WO.val (v := .int .i64 (k : Int)) rfl (WO.yes rfl (WO.val (v := .ptr (slB u2) (slO u2 + k * 1)) (L.iaddrZ hw2 (by rw [List.length_map]; omega) rfl rfl) (WO.yes rfl ?_)))))))))))))))
     rcases bool_or (Lab.at2 t.M j k) with hqb | hqb
     ·refine WO.val (v := .bool false) (L.load rfl (by rw [bv_at hw2 (hur2 k c3), hqb])) (WO.val (v := .bool false) rfl (WO.no rfl (WO.no rfl (WO.no rfl (WO.no rfl (WO.no rfl (WO.no rfl (WO.no rfl (WO.no rfl (WO.no rfl (WO.valS (v := .bool false) rfl (WO.nil (WP.cond (t := false) rfl (WP.skip (WP.reg (WO.valS (v := .int .i64 ((k + 1 : Nat) : Int)) (L.addE rfl rfl (by omega) (And.intro (by omega) (by omega))) (WO.nil ?_)))))))))))))))))
      exact ⟨k + 1, (by omega), x1, (.bool true), (.bool false), by omega, by kernel_rfl, st⟩
     ·refine WO.val (v := .bool true) (L.load rfl (by rw [bv_at hw2 (hur2 k c3), hqb])) (WO.val (v := .bool true) rfl (WO.yes rfl (WO.val (v := .ptr p1 1) (L.faddr rfl) (WO.yes rfl (WO.val (v := vL) (L.loadB rfl (st.box_at 0 rfl) rfl) (WO.yes rfl (WO.val (v := .int .i64 (i : Int)) rfl (WO.yes rfl (WO.val (v := .ptr (slB vL) (slO vL + i * 1)) (L.iaddrBT (st.stb_at 1 rfl).L (by rw [ok.mlen]; omega) rfl rfl) (WO.yes rfl (WO.val (v := u) (L.load rfl hu1) (WO.yes rfl (WO.val (v := .int .i64 (k : Int)) rfl (WO.yes rfl (WO.val (v := .ptr (slB u) (slO u + k * 1)) (L.iaddrZ hu2 (by rw [List.length_map]; omega) rfl rfl) (WO.yes rfl (WO.val (v := .bool true) (L.load rfl (by rw [bv_at hu2 (hur k c3), ok.good.trans _ _ _ hqa hqb])) (WO.yes rfl (WO.val (v := .bool false) rfl (WO.valS (v := .bool false) rfl (WO.nil (WP.cond (t := false) rfl (WP.skip (WP.reg (WO.valS (v := .int .i64 ((k + 1 : Nat) : Int)) (L.addE rfl rfl (by omega) (And.intro (by omega) (by omega))) (WO.nil ?_))))))))))))))))))))))))))
      exact ⟨k + 1, (by omega), x1, (.bool true), (.bool false), by omega, by kernel_rfl, st⟩
   ·replace c3 : ¬ (k < t.ns.length) := by omega
    refine WO.nil (WP.cond (t := false) rfl (WP.exit (WP.reg (WO.valS (v := .int .i64 ((j + 1 : Nat) : Int)) (L.addE rfl rfl (by omega) (And.intro (by omega) (by omega))) (WO.nil ?_)))))
    exact ⟨j + 1, (by omega), x1, (.bool true), (.int .i64 (k : Int)), (.bool false), x12, by omega, by kernel_rfl, st⟩
  ·replace c2 : ¬ (j < t.ns.length) := by omega
   refine WO.nil (WP.cond (t := false) rfl (WP.exit (WP.reg (WO.valS (v := .int .i64 ((i + 1 : Nat) : Int)) (L.addE rfl rfl (by omega) (And.intro (by omega) (by omega))) (WO.nil ?_)))))
   exact ⟨i + 1, (by omega), x1, (.bool true), (.bool false), (.int .i64 (j : Int)), (.bool false), x10, x11, x12, by omega, by kernel_rfl, st⟩
 ·replace c1 : ¬ (i < t.ns.length) := by omega
  refine WO.nil (WP.cond (t := false) rfl (WP.exit (WP.seq (WP.reg (WO.val (v := .ptr p1 0) (L.faddr rfl) (WO.val (v := vN) (L.loadB rfl (st.box_at 0 rfl) rfl) (WO.val (v := .ptr p1 1) (L.faddr rfl) (WO.val (v := vL) (L.loadB rfl (st.box_at 0 rfl) rfl) ?_))))))))
  have s2 := ((st.pick 1 rfl)).imp (Q := fun h => BTab h vL t.M) fun h hx => hx.L
  have s3 := (s2.pick 1 rfl).imp (Q := fun h => Rows 1 h vN (SR t.ns)) fun h hx => hx.N
  refine WO.callF rfl (lattice_c D.l (by omega) rfl ok.good.sq (s3.pick 2 rfl |>.pick 1 rfl)) ?_
  rintro v1 h hp
  rw [ok.good.ok] at hp
  obtain ⟨j1, k1, rfl, st⟩ := hp
  rw [← ok.J, ← ok.K] at st
  rw [← ok.lo, ← ok.hi]
  replace st : St (.stb (fun h => LatR h vN vL j1 k1 t) :: .stb (fun h => LatR h vN vL vJ vK t) :: .box p1 [vN, vL, vJ, vK, .int .i64 (t.lo : Int), .int .i64 (t.hi : Int)] :: fs) h := (St.and (St.pick (St.and (St.pick (St.and st) 1 rfl)) 1 rfl)).imp0 fun h hx => ⟨hx.2.1, hx.1, hx.2.2.1, hx.2.2.2⟩
  refine WO.val (v := .agg [vN, vL, j1, k1, .int .i64 (t.lo : Int), .int .i64 (t.hi : Int)]) rfl (WO.val (v := .bool true) rfl (WO.boxFS st L.alloc (fun p2 h st => ?_)))
  refine WO.storeF (row' := [vN, vL, j1, k1, .int .i64 (t.lo : Int), .int .i64 (t.hi : Int)]) st 0 rfl rfl rfl rfl rfl rfl rfl (fun h st => ?_)
  refine WO.valS (v := .bool true) rfl (WO.nil (WP.seq (WP.reg (WO.yes rfl (WO.val (v := .agg [vN, vL, vJ, vK, .int .i64 (t.lo : Int), .int .i64 (t.hi : Int)]) (L.loadnB rfl (st.box_at 3 rfl) rfl rfl rfl) (WO.yes rfl (WO.val (v := .agg [vN, vL, j1, k1, .int .i64 (t.lo : Int), .int .i64 (t.hi : Int)]) (L.loadnB rfl (st.box_at 0 rfl) rfl rfl rfl) (WO.yes rfl (WO.callF rfl (same_t D.s (Lat.OK.small ok) ((st.pick 1 rfl).pick 2 rfl)) ?_)))))))))
  rintro _ h ⟨rfl, st⟩
  refine WO.valS (v := .bool true) rfl (WO.nil (WP.ret ?_))
  exact ⟨_, (res_cons (res_tmp (v := .bool true) rfl) (res_nil _ _)), rfl, (((st.pick 1 rfl).tail.pick 1 rfl).tail.pick 1 rfl).tail⟩
theorem lright_t (D : HasU c) {fs : List Fact} {h : Heap} {vN vL vJ vK : V} {t : Lat} (ok : Lab.LatOK t) (st : St (.stb (fun h => LatR h vN vL vJ vK t) :: fs) h) :
  RunP c 23 [.agg (t.num vN vL vJ vK)] h fun v1 h1 => v1 = .bool true ∧ St (.stb (fun h => LatR h vN vL vJ vK t) :: fs) h1 := by
 have hn12 := ok.few
 have hpos := ok.pos
 have evN := ok.nsl (st.stb_at 0 rfl)
 have evL := ok.lsl (st.stb_at 0 rfl)
 refine RunP.fun_ D.f23 rfl (WP.seq (WP.reg (WO.boxFS st (L.box (l := [vN, vL, vJ, vK, .int .i64 (t.lo : Int), .int .i64 (t.hi : Int)]) rfl rfl) (fun p1 h st => ?_))))
 refine WO.valS (v := .bool false) rfl (WO.nil (WP.seq (WP.reg (WO.val (v := .ptr p1 0) (L.faddr rfl) (WO.val (v := vN) (L.loadB rfl (st.box_at 0 rfl) rfl) (WO.valS (v := .int .i64 (t.ns.length : Int)) (L.llenRn rfl (st.stb_at 1 rfl).N (SR_len _)) (WO.nil (WP.seq (WP.seq (WP.reg (WO.ifV (L.lss rfl rfl) (fun c1 => by exfalso; omega) (fun c1 => ?_))))))))))))
 refine WO.yes rfl (WO.val (v := .int .i64 (t.ns.length : Int)) rfl (WO.yes rfl (WO.ifV (L.gtr rfl rfl) (fun c2 => by exfalso; omega) (fun c2 => ?_))))
 refine WO.val (v := .bool false) rfl (WO.yes rfl (WO.val (v := .ptr p1 1) (L.faddr rfl) (WO.yes rfl (WO.val (v := vL) (L.loadB rfl (st.box_at 0 rfl) rfl) (WO.yes rfl (WO.val (v := .int .i64 (t.ns.length : Int)) rfl (WO.yes rfl (WO.callF rfl (sqB_t D.t (by rw [ok.mlen]; omega) ok.mlen (fun r hr => ok.good.sq.row r hr) (((st.pick 1 rfl)).imp (Q := fun h => BTab h vL t.M) fun h hx => hx.L)) ?_))))))))
 rintro _ h ⟨rfl, st⟩
 replace st : St (.stb (fun h => LatR h vN vL vJ vK t) :: .box p1 [vN, vL, vJ, vK, .int .i64 (t.lo : Int), .int .i64 (t.hi : Int)] :: fs) h := st.tail
 refine WO.yes rfl (WO.val (v := .bool false) rfl (WO.val (v := .bool false) rfl (WO.yes rfl (WO.val (v := .ptr p1 2) (L.faddr rfl) (WO.yes rfl (WO.val (v := vJ) (L.loadB rfl (st.box_at 1 rfl) rfl) (WO.yes rfl (WO.val (v := .int .i64 (t.ns.length : Int)) rfl (WO.yes rfl (WO.callF rfl (sqI_t D.t (by rw [ok.jlen]; omega) ok.jlen ok.jr ((st).imp (Q := fun h => ITab h vJ t.J) fun h hx => hx.J)) ?_))))))))))
 rintro _ h ⟨rfl, st⟩
 replace st : St (.stb (fun h => LatR h vN vL vJ vK t) :: .box p1 [vN, vL, vJ, vK, .int .i64 (t.lo : Int), .int .i64 (t.hi : Int)] :: fs) h := st.tail
 refine WO.yes rfl (WO.val (v := .bool false) rfl (WO.val (v := .bool false) rfl (WO.yes rfl (WO.val (v := .ptr p1 3) (L.faddr rfl) (WO.yes rfl (WO.val (v := vK) (L.loadB rfl (st.box_at 1 rfl) rfl) (WO.yes rfl (WO.val (v := .int .i64 (t.ns.length : Int)) rfl (WO.yes rfl (WO.callF rfl (sqI_t D.t (by rw [ok.klen]; omega) ok.klen ok.kr ((st).imp (Q := fun h => ITab h vK t.K) fun h hx => hx.K)) ?_))))))))))
 rintro _ h ⟨rfl, st⟩
 replace st : St (.stb (fun h => LatR h vN vL vJ vK t) :: .box p1 [vN, vL, vJ, vK, .int .i64 (t.lo : Int), .int .i64 (t.hi : Int)] :: fs) h := st.tail
 refine WO.yes rfl (WO.val (v := .bool false) rfl (WO.valS (v := .bool false) rfl (WO.nil (WP.cond (t := false) rfl (WP.skip (WP.seq (WP.reg (WO.mkslFS st rfl rfl (by decide) rfl (by omega) (fun lb h st => ?_)))))))))
 refine WO.nil (WP.seq (WP.seq (WP.reg (WO.valS (v := .int .i64 (t.ns.length : Int)) rfl (WO.valS (v := .int .i64 0) rfl (WO.nil (WP.block ?_)))))))
 obtain ⟨us, husl, s2⟩ := (((st.pick 1 rfl)).imp (Q := fun h => BTab h vL t.M) fun h hx => hx.L).exB
 rw [ok.mlen] at husl
 replace st : St (.stb (fun h => Rows 1 h vL (us.map fun x => [x])) :: .stb (fun h => BRows h t.M us) :: .stb (fun h => LatR h vN vL vJ vK t) :: .cel lb 1 (cpyR t.ns.length 0 ([])) :: .box p1 [vN, vL, vJ, vK, .int .i64 (t.lo : Int), .int .i64 (t.hi : Int)] :: fs) h := s2
 refine WP.loopG (α := Nat) (fun i env h => ∃ bl x1 x7 x8 x9, (i ≤ t.ns.length ∧ bl.length = i) ∧ env = argsP [.agg [vN, vL, vJ, vK, .int .i64 (t.lo : Int), .int .i64 (t.hi : Int)], x1, .ptr p1 0, .int .i64 (t.ns.length : Int), .bool false, .int .i64 (i : Int), .int .i64 (t.ns.length : Int), x7, x8, x9, .sl lb 0 t.ns.length (some t.ns.length)] 0 Env.nil ∧ St (.cel lb 1 (cpyR t.ns.length i bl) :: .stb (fun h => Rows 1 h vL (us.map fun x => [x])) :: .stb (fun h => BRows h t.M us) :: .stb (fun h => LatR h vN vL vJ vK t) :: .box p1 [vN, vL, vJ, vK, .int .i64 (t.lo : Int), .int .i64 (t.hi : Int)] :: (tabF bl (t.M.take i) ++ fs)) h) (fun i => t.ns.length - i) 0 ?_ ?_
 ·exact ⟨[], (.bool false), .bot, .bot, .bot, ⟨Nat.zero_le _, rfl⟩, by kernel_rfl, (st.pick 3 rfl)⟩
 rintro i _ h ⟨bl, x1, x7, x8, x9, ⟨hi, hbl⟩, rfl, st⟩
 refine WP.seq (WP.reg (WO.ifS (L.lss rfl rfl) (fun c1 => ?_) (fun c1 => ?_)))
 ·replace c1 : i < t.ns.length := by omega
  obtain ⟨r, hr, hrl⟩ := ok.good.sq.at c1
  obtain ⟨u, hu⟩ : ∃ u, us[i]? = some u := ⟨us[i]'(by omega), List.getElem?_eq_getElem (by omega)⟩
  have hu2 : Rows 1 h u (r.map bv) := (st.stb_at 2 rfl).row hr hu
  have hu1 : h.load1 (slB vL) (slO vL + i * 1) = some u := (st.stb_at 1 rfl).load1Z (by rw [List.getElem?_map, hu]; rfl)
  have hri : r[i]? = some true := by
   obtain ⟨x, hx⟩ : ∃ x, r[i]? = some x := ⟨r[i]'(by omega), List.getElem?_eq_getElem (by omega)⟩
   have e := ok.good.refl i c1
   rw [Lab.at2_some hr, hx] at e
   rw [hx, show x = true from e]
  refine WO.nil (WP.seq (WP.cond (t := true) rfl (WP.skip (WP.seq (WP.block (WP.seq (WP.reg (WO.valS (v := .int .i64 (i : Int)) rfl (WO.nil (WP.seq (WP.seq (WP.draw (WD.val (v := .int .i64 (i : Int)) rfl (WD.ifV (L.gtr rfl rfl) (fun _ c2 => ?_) (fun _ c2 => ?_)))))))))))))))
  ·replace c2 : 0 < i := by omega
   obtain ⟨x, hx⟩ : ∃ y, t.ns[i]? = some y := ⟨t.ns[i]'(by omega), List.getElem?_eq_getElem (by omega)⟩
   obtain ⟨y, hy⟩ : ∃ y, t.ns[i - 1]? = some y := ⟨t.ns[i - 1]'(by omega), List.getElem?_eq_getElem (by omega)⟩
   refine WD.val (v := .bool true) rfl (WD.yes rfl (WD.val (v := .ptr p1 0) (L.faddr rfl) (WD.yes rfl (WD.val (v := vN) (L.loadB rfl (st.box_at 4 rfl) rfl) (WD.yes rfl (WD.val (v := .int .i64 (i : Int)) rfl (WD.yes rfl (WD.val (v := .ptr (slB vN) (slO vN + i * 1)) (L.iaddrZ (st.stb_at 3 rfl).N (by rw [SR_len]; omega) rfl rfl) (WD.yes rfl (WD.val (v := L.str x) (L.load rfl ((st.stb_at 3 rfl).N.load1Z (SR_at hx))) (WD.yes rfl (WD.val (v := .ptr p1 0) (L.faddr rfl) (WD.yes rfl (WD.val (v := vN) (L.loadB rfl (st.box_at 4 rfl) rfl) (WD.yes rfl (WD.val (v := .int .i64 (i : Int)) rfl (WD.yes rfl (WD.val (v := .int .i64 ((i - 1 : Nat) : Int)) (L.subE rfl rfl (by omega) (And.intro (by omega) (by omega))) (WD.yes rfl (WD.val (v := .ptr (slB vN) (slO vN + (i - 1) * 1)) (L.iaddrZ (st.stb_at 3 rfl).N (by rw [SR_len]; omega) rfl rfl) (WD.yes rfl (WD.val (v := L.str y) (L.load rfl ((st.stb_at 3 rfl).N.load1Z (SR_at hy))) (WD.yes rfl (WD.val (v := .bool false) (L.sleqF rfl rfl (ok.up c2 hx hy)) (WD.val (v := .bool false) rfl (WD.val (v := .bool false) rfl (WD.yes rfl (WD.val (v := .ptr p1 1) (L.faddr rfl) (WD.yes rfl (WD.val (v := vL) (L.loadB rfl (st.box_at 4 rfl) rfl) (WD.yes rfl (WD.val (v := .int .i64 (i : Int)) rfl (WD.yes rfl (WD.val (v := .ptr (slB vL) (slO vL + i * 1)) (L.iaddrBT (st.stb_at 3 rfl).L (by rw [ok.mlen]; omega) rfl rfl) (WD.yes rfl (WD.val (v := u) (L.load rfl hu1) (WD.yes rfl (WD.val (v := .int .i64 (i : Int)) rfl (WD.yes rfl (WD.val (v := .ptr (slB u) (slO u + i * 1)) (L.iaddrZ hu2 (by rw [List.length_map]; omega) rfl rfl) (WD.yes rfl (WD.val (v := .bool true) (L.load rfl (bv_at hu2 hri)) (WD.yes rfl (WD.val (v := .bool false) rfl (WD.valS (v := .bool false) rfl (WD.nil (WP.cond (t := false) rfl (WP.skip (WP.reg (WO.val (v := .ptr p1 1) (L.faddr rfl) (WO.val (v := vL) (L.loadB rfl (st.box_at 4 rfl) rfl) (WO.val (v := .ptr (slB vL) (slO vL + i * 1)) (L.iaddrBT (st.stb_at 3 rfl).L (by rw [ok.mlen]; omega) rfl rfl) (WO.val (v := u) (L.load rfl hu1) (WO.callF rfl (clone_t D.t (by omega) (by omega) (((st.pick 2 rfl)).imp (Q := fun h => Rows 1 h u (r.map bv)) fun h hx => hx.row hr hu)) ?_))))))))))))))))))))))))))))))))))))))))))))))))))))))
   rintro _ h ⟨nb, rfl, st⟩
   rw [hrl]
   replace st : St (.cel nb 1 (r.map bv) :: .stb (fun h => BRows h t.M us) :: .cel lb 1 (cpyR t.ns.length i bl) :: .stb (fun h => Rows 1 h vL (us.map fun x => [x])) :: .stb (fun h => LatR h vN vL vJ vK t) :: .box p1 [vN, vL, vJ, vK, .int .i64 (t.lo : Int), .int .i64 (t.hi : Int)] :: (tabF bl (t.M.take i) ++ fs)) h := (st.pick 1 rfl).tail
   refine WO.val (v := .ptr lb (0 + i * 1)) (L.iaddr rfl rfl c1) (WO.storeCelF (st.pick 2 rfl) rfl (show _ = some [V.sl nb 0 t.ns.length none] from rfl) (by rw [cpyR_len hbl hi]; exact c1) (fun h st => ?_))
   rw [cpyR_set hbl c1] at st
   refine WO.nil (WP.reg (WO.valS (v := .int .i64 ((i + 1 : Nat) : Int)) (L.addE rfl rfl (by omega) (And.intro (by omega) (by omega))) (WO.nil ?_)))
   have st2 := St.snocG (gs := [_, _, _, _, _]) (l := tabF bl (t.M.take i)) (((st.pick 3 rfl).pick 1 rfl).pick 2 rfl)
   rw [show tabF bl (t.M.take i) ++ [_] = tabF (bl ++ [nb]) (t.M.take (i + 1)) from by rw [take_snoc hr, tabF_snoc (by rw [List.length_take, ok.mlen]; omega)]; rfl] at st2
   replace st := st2
   exact ⟨i + 1, (by omega), (bl ++ [nb]), x1, (.bool true), (.int .i64 (i : Int)), (.bool false), ⟨by omega, by simp [hbl]⟩, by kernel_rfl, st⟩
  ·replace c2 : ¬ 0 < i := by omega
   refine WD.val (v := .bool false) rfl (WD.no rfl (WD.no rfl (WD.no rfl (WD.no rfl (WD.no rfl (WD.no rfl (WD.no rfl (WD.no rfl (WD.no rfl (WD.no rfl (WD.no rfl (WD.no rfl (WD.val (v := .bool false) rfl (WD.val (v := .bool false) rfl (WD.yes rfl (WD.val (v := .ptr p1 1) (L.faddr rfl) (WD.yes rfl (WD.val (v := vL) (L.loadB rfl (st.box_at 4 rfl) rfl) (WD.yes rfl (WD.val (v := .int .i64 (i : Int)) rfl (WD.yes rfl (WD.val (v := .ptr (slB vL) (slO vL + i * 1)) (L.iaddrBT (st.stb_at 3 rfl).L (by rw [ok.mlen]; omega) rfl rfl) (WD.yes rfl (WD.val (v := u) (L.load rfl hu1) (WD.yes rfl (WD.val (v := .int .i64 (i : Int)) rfl (WD.yes rfl (WD.val (v := .ptr (slB u) (slO u + i * 1)) (L.iaddrZ hu2 (by rw [List.length_map]; omega) rfl rfl) (WD.yes rfl (WD.val (v := .bool true) (L.load rfl (bv_at hu2 hri)) (WD.yes rfl (WD.val (v := .bool false) rfl (WD.valS (v := .bool false) rfl (WD.nil (WP.cond (t := false) rfl (WP.skip (WP.reg (WO.val (v := .ptr p1 1) (L.faddr rfl) (WO.val (v := vL) (L.loadB rfl (st.box_at 4 rfl) rfl) (WO.val (v := .ptr (slB vL) (slO vL + i * 1)) (L.iaddrBT (st.stb_at 3 rfl).L (by rw [ok.mlen]; omega) rfl rfl) (WO.val (v := u) (L.load rfl hu1) (WO.callF rfl (clone_t D.t (by omega) (by omega) (((st.pick 2 rfl)).imp (Q := fun h => Rows 1 h u (r.map bv)) fun h hx => hx.row hr hu)) ?_))))))))))))))))))))))))))))))))))))))))))
   rintro _ h ⟨nb, rfl, st⟩
   rw [hrl]
   replace st : St (.cel nb 1 (r.map bv) :: .stb (fun h => BRows h t.M us) :: .cel lb 1 (cpyR t.ns.length i bl) :: .stb (fun h => Rows 1 h vL (us.map fun x => [x])) :: .stb (fun h => LatR h vN vL vJ vK t) :: .box p1 [vN, vL, vJ, vK, .int .i64 (t.lo : Int), .int .i64 (t.hi : Int)] :: (tabF bl (t.M.take i) ++ fs)) h := (st.pick 1 rfl).tail
   refine WO.val (v := .ptr lb (0 + i * 1)) (L.iaddr rfl rfl c1) (WO.storeCelF (st.pick 2 rfl) rfl (show _ = some [V.sl nb 0 t.ns.length none] from rfl) (by rw [cpyR_len hbl hi]; exact c1) (fun h st => ?_))
   rw [cpyR_set hbl c1] at st
   refine WO.nil (WP.reg (WO.valS (v := .int .i64 ((i + 1 : Nat) : Int)) (L.addE rfl rfl (by omega) (And.intro (by omega) (by omega))) (WO.nil ?_)))
   have st2 := St.snocG (gs := [_, _, _, _, _]) (l := tabF bl (t.M.take i)) (((st.pick 3 rfl).pick 1 rfl).pick 2 rfl)
   rw [show tabF bl (t.M.take i) ++ [_] = tabF (bl ++ [nb]) (t.M.take (i + 1)) from by rw [take_snoc hr, tabF_snoc (by rw [List.length_take, ok.mlen]; omega)]; rfl] at st2
   replace st := st2
   exact ⟨i + 1, (by omega), (bl ++ [nb]), x1, (.bool true), (.int .i64 (i : Int)), (.bool false), ⟨by omega, by simp [hbl]⟩, by kernel_rfl, st⟩
 ·replace c1 : ¬ (i < t.ns.length) := by omega
  have ei : i = t.ns.length := by omega
  rw [ei, List.take_of_length_le (by rw [ok.mlen]; omega), cpyR_all] at st
  rw [ei]
  rw [ei] at hbl
  have hlen : ((bl.map fun b => V.sl b 0 t.ns.length none).map fun x => [x]).length = t.ns.length := by rw [List.length_map, List.length_map, hbl]
  replace st : St (.stb (fun h => Rows 1 h (.sl lb 0 t.ns.length (some t.ns.length)) ((bl.map fun b => V.sl b 0 t.ns.length none).map fun x => [x])) :: .stb (fun h => Rows 1 h vL (us.map fun x => [x])) :: .stb (fun h => BRows h t.M us) :: .stb (fun h => LatR h vN vL vJ vK t) :: .box p1 [vN, vL, vJ, vK, .int .i64 (t.lo : Int), .int .i64 (t.hi : Int)] :: (tabF bl t.M ++ fs)) h := by have := St.celStill (st) (some t.ns.length); rw [hlen] at this; exact this
  replace st : St (.stb (TabV lb 0 t.ns.length bl) :: .stb (fun h => Rows 1 h (.sl lb 0 t.ns.length (some t.ns.length)) ((bl.map fun b => V.sl b 0 t.ns.length none).map fun x => [x])) :: .stb (fun h => Rows 1 h vL (us.map fun x => [x])) :: .stb (fun h => BRows h t.M us) :: .stb (fun h => LatR h vN vL vJ vK t) :: .box p1 [vN, vL, vJ, vK, .int .i64 (t.lo : Int), .int .i64 (t.hi : Int)] :: (tabF bl t.M ++ fs)) h := st.imp fun h hx a b hb => ⟨_, hx.load1 (by rw [List.getElem?_map, List.getElem?_map, hb]; rfl)⟩
  replace st : St (.stb (fun h => Rows 1 h (.sl lb 0 t.ns.length (some t.ns.length)) ((bl.map fun b => V.sl b 0 t.ns.length none).map fun x => [x])) :: .stb (fun h => LatR h vN vL vJ vK t) :: .box p1 [vN, vL, vJ, vK, .int .i64 (t.lo : Int), .int .i64 (t.hi : Int)] :: .stb (TabV lb 0 t.ns.length bl) :: (tabF bl t.M ++ fs)) h := (((((st.pick 2 rfl).tail.pick 2 rfl).tail.pick 3 rfl).pick 3 rfl).pick 3 rfl)
  refine WO.nil (WP.seq (WP.cond (t := false) rfl (WP.exit (WP.seq (WP.reg (WO.callF rfl (closed_c D.f26 (by omega) hbl ok.good.sq (St.rot (gs := [_, _, _]) (l := tabF bl t.M) st)) ?_))))))
  rintro _ h st2
  rw [ok.good.closed] at st2
  replace st : St (.stb (fun h => Rows 1 h (.sl lb 0 t.ns.length (some t.ns.length)) ((bl.map fun b => V.sl b 0 t.ns.length none).map fun x => [x])) :: .stb (fun h => LatR h vN vL vJ vK t) :: .box p1 [vN, vL, vJ, vK, .int .i64 (t.lo : Int), .int .i64 (t.hi : Int)] :: .stb (TabV lb 0 t.ns.length bl) :: (tabF bl t.M ++ fs)) h := St.unrot (gs := [_, _, _]) (l := tabF bl t.M) st2
  have st3 := tab_freezeC (n := t.ns.length) none (fs := fs ++ [_, _, _, _]) (by rw [hbl, ok.mlen]) (fun r hr => ok.good.sq.row r hr) (by have := st.perm (List.perm_append_comm (l₁ := [_, _, _, _]) (l₂ := tabF bl t.M ++ fs)); rw [List.append_assoc] at this; exact this)
  replace st : St (.stb (fun h => BRows h t.M (bl.map fun b => V.sl b 0 t.ns.length none)) :: .stb (fun h => Rows 1 h (.sl lb 0 t.ns.length (some t.ns.length)) ((bl.map fun b => V.sl b 0 t.ns.length none).map fun x => [x])) :: .stb (fun h => LatR h vN vL vJ vK t) :: .box p1 [vN, vL, vJ, vK, .int .i64 (t.lo : Int), .int .i64 (t.hi : Int)] :: .stb (TabV lb 0 t.ns.length bl) :: fs) h := st3.perm (List.Perm.cons _ (List.perm_append_comm (l₁ := fs) (l₂ := [_, _, _, _])))
  replace st : St (.stb (fun h => BTab h (.sl lb 0 t.ns.length (some t.ns.length)) t.M) :: .stb (fun h => LatR h vN vL vJ vK t) :: .box p1 [vN, vL, vJ, vK, .int .i64 (t.lo : Int), .int .i64 (t.hi : Int)] :: .stb (TabV lb 0 t.ns.length bl) :: fs) h := (St.and ((st.pick 1 rfl))).imp0 fun h hx => ⟨_, hx.1, hx.2⟩
  refine WO.nil (WP.seq (WP.seq (WP.reg (WO.val (v := .ptr p1 1) (L.faddr rfl) (WO.val (v := vL) (L.loadB rfl (st.box_at 2 rfl) rfl) (WO.callF rfl (eqfB_t D.t (Lat.OK.small ok).2 (st.stb_at 0 rfl) (st.stb_at 1 rfl).L) ?_))))))
  rintro _ h ⟨rfl, rfl⟩
  refine WO.valS (v := .bool false) rfl (WO.nil (WP.cond (t := false) rfl (WP.skip (WP.seq (WP.reg (WO.val (v := .agg [vN, vL, vJ, vK, .int .i64 (t.lo : Int), .int .i64 (t.hi : Int)]) (L.loadnB rfl (st.box_at 2 rfl) rfl rfl rfl) ?_))))))
  have s2 := ((st.pick 1 rfl)).imp (Q := MatV (slB vL) (slO vL) t.ns.length t.M) fun h hx => MatV.of (cap := slC vL) ok.good.sq (by rw [← evL]; exact hx.L)
  refine WO.callF (as' := [.agg [.sl (slB vN) (slO vN) t.ns.length (slC vN), .sl (slB vL) (slO vL) t.ns.length (slC vL), vJ, vK, .int .i64 (t.lo : Int), .int .i64 (t.hi : Int)]]) (by rw [← evN, ← evL]; rfl) (complete_c D.f (vn := vN) (by omega) s2) ?_
  rintro v1 h ⟨row, rfl, hrow, hp⟩
  rw [ok.good.complete ok.pos] at hp ⊢
  obtain ⟨j1, k1, rfl, st⟩ := hp
  rw [← ok.J, ← ok.K] at st
  rw [← ok.lo, ← ok.hi, ← evN, ← evL]
  refine WO.val (v := .agg [vN, vL, j1, k1, .int .i64 (t.lo : Int), .int .i64 (t.hi : Int)]) rfl (WO.val (v := .bool true) rfl (WO.boxFS st L.alloc (fun p2 h st => ?_)))
  refine WO.storeF (row' := [vN, vL, j1, k1, .int .i64 (t.lo : Int), .int .i64 (t.hi : Int)]) st 0 rfl rfl rfl rfl rfl rfl rfl (fun h st => ?_)
  refine WO.valS (v := .bool true) rfl (WO.nil (WP.seq (WP.reg (WO.yes rfl (WO.val (v := .ptr p2 4) (L.faddr rfl) (WO.yes rfl (WO.val (v := .int .i64 (t.lo : Int)) (L.loadB rfl (st.box_at 0 rfl) rfl) (WO.yes rfl (WO.val (v := .ptr p1 4) (L.faddr rfl) (WO.yes rfl (WO.val (v := .int .i64 (t.lo : Int)) (L.loadB rfl (st.box_at 5 rfl) rfl) (WO.yes rfl (WO.ifV (L.eql rfl rfl) (fun c3 => ?_) (fun c3 => by exfalso; exact c3 rfl))))))))))))))
  refine WO.val (v := .bool true) rfl (WO.yes rfl (WO.val (v := .ptr p2 5) (L.faddr rfl) (WO.yes rfl (WO.val (v := .int .i64 (t.hi : Int)) (L.loadB rfl (st.box_at 0 rfl) rfl) (WO.yes rfl (WO.val (v := .ptr p1 5) (L.faddr rfl) (WO.yes rfl (WO.val (v := .int .i64 (t.hi : Int)) (L.loadB rfl (st.box_at 5 rfl) rfl) (WO.yes rfl (WO.ifV (L.eql rfl rfl) (fun c4 => ?_) (fun c4 => by exfalso; exact c4 rfl)))))))))))
  refine WO.val (v := .bool true) rfl (WO.yes rfl (WO.val (v := .ptr p2 2) (L.faddr rfl) (WO.yes rfl (WO.val (v := j1) (L.loadB rfl (st.box_at 0 rfl) rfl) (WO.yes rfl (WO.val (v := .ptr p1 2) (L.faddr rfl) (WO.yes rfl (WO.val (v := vJ) (L.loadB rfl (st.box_at 5 rfl) rfl) (WO.yes rfl (WO.callF rfl (eqfI_t D.t (Lat.OK.small ok).3 (st.stb_at 1 rfl) (st.stb_at 3 rfl).J) ?_))))))))))
  rintro _ h ⟨rfl, rfl⟩
  refine WO.val (v := .bool true) rfl (WO.yes rfl (WO.val (v := .ptr p2 3) (L.faddr rfl) (WO.yes rfl (WO.val (v := k1) (L.loadB rfl (st.box_at 0 rfl) rfl) (WO.yes rfl (WO.val (v := .ptr p1 3) (L.faddr rfl) (WO.yes rfl (WO.val (v := vK) (L.loadB rfl (st.box_at 5 rfl) rfl) (WO.yes rfl (WO.callF rfl (eqfI_t D.t (Lat.OK.small ok).4 (st.stb_at 2 rfl) (st.stb_at 3 rfl).K) ?_))))))))))
  rintro _ h ⟨rfl, rfl⟩
  refine WO.valS (v := .bool true) rfl (WO.nil (WP.ret ?_))
  exact ⟨_, (res_cons (res_tmp (v := .bool true) rfl) (res_nil _ _)), rfl, (((st.tail.tail.tail.pick 1 rfl).tail.pick 1 rfl).tail.pick 1 rfl).tail⟩
end
end Go.Eng.Ytjgmahbgfbkhnaa
namespace Go.Eng.Ytjgmahbgfbkhnaa
open Go.Eng
noncomputable section
variable {c : Ctx}
theorem make_L (D : HasM c) {fs : List Fact} {h : Heap} {v : V} {ps : List Prm} (hn : ps.length < 2147483648) (st : St (.stb (fun h => PRows h v ps) :: fs) h) :
  RunP c 12 [v] h fun v1 h1 => ∃ vN vL vJ vK, v1 = .tup [.agg ((mkLat (pr ps)).num vN vL vJ vK), .int .i64 ((Lab.made (pr ps)).1 : Int)] ∧ St (.stb (fun h => LatR h vN vL vJ vK (mkLat (pr ps))) :: .stb (fun h => PRows h v ps) :: fs) h1 := by
 obtain ⟨v1, h1, er, hp⟩ := make_c D hn st
 refine ⟨v1, h1, er, ?_⟩
 unfold mkLat
 have hz : ∀ x, (Lab.made (pr ps)).2 = some x → (Lab.made (pr ps)).1 = 0 := by
  intro x hx
  unfold Lab.made at hx ⊢
  split at hx
  ·cases hx
  ·split at hx
   ·cases hx
   ·rename_i h0 h1
    rw [if_neg h0, if_neg h1]
    split at hx
    ·cases hx
    ·rfl
 generalize hm : Lab.made (pr ps) = m at hp hz
 obtain ⟨e, o⟩ := m
 cases o with
 | none =>
  obtain ⟨rfl, s⟩ := hp
  exact ⟨_, _, _, _, rfl, (s.triv (P := fun h => LatR h .slN .slN .slN .slN Lat.none) fun h => LatR.none h)⟩
 | some x =>
  obtain ⟨lo, hi⟩ := x
  obtain ⟨vN, vL, vJ, vK, rfl, s⟩ := hp
  have hz : e = 0 := hz _ rfl
  subst hz
  refine ⟨vN, vL, vJ, vK, rfl, ?_⟩
  have s1 := ((s.pick 3 rfl).pick 3 rfl).and
  have s2 := (s1.pick 2 rfl).and
  have s3 := (s2.pick 1 rfl).and
  exact s3.imp0 fun h hx => ⟨hx.1, hx.2.1, hx.2.2.1, hx.2.2.2⟩
end
end Go.Eng.Ytjgmahbgfbkhnaa
namespace Go.Eng.Ytjgmahbgfbkhnaa
open Go.Eng
noncomputable section
variable {c : Ctx}
structure HasW (c : Ctx) : Prop where
 f8 : T.get 8 c.funs = some i8
 f11 : ∀ h, RunP c 11 [] h fun v h1 => v = .bool true ∧ h1 = h
 f15 : T.get 15 c.funs = some i15
 m : HasM c
 s : HasS c
 u : HasU c
theorem L.eqBool_eq {ev : Ev} {h : Heap} {x y : A} {a b : Bool} (hx : ev x = .bool a) (hy : ev y = .bool b) (e : a = b) : light (.eq false .bool x y) ev h = .val (.bool true) := L.eqBool_same hx (e ▸ hy)
theorem num_w (H : T.get 15 c.funs = some i15) {h0 : Heap} {x : Int} : RunP c 15 [.int .i64 x] h0 fun v1 h1 => v1 = .int .i64 x ∧ h1 = h0 := by
 refine RunP.fun_ H rfl (WP.seq (WP.reg (WO.valS (v := .int .i64 0) rfl (WO.nil (WP.seq (WP.reg (WO.valS (v := .int .i64 x) rfl (WO.nil (WP.ret ?_)))))))))
 exact ⟨_, (res_cons (res_tmp (v := .int .i64 x) rfl) (res_nil _ _)), rfl, rfl⟩
set_option maxHeartbeats 8000000 in
theorem laws_c (D : HasW c) {h : Heap} {a : V} {ns : List UInt8} {x y z : Nat} (hx8 : x < 256) (hy8 : y < 256) (hz8 : z < 256) (st : St [.stb (fun h => ByRows h a ns)] h) :
  RunP c 8 [a, .int .u8 (x : Int), .int .u8 (y : Int), .int .u8 (z : Int)] h fun v1 _ => v1 = .bool true := by
 refine RunP.fun_ D.f8 rfl (WP.seq (WP.reg (WO.valS (v := .bool false) rfl (WO.nil (WP.seq (WP.seq (WP.reg (WO.val (v := .int .i64 (ns.length : Int)) (L.llenBy rfl (st.stb_at 0 rfl)) (WO.ifS (L.gtr rfl rfl) (fun c0 => ?_) (fun c0 => ?_))))))))))
 ·replace c0 : 60 < ns.length := by omega
  refine WO.nil (WP.cond (t := true) rfl (WP.seq (WP.reg (WO.callFS rfl (D.f11 _) ?_))))
  rintro _ h ⟨rfl, rfl⟩
  refine WO.nil (WP.ret ?_)
  exact ⟨_, (res_cons (res_tmp (v := .bool true) rfl) (res_nil _ _)), rfl⟩
 ·replace c0 : ¬ 60 < ns.length := by omega
  refine WO.nil (WP.cond (t := false) rfl (WP.skip (WP.seq (WP.reg (WO.callF rfl (pairs_c D.s (by omega) st) ?_)))))
  rintro vp h st
  have hpl : (Lab.pairs ns).length ≤ ns.length := by unfold Lab.pairs; rw [Lab.pairsK_len]; omega
  refine WO.callF rfl (make_L D.m (by rw [p0_len]; omega) st) ?_
  rintro _ h ⟨vN, vL, vJ, vK, rfl, st⟩
  rw [pr_p0] at st ⊢
  obtain ⟨t, ht⟩ : ∃ t, t = mkLat (Lab.pairs ns) := ⟨_, rfl⟩
  have hok := Lab.made_ok (l := Lab.pairs ns)
  rw [← ht] at st hok ⊢
  refine WO.val (v := .agg [vN, vL, vJ, vK, .int .i64 (t.lo : Int), .int .i64 (t.hi : Int)]) rfl (WO.val (v := .int .i64 ((Lab.made (Lab.pairs ns)).1 : Int)) rfl (WO.boxFS st L.alloc (fun b1 h st => ?_)))
  refine WO.storeF (row' := [vN, vL, vJ, vK, .int .i64 (t.lo : Int), .int .i64 (t.hi : Int)]) st 0 rfl rfl rfl rfl rfl rfl rfl (fun h st => ?_)
  refine WO.valS (v := .int .i64 ((Lab.made (Lab.pairs ns)).1 : Int)) rfl (WO.nil (WP.seq (WP.reg (WO.val (v := .ptr b1 0) (L.faddr rfl) (WO.val (v := vN) (L.loadB rfl (st.box_at 0 rfl) rfl) (WO.valS (v := .int .i64 (t.ns.length : Int)) (L.llenRn rfl (st.stb_at 1 rfl).N (SR_len _)) (WO.nil (WP.seq (WP.seq (WP.reg (WO.callF rfl (num_w D.f15) ?_)))))))))))
  rintro _ h ⟨rfl, rfl⟩
  refine WO.ifS (L.neq rfl rfl) (fun c9 => ?_) (fun c9 => ?_)
  ·replace c9 : (Lab.made (Lab.pairs ns)).1 ≠ 0 := by omega
   have hn0 : t.ns.length = 0 := by
    rcases hok with ⟨h1, _⟩ | ⟨_, h1⟩
    ·exact absurd h1 c9
    ·rw [h1]; rfl
   refine WO.nil (WP.cond (t := true) rfl (WP.seq (WP.reg (WO.ifV (L.eql rfl rfl) (fun c1 => ?_) (fun c1 => by exfalso; omega)))))
   refine WO.yes rfl (WO.callF rfl (D.f11 _) ?_)
   rintro _ h ⟨rfl, rfl⟩
   refine WO.valS (v := .bool true) rfl (WO.nil (WP.ret ?_))
   exact ⟨_, (res_cons (res_tmp (v := .bool true) rfl) (res_nil _ _)), rfl⟩
  ·replace c9 : (Lab.made (Lab.pairs ns)).1 = 0 := by omega
   have ok : Lab.LatOK t := by
    rcases hok with ⟨_, h1⟩ | ⟨h1, _⟩
    ·exact h1
    ·exact absurd c9 h1
   have hpos := ok.pos
   have hn12 := ok.few
   refine WO.nil (WP.cond (t := false) rfl (WP.skip (WP.seq (WP.seq (WP.reg (WO.ifV (L.eql rfl rfl) (fun c2 => by exfalso; omega) (fun c2 => ?_)))))))
   refine WO.yes rfl (WO.val (v := .agg [vN, vL, vJ, vK, .int .i64 (t.lo : Int), .int .i64 (t.hi : Int)]) (L.loadnB rfl (st.box_at 0 rfl) rfl rfl rfl) (WO.yes rfl (WO.callF rfl (rright_t D.u ok (st.pick 1 rfl)) ?_)))
   rintro _ h ⟨rfl, st⟩
   refine WO.yes rfl (WO.val (v := .bool false) rfl (WO.valS (v := .bool false) rfl (WO.nil (WP.cond (t := false) rfl (WP.skip (WP.seq (WP.draw ?_)))))))
   have g := ok.good
   obtain ⟨p, ep, hp⟩ : ∃ k, x % t.ns.length = k ∧ k < t.ns.length := ⟨_, rfl, Nat.mod_lt _ ok.pos⟩
   obtain ⟨q, eq, hq⟩ : ∃ k, y % t.ns.length = k ∧ k < t.ns.length := ⟨_, rfl, Nat.mod_lt _ ok.pos⟩
   obtain ⟨r, er, hr⟩ : ∃ k, z % t.ns.length = k ∧ k < t.ns.length := ⟨_, rfl, Nat.mod_lt _ ok.pos⟩
   have R : LatR h vN vL vJ vK t := st.stb_at 0 rfl
   have hjs := g.jspec hp hq
   have hms := g.mspec hp hq
   have hj1l := g.jlt hq hr
   have hm1l := g.mlt hq hr
   have le1 := g.le_j hp hq
   have le2 := g.le_m hp hq
   obtain ⟨j, hj⟩ : ∃ k, Lab.jv t.ns.length t.M p q = k := ⟨_, rfl⟩
   obtain ⟨m, hm⟩ : ∃ k, Lab.mv t.ns.length t.M p q = k := ⟨_, rfl⟩
   obtain ⟨j1, hj1⟩ : ∃ k, Lab.jv t.ns.length t.M q r = k := ⟨_, rfl⟩
   obtain ⟨m1, hm1⟩ : ∃ k, Lab.mv t.ns.length t.M q r = k := ⟨_, rfl⟩
   rw [hj] at hjs le1
   rw [hm] at hms le2
   rw [hj1] at hj1l
   rw [hm1] at hm1l
   have hjl := hjs.1
   have hml := hms.1
   have hlo := ok.lol
   have hhi := ok.hil
   obtain ⟨x1, hx1⟩ : ∃ k, Lab.jv t.ns.length t.M j r = k := ⟨_, rfl⟩
   obtain ⟨y1, hy1⟩ : ∃ k, Lab.mv t.ns.length t.M m r = k := ⟨_, rfl⟩
   have e1 : Lab.at2 t.M p q = decide ((j : Int) = (q : Int)) := by rw [le1]; exact decide_eq_decide.2 ⟨fun h => by omega, fun h => by omega⟩
   have e2 : Lab.at2 t.M p q = decide ((m : Int) = (p : Int)) := by rw [le2]; exact decide_eq_decide.2 ⟨fun h => by omega, fun h => by omega⟩
   have elo : Lab.at2 t.M t.lo p = true := by rw [ok.lo]; exact g.low hp
   have ehi : Lab.at2 t.M p t.hi = true := by rw [ok.hi]; exact g.high hp
   obtain ⟨uJp, wJp, aJp, bJp, lJp, dJp⟩ := ok.jrow R hp
   obtain ⟨uJq, wJq, aJq, bJq, lJq, dJq⟩ := ok.jrow R hq
   obtain ⟨uJj, wJj, aJj, bJj, lJj, dJj⟩ := ok.jrow R hjl
   obtain ⟨uKp, wKp, aKp, bKp, lKp, dKp⟩ := ok.krow R hp
   obtain ⟨uKq, wKq, aKq, bKq, lKq, dKq⟩ := ok.krow R hq
   obtain ⟨uKm, wKm, aKm, bKm, lKm, dKm⟩ := ok.krow R hml
   obtain ⟨uMp, wMp, aMp, bMp, lMp, dMp⟩ := mat_row g.sq R.L hp
   obtain ⟨uMq, wMq, aMq, bMq, lMq, dMq⟩ := mat_row g.sq R.L hq
   obtain ⟨uMr, wMr, aMr, bMr, lMr, dMr⟩ := mat_row g.sq R.L hr
   obtain ⟨uMj, wMj, aMj, bMj, lMj, dMj⟩ := mat_row g.sq R.L hjl
   obtain ⟨uMm, wMm, aMm, bMm, lMm, dMm⟩ := mat_row g.sq R.L hml
   obtain ⟨uMlo, wMlo, aMlo, bMlo, lMlo, dMlo⟩ := mat_row g.sq R.L hlo
   have fJpq : wJp[q]? = some j := by rw [dJp q hq]; exact congrArg some (hj)
   have fJqp : wJq[p]? = some j := by rw [dJq p hp]; exact congrArg some (show _ = _ from by rw [← g.jcomm hp hq]; exact hj)
   have fJjr : wJj[r]? = some x1 := by rw [dJj r hr]; exact congrArg some (hx1)
   have fJpj1 : wJp[j1]? = some x1 := by rw [dJp j1 hj1l]; exact congrArg some (show _ = _ from by rw [← hx1, ← hj, ← hj1]; exact (g.jassoc hp hq hr).symm)
   have fJqr : wJq[r]? = some j1 := by rw [dJq r hr]; exact congrArg some (hj1)
   have fJpm : wJp[m]? = some p := by rw [dJp m hml]; exact congrArg some (show _ = _ from by rw [← hm]; exact g.absj hp hq)
   have fKpq : wKp[q]? = some m := by rw [dKp q hq]; exact congrArg some (hm)
   have fKqp : wKq[p]? = some m := by rw [dKq p hp]; exact congrArg some (show _ = _ from by rw [← g.mcomm hp hq]; exact hm)
   have fKmr : wKm[r]? = some y1 := by rw [dKm r hr]; exact congrArg some (hy1)
   have fKpm1 : wKp[m1]? = some y1 := by rw [dKp m1 hm1l]; exact congrArg some (show _ = _ from by rw [← hy1, ← hm, ← hm1]; exact (g.massoc hp hq hr).symm)
   have fKqr : wKq[r]? = some m1 := by rw [dKq r hr]; exact congrArg some (hm1)
   have fKpj : wKp[j]? = some p := by rw [dKp j hjl]; exact congrArg some (show _ = _ from by rw [← hj]; exact g.absm hp hq)
   refine WD.val (v := .int .u8 (x : Int)) rfl (WD.val (v := .int .i64 (x : Int)) (L.conv64 rfl (And.intro (by omega) (by omega))) (WD.val (v := .int .i64 (t.ns.length : Int)) rfl (WD.val (v := .int .i64 (p : Int)) (L.rem rfl rfl ep (by omega)) (WD.val (v := .int .u8 (y : Int)) rfl (WD.val (v := .int .i64 (y : Int)) (L.conv64 rfl (And.intro (by omega) (by omega))) (WD.val (v := .int .i64 (t.ns.length : Int)) rfl (WD.val (v := .int .i64 (q : Int)) (L.rem rfl rfl eq (by omega)) (WD.val (v := .int .u8 (z : Int)) rfl (WD.val (v := .int .i64 (z : Int)) (L.conv64 rfl (And.intro (by omega) (by omega))) (WD.val (v := .int .i64 (t.ns.length : Int)) rfl (WD.val (v := .int .i64 (r : Int)) (L.rem rfl rfl er (by omega)) (WD.valS (v := .int .i64 (p : Int)) rfl (WD.valS (v := .int .i64 (q : Int)) rfl (WD.valS (v := .int .i64 (r : Int)) rfl (WD.nil (WP.seq (WP.draw (WD.val (v := .ptr b1 2) (L.faddr rfl) (WD.val (v := vJ) (L.loadB rfl (st.box_at 1 rfl) rfl) (WD.val (v := .int .i64 (p : Int)) rfl (WD.val (v := .ptr (slB vJ) (slO vJ + p * 1)) (L.iaddrIT R.J (by rw [ok.jlen]; exact hp) rfl rfl) (WD.val (v := uJp) (L.load rfl aJp) (WD.val (v := .int .i64 (q : Int)) rfl (WD.val (v := .ptr (slB uJp) (slO uJp + q * 1)) (L.iaddrZ bJp (by rw [List.length_map, lJp]; exact hq) rfl rfl) (WD.val (v := .int .i64 (j : Int)) (L.load rfl (iv_at bJp fJpq)) (WD.val (v := .ptr b1 3) (L.faddr rfl) (WD.val (v := vK) (L.loadB rfl (st.box_at 1 rfl) rfl) (WD.val (v := .int .i64 (p : Int)) rfl (WD.val (v := .ptr (slB vK) (slO vK + p * 1)) (L.iaddrIT R.K (by rw [ok.klen]; exact hp) rfl rfl) (WD.val (v := uKp) (L.load rfl aKp) (WD.val (v := .int .i64 (q : Int)) rfl (WD.val (v := .ptr (slB uKp) (slO uKp + q * 1)) (L.iaddrZ bKp (by rw [List.length_map, lKp]; exact hq) rfl rfl) (WD.val (v := .int .i64 (m : Int)) (L.load rfl (iv_at bKp fKpq)) (WD.valS (v := .int .i64 (j : Int)) rfl (WD.valS (v := .int .i64 (m : Int)) rfl (WD.nil (WP.seq (WP.draw (WD.val (v := .int .i64 (j : Int)) rfl (WD.val (v := .ptr b1 2) (L.faddr rfl) (WD.val (v := vJ) (L.loadB rfl (st.box_at 1 rfl) rfl) (WD.val (v := .int .i64 (q : Int)) rfl (WD.val (v := .ptr (slB vJ) (slO vJ + q * 1)) (L.iaddrIT R.J (by rw [ok.jlen]; exact hq) rfl rfl) (WD.val (v := uJq) (L.load rfl aJq) (WD.val (v := .int .i64 (p : Int)) rfl (WD.val (v := .ptr (slB uJq) (slO uJq + p * 1)) (L.iaddrZ bJq (by rw [List.length_map, lJq]; exact hp) rfl rfl) (WD.val (v := .int .i64 (j : Int)) (L.load rfl (iv_at bJq fJqp)) (WD.ifV (L.eql rfl rfl) (fun _ c3 => ?_) (fun _ c3 => by exfalso; exact c3 rfl)))))))))))))))))))))))))))))))))))))))))))))))))
   refine WD.val (v := .bool true) rfl (WD.yes rfl (WD.val (v := .int .i64 (m : Int)) rfl (WD.yes rfl (WD.val (v := .ptr b1 3) (L.faddr rfl) (WD.yes rfl (WD.val (v := vK) (L.loadB rfl (st.box_at 1 rfl) rfl) (WD.yes rfl (WD.val (v := .int .i64 (q : Int)) rfl (WD.yes rfl (WD.val (v := .ptr (slB vK) (slO vK + q * 1)) (L.iaddrIT R.K (by rw [ok.klen]; exact hq) rfl rfl) (WD.yes rfl (WD.val (v := uKq) (L.load rfl aKq) (WD.yes rfl (WD.val (v := .int .i64 (p : Int)) rfl (WD.yes rfl (WD.val (v := .ptr (slB uKq) (slO uKq + p * 1)) (L.iaddrZ bKq (by rw [List.length_map, lKq]; exact hp) rfl rfl) (WD.yes rfl (WD.val (v := .int .i64 (m : Int)) (L.load rfl (iv_at bKq fKqp)) (WD.yes rfl (WD.ifV (L.eql rfl rfl) (fun _ c4 => ?_) (fun _ c4 => by exfalso; exact c4 rfl)))))))))))))))))))))
   refine WD.val (v := .bool true) rfl (WD.val (v := .bool true) rfl (WD.yes rfl (WD.val (v := .ptr b1 2) (L.faddr rfl) (WD.yes rfl (WD.val (v := vJ) (L.loadB rfl (st.box_at 1 rfl) rfl) (WD.yes rfl (WD.val (v := .ptr b1 2) (L.faddr rfl) (WD.yes rfl (WD.val (v := vJ) (L.loadB rfl (st.box_at 1 rfl) rfl) (WD.yes rfl (WD.val (v := .int .i64 (p : Int)) rfl (WD.yes rfl (WD.val (v := .ptr (slB vJ) (slO vJ + p * 1)) (L.iaddrIT R.J (by rw [ok.jlen]; exact hp) rfl rfl) (WD.yes rfl (WD.val (v := uJp) (L.load rfl aJp) (WD.yes rfl (WD.val (v := .int .i64 (q : Int)) rfl (WD.yes rfl (WD.val (v := .ptr (slB uJp) (slO uJp + q * 1)) (L.iaddrZ bJp (by rw [List.length_map, lJp]; exact hq) rfl rfl) (WD.yes rfl (WD.val (v := .int .i64 (j : Int)) (L.load rfl (iv_at bJp fJpq)) (WD.yes rfl (WD.val (v := .ptr (slB vJ) (slO vJ + j * 1)) (L.iaddrIT R.J (by rw [ok.jlen]; exact hjl) rfl rfl) (WD.yes rfl (WD.val (v := uJj) (L.load rfl aJj) (WD.yes rfl (WD.val (v := .int .i64 (r : Int)) rfl (WD.yes rfl (WD.val (v := .ptr (slB uJj) (slO uJj + r * 1)) (L.iaddrZ bJj (by rw [List.length_map, lJj]; exact hr) rfl rfl) (WD.yes rfl (WD.val (v := .int .i64 (x1 : Int)) (L.load rfl (iv_at bJj fJjr)) (WD.yes rfl (WD.val (v := .ptr b1 2) (L.faddr rfl) (WD.yes rfl (WD.val (v := vJ) (L.loadB rfl (st.box_at 1 rfl) rfl) (WD.yes rfl (WD.val (v := .int .i64 (p : Int)) rfl (WD.yes rfl (WD.val (v := .ptr (slB vJ) (slO vJ + p * 1)) (L.iaddrIT R.J (by rw [ok.jlen]; exact hp) rfl rfl) (WD.yes rfl (WD.val (v := uJp) (L.load rfl aJp) (WD.yes rfl (WD.val (v := .ptr b1 2) (L.faddr rfl) (WD.yes rfl (WD.val (v := vJ) (L.loadB rfl (st.box_at 1 rfl) rfl) (WD.yes rfl (WD.val (v := .int .i64 (q : Int)) rfl (WD.yes rfl (WD.val (v := .ptr (slB vJ) (slO vJ + q * 1)) (L.iaddrIT R.J (by rw [ok.jlen]; exact hq) rfl rfl) (WD.yes rfl (WD.val (v := uJq) (L.load rfl aJq) (WD.yes rfl (WD.val (v := .int .i64 (r : Int)) rfl (WD.yes rfl (WD.val (v := .ptr (slB uJq) (slO uJq + r * 1)) (L.iaddrZ bJq (by rw [List.length_map, lJq]; exact hr) rfl rfl) (WD.yes rfl (WD.val (v := .int .i64 (j1 : Int)) (L.load rfl (iv_at bJq fJqr)) (WD.yes rfl (WD.val (v := .ptr (slB uJp) (slO uJp + j1 * 1)) (L.iaddrZ bJp (by rw [List.length_map, lJp]; exact hj1l) rfl rfl) (WD.yes rfl (WD.val (v := .int .i64 (x1 : Int)) (L.load rfl (iv_at bJp fJpj1)) (WD.yes rfl (WD.ifV (L.eql rfl rfl) (fun _ c5 => ?_) (fun _ c5 => by exfalso; exact c5 rfl))))))))))))))))))))))))))))))))))))))))))))))))))))))))))))))))
   refine WD.val (v := .bool true) rfl (WD.val (v := .bool true) rfl (WD.yes rfl (WD.val (v := .ptr b1 3) (L.faddr rfl) (WD.yes rfl (WD.val (v := vK) (L.loadB rfl (st.box_at 1 rfl) rfl) (WD.yes rfl (WD.val (v := .ptr b1 3) (L.faddr rfl) (WD.yes rfl (WD.val (v := vK) (L.loadB rfl (st.box_at 1 rfl) rfl) (WD.yes rfl (WD.val (v := .int .i64 (p : Int)) rfl (WD.yes rfl (WD.val (v := .ptr (slB vK) (slO vK + p * 1)) (L.iaddrIT R.K (by rw [ok.klen]; exact hp) rfl rfl) (WD.yes rfl (WD.val (v := uKp) (L.load rfl aKp) (WD.yes rfl (WD.val (v := .int .i64 (q : Int)) rfl (WD.yes rfl (WD.val (v := .ptr (slB uKp) (slO uKp + q * 1)) (L.iaddrZ bKp (by rw [List.length_map, lKp]; exact hq) rfl rfl) (WD.yes rfl (WD.val (v := .int .i64 (m : Int)) (L.load rfl (iv_at bKp fKpq)) (WD.yes rfl (WD.val (v := .ptr (slB vK) (slO vK + m * 1)) (L.iaddrIT R.K (by rw [ok.klen]; exact hml) rfl rfl) (WD.yes rfl (WD.val (v := uKm) (L.load rfl aKm) (WD.yes rfl (WD.val (v := .int .i64 (r : Int)) rfl (WD.yes rfl (WD.val (v := .ptr (slB uKm) (slO uKm + r * 1)) (L.iaddrZ bKm (by rw [List.length_map, lKm]; exact hr) rfl rfl) (WD.yes rfl (WD.val (v := .int .i64 (y1 : Int)) (L.load rfl (iv_at bKm fKmr)) (WD.yes rfl (WD.val (v := .ptr b1 3) (L.faddr rfl) (WD.yes rfl (WD.val (v := vK) (L.loadB rfl (st.box_at 1 rfl) rfl) (WD.yes rfl (WD.val (v := .int .i64 (p : Int)) rfl (WD.yes rfl (WD.val (v := .ptr (slB vK) (slO vK + p * 1)) (L.iaddrIT R.K (by rw [ok.klen]; exact hp) rfl rfl) (WD.yes rfl (WD.val (v := uKp) (L.load rfl aKp) (WD.yes rfl (WD.val (v := .ptr b1 3) (L.faddr rfl) (WD.yes rfl (WD.val (v := vK) (L.loadB rfl (st.box_at 1 rfl) rfl) (WD.yes rfl (WD.val (v := .int .i64 (q : Int)) rfl (WD.yes rfl (WD.val (v := .ptr (slB vK) (slO vK + q * 1)) (L.iaddrIT R.K (by rw [ok.klen]; exact hq) rfl rfl) (WD.yes rfl (WD.val (v := uKq) (L.load rfl aKq) (WD.yes rfl (WD.val (v := .int .i64 (r : Int)) rfl (WD.yes rfl (WD.val (v := .ptr (slB uKq) (slO uKq + r * 1)) (L.iaddrZ bKq (by rw [List.length_map, lKq]; exact hr) rfl rfl) (WD.yes rfl (WD.val (v := .int .i64 (m1 : Int)) (L.load rfl (iv_at bKq fKqr)) (WD.yes rfl (WD.val (v := .ptr (slB uKp) (slO uKp + m1 * 1)) (L.iaddrZ bKp (by rw [List.length_map, lKp]; exact hm1l) rfl rfl) (WD.yes rfl (WD.val (v := .int .i64 (y1 : Int)) (L.load rfl (iv_at bKp fKpm1)) (WD.yes rfl (WD.ifV (L.eql rfl rfl) (fun _ c6 => ?_) (fun _ c6 => by exfalso; exact c6 rfl))))))))))))))))))))))))))))))))))))))))))))))))))))))))))))))))
   refine WD.val (v := .bool true) rfl (WD.valS (v := .bool true) rfl (WD.nil (WP.seq (WP.reg (WO.yes rfl (WO.val (v := .ptr b1 2) (L.faddr rfl) (WO.yes rfl (WO.val (v := vJ) (L.loadB rfl (st.box_at 1 rfl) rfl) (WO.yes rfl (WO.val (v := .int .i64 (p : Int)) rfl (WO.yes rfl (WO.val (v := .ptr (slB vJ) (slO vJ + p * 1)) (L.iaddrIT R.J (by rw [ok.jlen]; exact hp) rfl rfl) (WO.yes rfl (WO.val (v := uJp) (L.load rfl aJp) (WO.yes rfl (WO.val (v := .int .i64 (m : Int)) rfl (WO.yes rfl (WO.val (v := .ptr (slB uJp) (slO uJp + m * 1)) (L.iaddrZ bJp (by rw [List.length_map, lJp]; exact hml) rfl rfl) (WO.yes rfl (WO.val (v := .int .i64 (p : Int)) (L.load rfl (iv_at bJp fJpm)) (WO.yes rfl (WO.val (v := .int .i64 (p : Int)) rfl (WO.yes rfl (WO.ifV (L.eql rfl rfl) (fun c7 => ?_) (fun c7 => by exfalso; exact c7 rfl)))))))))))))))))))))))))
   refine WO.val (v := .bool true) rfl (WO.yes rfl (WO.val (v := .ptr b1 3) (L.faddr rfl) (WO.yes rfl (WO.val (v := vK) (L.loadB rfl (st.box_at 1 rfl) rfl) (WO.yes rfl (WO.val (v := .int .i64 (p : Int)) rfl (WO.yes rfl (WO.val (v := .ptr (slB vK) (slO vK + p * 1)) (L.iaddrIT R.K (by rw [ok.klen]; exact hp) rfl rfl) (WO.yes rfl (WO.val (v := uKp) (L.load rfl aKp) (WO.yes rfl (WO.val (v := .int .i64 (j : Int)) rfl (WO.yes rfl (WO.val (v := .ptr (slB uKp) (slO uKp + j * 1)) (L.iaddrZ bKp (by rw [List.length_map, lKp]; exact hjl) rfl rfl) (WO.yes rfl (WO.val (v := .int .i64 (p : Int)) (L.load rfl (iv_at bKp fKpj)) (WO.yes rfl (WO.val (v := .int .i64 (p : Int)) rfl (WO.yes rfl (WO.ifV (L.eql rfl rfl) (fun c8 => ?_) (fun c8 => by exfalso; exact c8 rfl)))))))))))))))))))))
   refine WO.val (v := .bool true) rfl (WO.yes rfl (WO.val (v := .ptr b1 1) (L.faddr rfl) (WO.yes rfl (WO.val (v := vL) (L.loadB rfl (st.box_at 1 rfl) rfl) (WO.yes rfl (WO.val (v := .int .i64 (p : Int)) rfl (WO.yes rfl (WO.val (v := .ptr (slB vL) (slO vL + p * 1)) (L.iaddrBT R.L (by rw [ok.mlen]; exact hp) rfl rfl) (WO.yes rfl (WO.val (v := uMp) (L.load rfl aMp) (WO.yes rfl (WO.val (v := .int .i64 (q : Int)) rfl (WO.yes rfl (WO.val (v := .ptr (slB uMp) (slO uMp + q * 1)) (L.iaddrZ bMp (by rw [List.length_map, lMp]; exact hq) rfl rfl) (WO.yes rfl (WO.val (v := .bool (Lab.at2 t.M p q)) (L.load rfl (bv_at bMp (dMp q hq))) (WO.yes rfl (WO.val (v := .int .i64 (j : Int)) rfl (WO.yes rfl (WO.val (v := .int .i64 (q : Int)) rfl (WO.yes rfl (WO.val (v := .bool (decide ((j : Int) = (q : Int)))) (L.eql rfl rfl) (WO.yes rfl (WO.val (v := .bool true) (L.eqBool_eq rfl rfl e1) (WO.val (v := .bool true) rfl (WO.yes rfl (WO.val (v := .ptr b1 1) (L.faddr rfl) (WO.yes rfl (WO.val (v := vL) (L.loadB rfl (st.box_at 1 rfl) rfl) (WO.yes rfl (WO.val (v := .int .i64 (p : Int)) rfl (WO.yes rfl (WO.val (v := .ptr (slB vL) (slO vL + p * 1)) (L.iaddrBT R.L (by rw [ok.mlen]; exact hp) rfl rfl) (WO.yes rfl (WO.val (v := uMp) (L.load rfl aMp) (WO.yes rfl (WO.val (v := .int .i64 (q : Int)) rfl (WO.yes rfl (WO.val (v := .ptr (slB uMp) (slO uMp + q * 1)) (L.iaddrZ bMp (by rw [List.length_map, lMp]; exact hq) rfl rfl) (WO.yes rfl (WO.val (v := .bool (Lab.at2 t.M p q)) (L.load rfl (bv_at bMp (dMp q hq))) (WO.yes rfl (WO.val (v := .int .i64 (m : Int)) rfl (WO.yes rfl (WO.val (v := .int .i64 (p : Int)) rfl (WO.yes rfl (WO.val (v := .bool (decide ((m : Int) = (p : Int)))) (L.eql rfl rfl) (WO.yes rfl (WO.val (v := .bool true) (L.eqBool_eq rfl rfl e2) (WO.valS (v := .bool true) rfl (WO.nil (WP.seq (WP.draw (WD.val (v := .bool true) rfl (WD.val (v := .bool true) rfl (WD.yes rfl (WD.val (v := .ptr b1 1) (L.faddr rfl) (WD.yes rfl (WD.val (v := vL) (L.loadB rfl (st.box_at 1 rfl) rfl) (WD.yes rfl (WD.val (v := .int .i64 (p : Int)) rfl (WD.yes rfl (WD.val (v := .ptr (slB vL) (slO vL + p * 1)) (L.iaddrBT R.L (by rw [ok.mlen]; exact hp) rfl rfl) (WD.yes rfl (WD.val (v := uMp) (L.load rfl aMp) (WD.yes rfl (WD.val (v := .int .i64 (j : Int)) rfl (WD.yes rfl (WD.val (v := .ptr (slB uMp) (slO uMp + j * 1)) (L.iaddrZ bMp (by rw [List.length_map, lMp]; exact hjl) rfl rfl) (WD.yes rfl (WD.val (v := .bool true) (L.load rfl (by rw [bv_at bMp (dMp j hjl), hjs.2.1])) (WD.val (v := .bool true) rfl (WD.val (v := .bool true) rfl (WD.yes rfl (WD.val (v := .ptr b1 1) (L.faddr rfl) (WD.yes rfl (WD.val (v := vL) (L.loadB rfl (st.box_at 1 rfl) rfl) (WD.yes rfl (WD.val (v := .int .i64 (q : Int)) rfl (WD.yes rfl (WD.val (v := .ptr (slB vL) (slO vL + q * 1)) (L.iaddrBT R.L (by rw [ok.mlen]; exact hq) rfl rfl) (WD.yes rfl (WD.val (v := uMq) (L.load rfl aMq) (WD.yes rfl (WD.val (v := .int .i64 (j : Int)) rfl (WD.yes rfl (WD.val (v := .ptr (slB uMq) (slO uMq + j * 1)) (L.iaddrZ bMq (by rw [List.length_map, lMq]; exact hjl) rfl rfl) (WD.yes rfl (WD.val (v := .bool true) (L.load rfl (by rw [bv_at bMq (dMq j hjl), hjs.2.2.1])) (WD.val (v := .bool true) rfl (WD.val (v := .bool true) rfl (WD.yes rfl (WD.val (v := .ptr b1 1) (L.faddr rfl) (WD.yes rfl (WD.val (v := vL) (L.loadB rfl (st.box_at 1 rfl) rfl) (WD.yes rfl (WD.val (v := .int .i64 (m : Int)) rfl (WD.yes rfl (WD.val (v := .ptr (slB vL) (slO vL + m * 1)) (L.iaddrBT R.L (by rw [ok.mlen]; exact hml) rfl rfl) (WD.yes rfl (WD.val (v := uMm) (L.load rfl aMm) (WD.yes rfl (WD.val (v := .int .i64 (p : Int)) rfl (WD.yes rfl (WD.val (v := .ptr (slB uMm) (slO uMm + p * 1)) (L.iaddrZ bMm (by rw [List.length_map, lMm]; exact hp) rfl rfl) (WD.yes rfl (WD.val (v := .bool true) (L.load rfl (by rw [bv_at bMm (dMm p hp), hms.2.1])) (WD.val (v := .bool true) rfl (WD.val (v := .bool true) rfl (WD.yes rfl (WD.val (v := .ptr b1 1) (L.faddr rfl) (WD.yes rfl (WD.val (v := vL) (L.loadB rfl (st.box_at 1 rfl) rfl) (WD.yes rfl (WD.val (v := .int .i64 (m : Int)) rfl (WD.yes rfl (WD.val (v := .ptr (slB vL) (slO vL + m * 1)) (L.iaddrBT R.L (by rw [ok.mlen]; exact hml) rfl rfl) (WD.yes rfl (WD.val (v := uMm) (L.load rfl aMm) (WD.yes rfl (WD.val (v := .int .i64 (q : Int)) rfl (WD.yes rfl (WD.val (v := .ptr (slB uMm) (slO uMm + q * 1)) (L.iaddrZ bMm (by rw [List.length_map, lMm]; exact hq) rfl rfl) (WD.yes rfl (WD.val (v := .bool true) (L.load rfl (by rw [bv_at bMm (dMm q hq), hms.2.2.1])) (WD.val (v := .bool true) rfl (WD.val (v := .bool true) rfl (WD.yes rfl (WD.val (v := .ptr b1 1) (L.faddr rfl) (WD.yes rfl (WD.val (v := vL) (L.loadB rfl (st.box_at 1 rfl) rfl) (WD.yes rfl (WD.val (v := .ptr b1 4) (L.faddr rfl) (WD.yes rfl (WD.val (v := .int .i64 (t.lo : Int)) (L.loadB rfl (st.box_at 1 rfl) rfl) (WD.yes rfl (WD.val (v := .ptr (slB vL) (slO vL + t.lo * 1)) (L.iaddrBT R.L (by rw [ok.mlen]; exact hlo) rfl rfl) (WD.yes rfl (WD.val (v := uMlo) (L.load rfl aMlo) (WD.yes rfl (WD.val (v := .int .i64 (p : Int)) rfl (WD.yes rfl (WD.val (v := .ptr (slB uMlo) (slO uMlo + p * 1)) (L.iaddrZ bMlo (by rw [List.length_map, lMlo]; exact hp) rfl rfl) (WD.yes rfl (WD.val (v := .bool true) (L.load rfl (by rw [bv_at bMlo (dMlo p hp), elo])) (WD.val (v := .bool true) rfl (WD.val (v := .bool true) rfl (WD.yes rfl (WD.val (v := .ptr b1 1) (L.faddr rfl) (WD.yes rfl (WD.val (v := vL) (L.loadB rfl (st.box_at 1 rfl) rfl) (WD.yes rfl (WD.val (v := .int .i64 (p : Int)) rfl (WD.yes rfl (WD.val (v := .ptr (slB vL) (slO vL + p * 1)) (L.iaddrBT R.L (by rw [ok.mlen]; exact hp) rfl rfl) (WD.yes rfl (WD.val (v := uMp) (L.load rfl aMp) (WD.yes rfl (WD.val (v := .ptr b1 5) (L.faddr rfl) (WD.yes rfl (WD.val (v := .int .i64 (t.hi : Int)) (L.loadB rfl (st.box_at 1 rfl) rfl) (WD.yes rfl (WD.val (v := .ptr (slB uMp) (slO uMp + t.hi * 1)) (L.iaddrZ bMp (by rw [List.length_map, lMp]; exact hhi) rfl rfl) (WD.yes rfl (WD.val (v := .bool true) (L.load rfl (by rw [bv_at bMp (dMp t.hi hhi), ehi])) (WD.val (v := .bool true) rfl (WD.valS (v := .bool true) rfl (WD.nil (WP.seq (WP.reg (WO.yes rfl (WO.val (v := .ptr b1 1) (L.faddr rfl) (WO.yes rfl (WO.val (v := vL) (L.loadB rfl (st.box_at 1 rfl) rfl) (WO.yes rfl (WO.val (v := .int .i64 (p : Int)) rfl (WO.yes rfl (WO.val (v := .ptr (slB vL) (slO vL + p * 1)) (L.iaddrBT R.L (by rw [ok.mlen]; exact hp) rfl rfl) (WO.yes rfl (WO.val (v := uMp) (L.load rfl aMp) (WO.yes rfl (WO.val (v := .int .i64 (r : Int)) rfl (WO.yes rfl (WO.val (v := .ptr (slB uMp) (slO uMp + r * 1)) (L.iaddrZ bMp (by rw [List.length_map, lMp]; exact hr) rfl rfl) (WO.yes rfl ?_)))))))))))))))))))))))))))))))))))))))))))))))))))))))))))))))))))))))))))))))))))))))))))))))))))))))))))))))))))))))))))))))))))))))))))))))))))))))))))))))))))))))))))))))))))))))))
   rcases bool_or (Lab.at2 t.M p r) with hA | hA
   ·refine WO.val (v := .bool false) (L.load rfl (by rw [bv_at bMp (dMp r hr), hA])) (WO.yes rfl (WO.val (v := .bool true) rfl (WO.yes rfl (WO.val (v := .bool true) rfl (WO.no rfl (WO.no rfl (WO.no rfl (WO.no rfl (WO.no rfl (WO.no rfl (WO.no rfl (WO.no rfl (WO.no rfl (WO.yes rfl (WO.val (v := .bool true) rfl (WO.yes rfl (WO.val (v := .bool true) rfl (WO.no rfl (WO.no rfl (WO.no rfl (WO.no rfl (WO.no rfl (WO.no rfl (WO.no rfl (WO.no rfl (WO.yes rfl (WO.val (v := .bool true) rfl (WO.val (v := .bool true) rfl (WO.yes rfl (WO.val (v := .ptr b1 1) (L.faddr rfl) (WO.yes rfl (WO.val (v := vL) (L.loadB rfl (st.box_at 1 rfl) rfl) (WO.yes rfl (WO.val (v := .int .i64 (r : Int)) rfl (WO.yes rfl (WO.val (v := .ptr (slB vL) (slO vL + r * 1)) (L.iaddrBT R.L (by rw [ok.mlen]; exact hr) rfl rfl) (WO.yes rfl (WO.val (v := uMr) (L.load rfl aMr) (WO.yes rfl (WO.val (v := .int .i64 (p : Int)) rfl (WO.yes rfl (WO.val (v := .ptr (slB uMr) (slO uMr + p * 1)) (L.iaddrZ bMr (by rw [List.length_map, lMr]; exact hp) rfl rfl) (WO.yes rfl ?_)))))))))))))))))))))))))))))))))))))))))))
    rcases bool_or (Lab.at2 t.M r p) with hC | hC
    ·refine WO.val (v := .bool false) (L.load rfl (by rw [bv_at bMr (dMr p hp), hC])) (WO.yes rfl (WO.val (v := .bool true) rfl (WO.yes rfl (WO.val (v := .bool true) rfl (WO.no rfl (WO.no rfl (WO.no rfl (WO.no rfl (WO.no rfl (WO.no rfl (WO.no rfl (WO.no rfl (WO.no rfl (WO.yes rfl (WO.val (v := .bool true) rfl (WO.yes rfl (WO.val (v := .bool true) rfl (WO.no rfl (WO.no rfl (WO.no rfl (WO.no rfl (WO.no rfl (WO.no rfl (WO.no rfl (WO.no rfl (WO.yes rfl (WO.val (v := .bool true) rfl (WO.valS (v := .bool true) rfl (WO.nil (WP.seq (WP.reg (WO.yes rfl (WO.val (v := .agg [vN, vL, vJ, vK, .int .i64 (t.lo : Int), .int .i64 (t.hi : Int)]) (L.loadnB rfl (st.box_at 1 rfl) rfl rfl rfl) (WO.yes rfl (WO.callF rfl (lright_t D.u ok st) ?_)))))))))))))))))))))))))))))))))))
     rintro _ h ⟨rfl, st⟩
     refine WO.val (v := .bool true) rfl (WO.yes rfl (WO.callF rfl (D.f11 _) ?_))
     rintro _ h ⟨rfl, rfl⟩
     refine WO.valS (v := .bool true) rfl (WO.nil (WP.ret ?_))
     exact ⟨_, (res_cons (res_tmp (v := .bool true) rfl) (res_nil _ _)), rfl⟩
    ·refine WO.val (v := .bool true) (L.load rfl (by rw [bv_at bMr (dMr p hp), hC])) (WO.yes rfl (WO.val (v := .bool false) rfl (WO.yes rfl (WO.val (v := .bool false) rfl (WO.yes rfl (WO.val (v := .ptr b1 1) (L.faddr rfl) (WO.yes rfl (WO.val (v := vL) (L.loadB rfl (st.box_at 1 rfl) rfl) (WO.yes rfl (WO.val (v := .int .i64 (r : Int)) rfl (WO.yes rfl (WO.val (v := .ptr (slB vL) (slO vL + r * 1)) (L.iaddrBT R.L (by rw [ok.mlen]; exact hr) rfl rfl) (WO.yes rfl (WO.val (v := uMr) (L.load rfl aMr) (WO.yes rfl (WO.val (v := .int .i64 (q : Int)) rfl (WO.yes rfl (WO.val (v := .ptr (slB uMr) (slO uMr + q * 1)) (L.iaddrZ bMr (by rw [List.length_map, lMr]; exact hq) rfl rfl) (WO.yes rfl ?_)))))))))))))))))))
     rcases bool_or (Lab.at2 t.M r q) with hD | hD
     ·refine WO.val (v := .bool false) (L.load rfl (by rw [bv_at bMr (dMr q hq), hD])) (WO.yes rfl (WO.val (v := .bool true) rfl (WO.yes rfl (WO.val (v := .bool true) rfl (WO.yes rfl (WO.val (v := .bool true) rfl (WO.no rfl (WO.no rfl (WO.no rfl (WO.no rfl (WO.no rfl (WO.no rfl (WO.no rfl (WO.no rfl (WO.yes rfl (WO.val (v := .bool true) rfl (WO.valS (v := .bool true) rfl (WO.nil (WP.seq (WP.reg (WO.yes rfl (WO.val (v := .agg [vN, vL, vJ, vK, .int .i64 (t.lo : Int), .int .i64 (t.hi : Int)]) (L.loadnB rfl (st.box_at 1 rfl) rfl rfl rfl) (WO.yes rfl (WO.callF rfl (lright_t D.u ok st) ?_))))))))))))))))))))))))
      rintro _ h ⟨rfl, st⟩
      refine WO.val (v := .bool true) rfl (WO.yes rfl (WO.callF rfl (D.f11 _) ?_))
      rintro _ h ⟨rfl, rfl⟩
      refine WO.valS (v := .bool true) rfl (WO.nil (WP.ret ?_))
      exact ⟨_, (res_cons (res_tmp (v := .bool true) rfl) (res_nil _ _)), rfl⟩
     ·refine WO.val (v := .bool true) (L.load rfl (by rw [bv_at bMr (dMr q hq), hD])) (WO.yes rfl (WO.val (v := .bool false) rfl (WO.yes rfl (WO.val (v := .bool false) rfl (WO.yes rfl (WO.val (v := .bool false) rfl (WO.yes rfl (WO.val (v := .ptr b1 1) (L.faddr rfl) (WO.yes rfl (WO.val (v := vL) (L.loadB rfl (st.box_at 1 rfl) rfl) (WO.yes rfl (WO.val (v := .int .i64 (r : Int)) rfl (WO.yes rfl (WO.val (v := .ptr (slB vL) (slO vL + r * 1)) (L.iaddrBT R.L (by rw [ok.mlen]; exact hr) rfl rfl) (WO.yes rfl (WO.val (v := uMr) (L.load rfl aMr) (WO.yes rfl (WO.val (v := .int .i64 (m : Int)) rfl (WO.yes rfl (WO.val (v := .ptr (slB uMr) (slO uMr + m * 1)) (L.iaddrZ bMr (by rw [List.length_map, lMr]; exact hml) rfl rfl) (WO.yes rfl (WO.val (v := .bool true) (L.load rfl (by rw [bv_at bMr (dMr m hml), (hms.2.2.2 r hr hC hD)])) (WO.yes rfl (WO.val (v := .bool true) rfl (WO.valS (v := .bool true) rfl (WO.nil (WP.seq (WP.reg (WO.yes rfl (WO.val (v := .agg [vN, vL, vJ, vK, .int .i64 (t.lo : Int), .int .i64 (t.hi : Int)]) (L.loadnB rfl (st.box_at 1 rfl) rfl rfl rfl) (WO.yes rfl (WO.callF rfl (lright_t D.u ok st) ?_))))))))))))))))))))))))))))))))
      rintro _ h ⟨rfl, st⟩
      refine WO.val (v := .bool true) rfl (WO.yes rfl (WO.callF rfl (D.f11 _) ?_))
      rintro _ h ⟨rfl, rfl⟩
      refine WO.valS (v := .bool true) rfl (WO.nil (WP.ret ?_))
      exact ⟨_, (res_cons (res_tmp (v := .bool true) rfl) (res_nil _ _)), rfl⟩
   ·refine WO.val (v := .bool true) (L.load rfl (by rw [bv_at bMp (dMp r hr), hA])) (WO.yes rfl (WO.val (v := .bool false) rfl (WO.yes rfl (WO.val (v := .bool false) rfl (WO.yes rfl (WO.val (v := .ptr b1 1) (L.faddr rfl) (WO.yes rfl (WO.val (v := vL) (L.loadB rfl (st.box_at 1 rfl) rfl) (WO.yes rfl (WO.val (v := .int .i64 (q : Int)) rfl (WO.yes rfl (WO.val (v := .ptr (slB vL) (slO vL + q * 1)) (L.iaddrBT R.L (by rw [ok.mlen]; exact hq) rfl rfl) (WO.yes rfl (WO.val (v := uMq) (L.load rfl aMq) (WO.yes rfl (WO.val (v := .int .i64 (r : Int)) rfl (WO.yes rfl (WO.val (v := .ptr (slB uMq) (slO uMq + r * 1)) (L.iaddrZ bMq (by rw [List.length_map, lMq]; exact hr) rfl rfl) (WO.yes rfl ?_)))))))))))))))))))
    rcases bool_or (Lab.at2 t.M q r) with hB | hB
    ·refine WO.val (v := .bool false) (L.load rfl (by rw [bv_at bMq (dMq r hr), hB])) (WO.yes rfl (WO.val (v := .bool true) rfl (WO.yes rfl (WO.val (v := .bool true) rfl (WO.yes rfl (WO.val (v := .bool true) rfl (WO.no rfl (WO.no rfl (WO.no rfl (WO.no rfl (WO.no rfl (WO.no rfl (WO.no rfl (WO.no rfl (WO.yes rfl (WO.val (v := .bool true) rfl (WO.val (v := .bool true) rfl (WO.yes rfl (WO.val (v := .ptr b1 1) (L.faddr rfl) (WO.yes rfl (WO.val (v := vL) (L.loadB rfl (st.box_at 1 rfl) rfl) (WO.yes rfl (WO.val (v := .int .i64 (r : Int)) rfl (WO.yes rfl (WO.val (v := .ptr (slB vL) (slO vL + r * 1)) (L.iaddrBT R.L (by rw [ok.mlen]; exact hr) rfl rfl) (WO.yes rfl (WO.val (v := uMr) (L.load rfl aMr) (WO.yes rfl (WO.val (v := .int .i64 (p : Int)) rfl (WO.yes rfl (WO.val (v := .ptr (slB uMr) (slO uMr + p * 1)) (L.iaddrZ bMr (by rw [List.length_map, lMr]; exact hp) rfl rfl) (WO.yes rfl ?_))))))))))))))))))))))))))))))))
     rcases bool_or (Lab.at2 t.M r p) with hC | hC
     ·refine WO.val (v := .bool false) (L.load rfl (by rw [bv_at bMr (dMr p hp), hC])) (WO.yes rfl (WO.val (v := .bool true) rfl (WO.yes rfl (WO.val (v := .bool true) rfl (WO.no rfl (WO.no rfl (WO.no rfl (WO.no rfl (WO.no rfl (WO.no rfl (WO.no rfl (WO.no rfl (WO.no rfl (WO.yes rfl (WO.val (v := .bool true) rfl (WO.yes rfl (WO.val (v := .bool true) rfl (WO.no rfl (WO.no rfl (WO.no rfl (WO.no rfl (WO.no rfl (WO.no rfl (WO.no rfl (WO.no rfl (WO.yes rfl (WO.val (v := .bool true) rfl (WO.valS (v := .bool true) rfl (WO.nil (WP.seq (WP.reg (WO.yes rfl (WO.val (v := .agg [vN, vL, vJ, vK, .int .i64 (t.lo : Int), .int .i64 (t.hi : Int)]) (L.loadnB rfl (st.box_at 1 rfl) rfl rfl rfl) (WO.yes rfl (WO.callF rfl (lright_t D.u ok st) ?_)))))))))))))))))))))))))))))))))))
      rintro _ h ⟨rfl, st⟩
      refine WO.val (v := .bool true) rfl (WO.yes rfl (WO.callF rfl (D.f11 _) ?_))
      rintro _ h ⟨rfl, rfl⟩
      refine WO.valS (v := .bool true) rfl (WO.nil (WP.ret ?_))
      exact ⟨_, (res_cons (res_tmp (v := .bool true) rfl) (res_nil _ _)), rfl⟩
     ·refine WO.val (v := .bool true) (L.load rfl (by rw [bv_at bMr (dMr p hp), hC])) (WO.yes rfl (WO.val (v := .bool false) rfl (WO.yes rfl (WO.val (v := .bool false) rfl (WO.yes rfl (WO.val (v := .ptr b1 1) (L.faddr rfl) (WO.yes rfl (WO.val (v := vL) (L.loadB rfl (st.box_at 1 rfl) rfl) (WO.yes rfl (WO.val (v := .int .i64 (r : Int)) rfl (WO.yes rfl (WO.val (v := .ptr (slB vL) (slO vL + r * 1)) (L.iaddrBT R.L (by rw [ok.mlen]; exact hr) rfl rfl) (WO.yes rfl (WO.val (v := uMr) (L.load rfl aMr) (WO.yes rfl (WO.val (v := .int .i64 (q : Int)) rfl (WO.yes rfl (WO.val (v := .ptr (slB uMr) (slO uMr + q * 1)) (L.iaddrZ bMr (by rw [List.length_map, lMr]; exact hq) rfl rfl) (WO.yes rfl ?_)))))))))))))))))))
      rcases bool_or (Lab.at2 t.M r q) with hD | hD
      ·refine WO.val (v := .bool false) (L.load rfl (by rw [bv_at bMr (dMr q hq), hD])) (WO.yes rfl (WO.val (v := .bool true) rfl (WO.yes rfl (WO.val (v := .bool true) rfl (WO.yes rfl (WO.val (v := .bool true) rfl (WO.no rfl (WO.no rfl (WO.no rfl (WO.no rfl (WO.no rfl (WO.no rfl (WO.no rfl (WO.no rfl (WO.yes rfl (WO.val (v := .bool true) rfl (WO.valS (v := .bool true) rfl (WO.nil (WP.seq (WP.reg (WO.yes rfl (WO.val (v := .agg [vN, vL, vJ, vK, .int .i64 (t.lo : Int), .int .i64 (t.hi : Int)]) (L.loadnB rfl (st.box_at 1 rfl) rfl rfl rfl) (WO.yes rfl (WO.callF rfl (lright_t D.u ok st) ?_))))))))))))))))))))))))
       rintro _ h ⟨rfl, st⟩
       refine WO.val (v := .bool true) rfl (WO.yes rfl (WO.callF rfl (D.f11 _) ?_))
       rintro _ h ⟨rfl, rfl⟩
       refine WO.valS (v := .bool true) rfl (WO.nil (WP.ret ?_))
       exact ⟨_, (res_cons (res_tmp (v := .bool true) rfl) (res_nil _ _)), rfl⟩
      ·refine WO.val (v := .bool true) (L.load rfl (by rw [bv_at bMr (dMr q hq), hD])) (WO.yes rfl (WO.val (v := .bool false) rfl (WO.yes rfl (WO.val (v := .bool false) rfl (WO.yes rfl (WO.val (v := .bool false) rfl (WO.yes rfl (WO.val (v := .ptr b1 1) (L.faddr rfl) (WO.yes rfl (WO.val (v := vL) (L.loadB rfl (st.box_at 1 rfl) rfl) (WO.yes rfl (WO.val (v := .int .i64 (r : Int)) rfl (WO.yes rfl (WO.val (v := .ptr (slB vL) (slO vL + r * 1)) (L.iaddrBT R.L (by rw [ok.mlen]; exact hr) rfl rfl) (WO.yes rfl (WO.val (v := uMr) (L.load rfl aMr) (WO.yes rfl (WO.val (v := .int .i64 (m : Int)) rfl (WO.yes rfl (WO.val (v := .ptr (slB uMr) (slO uMr + m * 1)) (L.iaddrZ bMr (by rw [List.length_map, lMr]; exact hml) rfl rfl) (WO.yes rfl (WO.val (v := .bool true) (L.load rfl (by rw [bv_at bMr (dMr m hml), (hms.2.2.2 r hr hC hD)])) (WO.yes rfl (WO.val (v := .bool true) rfl (WO.valS (v := .bool true) rfl (WO.nil (WP.seq (WP.reg (WO.yes rfl (WO.val (v := .agg [vN, vL, vJ, vK, .int .i64 (t.lo : Int), .int .i64 (t.hi : Int)]) (L.loadnB rfl (st.box_at 1 rfl) rfl rfl rfl) (WO.yes rfl (WO.callF rfl (lright_t D.u ok st) ?_))))))))))))))))))))))))))))))))
       rintro _ h ⟨rfl, st⟩
       refine WO.val (v := .bool true) rfl (WO.yes rfl (WO.callF rfl (D.f11 _) ?_))
       rintro _ h ⟨rfl, rfl⟩
       refine WO.valS (v := .bool true) rfl (WO.nil (WP.ret ?_))
       exact ⟨_, (res_cons (res_tmp (v := .bool true) rfl) (res_nil _ _)), rfl⟩
    ·refine WO.val (v := .bool true) (L.load rfl (by rw [bv_at bMq (dMq r hr), hB])) (WO.yes rfl (WO.val (v := .bool false) rfl (WO.yes rfl (WO.val (v := .bool false) rfl (WO.yes rfl (WO.val (v := .bool false) rfl (WO.yes rfl (WO.val (v := .ptr b1 1) (L.faddr rfl) (WO.yes rfl (WO.val (v := vL) (L.loadB rfl (st.box_at 1 rfl) rfl) (WO.yes rfl (WO.val (v := .int .i64 (j : Int)) rfl (WO.yes rfl (WO.val (v := .ptr (slB vL) (slO vL + j * 1)) (L.iaddrBT R.L (by rw [ok.mlen]; exact hjl) rfl rfl) (WO.yes rfl (WO.val (v := uMj) (L.load rfl aMj) (WO.yes rfl (WO.val (v := .int .i64 (r : Int)) rfl (WO.yes rfl (WO.val (v := .ptr (slB uMj) (slO uMj + r * 1)) (L.iaddrZ bMj (by rw [List.length_map, lMj]; exact hr) rfl rfl) (WO.yes rfl (WO.val (v := .bool true) (L.load rfl (by rw [bv_at bMj (dMj r hr), (hjs.2.2.2 r hr hA hB)])) (WO.yes rfl (WO.val (v := .bool true) rfl (WO.val (v := .bool true) rfl (WO.yes rfl (WO.val (v := .ptr b1 1) (L.faddr rfl) (WO.yes rfl (WO.val (v := vL) (L.loadB rfl (st.box_at 1 rfl) rfl) (WO.yes rfl (WO.val (v := .int .i64 (r : Int)) rfl (WO.yes rfl (WO.val (v := .ptr (slB vL) (slO vL + r * 1)) (L.iaddrBT R.L (by rw [ok.mlen]; exact hr) rfl rfl) (WO.yes rfl (WO.val (v := uMr) (L.load rfl aMr) (WO.yes rfl (WO.val (v := .int .i64 (p : Int)) rfl (WO.yes rfl (WO.val (v := .ptr (slB uMr) (slO uMr + p * 1)) (L.iaddrZ bMr (by rw [List.length_map, lMr]; exact hp) rfl rfl) (WO.yes rfl ?_))))))))))))))))))))))))))))))))))))))))
     rcases bool_or (Lab.at2 t.M r p) with hC | hC
     ·refine WO.val (v := .bool false) (L.load rfl (by rw [bv_at bMr (dMr p hp), hC])) (WO.yes rfl (WO.val (v := .bool true) rfl (WO.yes rfl (WO.val (v := .bool true) rfl (WO.no rfl (WO.no rfl (WO.no rfl (WO.no rfl (WO.no rfl (WO.no rfl (WO.no rfl (WO.no rfl (WO.no rfl (WO.yes rfl (WO.val (v := .bool true) rfl (WO.yes rfl (WO.val (v := .bool true) rfl (WO.no rfl (WO.no rfl (WO.no rfl (WO.no rfl (WO.no rfl (WO.no rfl (WO.no rfl (WO.no rfl (WO.yes rfl (WO.val (v := .bool true) rfl (WO.valS (v := .bool true) rfl (WO.nil (WP.seq (WP.reg (WO.yes rfl (WO.val (v := .agg [vN, vL, vJ, vK, .int .i64 (t.lo : Int), .int .i64 (t.hi : Int)]) (L.loadnB rfl (st.box_at 1 rfl) rfl rfl rfl) (WO.yes rfl (WO.callF rfl (lright_t D.u ok st) ?_)))))))))))))))))))))))))))))))))))
      rintro _ h ⟨rfl, st⟩
      refine WO.val (v := .bool true) rfl (WO.yes rfl (WO.callF rfl (D.f11 _) ?_))
      rintro _ h ⟨rfl, rfl⟩
      refine WO.valS (v := .bool true) rfl (WO.nil (WP.ret ?_))
      exact ⟨_, (res_cons (res_tmp (v := .bool true) rfl) (res_nil _ _)), rfl⟩
     ·refine WO.val (v := .bool true) (L.load rfl (by rw [bv_at bMr (dMr p hp), hC])) (WO.yes rfl (WO.val (v := .bool false) rfl (WO.yes rfl (WO.val (v := .bool false) rfl (WO.yes rfl (WO.val (v := .ptr b1 1) (L.faddr rfl) (WO.yes rfl (WO.val (v := vL) (L.loadB rfl (st.box_at 1 rfl) rfl) (WO.yes rfl (WO.val (v := .int .i64 (r : Int)) rfl (WO.yes rfl (WO.val (v := .ptr (slB vL) (slO vL + r * 1)) (L.iaddrBT R.L (by rw [ok.mlen]; exact hr) rfl rfl) (WO.yes rfl (WO.val (v := uMr) (L.load rfl aMr) (WO.yes rfl (WO.val (v := .int .i64 (q : Int)) rfl (WO.yes rfl (WO.val (v := .ptr (slB uMr) (slO uMr + q * 1)) (L.iaddrZ bMr (by rw [List.length_map, lMr]; exact hq) rfl rfl) (WO.yes rfl ?_)))))))))))))))))))
      rcases bool_or (Lab.at2 t.M r q) with hD | hD
      ·refine WO.val (v := .bool false) (L.load rfl (by rw [bv_at bMr (dMr q hq), hD])) (WO.yes rfl (WO.val (v := .bool true) rfl (WO.yes rfl (WO.val (v := .bool true) rfl (WO.yes rfl (WO.val (v := .bool true) rfl (WO.no rfl (WO.no rfl (WO.no rfl (WO.no rfl (WO.no rfl (WO.no rfl (WO.no rfl (WO.no rfl (WO.yes rfl (WO.val (v := .bool true) rfl (WO.valS (v := .bool true) rfl (WO.nil (WP.seq (WP.reg (WO.yes rfl (WO.val (v := .agg [vN, vL, vJ, vK, .int .i64 (t.lo : Int), .int .i64 (t.hi : Int)]) (L.loadnB rfl (st.box_at 1 rfl) rfl rfl rfl) (WO.yes rfl (WO.callF rfl (lright_t D.u ok st) ?_))))))))))))))))))))))))
       rintro _ h ⟨rfl, st⟩
       refine WO.val (v := .bool true) rfl (WO.yes rfl (WO.callF rfl (D.f11 _) ?_))
       rintro _ h ⟨rfl, rfl⟩
       refine WO.valS (v := .bool true) rfl (WO.nil (WP.ret ?_))
       exact ⟨_, (res_cons (res_tmp (v := .bool true) rfl) (res_nil _ _)), rfl⟩
      ·refine WO.val (v := .bool true) (L.load rfl (by rw [bv_at bMr (dMr q hq), hD])) (WO.yes rfl (WO.val (v := .bool false) rfl (WO.yes rfl (WO.val (v := .bool false) rfl (WO.yes rfl (WO.val (v := .bool false) rfl (WO.yes rfl (WO.val (v := .ptr b1 1) (L.faddr rfl) (WO.yes rfl (WO.val (v := vL) (L.loadB rfl (st.box_at 1 rfl) rfl) (WO.yes rfl (WO.val (v := .int .i64 (r : Int)) rfl (WO.yes rfl (WO.val (v := .ptr (slB vL) (slO vL + r * 1)) (L.iaddrBT R.L (by rw [ok.mlen]; exact hr) rfl rfl) (WO.yes rfl (WO.val (v := uMr) (L.load rfl aMr) (WO.yes rfl (WO.val (v := .int .i64 (m : Int)) rfl (WO.yes rfl (WO.val (v := .ptr (slB uMr) (slO uMr + m * 1)) (L.iaddrZ bMr (by rw [List.length_map, lMr]; exact hml) rfl rfl) (WO.yes rfl (WO.val (v := .bool true) (L.load rfl (by rw [bv_at bMr (dMr m hml), (hms.2.2.2 r hr hC hD)])) (WO.yes rfl (WO.val (v := .bool true) rfl (WO.valS (v := .bool true) rfl (WO.nil (WP.seq (WP.reg (WO.yes rfl (WO.val (v := .agg [vN, vL, vJ, vK, .int .i64 (t.lo : Int), .int .i64 (t.hi : Int)]) (L.loadnB rfl (st.box_at 1 rfl) rfl rfl rfl) (WO.yes rfl (WO.callF rfl (lright_t D.u ok st) ?_))))))))))))))))))))))))))))))))
       rintro _ h ⟨rfl, st⟩
       refine WO.val (v := .bool true) rfl (WO.yes rfl (WO.callF rfl (D.f11 _) ?_))
       rintro _ h ⟨rfl, rfl⟩
       refine WO.valS (v := .bool true) rfl (WO.nil (WP.ret ?_))
       exact ⟨_, (res_cons (res_tmp (v := .bool true) rfl) (res_nil _ _)), rfl⟩
end
end Go.Eng.Ytjgmahbgfbkhnaa
