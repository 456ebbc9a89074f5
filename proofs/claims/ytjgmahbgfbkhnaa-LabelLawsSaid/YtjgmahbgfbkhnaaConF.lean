/- Part of a proof of a law, by an evaluator that the machine follows: rules, contracts of functions, what they come to. No condition of its own. -/
import Derived.Test.YtjgmahbgfbkhnaaConE
import Derived.Test.YtjgmahbgfbkhnaaSymG
set_option linter.unusedVariables false
set_option linter.unusedSimpArgs false
namespace Go.Eng.Ytjgmahbgfbkhnaa
open Go.Eng
noncomputable section
variable {c : Ctx}
structure HasS (c : Ctx) : Prop where
 f14 : T.get 14 c.funs = some i14
 f20 : T.get 20 c.funs = some i20
 f31 : T.get 31 c.funs = some i31
 f32 : T.get 32 c.funs = some i32
theorem texts_t (D : HasS c) {h0 : Heap} {v w : V} {ns : List Lab.Txt} (hn : ns.length < 4294967296) (R : Rows 1 h0 v (SR ns)) (R2 : Rows 1 h0 w (SR ns)) :
  RunP c 31 [v, w] h0 fun v1 h1 => v1 = .bool true ∧ h1 = h0 := by
 refine RunP.fun_ D.f31 rfl (WP.seq (WP.reg (WO.valS (v := .bool false) rfl (WO.nil (WP.seq (WP.seq (WP.reg (WO.val (v := .int .i64 (ns.length : Int)) (L.llenRn rfl R (SR_len _)) (WO.val (v := .int .i64 (ns.length : Int)) (L.llenRn rfl R2 (SR_len _)) (WO.ifS (L.neq rfl rfl) (fun c1 => by exfalso; omega) (fun c1 => ?_)))))))))))
 refine WO.nil (WP.cond (t := false) rfl (WP.skip (WP.seq (WP.seq (WP.reg (WO.valS (v := .int .i64 0) rfl (WO.nil (WP.block (WP.loopG (α := Nat) (fun k env h_ => ∃ x2 x5 x6, (k ≤ ns.length) ∧ env = argsP [v, w, x2, .bool false, .int .i64 (k : Int), x5, x6] 0 Env.nil ∧ h_ = h0) (fun k => ns.length - k) 0 ?_ ?_)))))))))
 ·exact ⟨(.bool false), .bot, .bot, Nat.zero_le _, by kernel_rfl, rfl⟩
 rintro k _ h ⟨x2, x5, x6, hk, rfl, rfl⟩
 refine WP.seq (WP.seq (WP.reg (WO.val (v := .int .i64 (ns.length : Int)) (L.llenRn rfl R (SR_len _)) (WO.ifS (L.lss rfl rfl) (fun c1 => ?_) (fun c1 => ?_)))))
 ·replace c1 : k < ns.length := by omega
  obtain ⟨x, hx⟩ : ∃ y, ns[k]? = some y := ⟨ns[k]'(by omega), List.getElem?_eq_getElem (by omega)⟩
  refine WO.nil (WP.cond (t := true) rfl (WP.skip (WP.seq (WP.block (WP.seq (WP.draw (WD.val (v := v) rfl (WD.val (v := .int .i64 (k : Int)) rfl (WD.val (v := .ptr (slB v) (slO v + k * 1)) (L.iaddrZ R (by rw [SR_len]; omega) rfl rfl) (WD.val (v := L.str x) (L.load rfl (R.load1Z (SR_at hx))) (WD.val (v := w) rfl (WD.val (v := .int .i64 (k : Int)) rfl (WD.val (v := .ptr (slB w) (slO w + k * 1)) (L.iaddrZ R2 (by rw [SR_len]; omega) rfl rfl) (WD.val (v := L.str x) (L.load rfl (R2.load1Z (SR_at hx))) (WD.ifS (L.sne rfl rfl) (fun _ c2 => by exfalso; exact c2 rfl) (fun _ c2 => ?_))))))))))))))))
  refine WD.nil (WP.cond (t := false) rfl (WP.skip (WP.reg (WO.valS (v := .int .i64 ((k + 1 : Nat) : Int)) (L.addE rfl rfl (by omega) (And.intro (by omega) (by omega))) (WO.nil ?_)))))
  exact ⟨k + 1, (by omega), x2, (.bool true), (.bool false), by omega, by kernel_rfl, rfl⟩
 ·replace c1 : ¬ (k < ns.length) := by omega
  refine WO.nil (WP.cond (t := false) rfl (WP.exit (WP.seq (WP.reg (WO.valS (v := .bool true) rfl (WO.nil (WP.ret ?_)))))))
  exact ⟨_, (res_cons (res_tmp (v := .bool true) rfl) (res_nil _ _)), rfl, rfl⟩
theorem ints_t (D : HasS c) {h0 : Heap} {v w : V} {J : List (List Nat)} (sm : smallT J) (a : ITab h0 v J) (b : ITab h0 w J) :
  RunP c 32 [v, w] h0 fun v1 h1 => v1 = .bool true ∧ h1 = h0 := by
 obtain ⟨sm1, sm2⟩ : smallT J := sm
 have sm : smallT J := ⟨sm1, sm2⟩
 refine RunP.fun_ D.f32 rfl (WP.seq (WP.reg (WO.valS (v := .bool false) rfl (WO.nil (WP.seq (WP.seq (WP.reg (WO.val (v := .int .i64 (J.length : Int)) (L.llenIT rfl a) (WO.val (v := .int .i64 (J.length : Int)) (L.llenIT rfl b) (WO.ifS (L.neq rfl rfl) (fun c1 => by exfalso; omega) (fun c1 => ?_)))))))))))
 refine WO.nil (WP.cond (t := false) rfl (WP.skip (WP.seq (WP.seq (WP.reg (WO.valS (v := .int .i64 0) rfl (WO.nil (WP.block (WP.loopG (α := Nat) (fun i env h_ => ∃ x2 x5 x6 x7 x8 x9, (i ≤ J.length) ∧ env = argsP [v, w, x2, .bool false, .int .i64 (i : Int), x5, x6, x7, x8, x9] 0 Env.nil ∧ h_ = h0) (fun i => J.length - i) 0 ?_ ?_)))))))))
 ·exact ⟨(.bool false), .bot, .bot, .bot, .bot, .bot, Nat.zero_le _, by kernel_rfl, rfl⟩
 rintro i _ h ⟨x2, x5, x6, x7, x8, x9, hi, rfl, rfl⟩
 refine WP.seq (WP.seq (WP.reg (WO.val (v := .int .i64 (J.length : Int)) (L.llenIT rfl a) (WO.ifS (L.lss rfl rfl) (fun c1 => ?_) (fun c1 => ?_)))))
 ·replace c1 : i < J.length := by omega
  obtain ⟨r, hr⟩ : ∃ y, J[i]? = some y := ⟨J[i]'(by omega), List.getElem?_eq_getElem (by omega)⟩
  obtain ⟨u, hu1, hu2⟩ := a.at hr
  obtain ⟨u2, hw1, hw2⟩ := b.at hr
  have hrl : r.length < 4294967296 := sm.2 r (List.mem_of_getElem? hr)
  refine WO.nil (WP.cond (t := true) rfl (WP.skip (WP.seq (WP.block (WP.seq (WP.seq (WP.draw (WD.val (v := v) rfl (WD.val (v := .int .i64 (i : Int)) rfl (WD.val (v := .ptr (slB v) (slO v + i * 1)) (L.iaddrIT a (by omega) rfl rfl) (WD.val (v := u) (L.load rfl hu1) (WD.val (v := .int .i64 (r.length : Int)) (L.llenRn rfl hu2 (List.length_map _)) (WD.val (v := w) rfl (WD.val (v := .int .i64 (i : Int)) rfl (WD.val (v := .ptr (slB w) (slO w + i * 1)) (L.iaddrIT b (by omega) rfl rfl) (WD.val (v := u2) (L.load rfl hw1) (WD.val (v := .int .i64 (r.length : Int)) (L.llenRn rfl hw2 (List.length_map _)) (WD.ifS (L.neq rfl rfl) (fun _ c2 => by exfalso; exact c2 rfl) (fun _ c2 => ?_)))))))))))))))))))
  refine WD.nil (WP.cond (t := false) rfl (WP.skip (WP.seq (WP.reg (WO.valS (v := .int .i64 0) rfl (WO.nil (WP.block (WP.loopG (α := Nat) (fun k env h_ => ∃ x2 x8 x9, (k ≤ r.length) ∧ env = argsP [v, w, x2, .bool false, .int .i64 (i : Int), .bool true, .bool false, .int .i64 (k : Int), x8, x9] 0 Env.nil ∧ h_ = h) (fun k => r.length - k) 0 ?_ ?_))))))))
  ·exact ⟨x2, x8, x9, Nat.zero_le _, by kernel_rfl, rfl⟩
  rintro k _ h ⟨x2, x8, x9, hk, rfl, rfl⟩
  refine WP.seq (WP.seq (WP.reg (WO.val (v := .ptr (slB v) (slO v + i * 1)) (L.iaddrIT a (by omega) rfl rfl) (WO.val (v := u) (L.load rfl hu1) (WO.val (v := .int .i64 (r.length : Int)) (L.llenRn rfl hu2 (List.length_map _)) (WO.ifS (L.lss rfl rfl) (fun c2 => ?_) (fun c2 => ?_)))))))
  ·replace c2 : k < r.length := by omega
   obtain ⟨x, hx⟩ : ∃ y, r[k]? = some y := ⟨r[k]'(by omega), List.getElem?_eq_getElem (by omega)⟩
   refine WO.nil (WP.cond (t := true) rfl (WP.skip (WP.seq (WP.block (WP.seq (WP.draw (WD.val (v := v) rfl (WD.val (v := .int .i64 (i : Int)) rfl (WD.val (v := .ptr (slB v) (slO v + i * 1)) (L.iaddrIT a (by omega) rfl rfl) (WD.val (v := u) (L.load rfl hu1) (WD.val (v := .int .i64 (k : Int)) rfl (WD.val (v := .ptr (slB u) (slO u + k * 1)) (L.iaddrZ hu2 (by rw [List.length_map]; omega) rfl rfl) (WD.val (v := .int .i64 (x : Int)) (L.load rfl (hu2.load1Z (show _ = some (iv x) by rw [List.getElem?_map, hx]; rfl))) ?_)))))))))))))
   refine WD.val (v := w) rfl (WD.val (v := .int .i64 (i : Int)) rfl (WD.val (v := .ptr (slB w) (slO w + i * 1)) (L.iaddrIT b (by omega) rfl rfl) (WD.val (v := u2) (L.load rfl hw1) (WD.val (v := .int .i64 (k : Int)) rfl (WD.val (v := .ptr (slB u2) (slO u2 + k * 1)) (L.iaddrZ hw2 (by rw [List.length_map]; omega) rfl rfl) (WD.val (v := .int .i64 (x : Int)) (L.load rfl (hw2.load1Z (show _ = some (iv x) by rw [List.getElem?_map, hx]; rfl))) ?_))))))
   refine WD.ifS (L.neq rfl rfl) (fun _ c3 => by exfalso; exact c3 rfl) (fun _ c3 => ?_)
   refine WD.nil (WP.cond (t := false) rfl (WP.skip (WP.reg (WO.valS (v := .int .i64 ((k + 1 : Nat) : Int)) (L.addE rfl rfl (by omega) (And.intro (by omega) (by omega))) (WO.nil ?_)))))
   exact ⟨k + 1, (by omega), x2, (.bool true), (.bool false), by omega, by kernel_rfl, rfl⟩
  ·replace c2 : ¬ (k < r.length) := by omega
   refine WO.nil (WP.cond (t := false) rfl (WP.exit (WP.reg (WO.valS (v := .int .i64 ((i + 1 : Nat) : Int)) (L.addE rfl rfl (by omega) (And.intro (by omega) (by omega))) (WO.nil ?_)))))
   exact ⟨i + 1, (by omega), x2, (.bool true), (.bool false), (.int .i64 (k : Int)), (.bool false), x9, by omega, by kernel_rfl, rfl⟩
 ·replace c1 : ¬ (i < J.length) := by omega
  refine WO.nil (WP.cond (t := false) rfl (WP.exit (WP.seq (WP.reg (WO.valS (v := .bool true) rfl (WO.nil (WP.ret ?_)))))))
  exact ⟨_, (res_cons (res_tmp (v := .bool true) rfl) (res_nil _ _)), rfl, rfl⟩
theorem same_t (D : HasS c) {fs : List Fact} {h : Heap} {vN vL vJ vK wN wL wJ wK : V} {t : Lat} (sm : t.small) (st : St (.stb (fun h => LatR h vN vL vJ vK t) :: .stb (fun h => LatR h wN wL wJ wK t) :: fs) h) :
  RunP c 14 [.agg (t.num vN vL vJ vK), .agg (t.num wN wL wJ wK)] h fun v1 h1 => v1 = .bool true ∧ St (.stb (fun h => LatR h vN vL vJ vK t) :: .stb (fun h => LatR h wN wL wJ wK t) :: fs) h1 := by
 obtain ⟨sm1, sm2, sm3, sm4⟩ := sm
 have smL := sm2.1
 refine RunP.fun_ D.f14 rfl (WP.seq (WP.reg (WO.boxFS st (L.box (l := [vN, vL, vJ, vK, .int .i64 (t.lo : Int), .int .i64 (t.hi : Int)]) rfl rfl) (fun p1 h st => ?_))))
 refine WO.boxFS st (L.box (l := [wN, wL, wJ, wK, .int .i64 (t.lo : Int), .int .i64 (t.hi : Int)]) rfl rfl) (fun p2 h st => ?_)
 refine WO.valS (v := .bool false) rfl (WO.nil (WP.seq (WP.seq (WP.reg (WO.val (v := .ptr p1 0) (L.faddr rfl) (WO.val (v := vN) (L.loadB rfl (st.box_at 1 rfl) rfl) (WO.val (v := .ptr p2 0) (L.faddr rfl) (WO.val (v := wN) (L.loadB rfl (st.box_at 0 rfl) rfl) (WO.callF rfl (texts_t D sm1 (st.stb_at 2 rfl).N (st.stb_at 3 rfl).N) ?_)))))))))
 rintro _ _ ⟨rfl, rfl⟩
 refine WO.val (v := .bool false) rfl (WO.yes rfl (WO.val (v := .ptr p1 4) (L.faddr rfl) (WO.yes rfl (WO.val (v := .int .i64 (t.lo : Int)) (L.loadB rfl (st.box_at 1 rfl) rfl) (WO.yes rfl (WO.val (v := .ptr p2 4) (L.faddr rfl) (WO.yes rfl (WO.val (v := .int .i64 (t.lo : Int)) (L.loadB rfl (st.box_at 0 rfl) rfl) (WO.yes rfl (WO.ifV (L.neq rfl rfl) (fun c1 => by exfalso; exact c1 rfl) (fun c1 => ?_)))))))))))
 refine WO.val (v := .bool false) rfl (WO.yes rfl (WO.val (v := .ptr p1 5) (L.faddr rfl) (WO.yes rfl (WO.val (v := .int .i64 (t.hi : Int)) (L.loadB rfl (st.box_at 1 rfl) rfl) (WO.yes rfl (WO.val (v := .ptr p2 5) (L.faddr rfl) (WO.yes rfl (WO.val (v := .int .i64 (t.hi : Int)) (L.loadB rfl (st.box_at 0 rfl) rfl) (WO.yes rfl (WO.ifV (L.neq rfl rfl) (fun c2 => by exfalso; exact c2 rfl) (fun c2 => ?_)))))))))))
 refine WO.val (v := .bool false) rfl (WO.yes rfl (WO.val (v := .ptr p1 1) (L.faddr rfl) (WO.yes rfl (WO.val (v := vL) (L.loadB rfl (st.box_at 1 rfl) rfl) (WO.yes rfl (WO.val (v := .int .i64 (t.M.length : Int)) (L.llenBT rfl (st.stb_at 2 rfl).L) (WO.yes rfl (WO.val (v := .ptr p2 1) (L.faddr rfl) (WO.yes rfl (WO.val (v := wL) (L.loadB rfl (st.box_at 0 rfl) rfl) (WO.yes rfl (WO.val (v := .int .i64 (t.M.length : Int)) (L.llenBT rfl (st.stb_at 3 rfl).L) (WO.yes rfl (WO.ifV (L.neq rfl rfl) (fun c3 => by exfalso; exact c3 rfl) (fun c3 => ?_)))))))))))))))
 refine WO.val (v := .bool false) rfl (WO.yes rfl (WO.val (v := .ptr p1 2) (L.faddr rfl) (WO.yes rfl (WO.val (v := vJ) (L.loadB rfl (st.box_at 1 rfl) rfl) (WO.yes rfl (WO.val (v := .int .i64 (t.J.length : Int)) (L.llenIT rfl (st.stb_at 2 rfl).J) (WO.yes rfl (WO.val (v := .ptr p2 2) (L.faddr rfl) (WO.yes rfl (WO.val (v := wJ) (L.loadB rfl (st.box_at 0 rfl) rfl) (WO.yes rfl (WO.val (v := .int .i64 (t.J.length : Int)) (L.llenIT rfl (st.stb_at 3 rfl).J) (WO.yes rfl (WO.ifV (L.neq rfl rfl) (fun c4 => by exfalso; exact c4 rfl) (fun c4 => ?_)))))))))))))))
 refine WO.val (v := .bool false) rfl (WO.yes rfl (WO.val (v := .ptr p1 3) (L.faddr rfl) (WO.yes rfl (WO.val (v := vK) (L.loadB rfl (st.box_at 1 rfl) rfl) (WO.yes rfl (WO.val (v := .int .i64 (t.K.length : Int)) (L.llenIT rfl (st.stb_at 2 rfl).K) (WO.yes rfl (WO.val (v := .ptr p2 3) (L.faddr rfl) (WO.yes rfl (WO.val (v := wK) (L.loadB rfl (st.box_at 0 rfl) rfl) (WO.yes rfl (WO.val (v := .int .i64 (t.K.length : Int)) (L.llenIT rfl (st.stb_at 3 rfl).K) (WO.yes rfl (WO.ifV (L.neq rfl rfl) (fun c5 => by exfalso; exact c5 rfl) (fun c5 => ?_)))))))))))))))
 refine WO.valS (v := .bool false) rfl (WO.nil (WP.cond (t := false) rfl (WP.skip (WP.seq (WP.seq (WP.reg (WO.valS (v := .int .i64 0) rfl (WO.nil (WP.block (WP.loopG (α := Nat) (fun i env h => ∃ x2 x7 x8 x9 x10 x11, (i ≤ t.M.length) ∧ env = argsP [.agg [vN, vL, vJ, vK, .int .i64 (t.lo : Int), .int .i64 (t.hi : Int)], .agg [wN, wL, wJ, wK, .int .i64 (t.lo : Int), .int .i64 (t.hi : Int)], x2, .ptr p1 0, .ptr p2 0, .bool false, .int .i64 (i : Int), x7, x8, x9, x10, x11] 0 Env.nil ∧ St (.box p1 [vN, vL, vJ, vK, .int .i64 (t.lo : Int), .int .i64 (t.hi : Int)] :: .box p2 [wN, wL, wJ, wK, .int .i64 (t.lo : Int), .int .i64 (t.hi : Int)] :: .stb (fun h => LatR h vN vL vJ vK t) :: .stb (fun h => LatR h wN wL wJ wK t) :: fs) h) (fun i => t.M.length - i) 0 ?_ ?_))))))))))
 ·exact ⟨(.bool false), .bot, .bot, .bot, .bot, .bot, Nat.zero_le _, by kernel_rfl, (st.pick 1 rfl)⟩
 rintro i _ h ⟨x2, x7, x8, x9, x10, x11, hi, rfl, st⟩
 refine WP.seq (WP.seq (WP.reg (WO.val (v := .ptr p1 1) (L.faddr rfl) (WO.val (v := vL) (L.loadB rfl (st.box_at 0 rfl) rfl) (WO.val (v := .int .i64 (t.M.length : Int)) (L.llenBT rfl (st.stb_at 2 rfl).L) (WO.ifS (L.lss rfl rfl) (fun c1 => ?_) (fun c1 => ?_)))))))
 ·replace c1 : i < t.M.length := by omega
  obtain ⟨r, hr⟩ : ∃ y, t.M[i]? = some y := ⟨t.M[i]'(by omega), List.getElem?_eq_getElem (by omega)⟩
  have hrl : r.length < 4294967296 := sm2.2 r (List.mem_of_getElem? hr)
  refine WO.nil (WP.cond (t := true) rfl (WP.skip (WP.seq (WP.block (WP.seq (WP.seq (WP.draw ?_)))))))
  obtain ⟨u, hu1, hu2⟩ := (st.stb_at 2 rfl).L.at hr
  obtain ⟨u2, hw1, hw2⟩ := (st.stb_at 3 rfl).L.at hr
  refine WD.val (v := .ptr p1 1) (L.faddr rfl) (WD.val (v := vL) (L.loadB rfl (st.box_at 0 rfl) rfl) (WD.val (v := .int .i64 (i : Int)) rfl (WD.val (v := .ptr (slB vL) (slO vL + i * 1)) (L.iaddrBT (st.stb_at 2 rfl).L (by omega) rfl rfl) (WD.val (v := u) (L.load rfl hu1) (WD.val (v := .int .i64 (r.length : Int)) (L.llenRn rfl hu2 (List.length_map _)) (WD.val (v := .ptr p2 1) (L.faddr rfl) (WD.val (v := wL) (L.loadB rfl (st.box_at 1 rfl) rfl) (WD.val (v := .int .i64 (i : Int)) rfl (WD.val (v := .ptr (slB wL) (slO wL + i * 1)) (L.iaddrBT (st.stb_at 3 rfl).L (by omega) rfl rfl) (WD.val (v := u2) (L.load rfl hw1) (WD.val (v := .int .i64 (r.length : Int)) (L.llenRn rfl hw2 (List.length_map _)) (WD.ifS (L.neq rfl rfl) (fun _ c6 => by exfalso; exact c6 rfl) (fun _ c6 => ?_)))))))))))))
  refine WD.nil (WP.cond (t := false) rfl (WP.skip (WP.seq (WP.reg (WO.valS (v := .int .i64 0) rfl (WO.nil (WP.block (WP.loopG (α := Nat) (fun k env h => ∃ x2 x10 x11, (k ≤ r.length) ∧ env = argsP [.agg [vN, vL, vJ, vK, .int .i64 (t.lo : Int), .int .i64 (t.hi : Int)], .agg [wN, wL, wJ, wK, .int .i64 (t.lo : Int), .int .i64 (t.hi : Int)], x2, .ptr p1 0, .ptr p2 0, .bool false, .int .i64 (i : Int), .bool true, .bool false, .int .i64 (k : Int), x10, x11] 0 Env.nil ∧ St (.box p1 [vN, vL, vJ, vK, .int .i64 (t.lo : Int), .int .i64 (t.hi : Int)] :: .box p2 [wN, wL, wJ, wK, .int .i64 (t.lo : Int), .int .i64 (t.hi : Int)] :: .stb (fun h => LatR h vN vL vJ vK t) :: .stb (fun h => LatR h wN wL wJ wK t) :: fs) h) (fun k => r.length - k) 0 ?_ ?_))))))))
  ·exact ⟨x2, x10, x11, Nat.zero_le _, by kernel_rfl, st⟩
  rintro k _ h ⟨x2, x10, x11, hk, rfl, st⟩
  refine WP.seq (WP.seq (WP.reg ?_))
  obtain ⟨u, hu1, hu2⟩ := (st.stb_at 2 rfl).L.at hr
  obtain ⟨u2, hw1, hw2⟩ := (st.stb_at 3 rfl).L.at hr
  refine WO.val (v := .ptr p1 1) (L.faddr rfl) (WO.val (v := vL) (L.loadB rfl (st.box_at 0 rfl) rfl) (WO.val (v := .ptr (slB vL) (slO vL + i * 1)) (L.iaddrBT (st.stb_at 2 rfl).L (by omega) rfl rfl) (WO.val (v := u) (L.load rfl hu1) (WO.val (v := .int .i64 (r.length : Int)) (L.llenRn rfl hu2 (List.length_map _)) (WO.ifS (L.lss rfl rfl) (fun c2 => ?_) (fun c2 => ?_))))))
  ·replace c2 : k < r.length := by omega
   obtain ⟨x, hx⟩ : ∃ y, r[k]? = some y := ⟨r[k]'(by omega), List.getElem?_eq_getElem (by omega)⟩
   refine WO.nil (WP.cond (t := true) rfl (WP.skip (WP.seq (WP.block (WP.seq (WP.draw (WD.val (v := .ptr p1 1) (L.faddr rfl) (WD.val (v := vL) (L.loadB rfl (st.box_at 0 rfl) rfl) (WD.val (v := .int .i64 (i : Int)) rfl (WD.val (v := .ptr (slB vL) (slO vL + i * 1)) (L.iaddrBT (st.stb_at 2 rfl).L (by omega) rfl rfl) (WD.val (v := u) (L.load rfl hu1) (WD.val (v := .int .i64 (k : Int)) rfl (WD.val (v := .ptr (slB u) (slO u + k * 1)) (L.iaddrZ hu2 (by rw [List.length_map]; omega) rfl rfl) (WD.val (v := .bool x) (L.load rfl (hu2.load1Z (show _ = some (bv x) by rw [List.getElem?_map, hx]; rfl))) ?_))))))))))))))
   refine WD.val (v := .ptr p2 1) (L.faddr rfl) (WD.val (v := wL) (L.loadB rfl (st.box_at 1 rfl) rfl) (WD.val (v := .int .i64 (i : Int)) rfl (WD.val (v := .ptr (slB wL) (slO wL + i * 1)) (L.iaddrBT (st.stb_at 3 rfl).L (by omega) rfl rfl) (WD.val (v := u2) (L.load rfl hw1) (WD.val (v := .int .i64 (k : Int)) rfl (WD.val (v := .ptr (slB u2) (slO u2 + k * 1)) (L.iaddrZ hw2 (by rw [List.length_map]; omega) rfl rfl) (WD.val (v := .bool x) (L.load rfl (hw2.load1Z (show _ = some (bv x) by rw [List.getElem?_map, hx]; rfl))) ?_)))))))
   refine WD.valS (v := .bool false) (L.neBool_same rfl rfl) (WD.nil (WP.cond (t := false) rfl (WP.skip (WP.reg (WO.valS (v := .int .i64 ((k + 1 : Nat) : Int)) (L.addE rfl rfl (by omega) (And.intro (by omega) (by omega))) (WO.nil ?_))))))
   exact ⟨k + 1, (by omega), x2, (.bool true), (.bool false), by omega, by kernel_rfl, st⟩
  ·replace c2 : ¬ (k < r.length) := by omega
   refine WO.nil (WP.cond (t := false) rfl (WP.exit (WP.reg (WO.valS (v := .int .i64 ((i + 1 : Nat) : Int)) (L.addE rfl rfl (by omega) (And.intro (by omega) (by omega))) (WO.nil ?_)))))
   exact ⟨i + 1, (by omega), x2, (.bool true), (.bool false), (.int .i64 (k : Int)), (.bool false), x11, by omega, by kernel_rfl, st⟩
 ·replace c1 : ¬ (i < t.M.length) := by omega
  refine WO.nil (WP.cond (t := false) rfl (WP.exit (WP.seq (WP.reg (WO.val (v := .ptr p1 2) (L.faddr rfl) (WO.val (v := vJ) (L.loadB rfl (st.box_at 0 rfl) rfl) (WO.val (v := .ptr p2 2) (L.faddr rfl) (WO.val (v := wJ) (L.loadB rfl (st.box_at 1 rfl) rfl) (WO.callF rfl (ints_t D sm3 (st.stb_at 2 rfl).J (st.stb_at 3 rfl).J) ?_)))))))))
  rintro _ _ ⟨rfl, rfl⟩
  refine WO.yes rfl (WO.val (v := .ptr p1 3) (L.faddr rfl) (WO.yes rfl (WO.val (v := vK) (L.loadB rfl (st.box_at 0 rfl) rfl) (WO.yes rfl (WO.val (v := .ptr p2 3) (L.faddr rfl) (WO.yes rfl (WO.val (v := wK) (L.loadB rfl (st.box_at 1 rfl) rfl) (WO.yes rfl (WO.callF rfl (ints_t D sm4 (st.stb_at 2 rfl).K (st.stb_at 3 rfl).K) ?_)))))))))
  rintro _ _ ⟨rfl, rfl⟩
  refine WO.valS (v := .bool true) rfl (WO.nil (WP.ret ?_))
  exact ⟨_, (res_cons (res_tmp (v := .bool true) rfl) (res_nil _ _)), rfl, st.tail.tail⟩
theorem pairs_c (D : HasS c) {fs : List Fact} {h : Heap} {a : V} {ns : List UInt8} (hn : ns.length < 4294967296) (st : St (.stb (fun h => ByRows h a ns) :: fs) h) :
  RunP c 20 [a] h fun v1 h1 => St (.stb (fun h => PRows h v1 (p0 (Lab.pairs ns))) :: .stb (fun h => ByRows h a ns) :: fs) h1 := by
 refine RunP.fun_ D.f20 rfl (WP.seq (WP.reg (WO.valS (v := .slN) rfl (WO.nil (WP.seq (WP.reg (WO.valS (v := .slN) rfl (WO.nil (WP.seq (WP.seq (WP.reg (WO.valS (v := .int .i64 0) rfl (WO.nil (WP.block ?_))))))))))))))
 replace st : St (.acc 0 3 .slN ([]) :: .stb (fun h => ByRows h a ns) :: fs) h := st.acc0 3
 refine WP.loopG (α := Nat) (fun j env h => ∃ fa va x3, (2 * j ≤ ns.length) ∧ env = argsP [a, .slN, .int .i64 ((2 * j : Nat) : Int), x3, va] 0 Env.nil ∧ St (.acc fa 3 va (QPr (Lab.pairsK ns j)) :: .stb (fun h => ByRows h a ns) :: fs) h) (fun j => ns.length - j) 0 ?_ ?_
 ·exact ⟨0, .slN, .bot, Nat.zero_le _, by kernel_rfl, st⟩
 rintro j _ h ⟨fa, va, x3, hj, rfl, st⟩
 refine WP.seq (WP.seq (WP.reg (WO.val (v := .int .i64 ((2 * j + 1 : Nat) : Int)) (L.addE rfl rfl (by omega) (And.intro (by omega) (by omega))) (WO.val (v := .int .i64 (ns.length : Int)) (L.llenBy rfl (st.stb_at 1 rfl)) (WO.ifS (L.lss rfl rfl) (fun c1 => ?_) (fun c1 => ?_))))))
 ·replace c1 : 2 * j + 1 < ns.length := by omega
  obtain ⟨x, hx⟩ : ∃ y, ns[2 * j]? = some y := ⟨ns[2 * j]'(by omega), List.getElem?_eq_getElem (by omega)⟩
  obtain ⟨y, hy⟩ : ∃ y, ns[2 * j + 1]? = some y := ⟨ns[2 * j + 1]'(by omega), List.getElem?_eq_getElem (by omega)⟩
  have hx6 : x.toNat < 256 := x.toNat_lt
  have hy6 : y.toNat < 256 := y.toNat_lt
  refine WO.nil (WP.cond (t := true) rfl (WP.skip (WP.seq (WP.block (WP.draw (WD.val (v := va) rfl (WD.val (v := a) rfl (WD.val (v := .int .i64 ((2 * j : Nat) : Int)) rfl (WD.val (v := .ptr (slB a) (slO a + (2 * j) * 1)) (L.iaddrBy (st.stb_at 1 rfl) (by omega) rfl rfl) (WD.val (v := .int .u8 (x.toNat : Int)) (L.load rfl ((st.stb_at 1 rfl).at hx)) (WD.val (v := .int .u8 ((x.toNat % 6 : Nat) : Int)) (L.rem (b := 6) rfl rfl rfl (by decide)) (WD.val (v := .int .u8 ((97 + x.toNat % 6 : Nat) : Int)) (L.addU8 (a := 97) rfl rfl rfl (by omega)) (WD.bslF (rows := [[.int .u8 ((97 + x.toNat % 6 : Nat) : Int)]]) st rfl (by decide) rfl (by simp) (fun bs1 h _ st => ?_))))))))))))))
  refine WD.val (v := L.str [UInt8.ofNat (97 + x.toNat % 6)]) (L.bstrK (k := 97 + x.toNat % 6) rfl (by omega) (st.stb_at 0 rfl)) (WD.val (v := a) rfl (WD.val (v := .int .i64 ((2 * j : Nat) : Int)) rfl (WD.val (v := .int .i64 ((2 * j + 1 : Nat) : Int)) (L.addE rfl rfl (by omega) (And.intro (by omega) (by omega))) (WD.val (v := .ptr (slB a) (slO a + (2 * j + 1) * 1)) (L.iaddrBy (st.stb_at 2 rfl) (by omega) rfl rfl) (WD.val (v := .int .u8 (y.toNat : Int)) (L.load rfl ((st.stb_at 2 rfl).at hy)) (WD.val (v := .int .u8 ((y.toNat % 6 : Nat) : Int)) (L.rem (b := 6) rfl rfl rfl (by decide)) (WD.val (v := .int .u8 ((97 + y.toNat % 6 : Nat) : Int)) (L.addU8 (a := 97) rfl rfl rfl (by omega)) (WD.bslF (rows := [[.int .u8 ((97 + y.toNat % 6 : Nat) : Int)]]) st rfl (by decide) rfl (by simp) (fun bs2 h _ st => ?_)))))))))
  refine WD.val (v := L.str [UInt8.ofNat (97 + y.toNat % 6)]) (L.bstrK (k := 97 + y.toNat % 6) rfl (by omega) (st.stb_at 0 rfl)) (WD.val (v := .agg [L.str [UInt8.ofNat (97 + x.toNat % 6)], L.str [UInt8.ofNat (97 + y.toNat % 6)], .int .i64 0]) (L.build rfl) (WD.bslF (rows := [[L.str [UInt8.ofNat (97 + x.toNat % 6)], L.str [UInt8.ofNat (97 + y.toNat % 6)], .int .i64 0]]) st rfl (by decide) rfl (by simp) (fun pl1 h _ st => ?_)))
  refine WD.appF st 3 rfl rfl rfl (st.stb_at 0 rfl) (by decide) (by rw [QPr_len, Lab.pairsK_len]; simp only [List.length_cons, List.length_nil]; omega) (fun _ _ h st => rfl) (fun fb vb h st => ?_)
  rw [show QPr (Lab.pairsK ns j) ++ [[L.str [UInt8.ofNat (97 + x.toNat % 6)], L.str [UInt8.ofNat (97 + y.toNat % 6)], V.int .i64 0]] = QPr (Lab.pairsK ns (j + 1)) from by rw [Lab.pairsK_succ, QPr_app, Lab.lt_at hx, Lab.lt_at hy]; rfl] at st
  refine WD.valS (v := vb) rfl (WD.nil (WP.reg (WO.valS (v := .int .i64 ((2 * (j + 1) : Nat) : Int)) (L.addE rfl rfl (by omega) (And.intro (by omega) (by omega))) (WO.nil ?_))))
  exact ⟨j + 1, (by omega), fb, vb, (.bool true), by omega, by kernel_rfl, st.tail.tail.tail⟩
 ·replace c1 : ¬ (2 * j + 1 < ns.length) := by omega
  refine WO.nil (WP.cond (t := false) rfl (WP.exit (WP.seq (WP.reg (WO.valS (v := va) rfl (WO.nil (WP.ret ?_)))))))
  have ej : Lab.pairsK ns j = Lab.pairs ns := by unfold Lab.pairs; rw [show j = ns.length / 2 by omega]
  rw [ej] at st
  exact ⟨_, (res_cons (res_tmp (v := va) rfl) (res_nil _ _)), ((st).shut (by decide)).imp0 fun h hx => PRows.of hx⟩
end
end Go.Eng.Ytjgmahbgfbkhnaa
