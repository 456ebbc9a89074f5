/- Part of a proof of a law, by an evaluator that the machine follows: rules, contracts of functions, what they come to. No condition of its own. -/
import Derived.Test.YtfapefhnicdncaaConB
import Derived.Test.YtfapefhnicdncaaSymE
set_option linter.unusedVariables false
set_option linter.unusedSimpArgs false
namespace Go.Eng.Ytfapefhnicdncaa
open Go.Eng
noncomputable section
variable {c : Ctx}
/-- the functions that are told -/
structure HasFm (c : Ctx) : Prop where
  f8 : T.get 8 c.funs = some i8
  f10 : T.get 10 c.funs = some i10
  f11 : T.get 11 c.funs = some i11
  f13 : T.get 13 c.funs = some i13
  f18 : T.get 18 c.funs = some i18
  f19 : T.get 19 c.funs = some i19
  w : HasWy c
theorem FI.mu1 {l : List Lab.Txt} {y : Lab.Txt} (S : List Lab.Txt) : (8 - S.length) * 65 + l.length < (8 - S.length) * 65 + (l ++ [y]).length := by
  rw [List.length_append]; simp only [List.length_cons, List.length_nil]; omega
theorem FI.mu2 {W : Gr} {x y : Lab.Txt} {S l : List Lab.Txt} (g : GdW W) (f : FI W x S (l ++ [y])) (hy : y ∉ S) : (8 - (S ++ [y]).length) * 65 + (l ++ succG W y).length < (8 - S.length) * 65 + (l ++ [y]).length := by
  have h1 := FI.room g f hy
  have h2 := g.deg y
  simp only [List.length_append, List.length_cons, List.length_nil]
  omega
theorem not_take2 {ns : List Lab.Txt} {x y : Lab.Txt} {k : Nat} (hn : x ∉ ns.take k) (h : ns[k]? = some y) (e : x ≠ y) : x ∉ ns.take (k + 1) := by
  rw [List.take_add_one, h]; simp [hn, e]
theorem gdW_of {G : Gr} (g : GdN G) : GdW (wayG G) := by
  refine ⟨by unfold wayG; rw [List.length_map]; exact g.few, fun p hp => ?_, fun p hp y hy => ?_⟩
  · obtain ⟨q, hq, rfl⟩ := List.mem_map.1 hp
    exact Nat.le_trans (List.length_filter_le _ _) (g.to q hq)
  · obtain ⟨q, hq, rfl⟩ := List.mem_map.1 hp
    rw [wayG_nms]
    have := (List.mem_filter.1 hy).2
    exact of_decide_eq_true this
theorem clone_s (D : HasFm c) {fs : List Fact} {h : Heap} {v : V} {l : List Lab.Txt} (hn : l = [] → v = .slN) (hl : l.length < 4294967296) (st : St (.stb (fun h => Rows 1 h v (SR l)) :: fs) h) :
    RunP c 19 [v] h fun v1 h1 => ∃ bs f, St (.acu bs f 1 v1 (SR l) :: .stb (fun h => Rows 1 h v (SR l)) :: fs) h1 := by
  refine RunP.fun_ D.f19 rfl ?_
  refine WP.seq ?_
  refine WP.reg ?_
  refine WO.valS (v := .slN) rfl ?_
  refine WO.nil ?_
  refine WP.seq ?_
  refine WP.seq ?_
  refine WP.reg ?_
  have hR : Rows 1 h v (SR l) := st.stb_at 0 rfl
  by_cases hv : v = .slN
  · subst hv
    obtain rfl : l = [] := by
      cases l with
      | nil => rfl
      | cons a l => cases hR
    refine WO.valS (v := .bool true) (L.slnilT rfl rfl) ?_
    refine WO.nil ?_
    refine WP.cond (t := true) rfl ?_
    refine WP.seq ?_
    refine WP.reg ?_
    refine WO.valS (v := .slN) rfl ?_
    refine WO.nil ?_
    refine WP.ret ?_
    exact ⟨_, (res_cons (res_tmp (v := .slN) rfl) (res_nil _ _)), [], 0, St.acu0 st 1⟩
  · have hne : l ≠ [] := fun e => hv (hn e)
    have hl0 : 0 < l.length := List.length_pos_iff.2 hne
    have hsl := hR.sl (i := 0) (by rw [SR_len]; exact hl0)
    refine WO.valS (v := .bool false) (L.slnilF hsl rfl) ?_
    refine WO.nil ?_
    refine WP.cond (t := false) rfl ?_
    refine WP.skip ?_
    refine WP.seq ?_
    refine WP.reg ?_
    refine WO.bslL8 (rows := []) st rfl (by decide) rfl (fun row hm => by cases hm) (fun eb h h8 st => ?_)
    replace st : St (.stb (fun h => Rows 1 h (.sl eb 0 0 (some 0)) []) :: .stb (fun h => Rows 1 h v (SR l)) :: fs) h := st
    refine WO.appEUS st rfl h8 rfl (st.stb_at 1 rfl) (by decide) (by rw [SR_len]; exact hl0) (by rw [SR_len]; omega) (fun bs f vc h st => ?_)
    replace st : St (.acu bs f 1 vc (SR l) :: .stb (fun h => Rows 1 h (.sl eb 0 0 (some 0)) []) :: .stb (fun h => Rows 1 h v (SR l)) :: fs) h := st
    refine WO.nil ?_
    refine WP.ret ?_
    exact ⟨_, (res_cons (res_tmp (v := vc) rfl) (res_nil _ _)), bs, f, (st.pick 1 rfl).tail⟩

theorem from_c (D : HasFm c) {fs : List Fact} {h : Heap} {m : Nat} {W : Gr} {vs : List V} {x : Lab.Txt} (g : GdW W) (st : St (.stb (fun h => WaysV h m W vs) :: fs) h) :
    RunP c 13 [.map m, L.str x] h fun v1 h1 => ∃ mo S, v1 = .map mo ∧ S.Nodup ∧ (∀ y ∈ S, y ∈ nmsG W) ∧ (∀ y, y ∈ S ↔ Reach W x y) ∧ St (.stb (fun h => MapAt h mo (ttK S)) :: .stb (fun h => WaysV h m W vs) :: fs) h1 := by
  refine RunP.fun_ D.f13 rfl ?_
  refine WP.seq ?_
  refine WP.reg ?_
  refine WO.valS (v := .mapN) rfl ?_
  refine WO.nil ?_
  refine WP.seq ?_
  refine WP.reg ?_
  refine WO.mapFS st (fun mo h st => ?_)
  replace st : St ((MapF mo (ttK ([]))) :: .stb (fun h => WaysV h m W vs) :: fs) h := st
  refine WO.nil ?_
  refine WP.seq ?_
  refine WP.reg ?_
  refine WO.val (v := valK W vs x) (L.lookK rfl rfl ((st.stb_at 1 rfl)).map) ?_
  have hvx := valK_rows ((st.pick 1 rfl).stb_at 0 rfl).rows x
  refine WO.callFS rfl (clone_s D hvx.2 (by have := g.deg x; omega) (((st.pick 1 rfl)).imp (Q := fun h => Rows 1 h (valK W vs x) (SR (succG W x))) fun h hx => (valK_rows hx.rows x).1)) ?_
  rintro v1 h ⟨bs, f, st⟩
  replace st : St (.acu bs f 1 v1 (SR (succG W x)) :: .stb (fun h => WaysV h m W vs) :: (MapF mo (ttK ([]))) :: fs) h := (st.pick 1 rfl).tail
  refine WO.nil ?_
  refine WP.seq ?_
  refine WP.skip ?_
  refine WP.seq ?_
  refine WP.block ?_
  refine WP.loopG (α := Nat) (fun n env h => ∃ S stk bs f v x4 x6 x7, (FI W x S stk ∧ n = (8 - S.length) * 65 + stk.length) ∧ env = argsP [.map m, L.str x, .mapN, v, x4, .map mo, x6, x7] 0 Env.nil ∧ St (.acu bs f 1 v (SR stk) :: (MapF mo (ttK S)) :: .stb (fun h => WaysV h m W vs) :: fs) h) (fun n => n) ((8 - ([] : List Lab.Txt).length) * 65 + (succG W x).length) ?_ ?_
  · exact ⟨[], (succG W x), bs, f, v1, .bot, .bot, .bot, ⟨FI.start g x, rfl⟩, by kernel_rfl, ((st.pick 2 rfl).pick 1 rfl)⟩
  rintro n _ h ⟨S, stk, bs, f, v, x4, x6, x7, ⟨fi, hn_⟩, rfl, st⟩
  replace st : St (.acu bs f 1 v (SR stk) :: (MapF mo (ttK S)) :: .stb (fun h => WaysV h m W vs) :: fs) h := st
  have hS8 := FI.small g fi
  refine WP.seq ?_
  refine WP.seq ?_
  refine WP.reg ?_
  refine WO.val (v := .int .i64 (stk.length : Int)) (L.llenRn rfl (st.acuRows 0 rfl (by decide)) (SR_len _)) ?_
  refine WO.ifS (L.gtr rfl rfl) (fun c1 => ?_) (fun c1 => ?_)
  · replace c1 : 0 < stk.length := by omega
    obtain ⟨l, y, rfl⟩ : ∃ l y, stk = l ++ [y] := ⟨_, _, (List.dropLast_concat_getLast (List.length_pos_iff.1 c1)).symm⟩
    obtain ⟨b, rfl⟩ := acu_sl (n := l.length + 1) (st.acu_at 0 rfl) (by rw [SR_len, List.length_append]; rfl) (by omega)
    have hy : (l ++ [y])[l.length]? = some y := by rw [List.getElem?_append_right (Nat.le_refl _), Nat.sub_self]; rfl
    have hl12 : l.length < 10000 := by have := fi.len; rw [List.length_append] at this; omega
    replace st : St (.acu bs f 1 (.sl b 0 (l.length + 1) none) (SR (l ++ [y])) :: (MapF mo (ttK S)) :: .stb (fun h => WaysV h m W vs) :: fs) h := st
    refine WO.nil ?_
    refine WP.cond (t := true) rfl ?_
    refine WP.skip ?_
    refine WP.block ?_
    refine WP.seq ?_
    refine WP.reg ?_
    refine WO.val (v := .int .i64 ((l.length + 1 : Nat) : Int)) (L.llen rfl) ?_
    refine WO.val (v := .int .i64 (l.length : Int)) (L.subE rfl rfl (by omega) (And.intro (by omega) (by omega))) ?_
    refine WO.val (v := .ptr b (0 + l.length * 1)) (L.iaddr rfl rfl (by omega)) ?_
    refine WO.valS (v := L.str y) (L.load rfl ((st.acuRows 0 rfl (by decide)).load1 (SR_at hy))) ?_
    refine WO.nil ?_
    refine WP.seq ?_
    refine WP.reg ?_
    refine WO.val (v := .int .i64 ((l.length + 1 : Nat) : Int)) (L.llen rfl) ?_
    refine WO.val (v := .int .i64 (l.length : Int)) (L.subE rfl rfl (by omega) (And.intro (by omega) (by omega))) ?_
    refine WO.valS (v := .sl b 0 l.length none) ((L.ssl (i := 0) (j := l.length) rfl (st.acuRows 0 rfl (by decide)) rfl rfl (Nat.zero_le _) (by omega)).trans (by rw [Nat.zero_mul, Nat.add_zero, Nat.sub_zero])) ?_
    have s2 := St.cutU (k := l.length) st (by omega)
    rw [SR_app, List.take_left' (SR_len l)] at s2
    replace st : St (.acu bs f 1 (.sl b 0 l.length none) (SR l) :: (MapF mo (ttK S)) :: .stb (fun h => WaysV h m W vs) :: fs) h := s2
    refine WO.nil ?_
    refine WP.seq ?_
    refine WP.seq ?_
    refine WP.reg ?_
    by_cases hin : y ∈ S
    · refine WO.valS (v := .bool true) ((L.lookK rfl rfl (st.mapAt 1 rfl)).trans (by rw [ttK_get, decide_eq_true hin])) ?_
      refine WO.nil ?_
      refine WP.cond (t := true) rfl ?_
      refine WP.exit ?_
      exact ⟨_, (by rw [hn_]; exact FI.mu1 S), S, l, bs, f, .sl b 0 l.length none, (.bool true), (L.str y), (.bool true), ⟨FI.skip fi hin, rfl⟩, by kernel_rfl, st⟩
    · refine WO.valS (v := .bool false) ((L.lookK rfl rfl (st.mapAt 1 rfl)).trans (by rw [ttK_get, decide_eq_false hin])) ?_
      refine WO.nil ?_
      refine WP.cond (t := false) rfl ?_
      refine WP.skip ?_
      refine WP.seq ?_
      refine WP.reg ?_
      refine WO.mupdK (v := .bool true) (x := y) ((st.pick 1 rfl) : St ((MapF mo (ttK S)) :: .acu bs f 1 (.sl b 0 l.length none) (SR l) :: .stb (fun h => WaysV h m W vs) :: fs) _) rfl rfl rfl (fun h st => ?_)
      rw [ttK_put hin] at st
      replace st : St ((MapF mo (ttK (S ++ [y]))) :: .acu bs f 1 (.sl b 0 l.length none) (SR l) :: .stb (fun h => WaysV h m W vs) :: fs) h := st
      refine WO.nil ?_
      refine WP.reg ?_
      refine WO.val (v := valK W vs y) (L.lookK rfl rfl ((st.stb_at 2 rfl)).map) ?_
      refine WO.appUS ((st.pick 1 rfl) : St (.acu bs f 1 (.sl b 0 l.length none) (SR l) :: (MapF mo (ttK (S ++ [y]))) :: .stb (fun h => WaysV h m W vs) :: fs) _) rfl rfl ((valK_rows (st.stb_at 2 rfl).rows y).1) (by decide) (by rw [SR_len, SR_len]; have := g.deg y; omega) (fun bs2 f2 v2 h st => ?_)
      rw [← SR_app] at st
      replace st : St (.acu bs2 f2 1 v2 (SR (l ++ succG W y)) :: (MapF mo (ttK (S ++ [y]))) :: .stb (fun h => WaysV h m W vs) :: fs) h := st
      refine WO.nil ?_
      exact ⟨_, (by rw [hn_]; exact FI.mu2 g fi hin), (S ++ [y]), (l ++ succG W y), bs2, f2, v2, (.bool true), (L.str y), (.bool false), ⟨FI.add g fi hin, rfl⟩, by kernel_rfl, st⟩
  · obtain rfl : stk = [] := List.length_eq_zero_iff.1 (by omega)
    refine WO.nil ?_
    refine WP.cond (t := false) rfl ?_
    refine WP.exit ?_
    refine WP.seq ?_
    refine WP.reg ?_
    refine WO.valS (v := .map mo) rfl ?_
    refine WO.nil ?_
    refine WP.ret ?_
    have sm := ((st.pick 1 rfl)).mapShut
    exact ⟨_, (res_cons (res_tmp (v := .map mo) rfl) (res_nil _ _)), mo, S, rfl, fi.nd, fi.inN, fi.done, (sm.pick 1 rfl).tail⟩

theorem place_b (D : HasFm c) {h0 : Heap} {v : V} {ns : List Lab.Txt} {x : Lab.Txt} (hn : ns.length < 4294967296) (R : Rows 1 h0 v (SR ns)) :
    RunP c 18 [v, L.str x] h0 fun v1 h1 => ∃ z : Int, v1 = .int .i64 z ∧ (0 ≤ z ↔ x ∈ ns) ∧ h1 = h0 := by
  refine RunP.fun_ D.f18 rfl ?_
  refine WP.seq ?_
  refine WP.reg ?_
  refine WO.valS (v := .int .i64 0) rfl ?_
  refine WO.nil ?_
  refine WP.seq ?_
  refine WP.seq ?_
  refine WP.reg ?_
  refine WO.valS (v := .int .i64 0) rfl ?_
  refine WO.nil ?_
  refine WP.block ?_
  refine WP.loopG (α := Nat) (fun k env h_ => ∃ x2 x4 x5, (k ≤ ns.length ∧ x ∉ ns.take k) ∧ env = argsP [v, L.str x, x2, .int .i64 (k : Int), x4, x5] 0 Env.nil ∧ h_ = h0) (fun k => ns.length - k) 0 ?_ ?_
  · exact ⟨(.int .i64 0), .bot, .bot, ⟨Nat.zero_le _, by simp⟩, by kernel_rfl, rfl⟩
  rintro k _ h ⟨x2, x4, x5, ⟨hk, hnot⟩, rfl, rfl⟩
  refine WP.seq ?_
  refine WP.seq ?_
  refine WP.reg ?_
  refine WO.val (v := .int .i64 (ns.length : Int)) (L.llenRn rfl R (SR_len _)) ?_
  refine WO.ifS (L.lss rfl rfl) (fun c1 => ?_) (fun c1 => ?_)
  · replace c1 : k < ns.length := by omega
    obtain ⟨y, hx⟩ : ∃ y, ns[k]? = some y := ⟨ns[k]'(by omega), List.getElem?_eq_getElem (by omega)⟩
    refine WO.nil ?_
    refine WP.cond (t := true) rfl ?_
    refine WP.skip ?_
    refine WP.seq ?_
    refine WP.block ?_
    refine WP.seq ?_
    refine WP.reg ?_
    refine WO.val (v := .ptr (slB v) (slO v + k * 1)) (L.iaddrZ R (by rw [SR_len]; omega) rfl rfl) ?_
    refine WO.val (v := L.str y) (L.load rfl (R.load1Z (SR_at hx))) ?_
    refine WO.ifS (L.seq rfl rfl) (fun c9 => ?_) (fun c9 => ?_)
    · refine WO.nil ?_
      refine WP.cond (t := true) rfl ?_
      refine WP.seq ?_
      refine WP.reg ?_
      refine WO.valS (v := .int .i64 (k : Int)) rfl ?_
      refine WO.nil ?_
      refine WP.ret ?_
      exact ⟨_, (res_cons (res_tmp (v := .int .i64 (k : Int)) rfl) (res_nil _ _)), _, rfl, ⟨fun _ => by rw [← c9]; exact List.mem_of_getElem? hx, fun _ => by omega⟩, rfl⟩
    · refine WO.nil ?_
      refine WP.cond (t := false) rfl ?_
      refine WP.skip ?_
      refine WP.reg ?_
      refine WO.valS (v := .int .i64 ((k + 1 : Nat) : Int)) (L.addE rfl rfl (by omega) (And.intro (by omega) (by omega))) ?_
      refine WO.nil ?_
      exact ⟨k + 1, (by omega), x2, (.bool true), (.bool false), ⟨by omega, not_take2 hnot hx (fun e => c9 e.symm)⟩, by kernel_rfl, rfl⟩
  · replace c1 : ¬ (k < ns.length) := by omega
    refine WO.nil ?_
    refine WP.cond (t := false) rfl ?_
    refine WP.exit ?_
    refine WP.seq ?_
    refine WP.reg ?_
    refine WO.valS (v := .int .i64 (-1)) rfl ?_
    refine WO.nil ?_
    refine WP.ret ?_
    exact ⟨_, (res_cons (res_tmp (v := .int .i64 (-1)) rfl) (res_nil _ _)), _, rfl, ⟨fun h => absurd h (by decide), fun h => absurd h (by rw [List.take_of_length_le (by omega)] at hnot; exact hnot)⟩, rfl⟩

theorem has_c (D : HasFm c) {h0 : Heap} {v : V} {ns : List Lab.Txt} {x : Lab.Txt} (hn : ns.length < 4294967296) (R : Rows 1 h0 v (SR ns)) :
    RunP c 10 [v, L.str x] h0 fun v1 h1 => v1 = .bool (decide (x ∈ ns)) ∧ h1 = h0 := by
  refine RunP.fun_ D.f10 rfl ?_
  refine WP.seq ?_
  refine WP.reg ?_
  refine WO.valS (v := .bool false) rfl ?_
  refine WO.nil ?_
  refine WP.seq ?_
  refine WP.reg ?_
  refine WO.callF rfl (place_b D hn R) ?_
  rintro _ h ⟨z, rfl, hz, rfl⟩
  refine WO.valS (v := .bool (decide (x ∈ ns))) ((L.geq rfl rfl).trans (by rw [decide_eq_decide.2 hz])) ?_
  refine WO.nil ?_
  refine WP.ret ?_
  exact ⟨_, (res_cons (res_tmp (v := .bool (decide (x ∈ ns))) rfl) (res_nil _ _)), rfl, rfl⟩

theorem back_c (D : HasFm c) {fs : List Fact} {h : Heap} {v : V} {G : Gr} {x y : Lab.Txt} (g : GdN G) (st : St (.stb (fun h => NRows h v G) :: fs) h) :
    RunP c 11 [v, L.str x, L.str y] h fun v1 h1 => ∃ b, v1 = .bool b ∧ (b = true ↔ Reach (wayG G) x y) ∧ St (.stb (fun h => NRows h v G) :: fs) h1 := by
  refine RunP.fun_ D.f11 rfl ?_
  refine WP.seq ?_
  refine WP.reg ?_
  refine WO.valS (v := .bool false) rfl ?_
  refine WO.nil ?_
  refine WP.seq ?_
  refine WP.reg ?_
  refine WO.callF rfl (ways_c D.w g st) ?_
  rintro _ h ⟨m, vs, rfl, st⟩
  replace st : St (.stb (fun h => WaysV h m (wayG G) vs) :: .stb (fun h => NRows h v G) :: fs) h := st
  refine WO.callF rfl (from_c D (gdW_of g) st) ?_
  rintro _ h ⟨mo, S, rfl, _, _, hS, st⟩
  replace st : St (.stb (fun h => MapAt h mo (ttK S)) :: .stb (fun h => WaysV h m (wayG G) vs) :: .stb (fun h => NRows h v G) :: fs) h := st
  refine WO.valS (v := .bool (decide (y ∈ S))) ((L.lookK rfl rfl (st.stb_at 0 rfl)).trans (by rw [ttK_get])) ?_
  refine WO.nil ?_
  refine WP.ret ?_
  exact ⟨_, (res_cons (res_tmp (v := .bool (decide (y ∈ S))) rfl) (res_nil _ _)), _, rfl, by rw [decide_eq_true_iff]; exact hS y, st.tail.tail⟩

theorem texts_g (D : HasFm c) {h0 : Heap} {v w : V} {ns : List Lab.Txt} (hn : ns.length < 4294967296) (R : Rows 1 h0 v (SR ns)) (R2 : Rows 1 h0 w (SR ns)) :
    RunP c 8 [v, w] h0 fun v1 h1 => v1 = .bool true ∧ h1 = h0 := by
  refine RunP.fun_ D.f8 rfl ?_
  refine WP.seq ?_
  refine WP.reg ?_
  refine WO.valS (v := .bool false) rfl ?_
  refine WO.nil ?_
  refine WP.seq ?_
  refine WP.seq ?_
  refine WP.reg ?_
  refine WO.val (v := .int .i64 (ns.length : Int)) (L.llenRn rfl R (SR_len _)) ?_
  refine WO.val (v := .int .i64 (ns.length : Int)) (L.llenRn rfl R2 (SR_len _)) ?_
  refine WO.ifS (L.neq rfl rfl) (fun c1 => by exfalso; omega) (fun c1 => ?_)
  refine WO.nil ?_
  refine WP.cond (t := false) rfl ?_
  refine WP.skip ?_
  refine WP.seq ?_
  refine WP.seq ?_
  refine WP.reg ?_
  refine WO.valS (v := .int .i64 0) rfl ?_
  refine WO.nil ?_
  refine WP.block ?_
  refine WP.loopG (α := Nat) (fun k env h_ => ∃ x2 x5 x6, (k ≤ ns.length) ∧ env = argsP [v, w, x2, .bool false, .int .i64 (k : Int), x5, x6] 0 Env.nil ∧ h_ = h0) (fun k => ns.length - k) 0 ?_ ?_
  · exact ⟨(.bool false), .bot, .bot, Nat.zero_le _, by kernel_rfl, rfl⟩
  rintro k _ h ⟨x2, x5, x6, hk, rfl, rfl⟩
  refine WP.seq ?_
  refine WP.seq ?_
  refine WP.reg ?_
  refine WO.val (v := .int .i64 (ns.length : Int)) (L.llenRn rfl R (SR_len _)) ?_
  refine WO.ifS (L.lss rfl rfl) (fun c1 => ?_) (fun c1 => ?_)
  · replace c1 : k < ns.length := by omega
    obtain ⟨x, hx⟩ : ∃ y, ns[k]? = some y := ⟨ns[k]'(by omega), List.getElem?_eq_getElem (by omega)⟩
    refine WO.nil ?_
    refine WP.cond (t := true) rfl ?_
    refine WP.skip ?_
    refine WP.seq ?_
    refine WP.block ?_
    refine WP.seq ?_
    refine WP.draw ?_
    refine WD.val (v := v) rfl ?_
    refine WD.val (v := .int .i64 (k : Int)) rfl ?_
    refine WD.val (v := .ptr (slB v) (slO v + k * 1)) (L.iaddrZ R (by rw [SR_len]; omega) rfl rfl) ?_
    refine WD.val (v := L.str x) (L.load rfl (R.load1Z (SR_at hx))) ?_
    refine WD.val (v := w) rfl ?_
    refine WD.val (v := .int .i64 (k : Int)) rfl ?_
    refine WD.val (v := .ptr (slB w) (slO w + k * 1)) (L.iaddrZ R2 (by rw [SR_len]; omega) rfl rfl) ?_
    refine WD.val (v := L.str x) (L.load rfl (R2.load1Z (SR_at hx))) ?_
    refine WD.ifS (L.sne rfl rfl) (fun _ c2 => by exfalso; exact c2 rfl) (fun _ c2 => ?_)
    refine WD.nil ?_
    refine WP.cond (t := false) rfl ?_
    refine WP.skip ?_
    refine WP.reg ?_
    refine WO.valS (v := .int .i64 ((k + 1 : Nat) : Int)) (L.addE rfl rfl (by omega) (And.intro (by omega) (by omega))) ?_
    refine WO.nil ?_
    exact ⟨k + 1, (by omega), x2, (.bool true), (.bool false), by omega, by kernel_rfl, rfl⟩
  · replace c1 : ¬ (k < ns.length) := by omega
    refine WO.nil ?_
    refine WP.cond (t := false) rfl ?_
    refine WP.exit ?_
    refine WP.seq ?_
    refine WP.reg ?_
    refine WO.valS (v := .bool true) rfl ?_
    refine WO.nil ?_
    refine WP.ret ?_
    exact ⟨_, (res_cons (res_tmp (v := .bool true) rfl) (res_nil _ _)), rfl, rfl⟩

end
end Go.Eng.Ytfapefhnicdncaa
