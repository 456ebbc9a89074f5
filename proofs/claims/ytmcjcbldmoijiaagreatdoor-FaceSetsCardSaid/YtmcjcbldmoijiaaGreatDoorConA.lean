/- Part of a proof of a law, by an evaluator that the machine follows: rules, contracts of functions, what they come to. No condition of its own. -/
import Derived.Test.YtmcjcbldmoijiaaGreatDoorCodeA
import Derived.Test.YtmcjcbldmoijiaaGreatDoorSymD
import Derived.Test.YtmcjcbldmoijiaaGreatDoorSymA
set_option linter.unusedVariables false
set_option linter.unusedSimpArgs false
namespace Go.Eng.YtmcjcbldmoijiaaGreatDoor
open Go.Eng
noncomputable section
variable {c : Ctx}
/-- the functions that are told -/
structure HasA (c : Ctx) : Prop where
  f18 : T.get 18 c.funs = some i18
  f19 : T.get 19 c.funs = some i19
  f20 : T.get 20 c.funs = some i20
  f21 : T.get 21 c.funs = some i21
  f22 : T.get 22 c.funs = some i22
  f46 : T.get 46 c.funs = some i46
  f47 : T.get 47 c.funs = some i47
  f48 : T.get 48 c.funs = some i48
  f49 : T.get 49 c.funs = some i49
  f50 : T.get 50 c.funs = some i50
  f80 : T.get 80 c.funs = some i80
  f81 : T.get 81 c.funs = some i81
/-- the place of a text; -1: there is none -/
def placeZ (ns : List Lab.Txt) (x : Lab.Txt) : Int := if x ∈ ns then (ns.idxOf x : Int) else -1
theorem placeZ_none {ns : List Lab.Txt} {x : Lab.Txt} (h : x ∉ ns) : placeZ ns x = -1 := if_neg h
theorem idxOf_at : ∀ {ns : List Lab.Txt} {x : Lab.Txt} {k : Nat}, ns[k]? = some x → x ∉ ns.take k → ns.idxOf x = k
  | [], x, k, h, _ => by simp at h
  | y :: ns, x, 0, h, _ => by simp at h; subst h; simp
  | y :: ns, x, k + 1, h, hn => by
    have h1 : y ≠ x := fun e => hn (by rw [e]; simp)
    rw [List.idxOf_cons, show (y == x) = false from by simpa using h1]
    simp [idxOf_at (ns := ns) (x := x) (k := k) (by simpa using h) (fun hm => hn (by simp [hm]))]
theorem placeZ_some {ns : List Lab.Txt} {x y : Lab.Txt} {k : Nat} (_hk : k ≤ ns.length) (h : ns[k]? = some y) (hn : x ∉ ns.take k) (e : x = y) : placeZ ns x = (k : Int) := by
  subst e
  unfold placeZ; rw [if_pos (List.mem_of_getElem? h), idxOf_at h hn]
theorem not_take {ns : List Lab.Txt} {x y : Lab.Txt} {k : Nat} (hn : x ∉ ns.take k) (h : ns[k]? = some y) (e : x ≠ y) : x ∉ ns.take (k + 1) := by
  rw [List.take_add_one, h]; simp [hn, e]
theorem placeZ_in {ns : List Lab.Txt} {x : Lab.Txt} (h : 0 ≤ placeZ ns x) : x ∈ ns := by
  unfold placeZ at h
  by_cases e : x ∈ ns
  · exact e
  · rw [if_neg e] at h; omega
theorem placeZ_out {ns : List Lab.Txt} {x : Lab.Txt} (h : ¬ 0 ≤ placeZ ns x) : x ∉ ns := by
  unfold placeZ at h
  intro e; rw [if_pos e] at h; omega
theorem index_c (D : HasA c) {h0 : Heap} {v : V} {ns : List Lab.Txt} {x : Lab.Txt} (hn : ns.length < 4294967296) (R : SRows h0 v ns) :
    RunP c 81 [v, L.str x] h0 fun v1 h1 => v1 = .int .i64 (placeZ ns x) ∧ h1 = h0 := by
  refine RunP.fun_ D.f81 rfl ?_
  refine WP.seq ?_
  refine WP.reg ?_
  refine WO.valS (v := .int .i64 0) rfl ?_
  refine WO.nil ?_
  refine WP.seq ?_
  refine WP.seq ?_
  refine WP.reg ?_
  refine WO.valS (v := .int .i64 (ns.length : Int)) (L.llenS rfl R) ?_
  refine WO.valS (v := .int .i64 0) rfl ?_
  refine WO.nil ?_
  refine WP.block ?_
  refine WP.loopG (α := Nat) (fun k env h_ => ∃ x2 x5 x6 x7, (k ≤ ns.length ∧ x ∉ ns.take k) ∧ env = argsP [v, L.str x, x2, .int .i64 (k : Int), .int .i64 (ns.length : Int), x5, x6, x7] 0 Env.nil ∧ h_ = h0) (fun k => ns.length - k) 0 ?_ ?_
  · exact ⟨(.int .i64 0), .bot, .bot, .bot, ⟨Nat.zero_le _, by simp⟩, by kernel_rfl, rfl⟩
  rintro k _ h ⟨x2, x5, x6, x7, ⟨hk, hnot⟩, rfl, rfl⟩
  refine WP.seq ?_
  refine WP.reg ?_
  refine WO.ifS (L.lss rfl rfl) (fun c1 => ?_) (fun c1 => ?_)
  · replace c1 : k < ns.length := by omega
    obtain ⟨y, hx⟩ : ∃ y, ns[k]? = some y := ⟨ns[k]'(by omega), List.getElem?_eq_getElem (by omega)⟩
    refine WO.nil ?_
    refine WP.seq ?_
    refine WP.cond (t := true) rfl ?_
    refine WP.skip ?_
    refine WP.seq ?_
    refine WP.block ?_
    refine WP.seq ?_
    refine WP.reg ?_
    refine WO.valS (v := .int .i64 (k : Int)) rfl ?_
    refine WO.nil ?_
    refine WP.seq ?_
    refine WP.reg ?_
    refine WO.val (v := .ptr (slB v) (slO v + k * 1)) (L.iaddrS R c1 rfl rfl) ?_
    refine WO.val (v := L.str y) (L.load rfl (R.at hx)) ?_
    refine WO.ifS (L.seq rfl rfl) (fun c9 => ?_) (fun c9 => ?_)
    · refine WO.nil ?_
      refine WP.cond (t := true) rfl ?_
      refine WP.seq ?_
      refine WP.reg ?_
      refine WO.valS (v := .int .i64 (k : Int)) rfl ?_
      refine WO.nil ?_
      refine WP.ret ?_
      exact ⟨_, (res_cons (res_tmp (v := .int .i64 (k : Int)) rfl) (res_nil _ _)), (by rw [placeZ_some hk hx (by simpa using hnot) (by simp [*])]; rfl), rfl⟩
    · refine WO.nil ?_
      refine WP.cond (t := false) rfl ?_
      refine WP.skip ?_
      refine WP.reg ?_
      refine WO.valS (v := .int .i64 ((k + 1 : Nat) : Int)) (L.addE rfl rfl (by omega) (And.intro (by omega) (by omega))) ?_
      refine WO.nil ?_
      exact ⟨k + 1, (by omega), x2, (.bool true), (.int .i64 (k : Int)), (.bool false), ⟨by omega, not_take hnot hx (by simp [*])⟩, by kernel_rfl, rfl⟩
  · replace c1 : ¬ (k < ns.length) := by omega
    refine WO.nil ?_
    refine WP.seq ?_
    refine WP.cond (t := false) rfl ?_
    refine WP.exit ?_
    refine WP.seq ?_
    refine WP.reg ?_
    refine WO.valS (v := .int .i64 (-1)) rfl ?_
    refine WO.nil ?_
    refine WP.ret ?_
    exact ⟨_, (res_cons (res_tmp (v := .int .i64 (-1)) rfl) (res_nil _ _)), (by rw [placeZ_none (by rw [List.take_of_length_le (by omega)] at hnot; exact hnot)]; rfl), rfl⟩

theorem rplace_c (D : HasA c) {h0 : Heap} {v : V} {ns : List Lab.Txt} {x : Lab.Txt} (hn : ns.length < 4294967296) (R : SRows h0 v ns) :
    RunP c 46 [v, L.str x] h0 fun v1 h1 => v1 = .int .i64 (placeZ ns x) ∧ h1 = h0 := by
  refine RunP.fun_ D.f46 rfl ?_
  refine WP.seq ?_
  refine WP.reg ?_
  refine WO.valS (v := .int .i64 0) rfl ?_
  refine WO.nil ?_
  refine WP.seq ?_
  refine WP.seq ?_
  refine WP.reg ?_
  refine WO.valS (v := .int .i64 0) rfl ?_
  refine WO.nil ?_
  refine WP.block ?_
  refine WP.loopG (α := Nat) (fun k env h_ => ∃ x2 x4 x5, (k ≤ ns.length ∧ x ∉ ns.take k) ∧ env = argsP [v, L.str x, x2, .int .i64 (k : Int), x4, x5] 0 Env.nil ∧ h_ = h0) (fun k => ns.length - k) 0 ?_ ?_
  · exact ⟨(.int .i64 0), .bot, .bot, ⟨Nat.zero_le _, by simp⟩, by kernel_rfl, rfl⟩
  rintro k _ h ⟨x2, x4, x5, ⟨hk, hnot⟩, rfl, rfl⟩
  refine WP.seq ?_
  refine WP.seq ?_
  refine WP.reg ?_
  refine WO.val (v := .int .i64 (ns.length : Int)) (L.llenS rfl R) ?_
  refine WO.ifS (L.lss rfl rfl) (fun c1 => ?_) (fun c1 => ?_)
  · replace c1 : k < ns.length := by omega
    obtain ⟨y, hx⟩ : ∃ y, ns[k]? = some y := ⟨ns[k]'(by omega), List.getElem?_eq_getElem (by omega)⟩
    refine WO.nil ?_
    refine WP.cond (t := true) rfl ?_
    refine WP.skip ?_
    refine WP.seq ?_
    refine WP.block ?_
    refine WP.seq ?_
    refine WP.reg ?_
    refine WO.val (v := .ptr (slB v) (slO v + k * 1)) (L.iaddrS R c1 rfl rfl) ?_
    refine WO.val (v := L.str y) (L.load rfl (R.at hx)) ?_
    refine WO.ifS (L.seq rfl rfl) (fun c9 => ?_) (fun c9 => ?_)
    · refine WO.nil ?_
      refine WP.cond (t := true) rfl ?_
      refine WP.seq ?_
      refine WP.reg ?_
      refine WO.valS (v := .int .i64 (k : Int)) rfl ?_
      refine WO.nil ?_
      refine WP.ret ?_
      exact ⟨_, (res_cons (res_tmp (v := .int .i64 (k : Int)) rfl) (res_nil _ _)), (by rw [placeZ_some hk hx (by simpa using hnot) c9.symm]; rfl), rfl⟩
    · refine WO.nil ?_
      refine WP.cond (t := false) rfl ?_
      refine WP.skip ?_
      refine WP.reg ?_
      refine WO.valS (v := .int .i64 ((k + 1 : Nat) : Int)) (L.addE rfl rfl (by omega) (And.intro (by omega) (by omega))) ?_
      refine WO.nil ?_
      exact ⟨k + 1, (by omega), x2, (.bool true), (.bool false), ⟨by omega, not_take hnot hx (fun e => c9 e.symm)⟩, by kernel_rfl, rfl⟩
  · replace c1 : ¬ (k < ns.length) := by omega
    refine WO.nil ?_
    refine WP.cond (t := false) rfl ?_
    refine WP.exit ?_
    refine WP.seq ?_
    refine WP.reg ?_
    refine WO.valS (v := .int .i64 (-1)) rfl ?_
    refine WO.nil ?_
    refine WP.ret ?_
    exact ⟨_, (res_cons (res_tmp (v := .int .i64 (-1)) rfl) (res_nil _ _)), (by rw [placeZ_none (by rw [List.take_of_length_le (by omega)] at hnot; exact hnot)]; rfl), rfl⟩

theorem contains_c (D : HasA c) {h0 : Heap} {v : V} {ns : List Lab.Txt} {x : Lab.Txt} (hn : ns.length < 4294967296) (R : SRows h0 v ns) :
    RunP c 50 [v, L.str x] h0 fun v1 h1 => v1 = .bool (decide (x ∈ ns)) ∧ h1 = h0 := by
  refine RunP.fun_ D.f50 rfl ?_
  refine WP.seq ?_
  refine WP.reg ?_
  refine WO.valS (v := .bool false) rfl ?_
  refine WO.nil ?_
  refine WP.seq ?_
  refine WP.reg ?_
  refine WO.callF rfl (index_c D hn R) ?_
  rintro _ h ⟨rfl, rfl⟩
  refine WO.ifS (L.geq rfl rfl) (fun c1 => ?_) (fun c1 => ?_)
  · refine WO.nil ?_
    refine WP.ret ?_
    exact ⟨_, (res_cons (res_tmp (v := .bool true) rfl) (res_nil _ _)), (by rw [decide_eq_true (placeZ_in c1)]; rfl), rfl⟩
  · refine WO.nil ?_
    refine WP.ret ?_
    exact ⟨_, (res_cons (res_tmp (v := .bool false) rfl) (res_nil _ _)), (by rw [decide_eq_false (placeZ_out c1)]; rfl), rfl⟩

theorem has_c (D : HasA c) {h0 : Heap} {v : V} {ns : List Lab.Txt} {x : Lab.Txt} (hn : ns.length < 4294967296) (R : SRows h0 v ns) :
    RunP c 18 [v, L.str x] h0 fun v1 h1 => v1 = .bool (decide (x ∈ ns)) ∧ h1 = h0 := by
  refine RunP.fun_ D.f18 rfl ?_
  refine WP.seq ?_
  refine WP.reg ?_
  refine WO.valS (v := .bool false) rfl ?_
  refine WO.nil ?_
  refine WP.seq ?_
  refine WP.reg ?_
  refine WO.callF rfl (rplace_c D hn R) ?_
  rintro _ h ⟨rfl, rfl⟩
  refine WO.ifS (L.geq rfl rfl) (fun c1 => ?_) (fun c1 => ?_)
  · refine WO.nil ?_
    refine WP.ret ?_
    exact ⟨_, (res_cons (res_tmp (v := .bool true) rfl) (res_nil _ _)), (by rw [decide_eq_true (placeZ_in c1)]; rfl), rfl⟩
  · refine WO.nil ?_
    refine WP.ret ?_
    exact ⟨_, (res_cons (res_tmp (v := .bool false) rfl) (res_nil _ _)), (by rw [decide_eq_false (placeZ_out c1)]; rfl), rfl⟩

theorem clos_c (D : HasA c) {h0 : Heap} {v : V} {p : Nat} {ns : List Lab.Txt} {x : Lab.Txt} (hn : ns.length < 4294967296) (hp : h0.load1 p 0 = some v) (R : SRows h0 v ns) :
    RunP c 49 [L.str x, .ptr p 0] h0 fun v1 h1 => v1 = .bool (!decide (x ∈ ns)) ∧ h1 = h0 := by
  refine RunP.fun_ D.f49 rfl ?_
  refine WP.seq ?_
  refine WP.reg ?_
  refine WO.valS (v := .bool false) rfl ?_
  refine WO.nil ?_
  refine WP.seq ?_
  refine WP.reg ?_
  refine WO.val (v := v) (L.load rfl hp) ?_
  refine WO.callF rfl (contains_c D hn R) ?_
  rintro _ h ⟨rfl, rfl⟩
  rcases bool_or (decide (x ∈ ns)) with hb | hb
  all_goals rw [hb]
  · refine WO.valS (v := .bool true) rfl ?_
    refine WO.nil ?_
    refine WP.ret ?_
    exact ⟨_, (res_cons (res_tmp (v := .bool true) rfl) (res_nil _ _)), rfl, rfl⟩
  · refine WO.valS (v := .bool false) rfl ?_
    refine WO.nil ?_
    refine WP.ret ?_
    exact ⟨_, (res_cons (res_tmp (v := .bool false) rfl) (res_nil _ _)), rfl, rfl⟩

theorem idxf_c (D : HasA c) {h0 : Heap} {w v : V} {p : Nat} {xs ns : List Lab.Txt} (hx0 : xs.length < 4294967296) (hn : ns.length < 4294967296) (R : SRows h0 w xs) (hp : h0.load1 p 0 = some v) (R2 : SRows h0 v ns) :
    RunP c 80 [w, .fn 49 [] [.ptr p 0]] h0 fun v1 h1 => ∃ z : Int, v1 = .int .i64 z ∧ (0 ≤ z ↔ subB xs ns = false) ∧ h1 = h0 := by
  refine RunP.fun_ D.f80 rfl ?_
  refine WP.seq ?_
  refine WP.reg ?_
  refine WO.valS (v := .int .i64 0) rfl ?_
  refine WO.nil ?_
  refine WP.seq ?_
  refine WP.seq ?_
  refine WP.reg ?_
  refine WO.valS (v := .int .i64 (xs.length : Int)) (L.llenS rfl R) ?_
  refine WO.valS (v := .int .i64 0) rfl ?_
  refine WO.nil ?_
  refine WP.block ?_
  refine WP.loopG (α := Nat) (fun k env h_ => ∃ x2 x5 x6 x7, (k ≤ xs.length ∧ ∀ y ∈ xs.take k, y ∈ ns) ∧ env = argsP [w, .fn 49 [] [.ptr p 0], x2, .int .i64 (k : Int), .int .i64 (xs.length : Int), x5, x6, x7] 0 Env.nil ∧ h_ = h0) (fun k => xs.length - k) 0 ?_ ?_
  · exact ⟨(.int .i64 0), .bot, .bot, .bot, ⟨Nat.zero_le _, by simp⟩, by kernel_rfl, rfl⟩
  rintro k _ h ⟨x2, x5, x6, x7, ⟨hk, hin⟩, rfl, rfl⟩
  refine WP.seq ?_
  refine WP.reg ?_
  refine WO.ifS (L.lss rfl rfl) (fun c1 => ?_) (fun c1 => ?_)
  · replace c1 : k < xs.length := by omega
    obtain ⟨y, hx⟩ : ∃ y, xs[k]? = some y := ⟨xs[k]'(by omega), List.getElem?_eq_getElem (by omega)⟩
    refine WO.nil ?_
    refine WP.seq ?_
    refine WP.cond (t := true) rfl ?_
    refine WP.skip ?_
    refine WP.seq ?_
    refine WP.block ?_
    refine WP.seq ?_
    refine WP.reg ?_
    refine WO.valS (v := .int .i64 (k : Int)) rfl ?_
    refine WO.nil ?_
    refine WP.seq ?_
    refine WP.reg ?_
    refine WO.val (v := .ptr (slB w) (slO w + k * 1)) (L.iaddrS R c1 rfl rfl) ?_
    refine WO.val (v := L.str y) (L.load rfl (R.at hx)) ?_
    refine WO.callvFS rfl rfl (clos_c D hn hp R2) ?_
    rintro _ h ⟨rfl, rfl⟩
    rcases bool_or (decide (y ∈ ns)) with hb | hb
    all_goals rw [hb]
    · refine WO.nil ?_
      refine WP.cond (t := true) rfl ?_
      refine WP.seq ?_
      refine WP.reg ?_
      refine WO.valS (v := .int .i64 (k : Int)) rfl ?_
      refine WO.nil ?_
      refine WP.ret ?_
      exact ⟨_, (res_cons (res_tmp (v := .int .i64 (k : Int)) rfl) (res_nil _ _)), (k : Int), rfl, ⟨fun _ => subB_no (List.mem_of_getElem? hx) (of_decide_eq_false hb), fun _ => by omega⟩, rfl⟩
    · refine WO.nil ?_
      refine WP.cond (t := false) rfl ?_
      refine WP.skip ?_
      refine WP.reg ?_
      refine WO.valS (v := .int .i64 ((k + 1 : Nat) : Int)) (L.addE rfl rfl (by omega) (And.intro (by omega) (by omega))) ?_
      refine WO.nil ?_
      exact ⟨k + 1, (by omega), x2, (.bool true), (.int .i64 (k : Int)), (.bool false), ⟨by omega, take_mem hin hx (of_decide_eq_true hb)⟩, by kernel_rfl, rfl⟩
  · replace c1 : ¬ (k < xs.length) := by omega
    refine WO.nil ?_
    refine WP.seq ?_
    refine WP.cond (t := false) rfl ?_
    refine WP.exit ?_
    refine WP.seq ?_
    refine WP.reg ?_
    refine WO.valS (v := .int .i64 (-1)) rfl ?_
    refine WO.nil ?_
    refine WP.ret ?_
    rw [List.take_of_length_le (by omega)] at hin
    exact ⟨_, (res_cons (res_tmp (v := .int .i64 (-1)) rfl) (res_nil _ _)), (-1 : Int), rfl, ⟨fun h => by omega, fun h => by rw [subB_yes hin] at h; cases h⟩, rfl⟩

theorem conf_c (D : HasA c) {h0 : Heap} {w v : V} {p : Nat} {xs ns : List Lab.Txt} (hx0 : xs.length < 4294967296) (hn : ns.length < 4294967296) (R : SRows h0 w xs) (hp : h0.load1 p 0 = some v) (R2 : SRows h0 v ns) :
    RunP c 48 [w, .fn 49 [] [.ptr p 0]] h0 fun v1 h1 => v1 = .bool (!subB xs ns) ∧ h1 = h0 := by
  refine RunP.fun_ D.f48 rfl ?_
  refine WP.seq ?_
  refine WP.reg ?_
  refine WO.valS (v := .bool false) rfl ?_
  refine WO.nil ?_
  refine WP.seq ?_
  refine WP.reg ?_
  refine WO.callF rfl (idxf_c D hx0 hn R hp R2) ?_
  rintro _ h ⟨z, rfl, hz, rfl⟩
  refine WO.ifS (L.geq rfl rfl) (fun c1 => ?_) (fun c1 => ?_)
  · refine WO.nil ?_
    refine WP.ret ?_
    exact ⟨_, (res_cons (res_tmp (v := .bool true) rfl) (res_nil _ _)), (by rw [hz.1 c1]; rfl), rfl⟩
  · refine WO.nil ?_
    refine WP.ret ?_
    exact ⟨_, (res_cons (res_tmp (v := .bool false) rfl) (res_nil _ _)), (by rw [show subB xs ns = true from by cases e9 : subB xs ns with | true => rfl | false => exact absurd (hz.2 e9) c1]; rfl), rfl⟩

theorem within_c (D : HasA c) {fs : List Fact} {h : Heap} {w v : V} {xs ns : List Lab.Txt} (hx0 : xs.length < 4294967296) (hn : ns.length < 4294967296) (st : St (.stb (fun h => SRows h w xs) :: .stb (fun h => SRows h v ns) :: fs) h) :
    RunP c 21 [w, v] h fun v1 h1 => v1 = .bool (subB xs ns) ∧ St (.stb (fun h => SRows h w xs) :: .stb (fun h => SRows h v ns) :: fs) h1 := by
  refine RunP.fun_ D.f21 rfl ?_
  refine WP.seq ?_
  refine WP.reg ?_
  refine WO.boxFS st (L.box (l := [v]) (SRows.one (st.stb_at 1 rfl)) rfl) (fun p1 h (st : St (.box p1 [v] :: .stb (fun h => SRows h w xs) :: .stb (fun h => SRows h v ns) :: fs) h) => ?_)
  refine WO.valS (v := .bool false) rfl ?_
  refine WO.nil ?_
  refine WP.seq ?_
  refine WP.reg ?_
  refine WO.val (v := .fn 49 [] [.ptr p1 0]) rfl ?_
  refine WO.callF rfl (conf_c D hx0 hn (st.stb_at 1 rfl) (L.load1_box (st.box_at 0 rfl) rfl) (st.stb_at 2 rfl)) ?_
  rintro _ _ ⟨rfl, rfl⟩
  rcases bool_or (subB xs ns) with hb | hb
  all_goals rw [hb]
  · refine WO.valS (v := .bool false) rfl ?_
    refine WO.nil ?_
    refine WP.ret ?_
    exact ⟨_, (res_cons (res_tmp (v := .bool false) rfl) (res_nil _ _)), rfl, st.tail⟩
  · refine WO.valS (v := .bool true) rfl ?_
    refine WO.nil ?_
    refine WP.ret ?_
    exact ⟨_, (res_cons (res_tmp (v := .bool true) rfl) (res_nil _ _)), rfl, st.tail⟩

theorem rwithin_c (D : HasA c) {h0 : Heap} {w v : V} {xs ns : List Lab.Txt} (hx0 : xs.length < 4294967296) (hn : ns.length < 4294967296) (R : SRows h0 w xs) (R2 : SRows h0 v ns) :
    RunP c 22 [w, v] h0 fun v1 h1 => v1 = .bool (subB xs ns) ∧ h1 = h0 := by
  refine RunP.fun_ D.f22 rfl ?_
  refine WP.seq ?_
  refine WP.reg ?_
  refine WO.valS (v := .bool false) rfl ?_
  refine WO.nil ?_
  refine WP.seq ?_
  refine WP.seq ?_
  refine WP.reg ?_
  refine WO.valS (v := .int .i64 0) rfl ?_
  refine WO.nil ?_
  refine WP.block ?_
  refine WP.loopG (α := Nat) (fun k env h_ => ∃ x2 x4 x5, (k ≤ xs.length ∧ ∀ y ∈ xs.take k, y ∈ ns) ∧ env = argsP [w, v, x2, .int .i64 (k : Int), x4, x5] 0 Env.nil ∧ h_ = h0) (fun k => xs.length - k) 0 ?_ ?_
  · exact ⟨(.bool false), .bot, .bot, ⟨Nat.zero_le _, by simp⟩, by kernel_rfl, rfl⟩
  rintro k _ h ⟨x2, x4, x5, ⟨hk, hin⟩, rfl, rfl⟩
  refine WP.seq ?_
  refine WP.seq ?_
  refine WP.reg ?_
  refine WO.val (v := .int .i64 (xs.length : Int)) (L.llenS rfl R) ?_
  refine WO.ifS (L.lss rfl rfl) (fun c1 => ?_) (fun c1 => ?_)
  · replace c1 : k < xs.length := by omega
    obtain ⟨y, hx⟩ : ∃ y, xs[k]? = some y := ⟨xs[k]'(by omega), List.getElem?_eq_getElem (by omega)⟩
    refine WO.nil ?_
    refine WP.cond (t := true) rfl ?_
    refine WP.skip ?_
    refine WP.seq ?_
    refine WP.block ?_
    refine WP.seq ?_
    refine WP.reg ?_
    refine WO.val (v := .ptr (slB w) (slO w + k * 1)) (L.iaddrS R c1 rfl rfl) ?_
    refine WO.val (v := L.str y) (L.load rfl (R.at hx)) ?_
    refine WO.callF rfl (rplace_c D hn R2) ?_
    rintro _ h ⟨rfl, rfl⟩
    refine WO.ifS (L.lss rfl rfl) (fun c2 => ?_) (fun c2 => ?_)
    · refine WO.nil ?_
      refine WP.cond (t := true) rfl ?_
      refine WP.seq ?_
      refine WP.reg ?_
      refine WO.valS (v := .bool false) rfl ?_
      refine WO.nil ?_
      refine WP.ret ?_
      exact ⟨_, (res_cons (res_tmp (v := .bool false) rfl) (res_nil _ _)), (by rw [subB_no (List.mem_of_getElem? hx) (placeZ_out (by omega))]; rfl), rfl⟩
    · refine WO.nil ?_
      refine WP.cond (t := false) rfl ?_
      refine WP.skip ?_
      refine WP.reg ?_
      refine WO.valS (v := .int .i64 ((k + 1 : Nat) : Int)) (L.addE rfl rfl (by omega) (And.intro (by omega) (by omega))) ?_
      refine WO.nil ?_
      exact ⟨k + 1, (by omega), x2, (.bool true), (.bool false), ⟨by omega, take_mem hin hx (placeZ_in (by omega))⟩, by kernel_rfl, rfl⟩
  · replace c1 : ¬ (k < xs.length) := by omega
    refine WO.nil ?_
    refine WP.cond (t := false) rfl ?_
    refine WP.exit ?_
    refine WP.seq ?_
    refine WP.reg ?_
    refine WO.valS (v := .bool true) rfl ?_
    refine WO.nil ?_
    refine WP.ret ?_
    rw [List.take_of_length_le (by omega)] at hin
    exact ⟨_, (res_cons (res_tmp (v := .bool true) rfl) (res_nil _ _)), (by rw [subB_yes hin]; rfl), rfl⟩

theorem texts_t (D : HasA c) {h0 : Heap} {v w : V} {ns : List Lab.Txt} (hn : ns.length < 4294967296) (R : SRows h0 v ns) (R2 : SRows h0 w ns) :
    RunP c 19 [v, w] h0 fun v1 h1 => v1 = .bool true ∧ h1 = h0 := by
  refine RunP.fun_ D.f19 rfl ?_
  refine WP.seq ?_
  refine WP.reg ?_
  refine WO.valS (v := .bool false) rfl ?_
  refine WO.nil ?_
  refine WP.seq ?_
  refine WP.seq ?_
  refine WP.reg ?_
  refine WO.val (v := .int .i64 (ns.length : Int)) (L.llenS rfl R) ?_
  refine WO.val (v := .int .i64 (ns.length : Int)) (L.llenS rfl R2) ?_
  refine WO.ifS (L.neq rfl rfl) (fun c1 => by exfalso; omega) (fun c1 => ?_)
  refine WO.nil ?_
  refine WP.cond (t := false) rfl ?_
  refine WP.skip ?_
  refine WP.seq ?_
  refine WP.seq ?_
  refine WP.reg ?_
  refine WO.valS (v := .int .i64 0) rfl ?_
  refine WO.nil ?_
  refine WP.block ?_
  refine WP.loopG (α := Nat) (fun k env h_ => ∃ x2 x5 x6, (k ≤ ns.length) ∧ env = argsP [v, w, x2, .bool false, .int .i64 (k : Int), x5, x6] 0 Env.nil ∧ h_ = h0) (fun k => ns.length - k) 0 ?_ ?_
  · exact ⟨(.bool false), .bot, .bot, Nat.zero_le _, by kernel_rfl, rfl⟩
  rintro k _ h ⟨x2, x5, x6, hk, rfl, rfl⟩
  refine WP.seq ?_
  refine WP.seq ?_
  refine WP.reg ?_
  refine WO.val (v := .int .i64 (ns.length : Int)) (L.llenS rfl R) ?_
  refine WO.ifS (L.lss rfl rfl) (fun c1 => ?_) (fun c1 => ?_)
  · replace c1 : k < ns.length := by omega
    obtain ⟨x, hx⟩ : ∃ y, ns[k]? = some y := ⟨ns[k]'(by omega), List.getElem?_eq_getElem (by omega)⟩
    refine WO.nil ?_
    refine WP.cond (t := true) rfl ?_
    refine WP.skip ?_
    refine WP.seq ?_
    refine WP.block ?_
    refine WP.seq ?_
    refine WP.draw ?_
    refine WD.val (v := v) rfl ?_
    refine WD.val (v := .int .i64 (k : Int)) rfl ?_
    refine WD.val (v := .ptr (slB v) (slO v + k * 1)) (L.iaddrS R c1 rfl rfl) ?_
    refine WD.val (v := L.str x) (L.load rfl (R.at hx)) ?_
    refine WD.val (v := w) rfl ?_
    refine WD.val (v := .int .i64 (k : Int)) rfl ?_
    refine WD.val (v := .ptr (slB w) (slO w + k * 1)) (L.iaddrS R2 c1 rfl rfl) ?_
    refine WD.val (v := L.str x) (L.load rfl (R2.at hx)) ?_
    refine WD.ifS (L.sne rfl rfl) (fun _ c2 => by exfalso; exact c2 rfl) (fun _ c2 => ?_)
    refine WD.nil ?_
    refine WP.cond (t := false) rfl ?_
    refine WP.skip ?_
    refine WP.reg ?_
    refine WO.valS (v := .int .i64 ((k + 1 : Nat) : Int)) (L.addE rfl rfl (by omega) (And.intro (by omega) (by omega))) ?_
    refine WO.nil ?_
    exact ⟨k + 1, (by omega), x2, (.bool true), (.bool false), by omega, by kernel_rfl, rfl⟩
  · replace c1 : ¬ (k < ns.length) := by omega
    refine WO.nil ?_
    refine WP.cond (t := false) rfl ?_
    refine WP.exit ?_
    refine WP.seq ?_
    refine WP.reg ?_
    refine WO.valS (v := .bool true) rfl ?_
    refine WO.nil ?_
    refine WP.ret ?_
    exact ⟨_, (res_cons (res_tmp (v := .bool true) rfl) (res_nil _ _)), rfl, rfl⟩

theorem lt_take {S : List Lab.Txt} {s x : Lab.Txt} {i : Nat} (h : ∀ x ∈ S.take i, x < s) (hx : S[i]? = some x) (hxs : x < s) : ∀ x ∈ S.take (i + 1), x < s := by
  intro y hy
  rw [List.take_add_one, hx] at hy
  rcases List.mem_append.1 hy with hy | hy
  · exact h y hy
  · have : y = x := by simpa using hy
    exact this ▸ hxs
theorem shift_get {S : List Lab.Txt} {w y : Lab.Txt} {q : Nat} (hy : S[q]? = some y) : (S.take (q + 1) ++ w :: S.drop (q + 1))[q]? = some y := by
  have hl := (List.getElem?_eq_some_iff.1 hy).1
  rw [List.getElem?_append_left (by rw [List.length_take]; omega), List.getElem?_take_of_lt (by omega)]; exact hy
theorem put_set {S : List Lab.Txt} {w s : Lab.Txt} {k : Nat} (hk : k ≤ S.length) : (S.take k ++ w :: S.drop k).set k s = S.take k ++ s :: S.drop k := by
  have e : (S.take k).length = k := by rw [List.length_take]; omega
  rw [List.set_append_right _ _ (by omega), e, Nat.sub_self]; rfl
theorem shift_set {S : List Lab.Txt} {w y : Lab.Txt} {q : Nat} (hy : S[q]? = some y) : (S.take (q + 1) ++ w :: S.drop (q + 1)).set (q + 1) y = S.take q ++ y :: S.drop q := by
  have hl := (List.getElem?_eq_some_iff.1 hy).1
  rw [put_set (by omega), List.take_add_one, hy, List.drop_eq_getElem_cons hl, (List.getElem?_eq_some_iff.1 hy).2]; simp
theorem insert_c (D : HasA c) {fs : List Fact} {h : Heap} {bs : List Nat} {f : Nat} {v : V} {S : List Lab.Txt} {s : Lab.Txt} (hn : S.length < 4294967296) (st : St (.acu bs f 1 v (SR S) :: fs) h) :
    RunP c 47 [v, L.str s] h fun v1 h1 => ∃ bs1 f1 S1, Lab.Ins S s S1 ∧ St (.acu bs1 f1 1 v1 (SR S1) :: fs) h1 := by
  refine RunP.fun_ D.f47 rfl ?_
  refine WP.seq ?_
  refine WP.reg ?_
  refine WO.valS (v := .slN) rfl ?_
  refine WO.nil ?_
  refine WP.seq ?_
  refine WP.reg ?_
  refine WO.valS (v := .int .i64 0) rfl ?_
  refine WO.nil ?_
  refine WP.seq ?_
  refine WP.block ?_
  refine WP.loopG (α := Nat) (fun i env h => ∃ x4, (i ≤ S.length ∧ ∀ x ∈ S.take i, x < s) ∧ env = argsP [v, L.str s, .slN, .int .i64 (i : Int), x4] 0 Env.nil ∧ St (.acu bs f 1 v (SR S) :: fs) h) (fun i => S.length - i) 0 ?_ ?_
  · exact ⟨.bot, ⟨Nat.zero_le _, fun x hx => by simp at hx⟩, by kernel_rfl, st⟩
  rintro i _ h ⟨x4, ⟨hi, hlt⟩, rfl, st⟩
  replace st : St (.acu bs f 1 v (SR S) :: fs) h := st
  refine WP.seq ?_
  refine WP.seq ?_
  refine WP.reg ?_
  refine WO.val (v := .int .i64 (S.length : Int)) (L.llenRn rfl (st.acuRows 0 rfl (by decide)) (SR_len _)) ?_
  refine WO.ifV (L.lss rfl rfl) (fun c1 => ?_) (fun c1 => ?_)
  · replace c1 : i < S.length := by omega
    obtain ⟨x, hx⟩ : ∃ y, S[i]? = some y := ⟨S[i]'(by omega), List.getElem?_eq_getElem (by omega)⟩
    refine WO.yes rfl ?_
    refine WO.val (v := v) rfl ?_
    refine WO.yes rfl ?_
    refine WO.val (v := .int .i64 (i : Int)) rfl ?_
    refine WO.yes rfl ?_
    refine WO.val (v := .ptr (slB v) (slO v + i * 1)) (L.iaddrZ (st.acuRows 0 rfl (by decide)) (by rw [SR_len]; omega) rfl rfl) ?_
    refine WO.yes rfl ?_
    refine WO.val (v := L.str x) (L.load rfl ((st.acuRows 0 rfl (by decide)).load1Z (SR_at hx))) ?_
    refine WO.yes rfl ?_
    refine WO.val (v := L.str s) rfl ?_
    refine WO.yes rfl ?_
    refine WO.ifV (L.slss rfl rfl) (fun c2 => ?_) (fun c2 => ?_)
    · refine WO.valS (v := .bool true) rfl ?_
      refine WO.nil ?_
      refine WP.cond (t := true) rfl ?_
      refine WP.skip ?_
      refine WP.block ?_
      refine WP.reg ?_
      refine WO.valS (v := .int .i64 ((i + 1 : Nat) : Int)) (L.addE rfl rfl (by omega) (And.intro (by omega) (by omega))) ?_
      refine WO.nil ?_
      exact ⟨i + 1, (by omega), (.bool true), ⟨by omega, lt_take hlt hx c2⟩, by kernel_rfl, st⟩
    · have hge : ∀ z, S[i]? = some z → ¬ z < s := fun z h => by rw [hx] at h; cases h; exact c2
      refine WO.valS (v := .bool false) rfl ?_
      refine WO.nil ?_
      refine WP.cond (t := false) rfl ?_
      refine WP.exit ?_
      refine WP.seq ?_
      refine WP.seq ?_
      refine WP.reg ?_
      refine WO.val (v := .int .i64 (S.length : Int)) (L.llenRn rfl (st.acuRows 0 rfl (by decide)) (SR_len _)) ?_
      refine WO.ifV (L.lss rfl rfl) (fun _ => ?_) (fun c_ => by exfalso; omega)
      refine WO.yes rfl ?_
      refine WO.val (v := v) rfl ?_
      refine WO.yes rfl ?_
      refine WO.val (v := .int .i64 (i : Int)) rfl ?_
      refine WO.yes rfl ?_
      refine WO.val (v := .ptr (slB v) (slO v + i * 1)) (L.iaddrZ (st.acuRows 0 rfl (by decide)) (by rw [SR_len]; omega) rfl rfl) ?_
      refine WO.yes rfl ?_
      refine WO.val (v := L.str x) (L.load rfl ((st.acuRows 0 rfl (by decide)).load1Z (SR_at hx))) ?_
      refine WO.yes rfl ?_
      refine WO.val (v := L.str s) rfl ?_
      refine WO.yes rfl ?_
      refine WO.ifV (L.seq rfl rfl) (fun c3 => ?_) (fun c3 => ?_)
      · refine WO.valS (v := .bool true) rfl ?_
        refine WO.nil ?_
        refine WP.cond (t := true) rfl ?_
        refine WP.seq ?_
        refine WP.reg ?_
        refine WO.valS (v := v) rfl ?_
        refine WO.nil ?_
        refine WP.ret ?_
        exact ⟨_, (res_cons (res_tmp (v := v) rfl) (res_nil _ _)), _, _, S, ⟨i, hi, hlt, hge, (if_pos (by rw [hx, c3])).symm⟩, st⟩
      · have hne : ¬ S[i]? = some s := by rw [hx]; intro e; exact c3 (Option.some.inj e)
        refine WO.valS (v := .bool false) rfl ?_
        refine WO.nil ?_
        refine WP.cond (t := false) rfl ?_
        refine WP.skip ?_
        refine WP.seq ?_
        refine WP.reg ?_
        refine WO.bslF (rows := [[.str 0 0]]) st rfl (by decide) rfl (by simp) (fun lit1 h (st : St (.stb (fun h => Rows 1 h (.sl lit1 0 1 (some 1)) [[.str 0 0]]) :: .acu bs f 1 v (SR S) :: fs) h) => ?_)
        refine WO.appUS ((st.pick 1 rfl) : St (.acu bs f 1 v (SR S) :: .stb (fun h => Rows 1 h (.sl lit1 0 1 (some 1)) [[.str 0 0]]) :: fs) _) rfl rfl (new := [[V.str 0 0]]) (st.stb_at 0 rfl) (by decide) (by rw [SR_len]; simp only [List.length_cons, List.length_nil]; omega) (fun bs1 f1 v1 h st => ?_)
        rw [show SR S ++ [[V.str 0 0]] = SR (S.take S.length ++ [] :: S.drop S.length) from by rw [List.take_length, List.drop_length, SR_app]; rfl] at st
        obtain ⟨b, rfl⟩ : ∃ b, v1 = .sl b 0 (S.length + 1) none := acu_sl (st.acu_at 0 rfl) (by rw [SR_len]; simp) (by omega)
        replace st : St (.acu bs1 f1 1 (.sl b 0 (S.length + 1) none) (SR (S.take S.length ++ [] :: S.drop S.length)) :: .stb (fun h => Rows 1 h (.sl lit1 0 1 (some 1)) [[.str 0 0]]) :: fs) h := st
        refine WO.nil ?_
        refine WP.seq ?_
        refine WP.seq ?_
        refine WP.reg ?_
        refine WO.val (v := .int .i64 ((S.length + 1 : Nat) : Int)) (L.llen rfl) ?_
        refine WO.valS (v := .int .i64 (S.length : Int)) (L.subE rfl rfl (by omega) (And.intro (by omega) (by omega))) ?_
        refine WO.nil ?_
        refine WP.block ?_
        refine WP.loopG (α := Nat) (fun k env h => ∃ w x7, (i ≤ k ∧ k ≤ S.length) ∧ env = argsP [.sl b 0 (S.length + 1) none, L.str s, .slN, .int .i64 (i : Int), .bool false, .bool false, .int .i64 (k : Int), x7] 0 Env.nil ∧ St (.acu bs1 f1 1 (.sl b 0 (S.length + 1) none) (SR (S.take k ++ w :: S.drop k)) :: fs) h) (fun k => k) S.length ?_ ?_
        · exact ⟨[], .bot, ⟨hi, Nat.le_refl _⟩, by kernel_rfl, (st.pick 1 rfl).tail⟩
        rintro k _ h ⟨w, x7, ⟨hik, hk⟩, rfl, st⟩
        replace st : St (.acu bs1 f1 1 (.sl b 0 (S.length + 1) none) (SR (S.take k ++ w :: S.drop k)) :: fs) h := st
        refine WP.seq ?_
        refine WP.seq ?_
        refine WP.reg ?_
        refine WO.ifS (L.gtr rfl rfl) (fun c4 => ?_) (fun c4 => ?_)
        · obtain ⟨q, rfl⟩ : ∃ q, k = q + 1 := ⟨k - 1, by omega⟩
          obtain ⟨y, hy⟩ : ∃ y, S[q]? = some y := ⟨S[q]'(by omega), List.getElem?_eq_getElem (by omega)⟩
          refine WO.nil ?_
          refine WP.cond (t := true) rfl ?_
          refine WP.skip ?_
          refine WP.seq ?_
          refine WP.block ?_
          refine WP.reg ?_
          refine WO.val (v := .int .i64 (q : Int)) (L.subE rfl rfl (by omega) (And.intro (by omega) (by omega))) ?_
          refine WO.val (v := .ptr b (0 + q * 1)) (L.iaddr rfl rfl (by omega)) ?_
          refine WO.val (v := L.str y) (L.load rfl ((st.acuRows 0 rfl (by decide)).load1 (SR_at (shift_get hy)))) ?_
          refine WO.val (v := .ptr b (0 + (q + 1) * 1)) (L.iaddr rfl rfl (by omega)) ?_
          refine WO.storeU st rfl rfl (by decide) (by rw [SR_len]; simp; omega) rfl (fun h st => ?_)
          replace st : St (.acu bs1 f1 1 (.sl b 0 (S.length + 1) none) (SR (S.take q ++ y :: S.drop q)) :: fs) h := by rw [← shift_set hy (w := w), ← SR_set]; exact st
          refine WO.nil ?_
          refine WP.reg ?_
          refine WO.valS (v := .int .i64 (q : Int)) (L.subE rfl rfl (by omega) (And.intro (by omega) (by omega))) ?_
          refine WO.nil ?_
          exact ⟨q, (by omega), y, (.bool true), ⟨by omega, by omega⟩, by kernel_rfl, st⟩
        · obtain rfl : k = i := by omega
          refine WO.nil ?_
          refine WP.cond (t := false) rfl ?_
          refine WP.exit ?_
          refine WP.seq ?_
          refine WP.reg ?_
          refine WO.val (v := .ptr b (0 + k * 1)) (L.iaddr rfl rfl (by omega)) ?_
          refine WO.storeU st rfl rfl (by decide) (by rw [SR_len]; simp; omega) rfl (fun h st => ?_)
          replace st : St (.acu bs1 f1 1 (.sl b 0 (S.length + 1) none) (SR (S.take k ++ s :: S.drop k)) :: fs) h := by rw [← put_set (w := w) (show k ≤ S.length by omega), ← SR_set]; exact st
          refine WO.nil ?_
          refine WP.seq ?_
          refine WP.reg ?_
          refine WO.valS (v := .sl b 0 (S.length + 1) none) rfl ?_
          refine WO.nil ?_
          refine WP.ret ?_
          exact ⟨_, (res_cons (res_tmp (v := .sl b 0 (S.length + 1) none) rfl) (res_nil _ _)), _, _, _, ⟨k, by omega, hlt, hge, (if_neg hne).symm⟩, st⟩
  · replace c1 : ¬ i < S.length := by omega
    have hx : S[i]? = none := List.getElem?_eq_none (by omega)
    have hge : ∀ x, S[i]? = some x → ¬ x < s := fun x h => by rw [hx] at h; cases h
    have hne : ¬ S[i]? = some s := by rw [hx]; simp
    refine WO.no rfl ?_
    refine WO.no rfl ?_
    refine WO.no rfl ?_
    refine WO.no rfl ?_
    refine WO.no rfl ?_
    refine WO.no rfl ?_
    refine WO.valS (v := .bool false) rfl ?_
    refine WO.nil ?_
    refine WP.cond (t := false) rfl ?_
    refine WP.exit ?_
    refine WP.seq ?_
    refine WP.seq ?_
    refine WP.reg ?_
    refine WO.val (v := .int .i64 (S.length : Int)) (L.llenRn rfl (st.acuRows 0 rfl (by decide)) (SR_len _)) ?_
    refine WO.ifV (L.lss rfl rfl) (fun c_ => by exfalso; omega) (fun _ => ?_)
    refine WO.no rfl ?_
    refine WO.no rfl ?_
    refine WO.no rfl ?_
    refine WO.no rfl ?_
    refine WO.no rfl ?_
    refine WO.no rfl ?_
    refine WO.valS (v := .bool false) rfl ?_
    refine WO.nil ?_
    refine WP.cond (t := false) rfl ?_
    refine WP.skip ?_
    refine WP.seq ?_
    refine WP.reg ?_
    refine WO.bslF (rows := [[.str 0 0]]) st rfl (by decide) rfl (by simp) (fun lit2 h (st : St (.stb (fun h => Rows 1 h (.sl lit2 0 1 (some 1)) [[.str 0 0]]) :: .acu bs f 1 v (SR S) :: fs) h) => ?_)
    refine WO.appUS ((st.pick 1 rfl) : St (.acu bs f 1 v (SR S) :: .stb (fun h => Rows 1 h (.sl lit2 0 1 (some 1)) [[.str 0 0]]) :: fs) _) rfl rfl (new := [[V.str 0 0]]) (st.stb_at 0 rfl) (by decide) (by rw [SR_len]; simp only [List.length_cons, List.length_nil]; omega) (fun bs1 f1 v1 h st => ?_)
    rw [show SR S ++ [[V.str 0 0]] = SR (S.take S.length ++ [] :: S.drop S.length) from by rw [List.take_length, List.drop_length, SR_app]; rfl] at st
    obtain ⟨b, rfl⟩ : ∃ b, v1 = .sl b 0 (S.length + 1) none := acu_sl (st.acu_at 0 rfl) (by rw [SR_len]; simp) (by omega)
    replace st : St (.acu bs1 f1 1 (.sl b 0 (S.length + 1) none) (SR (S.take S.length ++ [] :: S.drop S.length)) :: .stb (fun h => Rows 1 h (.sl lit2 0 1 (some 1)) [[.str 0 0]]) :: fs) h := st
    refine WO.nil ?_
    refine WP.seq ?_
    refine WP.seq ?_
    refine WP.reg ?_
    refine WO.val (v := .int .i64 ((S.length + 1 : Nat) : Int)) (L.llen rfl) ?_
    refine WO.valS (v := .int .i64 (S.length : Int)) (L.subE rfl rfl (by omega) (And.intro (by omega) (by omega))) ?_
    refine WO.nil ?_
    refine WP.block ?_
    refine WP.loopG (α := Nat) (fun k env h => ∃ w x7, (i ≤ k ∧ k ≤ S.length) ∧ env = argsP [.sl b 0 (S.length + 1) none, L.str s, .slN, .int .i64 (i : Int), .bool false, .bool false, .int .i64 (k : Int), x7] 0 Env.nil ∧ St (.acu bs1 f1 1 (.sl b 0 (S.length + 1) none) (SR (S.take k ++ w :: S.drop k)) :: fs) h) (fun k => k) S.length ?_ ?_
    · exact ⟨[], .bot, ⟨hi, Nat.le_refl _⟩, by kernel_rfl, (st.pick 1 rfl).tail⟩
    rintro k _ h ⟨w, x7, ⟨hik, hk⟩, rfl, st⟩
    replace st : St (.acu bs1 f1 1 (.sl b 0 (S.length + 1) none) (SR (S.take k ++ w :: S.drop k)) :: fs) h := st
    refine WP.seq ?_
    refine WP.seq ?_
    refine WP.reg ?_
    refine WO.ifS (L.gtr rfl rfl) (fun c4 => ?_) (fun c4 => ?_)
    · obtain ⟨q, rfl⟩ : ∃ q, k = q + 1 := ⟨k - 1, by omega⟩
      obtain ⟨y, hy⟩ : ∃ y, S[q]? = some y := ⟨S[q]'(by omega), List.getElem?_eq_getElem (by omega)⟩
      refine WO.nil ?_
      refine WP.cond (t := true) rfl ?_
      refine WP.skip ?_
      refine WP.seq ?_
      refine WP.block ?_
      refine WP.reg ?_
      refine WO.val (v := .int .i64 (q : Int)) (L.subE rfl rfl (by omega) (And.intro (by omega) (by omega))) ?_
      refine WO.val (v := .ptr b (0 + q * 1)) (L.iaddr rfl rfl (by omega)) ?_
      refine WO.val (v := L.str y) (L.load rfl ((st.acuRows 0 rfl (by decide)).load1 (SR_at (shift_get hy)))) ?_
      refine WO.val (v := .ptr b (0 + (q + 1) * 1)) (L.iaddr rfl rfl (by omega)) ?_
      refine WO.storeU st rfl rfl (by decide) (by rw [SR_len]; simp; omega) rfl (fun h st => ?_)
      replace st : St (.acu bs1 f1 1 (.sl b 0 (S.length + 1) none) (SR (S.take q ++ y :: S.drop q)) :: fs) h := by rw [← shift_set hy (w := w), ← SR_set]; exact st
      refine WO.nil ?_
      refine WP.reg ?_
      refine WO.valS (v := .int .i64 (q : Int)) (L.subE rfl rfl (by omega) (And.intro (by omega) (by omega))) ?_
      refine WO.nil ?_
      exact ⟨q, (by omega), y, (.bool true), ⟨by omega, by omega⟩, by kernel_rfl, st⟩
    · obtain rfl : k = i := by omega
      refine WO.nil ?_
      refine WP.cond (t := false) rfl ?_
      refine WP.exit ?_
      refine WP.seq ?_
      refine WP.reg ?_
      refine WO.val (v := .ptr b (0 + k * 1)) (L.iaddr rfl rfl (by omega)) ?_
      refine WO.storeU st rfl rfl (by decide) (by rw [SR_len]; simp; omega) rfl (fun h st => ?_)
      replace st : St (.acu bs1 f1 1 (.sl b 0 (S.length + 1) none) (SR (S.take k ++ s :: S.drop k)) :: fs) h := by rw [← put_set (w := w) (show k ≤ S.length by omega), ← SR_set]; exact st
      refine WO.nil ?_
      refine WP.seq ?_
      refine WP.reg ?_
      refine WO.valS (v := .sl b 0 (S.length + 1) none) rfl ?_
      refine WO.nil ?_
      refine WP.ret ?_
      exact ⟨_, (res_cons (res_tmp (v := .sl b 0 (S.length + 1) none) rfl) (res_nil _ _)), _, _, _, ⟨k, by omega, hlt, hge, (if_neg hne).symm⟩, st⟩

theorem runion_c (D : HasA c) {fs : List Fact} {h : Heap} {w v : V} {xs ns : List Lab.Txt} (hx0 : xs.length + ns.length < 2147483648) (st : St (.stb (fun h => SRows h w xs) :: .stb (fun h => SRows h v ns) :: fs) h) :
    RunP c 20 [w, v] h fun v1 h1 => ∃ bs f, St (.acu bs f 1 v1 (SR (risen (xs ++ ns))) :: .stb (fun h => SRows h w xs) :: .stb (fun h => SRows h v ns) :: fs) h1 := by
  refine RunP.fun_ D.f20 rfl ?_
  refine WP.seq ?_
  refine WP.reg ?_
  refine WO.valS (v := .slN) rfl ?_
  refine WO.nil ?_
  refine WP.seq ?_
  refine WP.reg ?_
  refine WO.valS (v := .slN) rfl ?_
  refine WO.nil ?_
  refine WP.seq ?_
  refine WP.seq ?_
  refine WP.reg ?_
  refine WO.valS (v := .int .i64 0) rfl ?_
  refine WO.nil ?_
  refine WP.block ?_
  replace st : St (.acu ([]) 0 1 .slN ([]) :: .stb (fun h => SRows h w xs) :: .stb (fun h => SRows h v ns) :: fs) h := st.acu0 1
  refine WP.loopG (α := Nat) (fun i env h => ∃ bs f va S x4, (i ≤ xs.length ∧ Lab.Seen (pr0 (xs.take i)) S ∧ S.length ≤ i) ∧ env = argsP [w, v, .slN, .int .i64 (i : Int), x4, va] 0 Env.nil ∧ St (.acu bs f 1 va (SR S) :: .stb (fun h => SRows h w xs) :: .stb (fun h => SRows h v ns) :: fs) h) (fun i => xs.length - i) 0 ?_ ?_
  · exact ⟨[], 0, .slN, [], .bot, ⟨Nat.zero_le _, Lab.Seen.nil, Nat.zero_le _⟩, by kernel_rfl, st⟩
  rintro i _ h ⟨bs, f, va, S, x4, ⟨hi, hseen, hS⟩, rfl, st⟩
  replace st : St (.acu bs f 1 va (SR S) :: .stb (fun h => SRows h w xs) :: .stb (fun h => SRows h v ns) :: fs) h := st
  refine WP.seq ?_
  refine WP.seq ?_
  refine WP.reg ?_
  refine WO.val (v := .int .i64 (xs.length : Int)) (L.llenS rfl (st.stb_at 1 rfl)) ?_
  refine WO.ifS (L.lss rfl rfl) (fun c1 => ?_) (fun c1 => ?_)
  · replace c1 : i < xs.length := by omega
    obtain ⟨y, hx⟩ : ∃ y, xs[i]? = some y := ⟨xs[i]'(by omega), List.getElem?_eq_getElem (by omega)⟩
    refine WO.nil ?_
    refine WP.cond (t := true) rfl ?_
    refine WP.skip ?_
    refine WP.seq ?_
    refine WP.block ?_
    refine WP.reg ?_
    refine WO.val (v := .ptr (slB w) (slO w + i * 1)) (L.iaddrS (st.stb_at 1 rfl) c1 rfl rfl) ?_
    refine WO.val (v := L.str y) (L.load rfl (SRows.at (st.stb_at 1 rfl) hx)) ?_
    refine WO.callFS rfl (insert_c D (by omega) st) ?_
    rintro w1 h ⟨bs1, f1, S1, hin1, st⟩
    have hl1 := hin1.len
    replace st : St (.acu bs1 f1 1 w1 (SR S1) :: .stb (fun h => SRows h w xs) :: .stb (fun h => SRows h v ns) :: fs) h := st
    refine WO.nil ?_
    refine WP.reg ?_
    refine WO.valS (v := .int .i64 ((i + 1 : Nat) : Int)) (L.addE rfl rfl (by omega) (And.intro (by omega) (by omega))) ?_
    refine WO.nil ?_
    exact ⟨i + 1, (by omega), bs1, f1, w1, S1, (.bool true), ⟨by omega, (by have := hseen.one (p := (y, [])) hin1 rfl; rw [← pr0_take hx] at this; exact this), by omega⟩, by kernel_rfl, st⟩
  · replace c1 : ¬ (i < xs.length) := by omega
    refine WO.nil ?_
    refine WP.cond (t := false) rfl ?_
    refine WP.exit ?_
    refine WP.seq ?_
    refine WP.seq ?_
    refine WP.reg ?_
    refine WO.valS (v := .int .i64 0) rfl ?_
    refine WO.nil ?_
    refine WP.block ?_
    refine WP.loopG (α := Nat) (fun j env h => ∃ bs f va S x7, (j ≤ ns.length ∧ Lab.Seen (pr0 xs ++ pr0 (ns.take j)) S ∧ S.length ≤ xs.length + j) ∧ env = argsP [w, v, .slN, .int .i64 (i : Int), .bool false, va, .int .i64 (j : Int), x7] 0 Env.nil ∧ St (.acu bs f 1 va (SR S) :: .stb (fun h => SRows h w xs) :: .stb (fun h => SRows h v ns) :: fs) h) (fun j => ns.length - j) 0 ?_ ?_
    · exact ⟨bs, f, va, S, .bot, ⟨Nat.zero_le _, (by rw [List.take_of_length_le (by omega)] at hseen; rw [List.take_zero, show pr0 ([] : List Lab.Txt) = [] from rfl, List.append_nil]; exact hseen), by omega⟩, by kernel_rfl, st⟩
    rintro j _ h ⟨bs, f, va, S, x7, ⟨hi, hseen, hS⟩, rfl, st⟩
    replace st : St (.acu bs f 1 va (SR S) :: .stb (fun h => SRows h w xs) :: .stb (fun h => SRows h v ns) :: fs) h := st
    refine WP.seq ?_
    refine WP.seq ?_
    refine WP.reg ?_
    refine WO.val (v := .int .i64 (ns.length : Int)) (L.llenS rfl (st.stb_at 2 rfl)) ?_
    refine WO.ifS (L.lss rfl rfl) (fun c1 => ?_) (fun c1 => ?_)
    · replace c1 : j < ns.length := by omega
      obtain ⟨y, hx⟩ : ∃ y, ns[j]? = some y := ⟨ns[j]'(by omega), List.getElem?_eq_getElem (by omega)⟩
      refine WO.nil ?_
      refine WP.cond (t := true) rfl ?_
      refine WP.skip ?_
      refine WP.seq ?_
      refine WP.block ?_
      refine WP.reg ?_
      refine WO.val (v := .ptr (slB v) (slO v + j * 1)) (L.iaddrS (st.stb_at 2 rfl) c1 rfl rfl) ?_
      refine WO.val (v := L.str y) (L.load rfl (SRows.at (st.stb_at 2 rfl) hx)) ?_
      refine WO.callFS rfl (insert_c D (by omega) st) ?_
      rintro w1 h ⟨bs1, f1, S1, hin1, st⟩
      have hl1 := hin1.len
      replace st : St (.acu bs1 f1 1 w1 (SR S1) :: .stb (fun h => SRows h w xs) :: .stb (fun h => SRows h v ns) :: fs) h := st
      refine WO.nil ?_
      refine WP.reg ?_
      refine WO.valS (v := .int .i64 ((j + 1 : Nat) : Int)) (L.addE rfl rfl (by omega) (And.intro (by omega) (by omega))) ?_
      refine WO.nil ?_
      exact ⟨j + 1, (by omega), bs1, f1, w1, S1, (.bool true), ⟨by omega, (by have := hseen.one (p := (y, [])) hin1 rfl; rw [List.append_assoc, ← pr0_take hx] at this; exact this), by omega⟩, by kernel_rfl, st⟩
    · replace c1 : ¬ (j < ns.length) := by omega
      refine WO.nil ?_
      refine WP.cond (t := false) rfl ?_
      refine WP.exit ?_
      refine WP.seq ?_
      refine WP.reg ?_
      refine WO.valS (v := va) rfl ?_
      refine WO.nil ?_
      refine WP.ret ?_
      rw [List.take_of_length_le (by omega)] at hseen
      have eS : S = risen (xs ++ ns) := by rw [hseen.is, ← names_pr0]; unfold pr0; rw [List.map_append]
      rw [eS] at st
      exact ⟨_, (res_cons (res_tmp (v := va) rfl) (res_nil _ _)), _, _, st⟩

end
end Go.Eng.YtmcjcbldmoijiaaGreatDoor
namespace Go.Eng.YtmcjcbldmoijiaaGreatDoor
open Go.Eng
noncomputable section
variable {c : Ctx}
/-- the functions that are told -/
structure HasB (c : Ctx) : Prop where
  f17 : T.get 17 c.funs = some i17
  f44 : T.get 44 c.funs = some i44
  f45 : T.get 45 c.funs = some i45
  f74 : T.get 74 c.funs = some i74
  f78 : T.get 78 c.funs = some i78
  sort : ∀ args h r, moreSort 77 77 args h = r → r ≠ .bad → Runs c 77 args h r
  grow : ∀ args h r, moreGrow 79 79 args h = r → r ≠ .bad → Runs c 79 args h r
theorem clone_s (D : HasB c) {fs : List Fact} {h : Heap} {v : V} {l : List Lab.Txt} (hn : l = [] → v = .slN) (hl : l.length < 4294967296) (st : St (.stb (fun h => SRows h v l) :: fs) h) :
    RunP c 74 [v] h fun v1 h1 => ∃ bs f, St (.acu bs f 1 v1 (SR l) :: .stb (fun h => SRows h v l) :: fs) h1 := by
  refine RunP.fun_ D.f74 rfl ?_
  refine WP.seq ?_
  refine WP.reg ?_
  refine WO.valS (v := .slN) rfl ?_
  refine WO.nil ?_
  refine WP.seq ?_
  refine WP.seq ?_
  refine WP.reg ?_
  have hR : SRows h v l := st.stb_at 0 rfl
  by_cases hv : v = .slN
  · subst hv
    obtain rfl : l = [] := by
      rcases hR with ⟨_, e⟩ | ⟨_, _, _, e, _⟩
      · exact e
      · cases e
    refine WO.valS (v := .bool true) (L.slnilT rfl rfl) ?_
    refine WO.nil ?_
    refine WP.cond (t := true) rfl ?_
    refine WP.seq ?_
    refine WP.reg ?_
    refine WO.valS (v := .slN) rfl ?_
    refine WO.nil ?_
    refine WP.ret ?_
    exact ⟨_, (res_cons (res_tmp (v := .slN) rfl) (res_nil _ _)), [], 0, St.acu0 st 1⟩
  · have hne : l ≠ [] := fun e => hv (hn e)
    have hl0 : 0 < l.length := List.length_pos_iff.2 hne
    have hsl := hR.sl (i := 0) hl0
    refine WO.valS (v := .bool false) (L.slnilF hsl rfl) ?_
    refine WO.nil ?_
    refine WP.cond (t := false) rfl ?_
    refine WP.skip ?_
    refine WP.seq ?_
    refine WP.reg ?_
    refine WO.bslL8 (rows := []) st rfl (by decide) rfl (fun row hm => by cases hm) (fun eb h h8 st => ?_)
    replace st : St (.stb (fun h => Rows 1 h (.sl eb 0 0 (some 0)) []) :: .stb (fun h => SRows h v l) :: fs) h := st
    refine WO.appEZS st rfl h8 rfl (st.stb_at 1 rfl) hl0 (by omega) (fun bs f vc h st => ?_)
    replace st : St (.acu bs f 1 vc (SR l) :: .stb (fun h => Rows 1 h (.sl eb 0 0 (some 0)) []) :: .stb (fun h => SRows h v l) :: fs) h := st
    refine WO.nil ?_
    refine WP.ret ?_
    exact ⟨_, (res_cons (res_tmp (v := vc) rfl) (res_nil _ _)), bs, f, (st.pick 1 rfl).tail⟩

theorem uniq_short {S : List Lab.Txt} (h : S.length < 2) : Lab.uniq S = S := by
  match S, h with
  | [], _ => rfl
  | [x], _ => rfl
theorem compact_s (D : HasB c) {fs : List Fact} {h : Heap} {bs : List Nat} {f b : Nat} {S : List Lab.Txt} (hn : S.length < 4294967296) (st : St (.acu bs f 1 (.sl b 0 S.length none) (SR S) :: fs) h) :
    RunP c 78 [.sl b 0 S.length none] h fun v1 h1 => v1 = .sl b 0 (Lab.uniq S).length none ∧ St (.acu bs f 1 (.sl b 0 (Lab.uniq S).length none) (SR (Lab.uniq S)) :: fs) h1 := by
  refine RunP.fun_ D.f78 rfl ?_
  refine WP.seq ?_
  refine WP.reg ?_
  refine WO.valS (v := .slN) rfl ?_
  refine WO.nil ?_
  refine WP.seq ?_
  refine WP.seq ?_
  refine WP.reg ?_
  refine WO.val (v := .int .i64 (S.length : Int)) (L.llen rfl) ?_
  refine WO.ifS (L.lss rfl rfl) (fun c0 => ?_) (fun c0 => ?_)
  · replace c0 : S.length < 2 := by omega
    refine WO.nil ?_
    refine WP.cond (t := true) rfl ?_
    refine WP.seq ?_
    refine WP.reg ?_
    refine WO.valS (v := .sl b 0 S.length none) rfl ?_
    refine WO.nil ?_
    refine WP.ret ?_
    have hu : Lab.uniq S = S := uniq_short (by omega)
    exact ⟨_, (res_cons (res_tmp (v := .sl b 0 S.length none) rfl) (res_nil _ _)), (by rw [hu]; rfl), (by rw [hu]; exact st)⟩
  · replace c0 : ¬ S.length < 2 := by omega
    refine WO.nil ?_
    refine WP.cond (t := false) rfl ?_
    refine WP.skip ?_
    refine WP.seq ?_
    refine WP.seq ?_
    refine WP.reg ?_
    refine WO.valS (v := .int .i64 1) rfl ?_
    refine WO.nil ?_
    refine WP.block ?_
    refine WP.loopG (α := Nat) (fun k env h => ∃ x1 x4 x5 x6 x7 x8 x9, (1 ≤ k ∧ k ≤ S.length ∧ Lab.uniq (S.take k) = S.take k) ∧ env = argsP [.sl b 0 S.length none, x1, .bool false, .int .i64 (k : Int), x4, x5, x6, x7, x8, x9] 0 Env.nil ∧ St (.acu bs f 1 (.sl b 0 S.length none) (SR S) :: fs) h) (fun k => S.length - k) 1 ?_ ?_
    · exact ⟨.slN, .bot, .bot, .bot, .bot, .bot, .bot, ⟨by omega, by omega, Lab.uniq_one S⟩, by kernel_rfl, st⟩
    rintro k _ h ⟨x1, x4, x5, x6, x7, x8, x9, ⟨hk1, hk2, hu⟩, rfl, st⟩
    replace st : St (.acu bs f 1 (.sl b 0 S.length none) (SR S) :: fs) h := st
    refine WP.seq ?_
    refine WP.seq ?_
    refine WP.reg ?_
    refine WO.val (v := .int .i64 (S.length : Int)) (L.llen rfl) ?_
    refine WO.ifS (L.lss rfl rfl) (fun c1 => ?_) (fun c1 => ?_)
    · replace c1 : k < S.length := by omega
      obtain ⟨x, hx⟩ : ∃ x, S[k]? = some x := ⟨S[k]'(by omega), List.getElem?_eq_getElem (by omega)⟩
      obtain ⟨y, hy⟩ : ∃ y, S[k - 1]? = some y := ⟨S[k - 1]'(by omega), List.getElem?_eq_getElem (by omega)⟩
      refine WO.nil ?_
      refine WP.cond (t := true) rfl ?_
      refine WP.skip ?_
      refine WP.seq ?_
      refine WP.block ?_
      refine WP.seq ?_
      refine WP.draw ?_
      refine WD.val (v := .sl b 0 S.length none) rfl ?_
      refine WD.val (v := .int .i64 (k : Int)) rfl ?_
      refine WD.val (v := .ptr b (0 + k * 1)) (L.iaddr rfl rfl (by omega)) ?_
      refine WD.val (v := L.str x) (L.load rfl ((st.acuRows 0 rfl (by decide)).load1 (SR_at hx))) ?_
      refine WD.val (v := .sl b 0 S.length none) rfl ?_
      refine WD.val (v := .int .i64 (k : Int)) rfl ?_
      refine WD.val (v := .int .i64 ((k - 1 : Nat) : Int)) (L.subE rfl rfl (by omega) (And.intro (by omega) (by omega))) ?_
      refine WD.val (v := .ptr b (0 + (k - 1) * 1)) (L.iaddr rfl rfl (by omega)) ?_
      refine WD.val (v := L.str y) (L.load rfl ((st.acuRows 0 rfl (by decide)).load1 (SR_at hy))) ?_
      refine WD.ifS (L.seq rfl rfl) (fun _ c3 => ?_) (fun _ c3 => ?_)
      · refine WD.nil ?_
        refine WP.cond (t := true) rfl ?_
        refine WP.seq ?_
        refine WP.reg ?_
        refine WO.valS (v := .sl b (0 + k * 1) (S.length - k) none) (L.ssl rfl (st.acuRows 0 rfl (by decide)) rfl rfl (by omega) (Nat.le_refl _)) ?_
        refine WO.nil ?_
        refine WP.seq ?_
        refine WP.seq ?_
        refine WP.reg ?_
        refine WO.valS (v := .int .i64 1) rfl ?_
        refine WO.nil ?_
        refine WP.block ?_
        refine WP.loopG (α := Nat) (fun j env h => ∃ q R x8 x9, (Lab.CInv S R k j q) ∧ env = argsP [.sl b 0 S.length none, x1, .bool false, .int .i64 (q : Int), .bool true, .bool true, .sl b (0 + k * 1) (S.length - k) none, .int .i64 (j : Int), x8, x9] 0 Env.nil ∧ St (.acu bs f 1 (.sl b 0 S.length none) (SR R) :: fs) h) (fun j => S.length - j) 1 ?_ ?_
        · exact ⟨k, S, x8, x9, Lab.CInv.start hk1 hu hx (by rw [hy, c3]), by kernel_rfl, st⟩
        rintro j _ h ⟨q, R, x8, x9, ci, rfl, st⟩
        replace st : St (.acu bs f 1 (.sl b 0 S.length none) (SR R) :: fs) h := st
        refine WP.seq ?_
        refine WP.seq ?_
        refine WP.reg ?_
        refine WO.val (v := .int .i64 ((S.length - k : Nat) : Int)) (L.llen rfl) ?_
        refine WO.ifS (L.lss rfl rfl) (fun c4 => ?_) (fun c4 => ?_)
        · replace c4 : j < S.length - k := by omega
          have hjl : k + j < S.length := by omega
          obtain ⟨x2, hx2⟩ : ∃ x, S[k + j]? = some x := ⟨S[k + j]'(by omega), List.getElem?_eq_getElem (by omega)⟩
          obtain ⟨y2, hy2⟩ : ∃ y, S[k + j - 1]? = some y := ⟨S[k + j - 1]'(by omega), List.getElem?_eq_getElem (by omega)⟩
          have hj1 := ci.j1
          have hql := ci.ql
          have hRl := ci.len
          have hx3 : R[k + j]? = some x2 := by rw [ci.at (by omega)]; exact hx2
          have hy3 : R[k + j - 1]? = some y2 := by rw [ci.at (by omega)]; exact hy2
          refine WO.nil ?_
          refine WP.cond (t := true) rfl ?_
          refine WP.skip ?_
          refine WP.seq ?_
          refine WP.block ?_
          refine WP.seq ?_
          refine WP.draw ?_
          refine WD.val (v := .sl b (0 + k * 1) (S.length - k) none) rfl ?_
          refine WD.val (v := .int .i64 (j : Int)) rfl ?_
          refine WD.val (v := .ptr b (0 + k * 1 + j * 1)) (L.iaddr rfl rfl (by omega)) ?_
          refine WD.val (v := L.str x2) (L.load rfl (by rw [show 0 + k * 1 + j * 1 = 0 + (k + j) * 1 by omega]; exact (st.acuRows 0 rfl (by decide)).load1 (SR_at hx3))) ?_
          refine WD.val (v := .sl b (0 + k * 1) (S.length - k) none) rfl ?_
          refine WD.val (v := .int .i64 (j : Int)) rfl ?_
          refine WD.val (v := .int .i64 ((j - 1 : Nat) : Int)) (L.subE rfl rfl (by omega) (And.intro (by omega) (by omega))) ?_
          refine WD.val (v := .ptr b (0 + k * 1 + (j - 1) * 1)) (L.iaddr rfl rfl (by omega)) ?_
          refine WD.val (v := L.str y2) (L.load rfl (by rw [show 0 + k * 1 + (j - 1) * 1 = 0 + (k + j - 1) * 1 by omega]; exact (st.acuRows 0 rfl (by decide)).load1 (SR_at hy3))) ?_
          refine WD.ifS (L.sne rfl rfl) (fun _ c5 => ?_) (fun _ c5 => ?_)
          · refine WD.nil ?_
            refine WP.cond (t := true) rfl ?_
            refine WP.seq ?_
            refine WP.reg ?_
            refine WO.val (v := .ptr b (0 + k * 1 + j * 1)) (L.iaddr rfl rfl (by omega)) ?_
            refine WO.val (v := L.str x2) (L.load rfl (by rw [show 0 + k * 1 + j * 1 = 0 + (k + j) * 1 by omega]; exact (st.acuRows 0 rfl (by decide)).load1 (SR_at hx3))) ?_
            refine WO.val (v := .ptr b (0 + q * 1)) (L.iaddr rfl rfl (by omega)) ?_
            refine WO.storeU st rfl rfl (by decide) (by rw [SR_len]; omega) rfl (fun h st => ?_)
            replace st : St (.acu bs f 1 (.sl b 0 S.length none) (SR (R.set q x2)) :: fs) h := by rw [← SR_set]; exact st
            refine WO.nil ?_
            refine WP.reg ?_
            refine WO.valS (v := .int .i64 ((q + 1 : Nat) : Int)) (L.addE rfl rfl (by omega) (And.intro (by omega) (by omega))) ?_
            refine WO.nil ?_
            refine WP.reg ?_
            refine WO.valS (v := .int .i64 ((j + 1 : Nat) : Int)) (L.addE rfl rfl (by omega) (And.intro (by omega) (by omega))) ?_
            refine WO.nil ?_
            exact ⟨j + 1, (by have := ci.le; omega), (q + 1), (R.set q x2), (.bool true), (.bool true), ci.put hx2 hy2 c5, by kernel_rfl, st⟩
          · refine WD.nil ?_
            refine WP.cond (t := false) rfl ?_
            refine WP.skip ?_
            refine WP.reg ?_
            refine WO.valS (v := .int .i64 ((j + 1 : Nat) : Int)) (L.addE rfl rfl (by omega) (And.intro (by omega) (by omega))) ?_
            refine WO.nil ?_
            exact ⟨j + 1, (by have := ci.le; omega), q, R, (.bool true), (.bool false), ci.skip hx2 (by rw [hy2, Decidable.not_not.1 c5]), by kernel_rfl, st⟩
        · replace c4 : ¬ j < S.length - k := by omega
          have hle := ci.le
          refine WO.nil ?_
          refine WP.cond (t := false) rfl ?_
          refine WP.exit ?_
          refine WP.seq ?_
          refine WP.reg ?_
          refine WO.val (v := .sl b (0 + q * 1) (S.length - q) none) (L.ssl rfl (st.acuRows 0 rfl (by decide)) rfl rfl (by have := ci.ql; have := ci.le; omega) (Nat.le_refl _)) ?_
          have hq := (ci.done (by omega)).2.2
          have hRl := ci.len
          refine WO.clearU st rfl (by decide) rfl (by omega) (by rw [SR_len]; omega) (fun h st => ?_)
          replace st : St (.acu bs f 1 (.sl b 0 S.length none) ((SR R).take q ++ List.replicate (S.length - q) [V.str 0 0]) :: fs) h := st
          refine WO.nil ?_
          refine WP.seq ?_
          refine WP.reg ?_
          refine WO.valS (v := .sl b 0 q none) (L.ssl rfl (st.acuRows 0 rfl (by decide)) rfl rfl (Nat.zero_le _) (by omega)) ?_
          refine WO.nil ?_
          refine WP.ret ?_
          obtain ⟨d1, d2, d3⟩ := ci.done (by omega)
          have s2 := st.cutU (k := q) (by omega)
          rw [List.take_left' (by rw [List.length_take, SR_len, ci.len]; omega), SR_take, d2, d1] at s2
          exact ⟨_, (res_cons (res_tmp (v := .sl b 0 q none) rfl) (res_nil _ _)), (by rw [d1]; rfl), s2⟩
      · refine WD.nil ?_
        refine WP.cond (t := false) rfl ?_
        refine WP.skip ?_
        refine WP.reg ?_
        refine WO.valS (v := .int .i64 ((k + 1 : Nat) : Int)) (L.addE rfl rfl (by omega) (And.intro (by omega) (by omega))) ?_
        refine WO.nil ?_
        exact ⟨k + 1, (by omega), x1, (.bool true), (.bool false), x6, x7, x8, x9, ⟨by omega, by omega, Lab.uniq_next hk1 hu hx hy c3⟩, by kernel_rfl, st⟩
    · replace c1 : ¬ k < S.length := by omega
      refine WO.nil ?_
      refine WP.cond (t := false) rfl ?_
      refine WP.exit ?_
      refine WP.seq ?_
      refine WP.reg ?_
      refine WO.valS (v := .sl b 0 S.length none) rfl ?_
      refine WO.nil ?_
      refine WP.ret ?_
      have hu2 : Lab.uniq S = S := by rw [List.take_of_length_le (by omega)] at hu; exact hu
      exact ⟨_, (res_cons (res_tmp (v := .sl b 0 S.length none) rfl) (res_nil _ _)), (by rw [hu2]; rfl), (by rw [hu2]; exact st)⟩

theorem compact_n (D : HasB c) {fs : List Fact} {h : Heap} (st : St fs h) :
    RunP c 78 [.slN] h fun v1 h1 => v1 = .slN ∧ St fs h1 := by
  refine RunP.fun_ D.f78 rfl ?_
  refine WP.seq ?_
  refine WP.reg ?_
  refine WO.valS (v := .slN) rfl ?_
  refine WO.nil ?_
  refine WP.seq ?_
  refine WP.seq ?_
  refine WP.reg ?_
  refine WO.val (v := .int .i64 ((0 : Nat) : Int)) (L.llenN rfl) ?_
  refine WO.ifS (L.lss rfl rfl) (fun c1 => ?_) (fun c1 => by exfalso; omega)
  refine WO.nil ?_
  refine WP.cond (t := true) rfl ?_
  refine WP.seq ?_
  refine WP.reg ?_
  refine WO.valS (v := .slN) rfl ?_
  refine WO.nil ?_
  refine WP.ret ?_
  exact ⟨_, (res_cons (res_tmp (v := .slN) rfl) (res_nil _ _)), rfl, st⟩

theorem compact_c (D : HasB c) {fs : List Fact} {h : Heap} {bs : List Nat} {f : Nat} {v : V} {S : List Lab.Txt} (hn : S.length < 4294967296) (st : St (.acu bs f 1 v (SR S) :: fs) h) :
    RunP c 78 [v] h fun v1 h1 => St (.acu bs f 1 v1 (SR (Lab.uniq S)) :: fs) h1 := by
  obtain ⟨_, _, a⟩ := st.acu_own
  have hl := SR_len S
  generalize hR : SR S = R at st a hl
  cases a with
  | nil =>
    obtain rfl : S = [] := by simpa using hl.symm
    obtain ⟨v1, h1, e1, rfl, s1⟩ := compact_n D st
    exact ⟨_, _, e1, hR ▸ s1⟩
  | row =>
    rw [hl] at st ⊢
    rw [← hR] at st
    obtain ⟨v1, h1, e1, rfl, s1⟩ := compact_s D hn st
    exact ⟨_, _, e1, s1⟩
theorem clone_n (D : HasB c) {fs : List Fact} {h : Heap} (st : St fs h) :
    RunP c 74 [.slN] h fun v1 h1 => v1 = .slN ∧ St fs h1 := by
  refine RunP.fun_ D.f74 rfl ?_
  refine WP.seq ?_
  refine WP.reg ?_
  refine WO.valS (v := .slN) rfl ?_
  refine WO.nil ?_
  refine WP.seq ?_
  refine WP.seq ?_
  refine WP.reg ?_
  refine WO.valS (v := .bool true) (L.slnilT rfl rfl) ?_
  refine WO.nil ?_
  refine WP.cond (t := true) rfl ?_
  refine WP.seq ?_
  refine WP.reg ?_
  refine WO.valS (v := .slN) rfl ?_
  refine WO.nil ?_
  refine WP.ret ?_
  exact ⟨_, (res_cons (res_tmp (v := .slN) rfl) (res_nil _ _)), rfl, st⟩

theorem rising_n (D : HasB c) {fs : List Fact} {h : Heap} (st : St fs h) :
    RunP c 44 [.slN] h fun v1 h1 => v1 = .slN ∧ St fs h1 := by
  refine RunP.fun_ D.f44 rfl ?_
  refine WP.seq ?_
  refine WP.reg ?_
  refine WO.valS (v := .slN) rfl ?_
  refine WO.nil ?_
  refine WP.seq ?_
  refine WP.reg ?_
  refine WO.callFS rfl (clone_n D st) ?_
  rintro _ h ⟨rfl, st⟩
  refine WO.nil ?_
  refine WP.seq ?_
  refine WP.reg ?_
  refine WO.callF rfl (sort_runs D.sort (ss := []) (by decide) (st.acu0 1)) ?_
  rintro _ h st
  replace st : St (fs) h := St.tail st
  refine WO.nil ?_
  refine WP.seq ?_
  refine WP.reg ?_
  refine WO.callFS rfl (compact_n D st) ?_
  rintro _ h ⟨rfl, st⟩
  refine WO.nil ?_
  refine WP.seq ?_
  refine WP.reg ?_
  refine WO.val (v := .int .i64 ((0 : Nat) : Int)) (L.llenN rfl) ?_
  refine WO.val (v := .int .i64 ((0 : Nat) : Int)) (L.llenN rfl) ?_
  refine WO.valS (v := .slN) rfl ?_
  refine WO.nil ?_
  refine WP.ret ?_
  exact ⟨_, (res_cons (res_tmp (v := .slN) rfl) (res_nil _ _)), rfl, st⟩

theorem rising_s (D : HasB c) {fs : List Fact} {h : Heap} {v : V} {l : List Lab.Txt} (hne : l ≠ []) (hn : l.length < 4294967296) (st : St (.stb (fun h => SRows h v l) :: fs) h) :
    RunP c 44 [v] h fun v1 h1 => St (.stb (fun h => Rows 1 h v1 (SR (risen l))) :: .stb (fun h => SRows h v l) :: fs) h1 := by
  refine RunP.fun_ D.f44 rfl ?_
  refine WP.seq ?_
  refine WP.reg ?_
  refine WO.valS (v := .slN) rfl ?_
  refine WO.nil ?_
  refine WP.seq ?_
  refine WP.reg ?_
  refine WO.callFS rfl (clone_s D (fun e => absurd e hne) hn st) ?_
  rintro vc h ⟨bs, f, st⟩
  replace st : St (.acu bs f 1 vc (SR l) :: .stb (fun h => SRows h v l) :: fs) h := st
  refine WO.nil ?_
  refine WP.seq ?_
  refine WP.reg ?_
  refine WO.callF rfl (sort_runs D.sort (ss := l) hn st) ?_
  rintro _ h st
  replace st : St (.acu bs f 1 vc (SR (sortB l)) :: .stb (fun h => SRows h v l) :: fs) h := st
  refine WO.nil ?_
  refine WP.seq ?_
  refine WP.reg ?_
  refine WO.callFS rfl (compact_c D (S := sortB l) (by rw [(sortB_perm l).length_eq]; exact hn) st) ?_
  rintro vm h st
  rw [show Lab.uniq (sortB l) = risen l from rfl] at st
  have hrl := risen_len l
  replace st : St (.acu bs f 1 vm (SR (risen l)) :: .stb (fun h => SRows h v l) :: fs) h := st
  have e0 : ¬ (risen l).length = 0 := fun e => hne (by cases l with | nil => rfl | cons a l => exact absurd ((risen_mem (a :: l) a).2 (by simp)) (by rw [List.length_eq_zero_iff.1 e]; simp))
  obtain ⟨nb, rfl⟩ : ∃ nb, vm = .sl nb 0 (risen l).length none := acu_sl (st.acu_at 0 rfl) (SR_len _) e0
  refine WO.nil ?_
  refine WP.seq ?_
  refine WP.reg ?_
  refine WO.val (v := .int .i64 ((risen l).length : Int)) (L.llen rfl) ?_
  refine WO.val (v := .int .i64 ((risen l).length : Int)) (L.llen rfl) ?_
  refine WO.valS (v := .sl nb (0 + 0 * 1) ((risen l).length - 0) (some ((risen l).length - 0))) (L.sslM rfl rfl rfl rfl (by omega) (Nat.zero_le _) (Nat.le_refl _) (Nat.le_refl _) (by omega)) ?_
  refine WO.nil ?_
  refine WP.ret ?_
  exact ⟨_, (res_cons (res_tmp (v := .sl nb (0 + 0 * 1) ((risen l).length - 0) (some ((risen l).length - 0))) rfl) (res_nil _ _)), (st.shutU (by decide)).imp0 fun h hx => Rows.cap hx⟩

theorem rising_c (D : HasB c) {fs : List Fact} {h : Heap} {v : V} {l : List Lab.Txt} (hz : l = [] → v = .slN) (hn : l.length < 4294967296) (st : St (.stb (fun h => SRows h v l) :: fs) h) :
    RunP c 44 [v] h fun v1 h1 => St (.stb (fun h => Rows 1 h v1 (SR (risen l))) :: .stb (fun h => SRows h v l) :: fs) h1 := by
  by_cases e : l = []
  · subst e
    rw [hz rfl] at st ⊢
    obtain ⟨v1, h1, r, rfl, s1⟩ := rising_n D st
    exact ⟨_, _, r, St.triv (P := fun h => Rows 1 h .slN (SR [])) s1 fun _ => .nil⟩
  · exact rising_s D e hn st
theorem concat_c (D : HasB c) {fs : List Fact} {h : Heap} {w : V} {vs : List V} {LS : List (List Lab.Txt)} (hl : vs.length = LS.length) (hn : LS.flatten.length < 2147483648) (hm : vs.length < 2147483648) (st : St (.stb (fun h => Rows 1 h w (vs.map fun v => [v])) :: .stb (fun h => SAll h vs LS) :: fs) h) :
    RunP c 45 [w] h fun v1 h1 => ∃ bs f, (LS.flatten.length = 0 → v1 = .slN) ∧ St (.acu bs f 1 v1 (SR LS.flatten) :: .stb (fun h => Rows 1 h w (vs.map fun v => [v])) :: .stb (fun h => SAll h vs LS) :: fs) h1 := by
  refine RunP.fun_ D.f45 rfl ?_
  refine WP.seq ?_
  refine WP.reg ?_
  refine WO.valS (v := .slN) rfl ?_
  refine WO.nil ?_
  refine WP.seq ?_
  refine WP.reg ?_
  refine WO.valS (v := .int .i64 0) rfl ?_
  refine WO.nil ?_
  refine WP.seq ?_
  refine WP.seq ?_
  refine WP.reg ?_
  refine WO.valS (v := w) rfl ?_
  refine WO.valS (v := .int .i64 (vs.length : Int)) (L.llenRn rfl (st.stb_at 0 rfl) (List.length_map _)) ?_
  refine WO.valS (v := .int .i64 0) rfl ?_
  refine WO.nil ?_
  refine WP.block ?_
  refine WP.loopG (α := Nat) (fun i env h => ∃ x4 x6 x8, (i ≤ vs.length) ∧ env = argsP [w, .slN, .int .i64 (i : Int), .int .i64 (vs.length : Int), x4, w, x6, .int .i64 ((LS.take i).flatten.length : Int), x8] 0 Env.nil ∧ St (.stb (fun h => Rows 1 h w (vs.map fun v => [v])) :: .stb (fun h => SAll h vs LS) :: fs) h) (fun i => vs.length - i) 0 ?_ ?_
  · exact ⟨.bot, .bot, .bot, Nat.zero_le _, by kernel_rfl, st⟩
  rintro i _ h ⟨x4, x6, x8, hi, rfl, st⟩
  replace st : St (.stb (fun h => Rows 1 h w (vs.map fun v => [v])) :: .stb (fun h => SAll h vs LS) :: fs) h := st
  refine WP.seq ?_
  refine WP.reg ?_
  refine WO.ifS (L.lss rfl rfl) (fun c1 => ?_) (fun c1 => ?_)
  · replace c1 : i < vs.length := by omega
    obtain ⟨v, hv⟩ : ∃ y, vs[i]? = some y := ⟨vs[i]'(by omega), List.getElem?_eq_getElem (by omega)⟩
    obtain ⟨l, hl2⟩ : ∃ y, LS[i]? = some y := ⟨LS[i]'(by omega), List.getElem?_eq_getElem (by omega)⟩
    have hfn := congrArg List.length (flat_next hl2)
    rw [List.length_append] at hfn
    have hfl := flat_take_le LS (i + 1)
    refine WO.nil ?_
    refine WP.seq ?_
    refine WP.cond (t := true) rfl ?_
    refine WP.skip ?_
    refine WP.seq ?_
    refine WP.block ?_
    refine WP.seq ?_
    refine WP.reg ?_
    refine WO.val (v := .ptr (slB w) (slO w + i * 1)) (L.iaddrZ (st.stb_at 0 rfl) (by rw [List.length_map]; omega) rfl rfl) ?_
    refine WO.valS (v := v) (L.load rfl (Rows.load1Z (st.stb_at 0 rfl) (by rw [List.getElem?_map, hv]; rfl))) ?_
    refine WO.nil ?_
    refine WP.seq ?_
    refine WP.reg ?_
    refine WO.val (v := .int .i64 (l.length : Int)) (L.llenS rfl ((st.stb_at 1 rfl) i v l hv hl2)) ?_
    refine WO.valS (v := .int .i64 ((LS.take (i + 1)).flatten.length : Int)) (L.addE rfl rfl (by omega) (And.intro (by omega) (by omega))) ?_
    refine WO.nil ?_
    refine WP.seq ?_
    refine WP.reg ?_
    refine WO.ifS (L.lss rfl rfl) (fun c1 => by exfalso; omega) (fun c1 => ?_)
    refine WO.nil ?_
    refine WP.cond (t := false) rfl ?_
    refine WP.skip ?_
    refine WP.reg ?_
    refine WO.valS (v := .int .i64 ((i + 1 : Nat) : Int)) (L.addE rfl rfl (by omega) (And.intro (by omega) (by omega))) ?_
    refine WO.nil ?_
    exact ⟨i + 1, (by omega), (.bool true), v, (.bool false), by omega, by kernel_rfl, st⟩
  · obtain rfl : i = vs.length := by omega
    rw [List.take_of_length_le (show LS.length ≤ vs.length by omega)]
    refine WO.nil ?_
    refine WP.seq ?_
    refine WP.cond (t := false) rfl ?_
    refine WP.exit ?_
    refine WP.seq ?_
    refine WP.reg ?_
    refine WO.callFS rfl (grow_runs D.grow (n := LS.flatten.length) (by omega) st) ?_
    rintro va h ⟨bs, f, hz, st⟩
    replace st : St (.acu bs f 1 va (SR (LS.take 0).flatten) :: .stb (fun h => Rows 1 h w (vs.map fun v => [v])) :: .stb (fun h => SAll h vs LS) :: fs) h := st
    refine WO.nil ?_
    refine WP.seq ?_
    refine WP.seq ?_
    refine WP.reg ?_
    refine WO.valS (v := w) rfl ?_
    refine WO.valS (v := .int .i64 (vs.length : Int)) (L.llenRn rfl (st.stb_at 1 rfl) (List.length_map _)) ?_
    refine WO.valS (v := .int .i64 0) rfl ?_
    refine WO.nil ?_
    refine WP.block ?_
    refine WP.loopG (α := Nat) (fun j env h => ∃ bs f va x11 x14, (j ≤ vs.length ∧ (LS.flatten.length = 0 → va = .slN)) ∧ env = argsP [w, .slN, .int .i64 (vs.length : Int), .int .i64 (vs.length : Int), .bool false, w, x6, .int .i64 (LS.flatten.length : Int), x8, .int .i64 (j : Int), .int .i64 (vs.length : Int), x11, w, va, x14] 0 Env.nil ∧ St (.acu bs f 1 va (SR (LS.take j).flatten) :: .stb (fun h => Rows 1 h w (vs.map fun v => [v])) :: .stb (fun h => SAll h vs LS) :: fs) h) (fun j => vs.length - j) 0 ?_ ?_
    · exact ⟨bs, f, va, .bot, .bot, ⟨Nat.zero_le _, hz⟩, by kernel_rfl, st⟩
    rintro j _ h ⟨bs, f, va, x11, x14, ⟨hj, hz⟩, rfl, st⟩
    replace st : St (.acu bs f 1 va (SR (LS.take j).flatten) :: .stb (fun h => Rows 1 h w (vs.map fun v => [v])) :: .stb (fun h => SAll h vs LS) :: fs) h := st
    refine WP.seq ?_
    refine WP.reg ?_
    refine WO.ifS (L.lss rfl rfl) (fun c1 => ?_) (fun c1 => ?_)
    · replace c1 : j < vs.length := by omega
      obtain ⟨v, hv⟩ : ∃ y, vs[j]? = some y := ⟨vs[j]'(by omega), List.getElem?_eq_getElem (by omega)⟩
      obtain ⟨l, hl2⟩ : ∃ y, LS[j]? = some y := ⟨LS[j]'(by omega), List.getElem?_eq_getElem (by omega)⟩
      have hfn := congrArg List.length (flat_next hl2)
      rw [List.length_append] at hfn
      have hfl := flat_take_le LS (j + 1)
      refine WO.nil ?_
      refine WP.seq ?_
      refine WP.cond (t := true) rfl ?_
      refine WP.skip ?_
      refine WP.seq ?_
      refine WP.block ?_
      refine WP.seq ?_
      refine WP.reg ?_
      refine WO.val (v := .ptr (slB w) (slO w + j * 1)) (L.iaddrZ (st.stb_at 1 rfl) (by rw [List.length_map]; omega) rfl rfl) ?_
      refine WO.valS (v := v) (L.load rfl (Rows.load1Z (st.stb_at 1 rfl) (by rw [List.getElem?_map, hv]; rfl))) ?_
      refine WO.nil ?_
      refine WP.reg ?_
      refine WO.appZS st rfl rfl ((st.stb_at 2 rfl) j v l hv hl2) (by omega) (fun bs1 f1 v1 h ez st => ?_)
      rw [← flat_next hl2] at st
      replace st : St (.acu bs1 f1 1 v1 (SR (LS.take (j + 1)).flatten) :: .stb (fun h => Rows 1 h w (vs.map fun v => [v])) :: .stb (fun h => SAll h vs LS) :: fs) h := st
      refine WO.nil ?_
      refine WP.reg ?_
      refine WO.valS (v := .int .i64 ((j + 1 : Nat) : Int)) (L.addE rfl rfl (by omega) (And.intro (by omega) (by omega))) ?_
      refine WO.nil ?_
      exact ⟨j + 1, (by omega), bs1, f1, v1, (.bool true), v, ⟨by omega, fun e => (ez (List.length_eq_zero_iff.1 (by omega))).trans (hz e)⟩, by kernel_rfl, st⟩
    · refine WO.nil ?_
      refine WP.seq ?_
      refine WP.cond (t := false) rfl ?_
      refine WP.exit ?_
      refine WP.seq ?_
      refine WP.reg ?_
      refine WO.valS (v := va) rfl ?_
      refine WO.nil ?_
      refine WP.ret ?_
      rw [List.take_of_length_le (show LS.length ≤ j by omega)] at st
      exact ⟨_, (res_cons (res_tmp (v := va) rfl) (res_nil _ _)), bs, f, hz, st⟩

theorem union_c (D : HasB c) {fs : List Fact} {h : Heap} {va vb : V} {A B : List Lab.Txt} (hn : A.length + B.length < 2147483648) (st : St (.stb (fun h => SRows h va A) :: .stb (fun h => SRows h vb B) :: fs) h) :
    RunP c 17 [va, vb] h fun v1 h1 => St (.stb (fun h => Rows 1 h v1 (SR (risen (A ++ B)))) :: .stb (fun h => SRows h va A) :: .stb (fun h => SRows h vb B) :: fs) h1 := by
  refine RunP.fun_ D.f17 rfl ?_
  refine WP.seq ?_
  refine WP.reg ?_
  refine WO.valS (v := .slN) rfl ?_
  refine WO.nil ?_
  refine WP.seq ?_
  refine WP.reg ?_
  refine WO.bslL8 (rows := [[va], [vb]]) st (fill_two (SRows.one (st.stb_at 0 rfl)) (SRows.one (st.stb_at 1 rfl))) (by decide) rfl (by simp) (fun lb h _ st => ?_)
  replace st : St (.stb (fun h => Rows 1 h (.sl lb 0 2 (some 2)) ([va, vb].map fun v => [v])) :: .stb (fun h => SRows h va A) :: .stb (fun h => SRows h vb B) :: fs) h := st
  replace st : St (.stb (fun h => Rows 1 h (.sl lb 0 2 (some 2)) ([va, vb].map fun v => [v])) :: .stb (fun h => SAll h [va, vb] [A, B]) :: .stb (fun h => SRows h va A) :: .stb (fun h => SRows h vb B) :: fs) h := by
    have s1 := (st.pick 2 rfl).pick 2 rfl
    have s2 := (St.twice s1).and.imp0 fun h hx => sall_two hx.1 hx.2
    exact (s2.pick 3 rfl)
  refine WO.callF rfl (concat_c D (vs := [va, vb]) (LS := [A, B]) rfl (by simp; omega) (by simp) st) ?_
  rintro vc h ⟨bs, f, hz, st⟩
  rw [show ([A, B] : List (List Lab.Txt)).flatten = A ++ B by simp] at st hz
  replace st : St (.stb (fun h => SRows h vc (A ++ B)) :: .stb (fun h => Rows 1 h (.sl lb 0 2 (some 2)) ([va, vb].map fun v => [v])) :: .stb (fun h => SAll h [va, vb] [A, B]) :: .stb (fun h => SRows h va A) :: .stb (fun h => SRows h vb B) :: fs) h := (st.shutU (by decide)).imp0 fun h hx => hx.sr
  refine WO.callFS rfl (rising_c D (fun e => hz (by rw [e]; rfl)) (by rw [List.length_append]; omega) st) ?_
  rintro vr h st
  replace st : St (.stb (fun h => Rows 1 h vr (SR (risen (A ++ B)))) :: .stb (fun h => SRows h vc (A ++ B)) :: .stb (fun h => Rows 1 h (.sl lb 0 2 (some 2)) ([va, vb].map fun v => [v])) :: .stb (fun h => SAll h [va, vb] [A, B]) :: .stb (fun h => SRows h va A) :: .stb (fun h => SRows h vb B) :: fs) h := st
  refine WO.nil ?_
  refine WP.ret ?_
  exact ⟨_, (res_cons (res_tmp (v := vr) rfl) (res_nil _ _)), (((st.pick 1 rfl).tail.pick 1 rfl).tail.pick 1 rfl).tail⟩

end
end Go.Eng.YtmcjcbldmoijiaaGreatDoor
