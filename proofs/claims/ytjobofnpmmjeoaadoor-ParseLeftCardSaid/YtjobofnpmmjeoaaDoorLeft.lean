/- Part of a proof of a law, by an evaluator that the machine follows: rules, contracts of functions, what they come to. No condition of its own. -/
import Derived.Test.YtjobofnpmmjeoaaDoorPlaces
import Derived.Test.YtjobofnpmmjeoaaDoorSpec
import Derived.Test.YtjobofnpmmjeoaaDoorSym
import Derived.Test.YtjobofnpmmjeoaaDoorConE
set_option linter.unusedVariables false
set_option linter.unusedSimpArgs false
namespace Go.Eng.YtjobofnpmmjeoaaDoor
open Go.Eng
noncomputable section
variable {c : Ctx}
def DigI (n u : Nat) (x : List UInt8) : Prop := ∃ f, Sum.digL (f + 1) u x = Sum.dig n ∧ u < 10 ^ (f + 1) ∧ x.length + f + 1 ≤ 20 ∧ u < 256
theorem DigI.start {n : Nat} (hn : n < 256) : DigI n n [] := ⟨19, rfl, Nat.lt_trans hn (by decide), by decide, hn⟩
theorem DigI.step {n u : Nat} {x : List UInt8} (h : DigI n u x) (hu : 10 ≤ u) : DigI n (u / 10) (UInt8.ofNat (48 + u % 10) :: x) := by
  obtain ⟨f, h1, h2, h3, h4⟩ := h
  obtain ⟨g, rfl⟩ : ∃ g, f = g + 1 := by
    cases f with
    | zero => exfalso; simp at h2; omega
    | succ g => exact ⟨g, rfl⟩
  refine ⟨g, ?_, ?_, by simp; omega, by omega⟩
  · rw [← h1]
    show _ = (if 10 ≤ u then Sum.digL (g + 1) (u / 10) (UInt8.ofNat (48 + u % 10) :: x) else UInt8.ofNat (48 + u) :: x)
    rw [if_pos hu]
  · rw [Nat.pow_succ] at h2; omega
theorem DigI.out {n u : Nat} {x : List UInt8} (h : DigI n u x) (hu : ¬ 10 ≤ u) : UInt8.ofNat (48 + u) :: x = Sum.dig n := by
  obtain ⟨f, h1, _⟩ := h
  rw [← h1]
  show _ = (if 10 ≤ u then _ else UInt8.ofNat (48 + u) :: x)
  rw [if_neg hu]
theorem DigI.few {n u : Nat} {x : List UInt8} (h : DigI n u x) : u < 256 ∧ x.length ≤ 20 := by
  obtain ⟨f, _, _, h3, h4⟩ := h
  exact ⟨h4, by omega⟩

theorem digits_c (D : HasF c) (h14 : T.get 14 c.funs = some i14) {n : Nat} (hn : n < 256) {fs : List Fact} {h : Heap} (st : St fs h) :
    RunP c 14 [.int .i64 (n : Int)] h fun v h1 => v = L.str (Sum.dig n) ∧ St fs h1 := by
  refine RunP.fun_ h14 rfl ?_
  refine WP.seq ?_
  refine WP.reg ?_
  refine WO.valS (v := L.str []) rfl ?_
  refine WO.nil ?_
  refine WP.seq ?_
  refine WP.reg ?_
  refine WO.valS (v := .int .u64 (n : Int)) (L.convU64 rfl (by omega)) ?_
  refine WO.valS (v := L.str []) rfl ?_
  refine WO.nil ?_
  refine WP.seq ?_
  refine WP.seq ?_
  refine WP.reg ?_
  refine WO.ifS (L.lss rfl rfl) (fun c1 => by exfalso; omega) (fun c1 => ?_)
  refine WO.nil ?_
  refine WP.cond (t := false) rfl ?_
  refine WP.skip ?_
  refine WP.seq ?_
  refine WP.block ?_
  refine WP.loopG (α := Nat) (fun u env h => ∃ x x4, (DigI n u x) ∧ env = argsP [.int .i64 (n : Int), L.str [], .bool false, .int .u64 (u : Int), x4, L.str x] 0 Env.nil ∧ St (fs) h) (fun u => u) n ?_ ?_
  · exact ⟨[], .bot, DigI.start hn, by kernel_rfl, st⟩
  rintro u _ h ⟨x, x4, hI, rfl, st⟩
  replace st : St (fs) h := st
  obtain ⟨hu, hx⟩ := hI.few
  refine WP.seq ?_
  refine WP.seq ?_
  refine WP.reg ?_
  refine WO.ifS (L.geq rfl rfl) (fun c2 => ?_) (fun c2 => ?_)
  · replace c2 : u ≥ 10 := by omega
    refine WO.nil ?_
    refine WP.cond (t := true) rfl ?_
    refine WP.skip ?_
    refine WP.block ?_
    refine WP.seq ?_
    refine WP.reg ?_
    refine WO.val (v := .int .u64 ((u % 10 : Nat) : Int)) (L.rem (b := 10) rfl rfl rfl (by decide)) ?_
    refine WO.val (v := .int .u64 ((48 + u % 10 : Nat) : Int)) (L.addU64 (a := 48) rfl rfl rfl (by omega)) ?_
    refine WO.val (v := .int .u8 ((48 + u % 10 : Nat) : Int)) (L.convU8 rfl (by omega)) ?_
    refine WO.bslF (rows := [[.int .u8 ((48 + u % 10 : Nat) : Int)]]) st rfl (by decide) rfl (by simp) (fun bs1 h (st : St (.stb (fun h => Rows 1 h (.sl bs1 0 1 (some 1)) [[.int .u8 ((48 + u % 10 : Nat) : Int)]]) :: fs) h) => ?_)
    refine WO.val (v := L.str [UInt8.ofNat (48 + u % 10)]) (L.bstrK (k := 48 + u % 10) rfl (by omega) (st.stb_at 0 rfl)) ?_
    refine WO.valS (v := L.str (UInt8.ofNat (48 + u % 10) :: x)) (L.scatE rfl rfl rfl (by simp; omega)) ?_
    refine WO.nil ?_
    refine WP.reg ?_
    refine WO.valS (v := .int .u64 ((u / 10 : Nat) : Int)) (L.quoU64 (b := 10) rfl rfl rfl (by decide) (by omega)) ?_
    refine WO.nil ?_
    exact ⟨u / 10, (by omega), _, (.bool true), hI.step (by omega), by kernel_rfl, st.tail⟩
  · replace c2 : ¬ (u ≥ 10) := by omega
    refine WO.nil ?_
    refine WP.cond (t := false) rfl ?_
    refine WP.exit ?_
    refine WP.seq ?_
    refine WP.reg ?_
    refine WO.val (v := .int .u64 ((48 + u : Nat) : Int)) (L.addU64 (a := 48) rfl rfl rfl (by omega)) ?_
    refine WO.val (v := .int .u8 ((48 + u : Nat) : Int)) (L.convU8 rfl (by omega)) ?_
    refine WO.bslF (rows := [[.int .u8 ((48 + u : Nat) : Int)]]) st rfl (by decide) rfl (by simp) (fun bs2 h (st : St (.stb (fun h => Rows 1 h (.sl bs2 0 1 (some 1)) [[.int .u8 ((48 + u : Nat) : Int)]]) :: fs) h) => ?_)
    refine WO.val (v := L.str [UInt8.ofNat (48 + u)]) (L.bstrK (k := 48 + u) rfl (by omega) (st.stb_at 0 rfl)) ?_
    refine WO.valS (v := L.str (Sum.dig n)) (L.scatE rfl rfl (hI.out (by omega)) (by simp; omega)) ?_
    refine WO.nil ?_
    refine WP.seq ?_
    refine WP.seq ?_
    refine WP.reg ?_
    refine WO.ifS (L.lss rfl rfl) (fun c3 => by exfalso; omega) (fun c3 => ?_)
    refine WO.nil ?_
    refine WP.cond (t := false) rfl ?_
    refine WP.skip ?_
    refine WP.seq ?_
    refine WP.reg ?_
    refine WO.valS (v := L.str (Sum.dig n)) rfl ?_
    refine WO.nil ?_
    refine WP.ret ?_
    exact ⟨_, (res_cons (res_tmp (v := L.str (Sum.dig n)) rfl) (res_nil _ _)), rfl, st.tail⟩

end
end Go.Eng.YtjobofnpmmjeoaaDoor
namespace Go.Eng.YtjobofnpmmjeoaaDoor
open Go.Eng
noncomputable section
variable {c : Ctx}
theorem left0_c (D : HasF c) (h6 : T.get 6 c.funs = some i6) (h9 : T.get 9 c.funs = some i9) (DD : HasD c) {fs : List Fact} {h : Heap} (st : St fs h) :
    RunP c 6 [.slN] h fun v h1 => v = .bool true ∧ St fs h1 := by
  refine RunP.fun_ h6 rfl ?_
  refine WP.seq ?_
  refine WP.reg ?_
  refine WO.valS (v := .bool false) rfl ?_
  refine WO.nil ?_
  refine WP.seq ?_
  refine WP.seq ?_
  refine WP.reg ?_
  refine WO.val (v := .int .i64 ((0 : Nat) : Int)) (L.llenN rfl) ?_
  refine WO.ifV (L.eql rfl rfl) (fun c1 => ?_) (fun c1 => by exfalso; omega)
  refine WO.no rfl ?_
  refine WO.no rfl ?_
  refine WO.no rfl ?_
  refine WO.valS (v := .bool true) rfl ?_
  refine WO.nil ?_
  refine WP.cond (t := true) rfl ?_
  refine WP.seq ?_
  refine WP.reg ?_
  refine WO.callFS rfl (awake_c D h9 DD st) ?_
  rintro _ h ⟨rfl, st⟩
  refine WO.nil ?_
  refine WP.ret ?_
  exact ⟨_, (res_cons (res_tmp (v := .bool true) rfl) (res_nil _ _)), rfl, st⟩

theorem left1_c (D : HasF c) (h6 : T.get 6 c.funs = some i6) (h9 : T.get 9 c.funs = some i9) (DD : HasD c) {fs : List Fact} {h : Heap} (st : St fs h) :
    RunP c 6 [(.sl 0 0 0 none)] h fun v h1 => v = .bool true ∧ St fs h1 := by
  refine RunP.fun_ h6 rfl ?_
  refine WP.seq ?_
  refine WP.reg ?_
  refine WO.valS (v := .bool false) rfl ?_
  refine WO.nil ?_
  refine WP.seq ?_
  refine WP.seq ?_
  refine WP.reg ?_
  refine WO.val (v := .int .i64 ((0 : Nat) : Int)) (L.llen rfl) ?_
  refine WO.ifV (L.eql rfl rfl) (fun c1 => ?_) (fun c1 => by exfalso; omega)
  refine WO.no rfl ?_
  refine WO.no rfl ?_
  refine WO.no rfl ?_
  refine WO.valS (v := .bool true) rfl ?_
  refine WO.nil ?_
  refine WP.cond (t := true) rfl ?_
  refine WP.seq ?_
  refine WP.reg ?_
  refine WO.callFS rfl (awake_c D h9 DD st) ?_
  rintro _ h ⟨rfl, st⟩
  refine WO.nil ?_
  refine WP.ret ?_
  exact ⟨_, (res_cons (res_tmp (v := .bool true) rfl) (res_nil _ _)), rfl, st⟩

def EAt (h : Heap) (pb po : Nat) (pc : Option Nat) (ds : List Nd) : Prop := ∃ r sb so sc r2 eb eo ec, Rows 8 h (.sl pb po 1 pc) [r] ∧ r[6]? = some (.sl sb so 1 sc) ∧ Rows 12 h (.sl sb so 1 sc) [r2] ∧ r2[8]? = some (.sl eb eo ds.length ec) ∧ Rows 7 h (.sl eb eo ds.length ec) (ds.map Nd.row)
theorem sumMd_r {h : Heap} {a1 a2 a3 : Nat} {ds : List Nd} {row : List V} (hm : MdR h (Sum.sumMd a1 a2 a3 ds) row) (hne : ds ≠ []) : ∃ vi vv pb po pc, row = [L.str [109], .int .i64 (a1 : Int), vi, vv, .sl pb po 1 pc] ∧ EAt h pb po pc ds := by
  obtain ⟨vi, vv, vp, rfl, _, _, rows, h8, hp⟩ := hm
  obtain ⟨r, rs, rfl, hr, rfl⟩ := hp
  obtain ⟨pb, po, pc, rfl⟩ := rows_two h8 (by simp)
  obtain ⟨vq, vu, vb, rfl, _, _, rows2, h12, hs⟩ := hr
  simp only [SmRows] at hs
  obtain ⟨r2, rs2, rfl, hs2, rfl⟩ := hs
  obtain ⟨sb, so, sc, rfl⟩ := rows_two h12 (by simp)
  simp only [SmR] at hs2
  obtain ⟨ve, va, vb2, vl, rfl, h7, _, _, _⟩ := hs2
  obtain ⟨eb, eo, ec, rfl⟩ := rows_two h7 (by simpa using hne)
  rw [List.length_map] at h7
  exact ⟨vi, vv, pb, po, pc, rfl, _, sb, so, sc, _, eb, eo, ec, h8, rfl, h12, (by rw [List.length_map]; rfl), h7⟩
theorem sumMd_E {h : Heap} {a1 a2 a3 pb po : Nat} {pc : Option Nat} {ds : List Nd} {x y z w : V} (hm : MdR h (Sum.sumMd a1 a2 a3 ds) [x, y, z, w, .sl pb po 1 pc]) (hne : ds ≠ []) : EAt h pb po pc ds := by
  obtain ⟨_, _, _, _, _, e, he⟩ := sumMd_r hm hne
  cases e; exact he
theorem modS_c (D : HasF c) (DD : HasD c) {fs : List Fact} {h : Heap} {s : List UInt8} {m : Md} (st : St fs h) (hs : Par.text s = .ok m) : RunP c 10 [L.str s] h fun v h1 => ∃ row, v = .tup [.agg row, .int .i64 0, .int .i64 0] ∧ St (.stb (fun h => MdR h m row) :: fs) h1 := by
  obtain ⟨v, h1, hr, hp⟩ := Module_c D DD st
  refine ⟨v, h1, hr, ?_⟩
  rw [hs] at hp
  obtain ⟨row, rfl, hrow, st⟩ := hp
  exact ⟨row, rfl, st⟩
theorem text_sum {n : Nat} {ns : List Nat} (hn : n < 256) (hns : ∀ m ∈ ns, m < 256) (hl : ns.length ≤ 60) : ∃ ds a1 a2 a3, Par.text (Sum.text n ns) = .ok (Sum.sumMd a1 a2 a3 ds) ∧ ds.map Sum.z = Sum.tree n ns := by
  obtain ⟨ts, h1, h2⟩ := Sum.lex_text hn hns hl
  obtain ⟨l, ds, a1, a2, a3, h3, h4⟩ := Sum.modul_sum hn hns h2
  refine ⟨ds, a1, a2, a3, ?_, h4⟩
  unfold Par.text
  rw [h1]
  simp only
  rw [h3]

theorem left_c (D : HasF c) (h6 : T.get 6 c.funs = some i6) (h9 : T.get 9 c.funs = some i9) (h14 : T.get 14 c.funs = some i14) (DD : HasD c) {b0 : UInt8} {bs : List UInt8} {cap : Nat} {fs : List Fact} {h : Heap} (st : St (.stb (fun h => T.get 0 h.t = some (.box ((b0 :: bs).map byV))) :: fs) h) :
    RunP c 6 [.sl 0 0 (bs.length + 1) (some cap)] h fun v h1 => v = .bool true ∧ St fs h1 := by
  refine RunP.fun_ h6 rfl ?_
  refine WP.seq ?_
  refine WP.reg ?_
  refine WO.valS (v := .bool false) rfl ?_
  refine WO.nil ?_
  refine WP.seq ?_
  refine WP.seq ?_
  refine WP.reg ?_
  refine WO.val (v := .int .i64 ((bs.length + 1 : Nat) : Int)) (L.llen rfl) ?_
  refine WO.ifV (L.eql rfl rfl) (fun c1 => by exfalso; omega) (fun c1 => ?_)
  refine WO.yes rfl ?_
  refine WO.val (v := .sl 0 0 (bs.length + 1) (some cap)) rfl ?_
  refine WO.yes rfl ?_
  refine WO.val (v := .int .i64 ((bs.length + 1 : Nat) : Int)) (L.llen rfl) ?_
  refine WO.yes rfl ?_
  refine WO.ifV (L.gtr rfl rfl) (fun c2 => ?_) (fun c2 => ?_)
  · replace c2 : (bs.length + 1) > 60 := by omega
    refine WO.valS (v := .bool true) rfl ?_
    refine WO.nil ?_
    refine WP.cond (t := true) rfl ?_
    refine WP.seq ?_
    refine WP.reg ?_
    refine WO.callFS rfl (awake_c D h9 DD st) ?_
    rintro _ h ⟨rfl, st⟩
    refine WO.nil ?_
    refine WP.ret ?_
    exact ⟨_, (res_cons (res_tmp (v := .bool true) rfl) (res_nil _ _)), rfl, st.tail⟩
  · replace c2 : ¬ ((bs.length + 1) > 60) := by omega
    refine WO.valS (v := .bool false) rfl ?_
    refine WO.nil ?_
    refine WP.cond (t := false) rfl ?_
    refine WP.skip ?_
    refine WP.seq ?_
    refine WP.reg ?_
    have hb0 := toNat_lt b0
    refine WO.val (v := .ptr 0 (0 + 0 * 1)) (L.iaddrK (i := 0) rfl rfl (by omega)) ?_
    refine WO.val (v := .int .u8 (b0.toNat : Int)) (L.load rfl (barg_load (i := 0) (b := b0) (st.stb_at 0 rfl) rfl)) ?_
    refine WO.val (v := .int .i64 (b0.toNat : Int)) (L.conv64 rfl (And.intro (by omega) (by omega))) ?_
    refine WO.callFS rfl (digits_c D h14 hb0 st) ?_
    rintro _ h ⟨rfl, st⟩
    refine WO.nil ?_
    refine WP.seq ?_
    refine WP.reg ?_
    refine WO.val (v := .ptr 0 (0 + 0 * 1)) (L.iaddrK (i := 0) rfl rfl (by omega)) ?_
    refine WO.val (v := .int .u8 (b0.toNat : Int)) (L.load rfl (barg_load (i := 0) (b := b0) (st.stb_at 0 rfl) rfl)) ?_
    refine WO.val (v := .int .i64 (b0.toNat : Int)) (L.conv64 rfl (And.intro (by omega) (by omega))) ?_
    refine WO.val (v := .agg (Sum.lit b0.toNat).row) rfl ?_
    refine WO.bslLS (rows := [Sum.lit b0.toNat].map Nd.row) st (fill_agg rfl rfl) (by decide) rfl (by intro row hm; simp at hm; subst hm; rfl) (fun lb h hlb (st : St (.stb (fun h => Rows 7 h (.sl lb 0 1 (some 1)) ([Sum.lit b0.toNat].map Nd.row)) :: .stb (fun h => T.get 0 h.t = some (.box ((b0 :: bs).map byV))) :: fs) h) => ?_)
    refine WO.nil ?_
    refine WP.seq ?_
    refine WP.seq ?_
    refine WP.reg ?_
    refine WO.valS (v := .int .i64 1) rfl ?_
    refine WO.nil ?_
    refine WP.block ?_
    refine WP.loopG (α := Nat) (fun k env h => ∃ F v x N x4 x7, (LAF F 7 v (N.map Nd.row) ∧ Sum.At b0.toNat (bs.map (·.toNat)) k N x) ∧ env = argsP [.sl 0 0 (bs.length + 1) (some cap), .bool false, .bool false, .int .i64 ((k + 1 : Nat) : Int), x4, L.str x, v, x7] 0 Env.nil ∧ St (F :: .stb (fun h => T.get 0 h.t = some (.box ((b0 :: bs).map byV))) :: fs) h) (fun k => bs.length - k) 0 ?_ ?_
    · exact ⟨_, .sl lb 0 1 (some 1), Sum.dig b0.toNat, [Sum.lit b0.toNat], .bot, .bot, ⟨Or.inl ⟨rfl, lb, rfl, hlb⟩, Sum.At.zero _ _⟩, by kernel_rfl, st⟩
    rintro k _ h ⟨F, v, x, N, x4, x7, ⟨hF, hA⟩, rfl, st⟩
    replace st : St (F :: .stb (fun h => T.get 0 h.t = some (.box ((b0 :: bs).map byV))) :: fs) h := st
    obtain ⟨hLl, hxl⟩ := hA.few hb0 (all_lt bs)
    have hkl : k ≤ bs.length := by have := hA.le; simpa using this
    obtain ⟨vb, vcap, rfl⟩ := hF.sl st (by intro e; have e := congrArg List.length e; simp at e; subst e; simp at hLl; omega)
    refine WP.seq ?_
    refine WP.seq ?_
    refine WP.reg ?_
    refine WO.val (v := .int .i64 ((bs.length + 1 : Nat) : Int)) (L.llen rfl) ?_
    refine WO.ifS (L.lss rfl rfl) (fun c3 => ?_) (fun c3 => ?_)
    · replace c3 : (k + 1) < (bs.length + 1) := by omega
      refine WO.nil ?_
      refine WP.cond (t := true) rfl ?_
      refine WP.skip ?_
      refine WP.seq ?_
      refine WP.block ?_
      refine WP.seq ?_
      refine WP.reg ?_
      refine WO.val (v := L.str (x ++ Sum.gap)) (L.scatE (m := Sum.gap) rfl rfl rfl (by show x.length + 7 < _; omega)) ?_
      obtain ⟨b, hb⟩ : ∃ b, bs[k]? = some b := ⟨_, List.getElem?_eq_getElem (by omega)⟩
      have hbl := toNat_lt b
      refine WO.val (v := .ptr 0 (0 + (k + 1) * 1)) (L.iaddrK (i := k + 1) rfl rfl (by omega)) ?_
      refine WO.val (v := .int .u8 (b.toNat : Int)) (L.load rfl (by rw [show 0 + (k + 1) * 1 = k + 1 by omega]; exact barg_load (i := k + 1) (b := b) (st.stb_at 1 rfl) hb)) ?_
      refine WO.val (v := .int .i64 (b.toNat : Int)) (L.conv64 rfl (And.intro (by omega) (by omega))) ?_
      refine WO.callF rfl (digits_c D h14 hbl st) ?_
      rintro _ h ⟨rfl, st⟩
      refine WO.valS (v := L.str (x ++ Sum.gap ++ Sum.dig b.toNat)) (L.scatE rfl rfl rfl (by have := (Sum.dig_len hbl).2; simp [Sum.gap]; omega)) ?_
      refine WO.nil ?_
      refine WP.seq ?_
      refine WP.reg ?_
      refine WO.val (v := .int .i64 ((N.map Nd.row).length : Int)) (L.llen rfl) ?_
      refine WO.valS (v := .int .i64 ((4 * k : Nat) : Int)) (L.subE rfl rfl (by simp; omega) (And.intro (by omega) (by omega))) ?_
      refine WO.nil ?_
      refine WP.seq ?_
      refine WP.reg ?_
      refine WO.val (v := .agg (Sum.lit 2).row) rfl ?_
      refine WO.val (v := .ptr 0 (0 + (k + 1) * 1)) (L.iaddrK (i := k + 1) rfl rfl (by omega)) ?_
      refine WO.val (v := .int .u8 (b.toNat : Int)) (L.load rfl (by rw [show 0 + (k + 1) * 1 = k + 1 by omega]; exact barg_load (i := k + 1) (b := b) (st.stb_at 1 rfl) hb)) ?_
      refine WO.val (v := .int .i64 (b.toNat : Int)) (L.conv64 rfl (And.intro (by omega) (by omega))) ?_
      refine WO.val (v := .agg (Sum.lit b.toNat).row) rfl ?_
      refine WO.bslF (rows := [(Sum.lit 2).row, (Sum.lit b.toNat).row]) st rfl (by decide) rfl (by intro row hm; simp at hm; rcases hm with rfl | rfl <;> rfl) (fun ba1 h (st : St (.stb (fun h => Rows 7 h (.sl ba1 0 2 (some 2)) [(Sum.lit 2).row, (Sum.lit b.toNat).row]) :: F :: .stb (fun h => T.get 0 h.t = some (.box ((b0 :: bs).map byV))) :: fs) h) => ?_)
      have st9 := (st.pick 1 rfl)
      refine WO.appLAS hF st9 rfl rfl (st9.stb_at 1 rfl) (by decide) (by simp) (by simp; omega) (fun f1 v1 h (st : St (.acc f1 7 v1 (N.map Nd.row ++ [(Sum.lit 2).row, (Sum.lit b.toNat).row]) :: .stb (fun h => Rows 7 h (.sl ba1 0 2 (some 2)) [(Sum.lit 2).row, (Sum.lit b.toNat).row]) :: .stb (fun h => T.get 0 h.t = some (.box ((b0 :: bs).map byV))) :: fs) h) => ?_)
      clear st9
      refine WO.nil ?_
      refine WP.seq ?_
      refine WP.reg ?_
      refine WO.val (v := .int .i64 ((4 * k + 1 : Nat) : Int)) (L.addE rfl rfl (by omega) (And.intro (by omega) (by omega))) ?_
      refine WO.val (v := .int .i64 ((4 * k + 2 : Nat) : Int)) (L.addE rfl rfl (by omega) (And.intro (by omega) (by omega))) ?_
      refine WO.val (v := .agg (Sum.opn 7 (4 * k + 1) (4 * k + 2)).row) rfl ?_
      refine WO.bslF (rows := [(Sum.opn 7 (4 * k + 1) (4 * k + 2)).row]) st rfl (by decide) rfl (by intro row hm; simp at hm; subst hm; rfl) (fun bb1 h (st : St (.stb (fun h => Rows 7 h (.sl bb1 0 1 (some 1)) [(Sum.opn 7 (4 * k + 1) (4 * k + 2)).row]) :: .acc f1 7 v1 (N.map Nd.row ++ [(Sum.lit 2).row, (Sum.lit b.toNat).row]) :: .stb (fun h => Rows 7 h (.sl ba1 0 2 (some 2)) [(Sum.lit 2).row, (Sum.lit b.toNat).row]) :: .stb (fun h => T.get 0 h.t = some (.box ((b0 :: bs).map byV))) :: fs) h) => ?_)
      have st9 := (st.pick 1 rfl)
      refine WO.appLAS (Or.inr ⟨f1, rfl⟩) st9 rfl rfl (st9.stb_at 1 rfl) (by decide) (by simp) (by simp; omega) (fun f2 v2 h (st : St (.acc f2 7 v2 (N.map Nd.row ++ [(Sum.lit 2).row, (Sum.lit b.toNat).row] ++ [(Sum.opn 7 (4 * k + 1) (4 * k + 2)).row]) :: .stb (fun h => Rows 7 h (.sl bb1 0 1 (some 1)) [(Sum.opn 7 (4 * k + 1) (4 * k + 2)).row]) :: .stb (fun h => Rows 7 h (.sl ba1 0 2 (some 2)) [(Sum.lit 2).row, (Sum.lit b.toNat).row]) :: .stb (fun h => T.get 0 h.t = some (.box ((b0 :: bs).map byV))) :: fs) h) => ?_)
      clear st9
      refine WO.nil ?_
      refine WP.reg ?_
      refine WO.val (v := .int .i64 ((4 * k + 3 : Nat) : Int)) (L.addE rfl rfl (by omega) (And.intro (by omega) (by omega))) ?_
      refine WO.val (v := .agg (Sum.opn 5 (4 * k) (4 * k + 3)).row) rfl ?_
      refine WO.bslF (rows := [(Sum.opn 5 (4 * k) (4 * k + 3)).row]) st rfl (by decide) rfl (by intro row hm; simp at hm; subst hm; rfl) (fun bc1 h (st : St (.stb (fun h => Rows 7 h (.sl bc1 0 1 (some 1)) [(Sum.opn 5 (4 * k) (4 * k + 3)).row]) :: .acc f2 7 v2 (N.map Nd.row ++ [(Sum.lit 2).row, (Sum.lit b.toNat).row] ++ [(Sum.opn 7 (4 * k + 1) (4 * k + 2)).row]) :: .stb (fun h => Rows 7 h (.sl bb1 0 1 (some 1)) [(Sum.opn 7 (4 * k + 1) (4 * k + 2)).row]) :: .stb (fun h => Rows 7 h (.sl ba1 0 2 (some 2)) [(Sum.lit 2).row, (Sum.lit b.toNat).row]) :: .stb (fun h => T.get 0 h.t = some (.box ((b0 :: bs).map byV))) :: fs) h) => ?_)
      have st9 := (st.pick 1 rfl)
      refine WO.appLAS (Or.inr ⟨f2, rfl⟩) st9 rfl rfl (st9.stb_at 1 rfl) (by decide) (by simp) (by simp; omega) (fun f3 v3 h (st : St (.acc f3 7 v3 (N.map Nd.row ++ [(Sum.lit 2).row, (Sum.lit b.toNat).row] ++ [(Sum.opn 7 (4 * k + 1) (4 * k + 2)).row] ++ [(Sum.opn 5 (4 * k) (4 * k + 3)).row]) :: .stb (fun h => Rows 7 h (.sl bc1 0 1 (some 1)) [(Sum.opn 5 (4 * k) (4 * k + 3)).row]) :: .stb (fun h => Rows 7 h (.sl bb1 0 1 (some 1)) [(Sum.opn 7 (4 * k + 1) (4 * k + 2)).row]) :: .stb (fun h => Rows 7 h (.sl ba1 0 2 (some 2)) [(Sum.lit 2).row, (Sum.lit b.toNat).row]) :: .stb (fun h => T.get 0 h.t = some (.box ((b0 :: bs).map byV))) :: fs) h) => ?_)
      clear st9
      have hrow : N.map Nd.row ++ [(Sum.lit 2).row, (Sum.lit b.toNat).row] ++ [(Sum.opn 7 (4 * k + 1) (4 * k + 2)).row] ++ [(Sum.opn 5 (4 * k) (4 * k + 3)).row] = (Sum.step N b.toNat).map Nd.row := by
        unfold Sum.step
        rw [hLl, show 1 + 4 * k - 1 = 4 * k by omega]
        simp
      rw [hrow] at st
      replace st : St (.acc f3 7 v3 ((Sum.step N b.toNat).map Nd.row) :: .stb (fun h => Rows 7 h (.sl bc1 0 1 (some 1)) [(Sum.opn 5 (4 * k) (4 * k + 3)).row]) :: .stb (fun h => Rows 7 h (.sl bb1 0 1 (some 1)) [(Sum.opn 7 (4 * k + 1) (4 * k + 2)).row]) :: .stb (fun h => Rows 7 h (.sl ba1 0 2 (some 2)) [(Sum.lit 2).row, (Sum.lit b.toNat).row]) :: .stb (fun h => T.get 0 h.t = some (.box ((b0 :: bs).map byV))) :: fs) h := st
      refine WO.nil ?_
      refine WP.reg ?_
      refine WO.valS (v := .int .i64 ((k + 1 + 1 : Nat) : Int)) (L.addE rfl rfl (by omega) (And.intro (by omega) (by omega))) ?_
      refine WO.nil ?_
      exact ⟨k + 1, (by omega), _, _, _, _, (.bool true), (.int .i64 ((4 * k : Nat) : Int)), ⟨Or.inr ⟨_, rfl⟩, hA.step (by rw [List.getElem?_map, hb]; rfl)⟩, by kernel_rfl, (((st.pick 1 rfl).tail.pick 1 rfl).tail.pick 1 rfl).tail⟩
    · replace c3 : ¬ ((k + 1) < (bs.length + 1)) := by omega
      refine WO.nil ?_
      refine WP.cond (t := false) rfl ?_
      refine WP.exit ?_
      refine WP.seq ?_
      refine WP.reg ?_
      have hkk : k = bs.length := by omega
      have hNt : N = Sum.tree b0.toNat (bs.map (·.toNat)) := by rw [hA.tree, hkk, List.take_of_length_le (by simp)]
      have hxt : x = Sum.part b0.toNat (bs.map (·.toNat)) := by rw [hA.text, hkk, List.take_of_length_le (by simp)]
      obtain ⟨ds, a1, a2, a3, hpt, hds⟩ := text_sum hb0 (all_lt bs) (by simp; omega)
      rw [← hNt] at hds
      have hdl : ds.length = N.length := by rw [← hds]; simp
      have hdne : ds ≠ [] := by intro e; subst e; simp at hdl; omega
      have hNl : (N.map Nd.row).length = ds.length := by simp [hdl]
      replace st : St (.stb (fun h => Rows 7 h (.sl vb 0 (N.map Nd.row).length vcap) (N.map Nd.row)) :: .stb (fun h => T.get 0 h.t = some (.box ((b0 :: bs).map byV))) :: fs) h := hF.shut st (by decide)
      refine WO.val (v := L.str (Sum.preB ++ x)) (L.scatE (l := Sum.preB) rfl rfl rfl (by show 43 + x.length < _; omega)) ?_
      refine WO.val (v := L.str (Sum.text b0.toNat (bs.map (·.toNat)))) (L.scatE (m := [59, 32, 125]) rfl rfl (by rw [hxt, List.append_assoc]; exact Sum.part_text _ _) (by simp [Sum.preB]; omega)) ?_
      refine WO.callF rfl (modS_c D DD st hpt) ?_
      rintro _ h ⟨row, rfl, st⟩
      obtain ⟨vi, vv, pb, po, pc, rfl, _⟩ := sumMd_r (st.stb_at 0 rfl) hdne
      replace st : St (.stb (fun h => EAt h pb po pc ds) :: .stb (fun h => Rows 7 h (.sl vb 0 (N.map Nd.row).length vcap) (N.map Nd.row)) :: .stb (fun h => T.get 0 h.t = some (.box ((b0 :: bs).map byV))) :: fs) h := st.imp0 fun h hm => sumMd_E hm hdne
      refine WO.val (v := .agg [L.str [109], .int .i64 (a1 : Int), vi, vv, .sl pb po 1 pc]) rfl ?_
      refine WO.val (v := .int .i64 0) rfl ?_
      refine WO.val (v := .int .i64 0) rfl ?_
      refine WO.boxFS st L.alloc (fun m1 h (st : St (.box m1 [.str 0 0, .int .i64 0, .slN, .slN, .slN] :: .stb (fun h => EAt h pb po pc ds) :: .stb (fun h => Rows 7 h (.sl vb 0 (N.map Nd.row).length vcap) (N.map Nd.row)) :: .stb (fun h => T.get 0 h.t = some (.box ((b0 :: bs).map byV))) :: fs) h) => ?_)
      refine WO.storeF (row' := [L.str [109], .int .i64 (a1 : Int), vi, vv, .sl pb po 1 pc]) st 0 rfl rfl rfl rfl rfl rfl rfl (fun h (st : St (.box m1 [L.str [109], .int .i64 (a1 : Int), vi, vv, .sl pb po 1 pc] :: .stb (fun h => EAt h pb po pc ds) :: .stb (fun h => Rows 7 h (.sl vb 0 (N.map Nd.row).length vcap) (N.map Nd.row)) :: .stb (fun h => T.get 0 h.t = some (.box ((b0 :: bs).map byV))) :: fs) h) => ?_)
      refine WO.valS (v := .int .i64 0) rfl ?_
      refine WO.nil ?_
      refine WP.seq ?_
      refine WP.seq ?_
      refine WP.reg ?_
      refine WO.callF rfl (num_c (e := 0) D st) ?_
      rintro _ h ⟨rfl, st⟩
      replace st : St (.box m1 [L.str [109], .int .i64 (a1 : Int), vi, vv, .sl pb po 1 pc] :: .stb (fun h => EAt h pb po pc ds) :: .stb (fun h => Rows 7 h (.sl vb 0 (N.map Nd.row).length vcap) (N.map Nd.row)) :: .stb (fun h => T.get 0 h.t = some (.box ((b0 :: bs).map byV))) :: fs) h := st
      refine WO.ifV (L.neq rfl rfl) (fun c4 => by exfalso; omega) (fun c4 => ?_)
      refine WO.yes rfl ?_
      obtain ⟨r, sb, so, sc, r2, eb, eo, ec, hR8, hr6, hR12, hr8, hR7⟩ := st.stb_at 1 rfl
      refine WO.val (v := .ptr m1 4) (L.faddr rfl) ?_
      refine WO.yes rfl ?_
      refine WO.val (v := .sl pb po 1 pc) (L.loadB rfl (st.box_at 0 rfl) rfl) ?_
      refine WO.yes rfl ?_
      refine WO.val (v := .int .i64 ((1 : Nat) : Int)) (L.llen rfl) ?_
      refine WO.yes rfl ?_
      refine WO.ifV (L.neq rfl rfl) (fun c5 => by exfalso; omega) (fun c5 => ?_)
      refine WO.val (v := .bool false) rfl ?_
      refine WO.yes rfl ?_
      refine WO.val (v := .ptr m1 4) (L.faddr rfl) ?_
      refine WO.yes rfl ?_
      refine WO.val (v := .sl pb po 1 pc) (L.loadB rfl (st.box_at 0 rfl) rfl) ?_
      refine WO.yes rfl ?_
      refine WO.val (v := .ptr pb (po + 0 * 8)) (L.iaddrK (i := 0) rfl rfl (by decide)) ?_
      refine WO.yes rfl ?_
      refine WO.val (v := .ptr pb (po + 0 * 8 + 6)) (L.faddr rfl) ?_
      refine WO.yes rfl ?_
      refine WO.val (v := .sl sb so 1 sc) (L.load rfl (hR8.load1F (i := 0) (j := 6) rfl hr6)) ?_
      refine WO.yes rfl ?_
      refine WO.val (v := .int .i64 ((1 : Nat) : Int)) (L.llen rfl) ?_
      refine WO.yes rfl ?_
      refine WO.ifV (L.neq rfl rfl) (fun c6 => by exfalso; omega) (fun c6 => ?_)
      refine WO.val (v := .bool false) rfl ?_
      refine WO.yes rfl ?_
      refine WO.val (v := .ptr m1 4) (L.faddr rfl) ?_
      refine WO.yes rfl ?_
      refine WO.val (v := .sl pb po 1 pc) (L.loadB rfl (st.box_at 0 rfl) rfl) ?_
      refine WO.yes rfl ?_
      refine WO.val (v := .ptr pb (po + 0 * 8)) (L.iaddrK (i := 0) rfl rfl (by decide)) ?_
      refine WO.yes rfl ?_
      refine WO.val (v := .ptr pb (po + 0 * 8 + 6)) (L.faddr rfl) ?_
      refine WO.yes rfl ?_
      refine WO.val (v := .sl sb so 1 sc) (L.load rfl (hR8.load1F (i := 0) (j := 6) rfl hr6)) ?_
      refine WO.yes rfl ?_
      refine WO.val (v := .ptr sb (so + 0 * 12)) (L.iaddrK (i := 0) rfl rfl (by decide)) ?_
      refine WO.yes rfl ?_
      refine WO.val (v := .ptr sb (so + 0 * 12 + 8)) (L.faddr rfl) ?_
      refine WO.yes rfl ?_
      refine WO.val (v := .sl eb eo ds.length ec) (L.load rfl (hR12.load1F (i := 0) (j := 8) rfl hr8)) ?_
      refine WO.yes rfl ?_
      refine WO.val (v := .int .i64 (ds.length : Int)) (L.llen rfl) ?_
      refine WO.yes rfl ?_
      refine WO.val (v := .sl vb 0 ((N.map Nd.row).length) vcap) rfl ?_
      refine WO.yes rfl ?_
      refine WO.val (v := .int .i64 ((N.map Nd.row).length : Int)) (L.llen rfl) ?_
      refine WO.yes rfl ?_
      refine WO.ifV (L.neq rfl rfl) (fun c7 => by exfalso; omega) (fun c7 => ?_)
      refine WO.valS (v := .bool false) rfl ?_
      refine WO.nil ?_
      refine WP.cond (t := false) rfl ?_
      refine WP.skip ?_
      refine WP.seq ?_
      refine WP.seq ?_
      refine WP.reg ?_
      refine WO.valS (v := .int .i64 0) rfl ?_
      refine WO.nil ?_
      refine WP.block ?_
      refine WP.loopG (α := Nat) (fun q env h => ∃ x1 x12 x13 x14, (q ≤ ds.length) ∧ env = argsP [.sl 0 0 (bs.length + 1) (some cap), x1, .bool false, .int .i64 ((k + 1 : Nat) : Int), .bool false, L.str x, .sl vb 0 ((N.map Nd.row).length) vcap, x7, .int .i64 0, .ptr m1 0, .bool false, .int .i64 (q : Int), x12, x13, x14] 0 Env.nil ∧ St (.box m1 [L.str [109], .int .i64 (a1 : Int), vi, vv, .sl pb po 1 pc] :: .stb (fun h => EAt h pb po pc ds) :: .stb (fun h => Rows 7 h (.sl vb 0 (N.map Nd.row).length vcap) (N.map Nd.row)) :: .stb (fun h => T.get 0 h.t = some (.box ((b0 :: bs).map byV))) :: fs) h) (fun q => ds.length - q) 0 ?_ ?_
      · exact ⟨(.bool false), .bot, .bot, .bot, Nat.zero_le _, by kernel_rfl, st⟩
      rintro q _ h ⟨x1, x12, x13, x14, hq, rfl, st⟩
      replace st : St (.box m1 [L.str [109], .int .i64 (a1 : Int), vi, vv, .sl pb po 1 pc] :: .stb (fun h => EAt h pb po pc ds) :: .stb (fun h => Rows 7 h (.sl vb 0 (N.map Nd.row).length vcap) (N.map Nd.row)) :: .stb (fun h => T.get 0 h.t = some (.box ((b0 :: bs).map byV))) :: fs) h := st
      refine WP.seq ?_
      refine WP.seq ?_
      refine WP.reg ?_
      refine WO.val (v := .int .i64 ((N.map Nd.row).length : Int)) (L.llen rfl) ?_
      refine WO.ifS (L.lss rfl rfl) (fun c8 => ?_) (fun c8 => ?_)
      · replace c8 : q < ((N.map Nd.row).length) := by omega
        refine WO.nil ?_
        refine WP.cond (t := true) rfl ?_
        refine WP.skip ?_
        refine WP.seq ?_
        refine WP.block ?_
        refine WP.seq ?_
        refine WP.reg ?_
        obtain ⟨r, sb, so, sc, r2, eb, eo, ec, hR8, hr6, hR12, hr8, hR7⟩ := st.stb_at 1 rfl
        refine WO.val (v := .ptr m1 4) (L.faddr rfl) ?_
        refine WO.val (v := .sl pb po 1 pc) (L.loadB rfl (st.box_at 0 rfl) rfl) ?_
        refine WO.val (v := .ptr pb (po + 0 * 8)) (L.iaddrK (i := 0) rfl rfl (by decide)) ?_
        refine WO.val (v := .ptr pb (po + 0 * 8 + 6)) (L.faddr rfl) ?_
        refine WO.val (v := .sl sb so 1 sc) (L.load rfl (hR8.load1F (i := 0) (j := 6) rfl hr6)) ?_
        refine WO.val (v := .ptr sb (so + 0 * 12)) (L.iaddrK (i := 0) rfl rfl (by decide)) ?_
        refine WO.val (v := .ptr sb (so + 0 * 12 + 8)) (L.faddr rfl) ?_
        refine WO.val (v := .sl eb eo ds.length ec) (L.load rfl (hR12.load1F (i := 0) (j := 8) rfl hr8)) ?_
        obtain ⟨x, hx⟩ : ∃ x, ds[q]? = some x := ⟨_, List.getElem?_eq_getElem (by omega)⟩
        refine WO.val (v := .ptr eb (eo + q * 7)) (L.iaddrK (i := q) rfl rfl (by omega)) ?_
        refine WO.val (v := .agg x.row) (L.loadn rfl (hR7.loadn (by rw [List.getElem?_map, hx]; rfl))) ?_
        refine WO.boxFS st L.alloc (fun xb h (st : St (.box xb [.int .i64 0, .int .i64 0, .str 0 0, .str 0 0, .int .i64 0, .int .i64 0, .int .i64 0] :: .box m1 [L.str [109], .int .i64 (a1 : Int), vi, vv, .sl pb po 1 pc] :: .stb (fun h => EAt h pb po pc ds) :: .stb (fun h => Rows 7 h (.sl vb 0 (N.map Nd.row).length vcap) (N.map Nd.row)) :: .stb (fun h => T.get 0 h.t = some (.box ((b0 :: bs).map byV))) :: fs) h) => ?_)
        refine WO.storeF (row' := x.row) st 0 rfl rfl rfl rfl rfl rfl rfl (fun h (st : St (.box xb x.row :: .box m1 [L.str [109], .int .i64 (a1 : Int), vi, vv, .sl pb po 1 pc] :: .stb (fun h => EAt h pb po pc ds) :: .stb (fun h => Rows 7 h (.sl vb 0 (N.map Nd.row).length vcap) (N.map Nd.row)) :: .stb (fun h => T.get 0 h.t = some (.box ((b0 :: bs).map byV))) :: fs) h) => ?_)
        refine WO.nil ?_
        refine WP.seq ?_
        refine WP.reg ?_
        refine WO.val (v := .ptr xb 6) (L.faddr rfl) ?_
        refine WO.storeF (row' := (Sum.z x).row) st 0 rfl rfl rfl rfl rfl rfl rfl (fun h (st : St (.box xb ((Sum.z x).row) :: .box m1 [L.str [109], .int .i64 (a1 : Int), vi, vv, .sl pb po 1 pc] :: .stb (fun h => EAt h pb po pc ds) :: .stb (fun h => Rows 7 h (.sl vb 0 (N.map Nd.row).length vcap) (N.map Nd.row)) :: .stb (fun h => T.get 0 h.t = some (.box ((b0 :: bs).map byV))) :: fs) h) => ?_)
        refine WO.nil ?_
        refine WP.seq ?_
        refine WP.draw ?_
        refine WD.val (v := .agg (Sum.z x).row) (L.loadnB rfl (st.box_at 0 rfl) rfl rfl rfl) ?_
        refine WD.val (v := .sl vb 0 ((N.map Nd.row).length) vcap) rfl ?_
        refine WD.val (v := .int .i64 (q : Int)) rfl ?_
        refine WD.val (v := .ptr vb (0 + q * 7)) (L.iaddrK (i := q) rfl rfl (by omega)) ?_
        have hzq : (N.map Nd.row)[q]? = some (Sum.z x).row := by rw [← hds, List.getElem?_map, List.getElem?_map, hx]; rfl
        refine WD.val (v := .agg (Sum.z x).row) (L.loadn rfl ((st.stb_at 3 rfl).loadn hzq)) ?_
        refine WD.valS (v := .bool false) (L.neSt_same rfl rfl (Eq1.cons_same rfl (Eq1.int_same _) (Eq1.cons_same rfl (Eq1.int_same _) (Eq1.cons_same rfl (Eq1.str_same _) (Eq1.cons_same rfl (Eq1.str_same _) (Eq1.cons_same rfl (Eq1.int_same _) (Eq1.cons_same rfl (Eq1.int_same _) (Eq1.cons_same rfl (Eq1.int_same _) rfl)))))))) ?_
        refine WD.nil ?_
        refine WP.cond (t := false) rfl ?_
        refine WP.skip ?_
        refine WP.reg ?_
        refine WO.valS (v := .int .i64 ((q + 1 : Nat) : Int)) (L.addE rfl rfl (by omega) (And.intro (by omega) (by omega))) ?_
        refine WO.nil ?_
        exact ⟨q + 1, (by omega), x1, (.bool true), (.ptr xb 0), (.bool false), by omega, by kernel_rfl, st.tail⟩
      · replace c8 : ¬ (q < ((N.map Nd.row).length)) := by omega
        refine WO.nil ?_
        refine WP.cond (t := false) rfl ?_
        refine WP.exit ?_
        refine WP.seq ?_
        refine WP.reg ?_
        refine WO.callFS rfl (awake_c D h9 DD st) ?_
        rintro _ h ⟨rfl, st⟩
        refine WO.nil ?_
        refine WP.ret ?_
        exact ⟨_, (res_cons (res_tmp (v := .bool true) rfl) (res_nil _ _)), rfl, st.tail.tail.tail.tail⟩

end
end Go.Eng.YtjobofnpmmjeoaaDoor
/- The contracts stand in the program's context. No condition. -/
namespace Go.Eng.YtjobofnpmmjeoaaDoor
open Go.Eng
noncomputable section
def ctxS : Ctx := Ctx.of funs dfuns (moreIdx 56)
theorem hasF : HasF ctxS := by constructor <;> rfl
theorem hasD : HasD ctxS := ⟨⟨_, rfl⟩, fun st => idx_runs (f0 := 56) rfl rfl rfl st⟩
end
end Go.Eng.YtjobofnpmmjeoaaDoor
