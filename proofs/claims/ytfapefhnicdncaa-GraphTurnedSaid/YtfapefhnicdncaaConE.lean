/- Part of a proof of a law, by an evaluator that the machine follows: rules, contracts of functions, what they come to. No condition of its own. -/
import Derived.Test.YtfapefhnicdncaaConD
import Derived.Test.YtfapefhnicdncaaSymH
set_option linter.unusedVariables false
set_option linter.unusedSimpArgs false
namespace Go.Eng.Ytfapefhnicdncaa
open Go.Eng
noncomputable section
variable {c : Ctx}
/-- the functions that are told -/
structure HasTn (c : Ctx) : Prop where
  f3 : T.get 3 c.funs = some i3
  f7 : T.get 7 c.funs = some i7
  f9 : ∀ h, RunP c 9 [] h fun v h1 => v = .bool true ∧ h1 = h
  l : HasL c
  o : HasOd c
theorem GdG.n {G : Gr} (g : GdG G) : GdN G := by
  have e : nmsG G = nmsL G.length := by
    refine List.ext_getElem? fun i => ?_
    by_cases hi : i < G.length
    · obtain ⟨p, hp⟩ : ∃ p, G[i]? = some p := ⟨G[i], List.getElem?_eq_getElem hi⟩
      rw [nmsG_at hp, nmsL_at hi, g.nm i p hp]
    · rw [List.getElem?_eq_none (by rw [nmsG_len]; omega), List.getElem?_eq_none (by rw [nmsL_len]; omega)]
  refine ⟨?_, g.few, fun p hp => Nat.le_trans (g.to p hp) (by decide)⟩
  rw [e]
  have : ∀ k, k ≤ 8 → (nmsL k).Nodup := by decide
  exact this _ g.few
theorem zz_not {G : Gr} (g : GdG G) : zz ∉ nmsG G := by
  intro h
  obtain ⟨p, hp, e⟩ := List.mem_map.1 h
  obtain ⟨i, hi⟩ := List.mem_iff_getElem?.1 hp
  have := g.nm i p hi
  rw [e] at this
  have := congrArg List.length this
  simp [zz, nmL] at this
theorem num_g (H : T.get 7 c.funs = some i7) {h0 : Heap} {x : Int} : RunP c 7 [.int .i64 x] h0 fun v1 h1 => v1 = .int .i64 x ∧ h1 = h0 := by
  refine RunP.fun_ H rfl ?_
  refine WP.seq ?_
  refine WP.reg ?_
  refine WO.valS (v := .int .i64 0) rfl ?_
  refine WO.nil ?_
  refine WP.seq ?_
  refine WP.reg ?_
  refine WO.valS (v := .int .i64 x) rfl ?_
  refine WO.nil ?_
  refine WP.ret ?_
  exact ⟨_, (res_cons (res_tmp (v := .int .i64 x) rfl) (res_nil _ _)), rfl, rfl⟩
theorem turned_c (D : HasTn c) {h : Heap} {n : Nat} {a : V} {ns : List UInt8} (hn : n < 256) (st : St [.stb (fun h => ByRows h a ns)] h) :
    RunP c 3 [.int .u8 (n : Int), a] h fun v1 _ => v1 = .bool true := by
  refine RunP.fun_ D.f3 rfl ?_
  refine WP.seq ?_
  refine WP.reg ?_
  refine WO.valS (v := .bool false) rfl ?_
  refine WO.nil ?_
  refine WP.seq ?_
  refine WP.reg ?_
  refine WO.callFS rfl (letters_c D.l hn st) ?_
  rintro v h ⟨G, gd, st⟩
  have g := gd.n
  replace st : St (.stb (fun h => NRows h v G) :: .stb (fun h => ByRows h a ns) :: []) h := st
  refine WO.nil ?_
  refine WP.seq ?_
  refine WP.reg ?_
  obtain ⟨us, hul, st⟩ := St.exN (st)
  replace st : St (.stb (fun h => Rows 2 h v (NR G us)) :: .stb (fun h => TRows h (tosG G) us) :: .stb (fun h => ByRows h a ns) :: []) h := st
  have hG8 := g.few
  refine WO.valS (v := .slN) rfl ?_
  refine WO.nil ?_
  refine WP.seq ?_
  refine WP.seq ?_
  refine WP.reg ?_
  refine WO.val (v := .int .i64 (G.length : Int)) (L.llenRn rfl (st.stb_at 0 rfl) (NR_len hul)) ?_
  refine WO.valS (v := .int .i64 ((G.length : Int) - 1)) (L.subE rfl rfl (by omega) (And.intro (by omega) (by omega))) ?_
  refine WO.nil ?_
  refine WP.block ?_
  replace st : St (.acc 0 2 .slN (NR (turnG G G.length) []) :: .stb (fun h => TRows h (tosG (turnG G G.length)) ([])) :: .stb (fun h => Rows 2 h v (NR G us)) :: .stb (fun h => TRows h (tosG G) us) :: .stb (fun h => ByRows h a ns) :: []) h := by
    rw [turnG_all]; exact (st.triv (P := fun h => TRows h (tosG []) []) fun _ => trivial).acc0 2
  refine WP.loopG (α := Nat) (fun ii env h => ∃ ka fm vm ms x5 x6 x7 x8, (ii ≤ G.length ∧ ka = (ii : Int) - 1 ∧ ms.length = (turnG G ii).length) ∧ env = argsP [.int .u8 (n : Int), a, .bool false, v, .int .i64 ka, x5, x6, x7, x8, vm] 0 Env.nil ∧ St (.acc fm 2 vm (NR (turnG G ii) ms) :: .stb (fun h => TRows h (tosG (turnG G ii)) ms) :: .stb (fun h => Rows 2 h v (NR G us)) :: .stb (fun h => TRows h (tosG G) us) :: .stb (fun h => ByRows h a ns) :: []) h) (fun ii => ii) G.length ?_ ?_
  · exact ⟨_, 0, .slN, [], .bot, .bot, .bot, .bot, ⟨Nat.le_refl _, rfl, by rw [turnG_all]; rfl⟩, by kernel_rfl, st⟩
  rintro ii _ h ⟨ka, fm, vm, ms, x5, x6, x7, x8, ⟨ha, hka, hml⟩, rfl, st⟩
  replace st : St (.acc fm 2 vm (NR (turnG G ii) ms) :: .stb (fun h => TRows h (tosG (turnG G ii)) ms) :: .stb (fun h => Rows 2 h v (NR G us)) :: .stb (fun h => TRows h (tosG G) us) :: .stb (fun h => ByRows h a ns) :: []) h := st
  refine WP.seq ?_
  refine WP.seq ?_
  refine WP.reg ?_
  refine WO.ifS (L.geq rfl rfl) (fun c1 => ?_) (fun c1 => ?_)
  · obtain ⟨i, rfl⟩ : ∃ i, ii = i + 1 := ⟨ii - 1, by omega⟩
    obtain rfl : ka = (i : Int) := by omega
    have hil : i < G.length := by omega
    obtain ⟨p, hp⟩ : ∃ p, G[i]? = some p := ⟨G[i]'hil, List.getElem?_eq_getElem hil⟩
    obtain ⟨u, hu⟩ : ∃ u, us[i]? = some u := ⟨us[i]'(by omega), List.getElem?_eq_getElem (by omega)⟩
    have hp20 := gd.to p (List.mem_of_getElem? hp)
    replace st : St (.acc fm 2 vm (NR (turnG G (i + 1)) ms) :: .stb (fun h => TRows h (tosG (turnG G (i + 1))) ms) :: .stb (fun h => Rows 2 h v (NR G us)) :: .stb (fun h => TRows h (tosG G) us) :: .stb (fun h => ByRows h a ns) :: []) h := st
    refine WO.nil ?_
    refine WP.cond (t := true) rfl ?_
    refine WP.skip ?_
    refine WP.seq ?_
    refine WP.block ?_
    refine WP.seq ?_
    refine WP.reg ?_
    refine WO.val (v := .ptr (slB v) (slO v + i * 2)) (L.iaddr (n := G.length) ((((st.stb_at 2 rfl).sl (show i < (NR G us).length by rw [NR_len hul]; exact hil)).trans (by rw [NR_len hul]))) rfl hil) ?_
    refine WO.val (v := .ptr (slB v) (slO v + i * 2 + 0)) (L.faddr rfl) ?_
    refine WO.val (v := L.str p.1) (L.load rfl ((st.stb_at 2 rfl).load1FZ (NR_at hp hu) rfl)) ?_
    refine WO.bslL8 (rows := SR [zz]) st rfl (by decide) rfl (fun row hm => by obtain rfl := List.mem_singleton.1 hm; rfl) (fun lb h h8 st => ?_)
    replace st : St (.stb (fun h => Rows 1 h (.sl lb 0 1 (some 1)) (SR [zz])) :: .acc fm 2 vm (NR (turnG G (i + 1)) ms) :: .stb (fun h => TRows h (tosG (turnG G (i + 1))) ms) :: .stb (fun h => Rows 2 h v (NR G us)) :: .stb (fun h => TRows h (tosG G) us) :: .stb (fun h => ByRows h a ns) :: []) h := st
    refine WO.val (v := .agg [L.str p.1, .sl lb 0 1 (some 1)]) (L.build rfl) ?_
    refine WO.boxFS st L.alloc (fun xb h (st : St (.box xb [.str 0 0, .slN] :: .stb (fun h => Rows 1 h (.sl lb 0 1 (some 1)) (SR [zz])) :: .acc fm 2 vm (NR (turnG G (i + 1)) ms) :: .stb (fun h => TRows h (tosG (turnG G (i + 1))) ms) :: .stb (fun h => Rows 2 h v (NR G us)) :: .stb (fun h => TRows h (tosG G) us) :: .stb (fun h => ByRows h a ns) :: []) h) => ?_)
    refine WO.storeF (row' := [L.str p.1, .sl lb 0 1 (some 1)]) st 0 rfl rfl rfl rfl rfl rfl rfl (fun h (st : St (.box xb [L.str p.1, .sl lb 0 1 (some 1)] :: .stb (fun h => Rows 1 h (.sl lb 0 1 (some 1)) (SR [zz])) :: .acc fm 2 vm (NR (turnG G (i + 1)) ms) :: .stb (fun h => TRows h (tosG (turnG G (i + 1))) ms) :: .stb (fun h => Rows 2 h v (NR G us)) :: .stb (fun h => TRows h (tosG G) us) :: .stb (fun h => ByRows h a ns) :: []) h) => ?_)
    refine WO.nil ?_
    refine WP.seq ?_
    refine WP.seq ?_
    refine WP.reg ?_
    refine WO.val (v := .ptr (slB v) (slO v + i * 2)) (L.iaddr (n := G.length) ((((st.stb_at 4 rfl).sl (show i < (NR G us).length by rw [NR_len hul]; exact hil)).trans (by rw [NR_len hul]))) rfl hil) ?_
    refine WO.val (v := .ptr (slB v) (slO v + i * 2 + 1)) (L.faddr rfl) ?_
    refine WO.val (v := u) (L.load rfl ((st.stb_at 4 rfl).load1FZ (NR_at hp hu) rfl)) ?_
    refine WO.val (v := .int .i64 (p.2.length : Int)) (L.llenRn rfl ((st.stb_at 5 rfl).row (tosG_at hp) hu) (SR_len _)) ?_
    refine WO.valS (v := .int .i64 ((p.2.length : Int) - 1)) (L.subE rfl rfl (by omega) (And.intro (by omega) (by omega))) ?_
    refine WO.nil ?_
    refine WP.block ?_
    have hF0 : LAF (.stb (fun h => Rows 1 h (.sl lb 0 1 (some 1)) (SR [zz]))) 1 (.sl lb 0 1 (some 1)) (SR (zz :: downT p.2 p.2.length)) := by rw [downT_all]; exact .inl ⟨rfl, lb, rfl, h8⟩
    obtain ⟨F0, hF0e⟩ : ∃ F, F = Fact.stb (fun h => Rows 1 h (.sl lb 0 1 (some 1)) (SR [zz])) := ⟨_, rfl⟩
    rw [← hF0e] at hF0
    have st_ := (st.pick 1 rfl)
    rw [← hF0e] at st_
    replace st : St (F0 :: .box xb [L.str p.1, .sl lb 0 1 (some 1)] :: .acc fm 2 vm (NR (turnG G (i + 1)) ms) :: .stb (fun h => TRows h (tosG (turnG G (i + 1))) ms) :: .stb (fun h => Rows 2 h v (NR G us)) :: .stb (fun h => TRows h (tosG G) us) :: .stb (fun h => ByRows h a ns) :: []) h := st_
    refine WP.loopG (α := Nat) (fun b env h => ∃ kb F vt x7, (b ≤ p.2.length ∧ kb = (b : Int) - 1 ∧ LAF F 1 vt (SR (zz :: downT p.2 b))) ∧ env = argsP [.int .u8 (n : Int), a, .bool false, v, .int .i64 (i : Int), .bool true, .int .i64 kb, x7, .ptr xb 0, vm] 0 Env.nil ∧ St (F :: .box xb [L.str p.1, vt] :: .acc fm 2 vm (NR (turnG G (i + 1)) ms) :: .stb (fun h => TRows h (tosG (turnG G (i + 1))) ms) :: .stb (fun h => Rows 2 h v (NR G us)) :: .stb (fun h => TRows h (tosG G) us) :: .stb (fun h => ByRows h a ns) :: []) h) (fun b => b) p.2.length ?_ ?_
    · exact ⟨_, F0, (.sl lb 0 1 (some 1)), x7, ⟨Nat.le_refl _, rfl, hF0⟩, by kernel_rfl, st⟩
    rintro b _ h ⟨kb, F, vt, x7, ⟨hb, hkb, hF⟩, rfl, st⟩
    replace st : St (F :: .box xb [L.str p.1, vt] :: .acc fm 2 vm (NR (turnG G (i + 1)) ms) :: .stb (fun h => TRows h (tosG (turnG G (i + 1))) ms) :: .stb (fun h => Rows 2 h v (NR G us)) :: .stb (fun h => TRows h (tosG G) us) :: .stb (fun h => ByRows h a ns) :: []) h := st
    refine WP.seq ?_
    refine WP.seq ?_
    refine WP.reg ?_
    refine WO.ifS (L.geq rfl rfl) (fun c2 => ?_) (fun c2 => ?_)
    · obtain ⟨k, rfl⟩ : ∃ k, b = k + 1 := ⟨b - 1, by omega⟩
      obtain rfl : kb = (k : Int) := by omega
      have hkl : k < p.2.length := by omega
      obtain ⟨t, ht⟩ : ∃ t, p.2[k]? = some t := ⟨p.2[k]'hkl, List.getElem?_eq_getElem hkl⟩
      have hUR := (st.stb_at 5 rfl).row (tosG_at hp) hu
      refine WO.nil ?_
      refine WP.cond (t := true) rfl ?_
      refine WP.skip ?_
      refine WP.seq ?_
      refine WP.block ?_
      refine WP.draw ?_
      refine WD.val (v := .ptr xb 1) (L.faddr rfl) ?_
      refine WD.val (v := vt) (L.loadB rfl (st.box_at 1 rfl) rfl) ?_
      refine WD.val (v := v) rfl ?_
      refine WD.val (v := .int .i64 (i : Int)) rfl ?_
      refine WD.val (v := .ptr (slB v) (slO v + i * 2)) (L.iaddr (n := G.length) ((((st.stb_at 4 rfl).sl (show i < (NR G us).length by rw [NR_len hul]; exact hil)).trans (by rw [NR_len hul]))) rfl hil) ?_
      refine WD.val (v := .ptr (slB v) (slO v + i * 2 + 1)) (L.faddr rfl) ?_
      refine WD.val (v := u) (L.load rfl ((st.stb_at 4 rfl).load1FZ (NR_at hp hu) rfl)) ?_
      refine WD.val (v := .int .i64 (k : Int)) rfl ?_
      refine WD.val (v := .ptr (slB u) (slO u + k * 1)) (L.iaddrZ hUR (by rw [SR_len]; exact hkl) rfl rfl) ?_
      refine WD.val (v := L.str t) (L.load rfl (hUR.load1Z (SR_at ht))) ?_
      refine WD.val (v := v) rfl ?_
      refine WD.val (v := .int .i64 (i : Int)) rfl ?_
      refine WD.val (v := .ptr (slB v) (slO v + i * 2)) (L.iaddr (n := G.length) ((((st.stb_at 4 rfl).sl (show i < (NR G us).length by rw [NR_len hul]; exact hil)).trans (by rw [NR_len hul]))) rfl hil) ?_
      refine WD.val (v := .ptr (slB v) (slO v + i * 2 + 1)) (L.faddr rfl) ?_
      refine WD.val (v := u) (L.load rfl ((st.stb_at 4 rfl).load1FZ (NR_at hp hu) rfl)) ?_
      refine WD.val (v := .int .i64 (k : Int)) rfl ?_
      refine WD.val (v := .ptr (slB u) (slO u + k * 1)) (L.iaddrZ hUR (by rw [SR_len]; exact hkl) rfl rfl) ?_
      refine WD.val (v := L.str t) (L.load rfl (hUR.load1Z (SR_at ht))) ?_
      refine WD.bslF (rows := SR [t, t]) st rfl (by decide) rfl (fun row hm => by rcases List.mem_cons.1 hm with rfl | hm; rfl; obtain rfl := List.mem_singleton.1 hm; rfl) (fun l2 h _ st => ?_)
      replace st : St (.stb (fun h => Rows 1 h (.sl l2 0 2 (some 2)) (SR [t, t])) :: F :: .box xb [L.str p.1, vt] :: .acc fm 2 vm (NR (turnG G (i + 1)) ms) :: .stb (fun h => TRows h (tosG (turnG G (i + 1))) ms) :: .stb (fun h => Rows 2 h v (NR G us)) :: .stb (fun h => TRows h (tosG G) us) :: .stb (fun h => ByRows h a ns) :: []) h := st
      have hl2 := (st.stb_at 0 rfl)
      have hdl := downT_len p.2 (k + 1)
      refine WD.appLAF hF ((st.pick 1 rfl) : St (F :: .stb (fun h => Rows 1 h (.sl l2 0 2 (some 2)) (SR [t, t])) :: .box xb [L.str p.1, vt] :: .acc fm 2 vm (NR (turnG G (i + 1)) ms) :: .stb (fun h => TRows h (tosG (turnG G (i + 1))) ms) :: .stb (fun h => Rows 2 h v (NR G us)) :: .stb (fun h => TRows h (tosG G) us) :: .stb (fun h => ByRows h a ns) :: []) _) rfl rfl hl2 (by decide) (Nat.succ_pos _) (by rw [SR_len, SR_len, List.length_cons]; simp only [List.length_cons, List.length_nil]; omega) (fun _ _ h st => rfl) (fun f2 v2 h st => ?_)
      rw [show SR (zz :: downT p.2 (k + 1)) ++ SR [t, t] = SR (zz :: downT p.2 k) from by rw [← SR_app, downT_step ht]; rfl] at st
      replace st : St (.acc f2 1 v2 (SR (zz :: downT p.2 k)) :: .stb (fun h => Rows 1 h (.sl l2 0 2 (some 2)) (SR [t, t])) :: .box xb [L.str p.1, vt] :: .acc fm 2 vm (NR (turnG G (i + 1)) ms) :: .stb (fun h => TRows h (tosG (turnG G (i + 1))) ms) :: .stb (fun h => Rows 2 h v (NR G us)) :: .stb (fun h => TRows h (tosG G) us) :: .stb (fun h => ByRows h a ns) :: []) h := st
      have hc2 := (st.acc_at 0 rfl).cells
      refine WD.val (v := .ptr xb 1) (L.faddr rfl) ?_
      refine WD.storeF (row' := [L.str p.1, v2]) st 2 rfl rfl hc2 rfl rfl rfl rfl (fun h st => rfl) (fun h (st : St (.acc f2 1 v2 (SR (zz :: downT p.2 k)) :: .stb (fun h => Rows 1 h (.sl l2 0 2 (some 2)) (SR [t, t])) :: .box xb [L.str p.1, v2] :: .acc fm 2 vm (NR (turnG G (i + 1)) ms) :: .stb (fun h => TRows h (tosG (turnG G (i + 1))) ms) :: .stb (fun h => Rows 2 h v (NR G us)) :: .stb (fun h => TRows h (tosG G) us) :: .stb (fun h => ByRows h a ns) :: []) h) => ?_)
      refine WD.nil ?_
      refine WP.reg ?_
      refine WO.valS (v := .int .i64 ((k : Int) - 1)) (L.subE rfl rfl (by omega) (And.intro (by omega) (by omega))) ?_
      refine WO.nil ?_
      exact ⟨k, (Nat.lt_succ_self _), _, (.acc f2 1 v2 (SR (zz :: downT p.2 k))), v2, (.bool true), ⟨by omega, rfl, .inr ⟨_, rfl⟩⟩, by kernel_rfl, (st.pick 1 rfl).tail⟩
    · obtain rfl : b = 0 := by omega
      refine WO.nil ?_
      refine WP.cond (t := false) rfl ?_
      refine WP.exit ?_
      refine WP.reg ?_
      refine WO.val (v := .agg [L.str p.1, vt]) (L.loadnB rfl (st.box_at 1 rfl) rfl rfl rfl) ?_
      have hcv := LAF.cells hF st
      replace st := LAF.shut hF st (by decide)
      replace st : St (.stb (fun h => Rows 1 h vt (SR (zz :: downT p.2 0))) :: .box xb [L.str p.1, vt] :: .acc fm 2 vm (NR (turnG G (i + 1)) ms) :: .stb (fun h => TRows h (tosG (turnG G (i + 1))) ms) :: .stb (fun h => Rows 2 h v (NR G us)) :: .stb (fun h => TRows h (tosG G) us) :: .stb (fun h => ByRows h a ns) :: []) h := st
      refine WO.bslF (rows := [[L.str p.1, vt]]) st rfl (by decide) rfl (fun row hm => by obtain rfl := List.mem_singleton.1 hm; rfl) (fun l3 h st => ?_)
      replace st : St (.stb (fun h => Rows 2 h (.sl l3 0 1 (some 1)) [[L.str p.1, vt]]) :: .stb (fun h => Rows 1 h vt (SR (zz :: downT p.2 0))) :: .box xb [L.str p.1, vt] :: .acc fm 2 vm (NR (turnG G (i + 1)) ms) :: .stb (fun h => TRows h (tosG (turnG G (i + 1))) ms) :: .stb (fun h => Rows 2 h v (NR G us)) :: .stb (fun h => TRows h (tosG G) us) :: .stb (fun h => ByRows h a ns) :: []) h := st
      have htl := turnG_len G (i + 1)
      refine WO.appFS st 3 rfl rfl rfl (st.stb_at 0 rfl) (by decide) (by rw [NR_len hml]; simp only [List.length_cons, List.length_nil]; omega) (fun fm2 vm2 h st => ?_)
      rw [show NR (turnG G (i + 1)) ms ++ [[L.str p.1, vt]] = NR (turnG G i) (ms ++ [vt]) from by rw [turnG_step hp]; exact (NR_snoc hml (p.1, zz :: downT p.2 0) vt).symm] at st
      replace st : St (.stb (fun h => Rows 2 h (.sl l3 0 1 (some 1)) [[L.str p.1, vt]]) :: .stb (fun h => Rows 1 h vt (SR (zz :: downT p.2 0))) :: .box xb [L.str p.1, vt] :: .acc fm2 2 vm2 (NR (turnG G i) (ms ++ [vt])) :: .stb (fun h => TRows h (tosG (turnG G (i + 1))) ms) :: .stb (fun h => Rows 2 h v (NR G us)) :: .stb (fun h => TRows h (tosG G) us) :: .stb (fun h => ByRows h a ns) :: []) h := st
      replace st : St (.stb (fun h => TRows h (tosG (turnG G i)) (ms ++ [vt])) :: .stb (fun h => Rows 2 h (.sl l3 0 1 (some 1)) [[L.str p.1, vt]]) :: .box xb [L.str p.1, vt] :: .acc fm2 2 vm2 (NR (turnG G i) (ms ++ [vt])) :: .stb (fun h => Rows 2 h v (NR G us)) :: .stb (fun h => TRows h (tosG G) us) :: .stb (fun h => ByRows h a ns) :: []) h := (St.and (((st.pick 1 rfl).pick 4 rfl))).imp0 fun h hx => by
        rw [turnG_step hp]; unfold tosG; rw [List.map_append]; exact hx.1.snoc ⟨hx.2, fun e => by cases e⟩
      refine WO.nil ?_
      refine WP.reg ?_
      refine WO.valS (v := .int .i64 ((i : Int) - 1)) (L.subE rfl rfl (by omega) (And.intro (by omega) (by omega))) ?_
      refine WO.nil ?_
      exact ⟨i, (Nat.lt_succ_self _), _, fm2, vm2, (ms ++ [vt]), (.bool true), (.int .i64 kb), (.bool false), (.ptr xb 0), ⟨by omega, rfl, by rw [turnG_step hp, List.length_append, List.length_append, hml]; rfl⟩, by kernel_rfl, (((st.pick 1 rfl).tail.pick 1 rfl).tail.pick 1 rfl)⟩
  · obtain rfl : ii = 0 := by omega
    replace st : St (.acc fm 2 vm (NR (turnG G 0) ms) :: .stb (fun h => TRows h (tosG (turnG G 0)) ms) :: .stb (fun h => Rows 2 h v (NR G us)) :: .stb (fun h => TRows h (tosG G) us) :: .stb (fun h => ByRows h a ns) :: []) h := st
    refine WO.nil ?_
    refine WP.cond (t := false) rfl ?_
    refine WP.exit ?_
    refine WP.seq ?_
    refine WP.reg ?_
    have s2 := (st).shut (by decide)
    have s3 := (St.and (s2)).imp0 (Q := fun h => NRows h vm (turnG G 0)) fun h hx => ⟨ms, hx.1, hx.2⟩
    have s4 := (St.and ((s3.pick 1 rfl).pick 2 rfl |> fun s => s.pick 1 rfl)).imp0 (Q := fun h => NRows h v G) fun h hx => ⟨us, hx.1, hx.2⟩
    replace st : St (.stb (fun h => NRows h v G) :: .stb (fun h => NRows h vm (turnG G 0)) :: .stb (fun h => ByRows h a ns) :: []) h := s4
    have g2 := turn_gd g gd.to
    have hz := zz_not gd
    refine WO.callF rfl (order_c D.o g st) ?_
    rintro _ h ⟨vo, vc, C0, R0, O, rfl, hC, hR, hO, st⟩
    have og : OrdG G C0 R0 O := ⟨hC, hR, hO⟩
    have hsm := og.small g
    replace st : St (.stb (fun h => Rows 1 h vo (SR O)) :: .stb (fun h => Rows 1 h vc (SR C0)) :: .stb (fun h => NRows h v G) :: .stb (fun h => NRows h vm (turnG G 0)) :: .stb (fun h => ByRows h a ns) :: []) h := st
    refine WO.val (v := vo) rfl ?_
    refine WO.val (v := vc) rfl ?_
    refine WO.val (v := .int .i64 0) rfl ?_
    refine WO.valS (v := vo) rfl ?_
    refine WO.valS (v := vc) rfl ?_
    refine WO.valS (v := .int .i64 0) rfl ?_
    refine WO.nil ?_
    refine WP.seq ?_
    refine WP.reg ?_
    refine WO.callF rfl (order_c D.o g2 ((st.pick 3 rfl) : St (.stb (fun h => NRows h vm (turnG G 0)) :: .stb (fun h => Rows 1 h vo (SR O)) :: .stb (fun h => Rows 1 h vc (SR C0)) :: .stb (fun h => NRows h v G) :: .stb (fun h => ByRows h a ns) :: []) _)) ?_
    rintro _ h ⟨vp, vd, C1, R1, P, rfl, hC1, hR1, hO1, st⟩
    obtain ⟨rfl, rfl⟩ := turn_same g g2 hz og ⟨hC1, hR1, hO1⟩
    replace st : St (.stb (fun h => Rows 1 h vp (SR O)) :: .stb (fun h => Rows 1 h vd (SR C0)) :: .stb (fun h => NRows h vm (turnG G 0)) :: .stb (fun h => Rows 1 h vo (SR O)) :: .stb (fun h => Rows 1 h vc (SR C0)) :: .stb (fun h => NRows h v G) :: .stb (fun h => ByRows h a ns) :: []) h := st
    refine WO.val (v := vp) rfl ?_
    refine WO.val (v := vd) rfl ?_
    refine WO.val (v := .int .i64 0) rfl ?_
    refine WO.valS (v := vp) rfl ?_
    refine WO.valS (v := vd) rfl ?_
    refine WO.valS (v := .int .i64 0) rfl ?_
    refine WO.nil ?_
    refine WP.seq ?_
    refine WP.reg ?_
    refine WO.callF rfl (num_g D.f7) ?_
    rintro _ h ⟨rfl, rfl⟩
    refine WO.ifV (L.eql rfl rfl) (fun c1 => ?_) (fun c1 => by exfalso; exact c1 rfl)
    refine WO.yes rfl ?_
    refine WO.val (v := .int .i64 0) rfl ?_
    refine WO.yes rfl ?_
    refine WO.callF rfl (num_g D.f7) ?_
    rintro _ h ⟨rfl, rfl⟩
    refine WO.yes rfl ?_
    refine WO.ifV (L.eql rfl rfl) (fun c2 => ?_) (fun c2 => by exfalso; exact c2 rfl)
    refine WO.val (v := .bool true) rfl ?_
    refine WO.yes rfl ?_
    refine WO.val (v := vo) rfl ?_
    refine WO.yes rfl ?_
    refine WO.val (v := vp) rfl ?_
    refine WO.yes rfl ?_
    refine WO.callF rfl (texts_g D.o.fm (by omega) (st.stb_at 3 rfl) (st.stb_at 0 rfl)) ?_
    rintro _ h ⟨rfl, rfl⟩
    refine WO.val (v := .bool true) rfl ?_
    refine WO.yes rfl ?_
    refine WO.val (v := vc) rfl ?_
    refine WO.yes rfl ?_
    refine WO.val (v := vd) rfl ?_
    refine WO.yes rfl ?_
    refine WO.callF rfl (texts_g D.o.fm (by omega) (st.stb_at 4 rfl) (st.stb_at 1 rfl)) ?_
    rintro _ h ⟨rfl, rfl⟩
    refine WO.val (v := .bool true) rfl ?_
    refine WO.yes rfl ?_
    refine WO.callF rfl (D.f9 _) ?_
    rintro _ h ⟨rfl, rfl⟩
    refine WO.valS (v := .bool true) rfl ?_
    refine WO.nil ?_
    refine WP.ret ?_
    exact ⟨_, (res_cons (res_tmp (v := .bool true) rfl) (res_nil _ _)), rfl⟩

end
end Go.Eng.Ytfapefhnicdncaa
