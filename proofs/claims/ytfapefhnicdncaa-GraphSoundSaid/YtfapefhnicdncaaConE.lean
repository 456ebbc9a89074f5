/- Part of a proof of a law, by an evaluator that the machine follows: rules, contracts of functions, what they come to. No condition of its own. -/
import Derived.Test.YtfapefhnicdncaaConD
import Derived.Test.YtfapefhnicdncaaSymH
set_option linter.unusedVariables false
set_option linter.unusedSimpArgs false
namespace Go.Eng.Ytfapefhnicdncaa
open Go.Eng
noncomputable section
variable {c : Ctx}
/-- the functions that are told -/
structure HasSd (c : Ctx) : Prop where
  f4 : T.get 4 c.funs = some i4
  f7 : T.get 7 c.funs = some i7
  f9 : ∀ h, RunP c 9 [] h fun v h1 => v = .bool true ∧ h1 = h
  l : HasL c
  o : HasOd c
theorem GdG.n {G : Gr} (g : GdG G) : GdN G := by
  have e : nmsG G = nmsL G.length := by
    refine List.ext_getElem? fun i => ?_
    by_cases hi : i < G.length
    · obtain ⟨p, hp⟩ : ∃ p, G[i]? = some p := ⟨G[i], List.getElem?_eq_getElem hi⟩
      rw [nmsG_at hp, nmsL_at hi, g.nm i p hp]
    · rw [List.getElem?_eq_none (by rw [nmsG_len]; omega), List.getElem?_eq_none (by rw [nmsL_len]; omega)]
  refine ⟨?_, g.few, fun p hp => Nat.le_trans (g.to p hp) (by decide)⟩
  rw [e]
  have : ∀ k, k ≤ 8 → (nmsL k).Nodup := by decide
  exact this _ g.few
theorem num_g (H : T.get 7 c.funs = some i7) {h0 : Heap} {x : Int} : RunP c 7 [.int .i64 x] h0 fun v1 h1 => v1 = .int .i64 x ∧ h1 = h0 := by
  refine RunP.fun_ H rfl ?_
  refine WP.seq ?_
  refine WP.reg ?_
  refine WO.valS (v := .int .i64 0) rfl ?_
  refine WO.nil ?_
  refine WP.seq ?_
  refine WP.reg ?_
  refine WO.valS (v := .int .i64 x) rfl ?_
  refine WO.nil ?_
  refine WP.ret ?_
  exact ⟨_, (res_cons (res_tmp (v := .int .i64 x) rfl) (res_nil _ _)), rfl, rfl⟩
theorem sound_c (D : HasSd c) {h : Heap} {n : Nat} {a : V} {ns : List UInt8} (hn : n < 256) (st : St [.stb (fun h => ByRows h a ns)] h) :
    RunP c 4 [.int .u8 (n : Int), a] h fun v1 _ => v1 = .bool true := by
  refine RunP.fun_ D.f4 rfl ?_
  refine WP.seq ?_
  refine WP.reg ?_
  refine WO.valS (v := .bool false) rfl ?_
  refine WO.nil ?_
  refine WP.seq ?_
  refine WP.reg ?_
  refine WO.callFS rfl (letters_c D.l hn st) ?_
  rintro v h ⟨G, gd, st⟩
  have g := gd.n
  replace st : St (.stb (fun h => NRows h v G) :: .stb (fun h => ByRows h a ns) :: []) h := st
  refine WO.nil ?_
  refine WP.seq ?_
  refine WP.reg ?_
  refine WO.callF rfl (order_c D.o g st) ?_
  rintro _ h ⟨vo, vc, C0, R0, O, rfl, hC, hR, hO, st⟩
  have og : OrdG G C0 R0 O := ⟨hC, hR, hO⟩
  have hsm := og.small g
  have hlen := og.len g
  have hGl := g.few
  replace st : St (.stb (fun h => Rows 1 h vo (SR O)) :: .stb (fun h => Rows 1 h vc (SR C0)) :: .stb (fun h => NRows h v G) :: .stb (fun h => ByRows h a ns) :: []) h := st
  refine WO.val (v := vo) rfl ?_
  refine WO.val (v := vc) rfl ?_
  refine WO.val (v := .int .i64 0) rfl ?_
  refine WO.valS (v := vo) rfl ?_
  refine WO.valS (v := vc) rfl ?_
  refine WO.valS (v := .int .i64 0) rfl ?_
  refine WO.nil ?_
  refine WP.seq ?_
  refine WP.seq ?_
  refine WP.reg ?_
  refine WO.callF rfl (num_g D.f7) ?_
  rintro _ h ⟨rfl, rfl⟩
  refine WO.ifV (L.neq rfl rfl) (fun c1 => by exfalso; omega) (fun c1 => ?_)
  refine WO.yes rfl ?_
  refine WO.val (v := vo) rfl ?_
  refine WO.yes rfl ?_
  refine WO.val (v := .int .i64 (O.length : Int)) (L.llenRn rfl (st.stb_at 0 rfl) (SR_len _)) ?_
  refine WO.yes rfl ?_
  refine WO.val (v := vc) rfl ?_
  refine WO.yes rfl ?_
  refine WO.val (v := .int .i64 (C0.length : Int)) (L.llenRn rfl (st.stb_at 1 rfl) (SR_len _)) ?_
  refine WO.yes rfl ?_
  refine WO.val (v := .int .i64 ((O.length + C0.length : Nat) : Int)) (L.addE rfl rfl (by omega) (And.intro (by omega) (by omega))) ?_
  refine WO.yes rfl ?_
  refine WO.val (v := v) rfl ?_
  refine WO.yes rfl ?_
  obtain ⟨us_, hR_, hT_⟩ := st.stb_at 2 rfl
  have hul_ : us_.length = G.length := by rw [hT_.len, tosG_len]
  refine WO.val (v := .int .i64 (G.length : Int)) (L.llenRn rfl hR_ (NR_len hul_)) ?_
  refine WO.yes rfl ?_
  refine WO.ifV (L.neq rfl rfl) (fun c2 => by exfalso; omega) (fun c2 => ?_)
  refine WO.valS (v := .bool false) rfl ?_
  refine WO.nil ?_
  refine WP.cond (t := false) rfl ?_
  refine WP.skip ?_
  refine WP.seq ?_
  refine WP.seq ?_
  refine WP.reg ?_
  refine WO.valS (v := .int .i64 0) rfl ?_
  refine WO.nil ?_
  refine WP.block ?_
  refine WP.loopG (α := Nat) (fun i env h => ∃ x2 x9 x10 x11, (i ≤ G.length) ∧ env = argsP [.int .u8 (n : Int), a, x2, v, .int .i64 0, vo, vc, .bool false, .int .i64 (i : Int), x9, x10, x11] 0 Env.nil ∧ St (.stb (fun h => Rows 1 h vo (SR O)) :: .stb (fun h => Rows 1 h vc (SR C0)) :: .stb (fun h => NRows h v G) :: .stb (fun h => ByRows h a ns) :: []) h) (fun i => G.length - i) 0 ?_ ?_
  · exact ⟨(.bool false), .bot, .bot, .bot, Nat.zero_le _, by kernel_rfl, st⟩
  rintro i _ h ⟨x2, x9, x10, x11, hi, rfl, st⟩
  replace st : St (.stb (fun h => Rows 1 h vo (SR O)) :: .stb (fun h => Rows 1 h vc (SR C0)) :: .stb (fun h => NRows h v G) :: .stb (fun h => ByRows h a ns) :: []) h := st
  refine WP.seq ?_
  refine WP.seq ?_
  refine WP.reg ?_
  obtain ⟨us_, hR_, hT_⟩ := st.stb_at 2 rfl
  have hul_ : us_.length = G.length := by rw [hT_.len, tosG_len]
  refine WO.val (v := .int .i64 (G.length : Int)) (L.llenRn rfl hR_ (NR_len hul_)) ?_
  refine WO.ifS (L.lss rfl rfl) (fun c1 => ?_) (fun c1 => ?_)
  · replace c1 : i < G.length := by omega
    obtain ⟨p, hp⟩ : ∃ p, G[i]? = some p := ⟨G[i]'(by omega), List.getElem?_eq_getElem (by omega)⟩
    obtain ⟨u, hu⟩ : ∃ u, us_[i]? = some u := ⟨us_[i]'(by omega), List.getElem?_eq_getElem (by omega)⟩
    have hxN : p.1 ∈ nmsG G := List.mem_of_getElem? (nmsG_at hp)
    refine WO.nil ?_
    refine WP.cond (t := true) rfl ?_
    refine WP.skip ?_
    refine WP.seq ?_
    refine WP.block ?_
    refine WP.seq ?_
    refine WP.reg ?_
    refine WO.val (v := .ptr (slB v) (slO v + i * 2)) (L.iaddr (n := G.length) (((hR_.sl (show i < (NR G us_).length by rw [NR_len hul_]; exact c1)).trans (by rw [NR_len hul_]))) rfl c1) ?_
    refine WO.val (v := .ptr (slB v) (slO v + i * 2 + 0)) (L.faddr rfl) ?_
    refine WO.valS (v := L.str p.1) (L.load rfl (hR_.load1FZ (NR_at hp hu) rfl)) ?_
    refine WO.nil ?_
    refine WP.seq ?_
    refine WP.reg ?_
    refine WO.callF rfl (has_c D.o.fm (by omega) (st.stb_at 0 rfl)) ?_
    rintro _ h ⟨rfl, rfl⟩
    refine WO.callF rfl (has_c D.o.fm (by omega) (st.stb_at 1 rfl)) ?_
    rintro _ h ⟨rfl, rfl⟩
    refine WO.val (v := .bool false) (L.eqBoolF rfl rfl (by rw [Ne, decide_eq_decide, og.memO g hxN, og.memC hxN]; exact fun e => (Classical.em (Reach (wayG G) p.1 p.1)).elim (fun h => e.2 h h) fun h => h (e.1 h))) ?_
    refine WO.yes rfl ?_
    refine WO.val (v := v) rfl ?_
    refine WO.yes rfl ?_
    refine WO.val (v := L.str p.1) rfl ?_
    refine WO.yes rfl ?_
    refine WO.val (v := L.str p.1) rfl ?_
    refine WO.yes rfl ?_
    refine WO.callF rfl (back_c D.o.fm g ((st.pick 2 rfl) : St (.stb (fun h => NRows h v G) :: .stb (fun h => Rows 1 h vo (SR O)) :: .stb (fun h => Rows 1 h vc (SR C0)) :: .stb (fun h => ByRows h a ns) :: []) _)) ?_
    rintro _ h ⟨b1, rfl, hb1, st⟩
    replace st : St (.stb (fun h => NRows h v G) :: .stb (fun h => Rows 1 h vo (SR O)) :: .stb (fun h => Rows 1 h vc (SR C0)) :: .stb (fun h => ByRows h a ns) :: []) h := st
    refine WO.yes rfl ?_
    refine WO.val (v := vc) rfl ?_
    refine WO.yes rfl ?_
    refine WO.val (v := L.str p.1) rfl ?_
    refine WO.yes rfl ?_
    refine WO.callF rfl (has_c D.o.fm (by omega) (st.stb_at 2 rfl)) ?_
    rintro _ h ⟨rfl, rfl⟩
    refine WO.yes rfl ?_
    refine WO.val (v := .bool false) (L.neBoolF rfl rfl (by rw [Bool.eq_iff_iff, decide_eq_true_iff, og.memC hxN]; exact hb1)) ?_
    refine WO.valS (v := .bool false) rfl ?_
    refine WO.nil ?_
    refine WP.cond (t := false) rfl ?_
    refine WP.skip ?_
    refine WP.reg ?_
    refine WO.valS (v := .int .i64 ((i + 1 : Nat) : Int)) (L.addE rfl rfl (by omega) (And.intro (by omega) (by omega))) ?_
    refine WO.nil ?_
    exact ⟨i + 1, (by omega), x2, (.bool true), (L.str p.1), (.bool false), by omega, by kernel_rfl, ((st.pick 2 rfl).pick 2 rfl)⟩
  · replace c1 : ¬ (i < G.length) := by omega
    refine WO.nil ?_
    refine WP.cond (t := false) rfl ?_
    refine WP.exit ?_
    refine WP.seq ?_
    refine WP.seq ?_
    refine WP.reg ?_
    refine WO.valS (v := .int .i64 0) rfl ?_
    refine WO.nil ?_
    refine WP.block ?_
    refine WP.loopG (α := Nat) (fun q env h => ∃ x2 x13 x14 x15 x16, (q ≤ O.length) ∧ env = argsP [.int .u8 (n : Int), a, x2, v, .int .i64 0, vo, vc, .bool false, .int .i64 (i : Int), .bool false, x10, x11, .int .i64 (q : Int), x13, x14, x15, x16] 0 Env.nil ∧ St (.stb (fun h => Rows 1 h vo (SR O)) :: .stb (fun h => Rows 1 h vc (SR C0)) :: .stb (fun h => NRows h v G) :: .stb (fun h => ByRows h a ns) :: []) h) (fun q => O.length - q) 0 ?_ ?_
    · exact ⟨x2, .bot, .bot, .bot, .bot, Nat.zero_le _, by kernel_rfl, st⟩
    rintro q _ h ⟨x2, x13, x14, x15, x16, hq, rfl, st⟩
    replace st : St (.stb (fun h => Rows 1 h vo (SR O)) :: .stb (fun h => Rows 1 h vc (SR C0)) :: .stb (fun h => NRows h v G) :: .stb (fun h => ByRows h a ns) :: []) h := st
    refine WP.seq ?_
    refine WP.seq ?_
    refine WP.reg ?_
    refine WO.val (v := .int .i64 (O.length : Int)) (L.llenRn rfl (st.stb_at 0 rfl) (SR_len _)) ?_
    refine WO.ifS (L.lss rfl rfl) (fun c1 => ?_) (fun c1 => ?_)
    · replace c1 : q < O.length := by omega
      obtain ⟨x, hx⟩ : ∃ y, O[q]? = some y := ⟨O[q]'(by omega), List.getElem?_eq_getElem (by omega)⟩
      refine WO.nil ?_
      refine WP.cond (t := true) rfl ?_
      refine WP.skip ?_
      refine WP.seq ?_
      refine WP.block ?_
      refine WP.seq ?_
      refine WP.reg ?_
      refine WO.valS (v := .int .i64 (q : Int)) rfl ?_
      refine WO.nil ?_
      refine WP.block ?_
      refine WP.loopG (α := Nat) (fun k env h => ∃ x2 x15 x16, (q ≤ k ∧ k ≤ O.length) ∧ env = argsP [.int .u8 (n : Int), a, x2, v, .int .i64 0, vo, vc, .bool false, .int .i64 (i : Int), .bool false, x10, x11, .int .i64 (q : Int), .bool true, .int .i64 (k : Int), x15, x16] 0 Env.nil ∧ St (.stb (fun h => Rows 1 h vo (SR O)) :: .stb (fun h => Rows 1 h vc (SR C0)) :: .stb (fun h => NRows h v G) :: .stb (fun h => ByRows h a ns) :: []) h) (fun k => O.length - k) q ?_ ?_
      · exact ⟨x2, x15, x16, ⟨Nat.le_refl _, by omega⟩, by kernel_rfl, st⟩
      rintro k _ h ⟨x2, x15, x16, ⟨c3, hk⟩, rfl, st⟩
      replace st : St (.stb (fun h => Rows 1 h vo (SR O)) :: .stb (fun h => Rows 1 h vc (SR C0)) :: .stb (fun h => NRows h v G) :: .stb (fun h => ByRows h a ns) :: []) h := st
      refine WP.seq ?_
      refine WP.seq ?_
      refine WP.reg ?_
      refine WO.val (v := .int .i64 (O.length : Int)) (L.llenRn rfl (st.stb_at 0 rfl) (SR_len _)) ?_
      refine WO.ifS (L.lss rfl rfl) (fun c2 => ?_) (fun c2 => ?_)
      · replace c2 : k < O.length := by omega
        obtain ⟨y, hy⟩ : ∃ y, O[k]? = some y := ⟨O[k]'(by omega), List.getElem?_eq_getElem (by omega)⟩
        refine WO.nil ?_
        refine WP.cond (t := true) rfl ?_
        refine WP.skip ?_
        refine WP.seq ?_
        refine WP.block ?_
        refine WP.seq ?_
        refine WP.draw ?_
        refine WD.val (v := v) rfl ?_
        refine WD.val (v := vo) rfl ?_
        refine WD.val (v := .int .i64 (q : Int)) rfl ?_
        refine WD.val (v := .ptr (slB vo) (slO vo + q * 1)) (L.iaddrZ (st.stb_at 0 rfl) (by rw [SR_len]; omega) rfl rfl) ?_
        refine WD.val (v := L.str x) (L.load rfl ((st.stb_at 0 rfl).load1Z (SR_at hx))) ?_
        refine WD.val (v := vo) rfl ?_
        refine WD.val (v := .int .i64 (k : Int)) rfl ?_
        refine WD.val (v := .ptr (slB vo) (slO vo + k * 1)) (L.iaddrZ (st.stb_at 0 rfl) (by rw [SR_len]; omega) rfl rfl) ?_
        refine WD.val (v := L.str y) (L.load rfl ((st.stb_at 0 rfl).load1Z (SR_at hy))) ?_
        refine WD.callFS rfl (back_c D.o.fm g ((st.pick 2 rfl) : St (.stb (fun h => NRows h v G) :: .stb (fun h => Rows 1 h vo (SR O)) :: .stb (fun h => Rows 1 h vc (SR C0)) :: .stb (fun h => ByRows h a ns) :: []) _)) (fun _ h hp2 => rfl) (fun _ h hp2 => ?_)
        obtain ⟨b1, rfl, hb1, st⟩ := hp2
        obtain rfl : b1 = false := by
          cases b1 with
          | false => rfl
          | true => exact absurd (hb1.1 rfl) (og.not g hx hy c3)
        replace st : St (.stb (fun h => NRows h v G) :: .stb (fun h => Rows 1 h vo (SR O)) :: .stb (fun h => Rows 1 h vc (SR C0)) :: .stb (fun h => ByRows h a ns) :: []) h := st
        refine WD.nil ?_
        refine WP.cond (t := false) rfl ?_
        refine WP.skip ?_
        refine WP.reg ?_
        refine WO.valS (v := .int .i64 ((k + 1 : Nat) : Int)) (L.addE rfl rfl (by omega) (And.intro (by omega) (by omega))) ?_
        refine WO.nil ?_
        exact ⟨k + 1, (by omega), x2, (.bool true), (.bool false), ⟨by omega, by omega⟩, by kernel_rfl, ((st.pick 2 rfl).pick 2 rfl)⟩
      · replace c2 : ¬ (k < O.length) := by omega
        refine WO.nil ?_
        refine WP.cond (t := false) rfl ?_
        refine WP.exit ?_
        refine WP.reg ?_
        refine WO.valS (v := .int .i64 ((q + 1 : Nat) : Int)) (L.addE rfl rfl (by omega) (And.intro (by omega) (by omega))) ?_
        refine WO.nil ?_
        exact ⟨q + 1, (by omega), x2, (.bool true), (.int .i64 (k : Int)), (.bool false), x16, by omega, by kernel_rfl, st⟩
    · replace c1 : ¬ (q < O.length) := by omega
      refine WO.nil ?_
      refine WP.cond (t := false) rfl ?_
      refine WP.exit ?_
      refine WP.seq ?_
      refine WP.reg ?_
      refine WO.callFS rfl (D.f9 _) ?_
      rintro _ h ⟨rfl, rfl⟩
      refine WO.nil ?_
      refine WP.ret ?_
      exact ⟨_, (res_cons (res_tmp (v := .bool true) rfl) (res_nil _ _)), rfl⟩

end
end Go.Eng.Ytfapefhnicdncaa
