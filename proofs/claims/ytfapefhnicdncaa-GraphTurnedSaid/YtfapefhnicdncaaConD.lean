/- Part of a proof of a law, by an evaluator that the machine follows: rules, contracts of functions, what they come to. No condition of its own. -/
import Derived.Test.YtfapefhnicdncaaConC
import Derived.Test.YtfapefhnicdncaaSymG
set_option linter.unusedVariables false
set_option linter.unusedSimpArgs false
namespace Go.Eng.Ytfapefhnicdncaa
open Go.Eng
noncomputable section
variable {c : Ctx}
/-- the functions that are told -/
structure HasOd (c : Ctx) : Prop where
  f6 : T.get 6 c.funs = some i6
  f16 : T.get 16 c.funs = some i16
  f17 : T.get 17 c.funs = some i17
  f14 : ∀ args h r, moreSort 14 14 args h = r → r ≠ .bad → Runs c 14 args h r
  f15 : ∀ args h r, moreRdy 15 15 args h = r → r ≠ .bad → Runs c 15 args h r
  fm : HasFm c
theorem del_rows {R : List Lab.Txt} {k : Nat} {X : List (List V)} {z : List V} (hk : k < R.length) (hX : X = (SR R).take k ++ (SR R).drop (k + 1) ++ (SR R).drop (k + (R.length - (k + 1)))) : (X.take (R.length - 1) ++ List.replicate 1 z).take (R.length - 1) = SR (R.eraseIdx k) := by
  have h1 : ((SR R).take k ++ (SR R).drop (k + 1)).length = R.length - 1 := by rw [List.length_append, List.length_take, List.length_drop, SR_len]; omega
  have h2 : X.take (R.length - 1) = (SR R).take k ++ (SR R).drop (k + 1) := by rw [hX, List.take_left' h1]
  rw [h2, List.take_left' h1, ← List.eraseIdx_eq_take_drop_succ]
  unfold SR; rw [List.eraseIdx_eq_take_drop_succ, List.eraseIdx_eq_take_drop_succ, List.map_append, List.map_take, List.map_drop]
theorem no_next {ns : List Lab.Txt} {k : Nat} {x : Lab.Txt} {P : Lab.Txt → Bool} (hno : ∀ y ∈ ns.take k, P y = false) (hx : ns[k]? = some x) (hP : P x = false) : ∀ y ∈ ns.take (k + 1), P y = false := by
  intro y hy
  rw [take_next hx] at hy
  rcases List.mem_append.1 hy with hy | hy
  · exact hno y hy
  · obtain rfl : y = x := by simpa using hy
    exact hP
theorem delete_c (D : HasOd c) {fs : List Fact} {h : Heap} {bs : List Nat} {f b k : Nat} {R : List Lab.Txt} (hk : k < R.length) (hn : R.length < 4294967296) (st : St (.acu bs f 1 (.sl b 0 R.length none) (SR R) :: fs) h) :
    RunP c 17 [.sl b 0 R.length none, .int .i64 (k : Int), .int .i64 ((k + 1 : Nat) : Int)] h fun v1 h1 => v1 = .sl b 0 (R.length - 1) none ∧ St (.acu bs f 1 (.sl b 0 (R.length - 1) none) (SR (R.eraseIdx k)) :: fs) h1 := by
  refine RunP.fun_ D.f17 rfl ?_
  refine WP.seq ?_
  refine WP.reg ?_
  refine WO.valS (v := .slN) rfl ?_
  refine WO.nil ?_
  refine WP.seq ?_
  refine WP.reg ?_
  refine WO.val (v := .int .i64 (R.length : Int)) (L.llen rfl) ?_
  refine WO.val (v := .sl b (0 + k * 1) (k + 1 - k) (some (R.length - k))) (L.sslM rfl rfl rfl rfl (by omega) (Nat.le_succ _) (by omega) (Nat.le_refl _) (by omega)) ?_
  refine WO.nil ?_
  refine WP.seq ?_
  refine WP.seq ?_
  refine WP.reg ?_
  refine WO.ifS (L.eql rfl rfl) (fun c1 => by exfalso; omega) (fun c1 => ?_)
  refine WO.nil ?_
  refine WP.cond (t := false) rfl ?_
  refine WP.skip ?_
  refine WP.seq ?_
  refine WP.reg ?_
  refine WO.valS (v := .int .i64 (R.length : Int)) (L.llen rfl) ?_
  refine WO.nil ?_
  refine WP.seq ?_
  refine WP.draw ?_
  refine WD.val (v := .sl b 0 R.length none) rfl ?_
  refine WD.val (v := .int .i64 (k : Int)) rfl ?_
  refine WD.val (v := .sl b 0 k none) ((L.ssl (i := 0) (j := k) rfl (st.acuRows 0 rfl (by decide)) rfl rfl (Nat.zero_le _) (by omega)).trans (by rw [Nat.zero_mul, Nat.add_zero, Nat.sub_zero])) ?_
  refine WD.val (v := .sl b 0 R.length none) rfl ?_
  refine WD.val (v := .int .i64 ((k + 1 : Nat) : Int)) rfl ?_
  refine WD.val (v := .sl b (0 + (k + 1) * 1) (R.length - (k + 1)) none) (L.ssl (i := k + 1) (j := R.length) rfl (st.acuRows 0 rfl (by decide)) rfl rfl (by omega) (Nat.le_refl _)) ?_
  have hR := st.acuRows 0 rfl (by decide)
  obtain ⟨X, hX⟩ : ∃ X, X = (SR R).take k ++ (SR R).drop (k + 1) ++ (SR R).drop (k + (R.length - (k + 1))) := ⟨_, rfl⟩
  refine WD.appCut (k := k) (m := R.length - (k + 1)) st rfl rfl (Rows.drop hR (by omega)) (by decide) (by rw [List.length_drop, SR_len]) (by omega) (by omega) (fun h st => rfl) (fun h st => ?_)
  rw [← hX] at st
  replace st : St (.acu bs f 1 (.sl b 0 R.length none) X :: fs) h := st
  refine WD.valS (v := .sl b 0 (k + (R.length - (k + 1))) none) rfl ?_
  refine WD.nil ?_
  refine WP.seq ?_
  refine WP.reg ?_
  refine WO.val (v := .int .i64 ((R.length - 1 : Nat) : Int)) ((L.llen rfl).trans (by rw [show k + (R.length - (k + 1)) = R.length - 1 by omega])) ?_
  obtain ⟨f_, ap_, sz_, t_, hob_, hsz_, hXl⟩ := St.acuBlk st
  refine WO.val (v := .sl b (0 + (R.length - 1) * 1) 1 none) ((L.sslB (i := R.length - 1) (j := R.length) rfl hob_ rfl rfl (by omega) hsz_).trans (by rw [show R.length - (R.length - 1) = 1 by omega])) ?_
  refine WO.clearU (k := R.length - 1) (m := 1) st rfl (by decide) rfl (by decide) (by omega) (fun h st => ?_)
  replace st : St (.acu bs f 1 (.sl b 0 R.length none) (X.take (R.length - 1) ++ List.replicate 1 [V.str 0 0]) :: fs) h := st
  refine WO.nil ?_
  refine WP.seq ?_
  refine WP.reg ?_
  refine WO.valS (v := .sl b 0 (k + (R.length - (k + 1))) none) rfl ?_
  refine WO.nil ?_
  refine WP.ret ?_
  have s2 := St.cutU (k := R.length - 1) st (by omega)
  rw [del_rows hk hX] at s2
  exact ⟨_, (res_cons (res_tmp (v := .sl b 0 (k + (R.length - (k + 1))) none) rfl) (res_nil _ _)), (by rw [show k + (R.length - (k + 1)) = R.length - 1 by omega]; rfl), s2⟩

theorem index_g (D : HasOd c) {h0 : Heap} {v : V} {ns : List Lab.Txt} {p1 p2 : Nat} {P : Lab.Txt → Bool} (hn : ns.length < 4294967296) (R : Rows 1 h0 v (SR ns)) (hp : ∀ x ∈ ns, RunP c 15 [L.str x, .ptr p1 0, .ptr p2 0] h0 fun v h1 => v = .bool (P x) ∧ h1 = h0) :
    RunP c 16 [v, .fn 15 [] [.ptr p1 0, .ptr p2 0]] h0 fun v1 h1 => ((v1 = .int .i64 (-1) ∧ ∀ y ∈ ns, P y = false) ∨ ∃ k x, v1 = .int .i64 ((k : Nat) : Int) ∧ ns[k]? = some x ∧ P x = true ∧ ∀ y ∈ ns.take k, P y = false) ∧ h1 = h0 := by
  refine RunP.fun_ D.f16 rfl ?_
  refine WP.seq ?_
  refine WP.reg ?_
  refine WO.valS (v := .int .i64 0) rfl ?_
  refine WO.nil ?_
  refine WP.seq ?_
  refine WP.seq ?_
  refine WP.reg ?_
  refine WO.valS (v := .int .i64 (ns.length : Int)) (L.llenRn rfl R (SR_len _)) ?_
  refine WO.valS (v := .int .i64 0) rfl ?_
  refine WO.nil ?_
  refine WP.block ?_
  refine WP.loopG (α := Nat) (fun k env h_ => ∃ x2 x5 x6 x7, (k ≤ ns.length ∧ ∀ y ∈ ns.take k, P y = false) ∧ env = argsP [v, .fn 15 [] [.ptr p1 0, .ptr p2 0], x2, .int .i64 (k : Int), .int .i64 (ns.length : Int), x5, x6, x7] 0 Env.nil ∧ h_ = h0) (fun k => ns.length - k) 0 ?_ ?_
  · exact ⟨(.int .i64 0), .bot, .bot, .bot, ⟨Nat.zero_le _, fun y hy => by simp at hy⟩, by kernel_rfl, rfl⟩
  rintro k _ h ⟨x2, x5, x6, x7, ⟨hk, hno⟩, rfl, rfl⟩
  refine WP.seq ?_
  refine WP.reg ?_
  refine WO.ifS (L.lss rfl rfl) (fun c1 => ?_) (fun c1 => ?_)
  · replace c1 : k < ns.length := by omega
    obtain ⟨x, hx⟩ : ∃ y, ns[k]? = some y := ⟨ns[k]'(by omega), List.getElem?_eq_getElem (by omega)⟩
    refine WO.nil ?_
    refine WP.seq ?_
    refine WP.cond (t := true) rfl ?_
    refine WP.skip ?_
    refine WP.seq ?_
    refine WP.block ?_
    refine WP.seq ?_
    refine WP.reg ?_
    refine WO.valS (v := .int .i64 (k : Int)) rfl ?_
    refine WO.nil ?_
    refine WP.seq ?_
    refine WP.reg ?_
    refine WO.val (v := .ptr (slB v) (slO v + k * 1)) (L.iaddrZ R (by rw [SR_len]; omega) rfl rfl) ?_
    refine WO.val (v := L.str x) (L.load rfl (R.load1Z (SR_at hx))) ?_
    refine WO.callvFS rfl rfl (hp x (List.mem_of_getElem? hx)) ?_
    rintro _ h ⟨rfl, rfl⟩
    cases hP : P x with
    | false =>
      refine WO.nil ?_
      refine WP.cond (t := false) rfl ?_
      refine WP.skip ?_
      refine WP.reg ?_
      refine WO.valS (v := .int .i64 ((k + 1 : Nat) : Int)) (L.addE rfl rfl (by omega) (And.intro (by omega) (by omega))) ?_
      refine WO.nil ?_
      exact ⟨k + 1, (by omega), x2, (.bool true), (.int .i64 (k : Int)), (.bool false), ⟨by omega, no_next hno hx hP⟩, by kernel_rfl, rfl⟩
    | true =>
      refine WO.nil ?_
      refine WP.cond (t := true) rfl ?_
      refine WP.seq ?_
      refine WP.reg ?_
      refine WO.valS (v := .int .i64 (k : Int)) rfl ?_
      refine WO.nil ?_
      refine WP.ret ?_
      exact ⟨_, (res_cons (res_tmp (v := .int .i64 (k : Int)) rfl) (res_nil _ _)), .inr ⟨k, x, rfl, hx, hP, hno⟩, rfl⟩
  · replace c1 : ¬ (k < ns.length) := by omega
    refine WO.nil ?_
    refine WP.seq ?_
    refine WP.cond (t := false) rfl ?_
    refine WP.exit ?_
    refine WP.seq ?_
    refine WP.reg ?_
    refine WO.valS (v := .int .i64 (-1)) rfl ?_
    refine WO.nil ?_
    refine WP.ret ?_
    exact ⟨_, (res_cons (res_tmp (v := .int .i64 (-1)) rfl) (res_nil _ _)), .inl ⟨rfl, fun y hy => hno y (by rw [List.take_of_length_le (by omega)]; exact hy)⟩, rfl⟩

theorem order_c (D : HasOd c) {fs : List Fact} {h : Heap} {v : V} {G : Gr} (g : GdN G) (st : St (.stb (fun h => NRows h v G) :: fs) h) :
    RunP c 6 [v] h fun v1 h1 => ∃ vo vc C0 R0 O, v1 = .tup [vo, vc, .int .i64 0] ∧ C0 = sortB (circK (wayG G) G G.length) ∧ R0 = sortB (restK (wayG G) G G.length) ∧ OrdR (rdyB (wayG G)) C0 R0 O ∧ St (.stb (fun h => Rows 1 h vo (SR O)) :: .stb (fun h => Rows 1 h vc (SR C0)) :: .stb (fun h => NRows h v G) :: fs) h1 := by
  have hG8 := g.few
  refine RunP.fun_ D.f6 rfl ?_
  refine WP.seq ?_
  refine WP.reg ?_
  refine WO.valS (v := .slN) rfl ?_
  refine WO.valS (v := .slN) rfl ?_
  refine WO.valS (v := .int .i64 0) rfl ?_
  refine WO.nil ?_
  refine WP.seq ?_
  refine WP.reg ?_
  refine WO.callFS rfl (ways_c D.fm.w g st) ?_
  rintro _ h ⟨m, vs, rfl, st⟩
  have hvl : vs.length = G.length := by have := (st.stb_at 0 rfl).rows.len; rw [this, tosG_len]; unfold wayG; rw [List.length_map]
  obtain ⟨us, hul, st⟩ := St.exN (st.pick 1 rfl)
  replace st : St (.stb (fun h => Rows 2 h v (NR G us)) :: .stb (fun h => TRows h (tosG G) us) :: .stb (fun h => WaysV h m (wayG G) vs) :: fs) h := st
  refine WO.nil ?_
  refine WP.seq ?_
  refine WP.seq ?_
  refine WP.reg ?_
  refine WO.val (v := .int .i64 (G.length : Int)) ((L.lenK rfl (st.stb_at 2 rfl).map).trans (by rw [List.length_zip, nmsG_len, show (wayG G).length = G.length from List.length_map _, hvl, Nat.min_self])) ?_
  refine WO.val (v := .int .i64 (G.length : Int)) (L.llenRn rfl (st.stb_at 0 rfl) (NR_len hul)) ?_
  refine WO.ifS (L.lss rfl rfl) (fun c1 => by exfalso; omega) (fun c1 => ?_)
  refine WO.nil ?_
  refine WP.cond (t := false) rfl ?_
  refine WP.skip ?_
  refine WP.seq ?_
  refine WP.reg ?_
  refine WO.mapF st (fun mn h st => ?_)
  replace st : St ((MapF mn (nK ([]))) :: .stb (fun h => Rows 2 h v (NR G us)) :: .stb (fun h => TRows h (tosG G) us) :: .stb (fun h => WaysV h m (wayG G) vs) :: fs) h := st
  refine WO.boxFS st L.alloc (fun p1 h (st : St (.box p1 [.mapN] :: (MapF mn (nK ([]))) :: .stb (fun h => Rows 2 h v (NR G us)) :: .stb (fun h => TRows h (tosG G) us) :: .stb (fun h => WaysV h m (wayG G) vs) :: fs) h) => ?_)
  refine WO.storeF (row' := [.map mn]) st 0 rfl rfl rfl rfl rfl rfl rfl (fun h (st : St (.box p1 [.map mn] :: (MapF mn (nK ([]))) :: .stb (fun h => Rows 2 h v (NR G us)) :: .stb (fun h => TRows h (tosG G) us) :: .stb (fun h => WaysV h m (wayG G) vs) :: fs) h) => ?_)
  refine WO.nil ?_
  refine WP.seq ?_
  refine WP.reg ?_
  refine WO.valS (v := .slN) rfl ?_
  refine WO.nil ?_
  refine WP.seq ?_
  refine WP.seq ?_
  refine WP.reg ?_
  refine WO.valS (v := v) rfl ?_
  refine WO.valS (v := .int .i64 (G.length : Int)) (L.llenRn rfl (st.stb_at 2 rfl) (NR_len hul)) ?_
  refine WO.valS (v := .int .i64 0) rfl ?_
  refine WO.nil ?_
  refine WP.block ?_
  replace st : St (.acu ([]) 0 1 .slN ([]) :: .acu ([]) 0 1 .slN ([]) :: .stb (fun h => KaAt h ([])) :: .box p1 [.map mn] :: (MapF mn (nK ([]))) :: .stb (fun h => Rows 2 h v (NR G us)) :: .stb (fun h => TRows h (tosG G) us) :: .stb (fun h => WaysV h m (wayG G) vs) :: fs) h := St.acu0 (St.acu0 (st.triv (P := fun h => KaAt h []) fun h q hq => by cases hq) 1) 1
  refine WP.loopG (α := Nat) (fun i env h => ∃ br fr vr bc fc vc K x8 x10 x11 x12, (i ≤ G.length ∧ OI (wayG G) G i K) ∧ env = argsP [v, .slN, vc, .int .i64 0, .map m, .bool false, .int .i64 (i : Int), .int .i64 (G.length : Int), x8, v, x10, x11, x12, .ptr p1 0, vr] 0 Env.nil ∧ St (.acu br fr 1 vr (SR (restK (wayG G) G i)) :: .acu bc fc 1 vc (SR (circK (wayG G) G i)) :: .stb (fun h => KaAt h K) :: .box p1 [.map mn] :: (MapF mn (nK K)) :: .stb (fun h => Rows 2 h v (NR G us)) :: .stb (fun h => TRows h (tosG G) us) :: .stb (fun h => WaysV h m (wayG G) vs) :: fs) h) (fun i => G.length - i) 0 ?_ ?_
  · exact ⟨[], 0, .slN, [], 0, .slN, [], .bot, .bot, .bot, .bot, ⟨Nat.zero_le _, OI.start _ _⟩, by kernel_rfl, st⟩
  rintro i _ h ⟨br, fr, vr, bc, fc, vc, K, x8, x10, x11, x12, ⟨hi, oi⟩, rfl, st⟩
  replace st : St (.acu br fr 1 vr (SR (restK (wayG G) G i)) :: .acu bc fc 1 vc (SR (circK (wayG G) G i)) :: .stb (fun h => KaAt h K) :: .box p1 [.map mn] :: (MapF mn (nK K)) :: .stb (fun h => Rows 2 h v (NR G us)) :: .stb (fun h => TRows h (tosG G) us) :: .stb (fun h => WaysV h m (wayG G) vs) :: fs) h := st
  refine WP.seq ?_
  refine WP.reg ?_
  refine WO.ifS (L.lss rfl rfl) (fun c1 => ?_) (fun c1 => ?_)
  · replace c1 : i < G.length := by omega
    obtain ⟨p, hp⟩ : ∃ p, G[i]? = some p := ⟨G[i]'(by omega), List.getElem?_eq_getElem (by omega)⟩
    obtain ⟨u, hu⟩ : ∃ u, us[i]? = some u := ⟨us[i]'(by omega), List.getElem?_eq_getElem (by omega)⟩
    have hRl := restK_len (wayG G) G i
    have hCl := circK_len (wayG G) G i
    refine WO.nil ?_
    refine WP.seq ?_
    refine WP.cond (t := true) rfl ?_
    refine WP.skip ?_
    refine WP.seq ?_
    refine WP.block ?_
    refine WP.seq ?_
    refine WP.reg ?_
    refine WO.val (v := .ptr (slB v) (slO v + i * 2)) (L.iaddr (n := G.length) ((((st.stb_at 5 rfl).sl (show i < (NR G us).length by rw [NR_len hul]; exact c1)).trans (by rw [NR_len hul]))) rfl c1) ?_
    refine WO.val (v := .agg [L.str p.1, u]) (L.loadn rfl ((st.stb_at 5 rfl).loadnZ (NR_at hp hu))) ?_
    refine WO.boxFS st L.alloc (fun bx h (st : St (.box bx [.str 0 0, .slN] :: .acu br fr 1 vr (SR (restK (wayG G) G i)) :: .acu bc fc 1 vc (SR (circK (wayG G) G i)) :: .stb (fun h => KaAt h K) :: .box p1 [.map mn] :: (MapF mn (nK K)) :: .stb (fun h => Rows 2 h v (NR G us)) :: .stb (fun h => TRows h (tosG G) us) :: .stb (fun h => WaysV h m (wayG G) vs) :: fs) h) => ?_)
    refine WO.storeF (row' := [L.str p.1, u]) st 0 rfl rfl rfl rfl rfl rfl rfl (fun h (st : St (.box bx [L.str p.1, u] :: .acu br fr 1 vr (SR (restK (wayG G) G i)) :: .acu bc fc 1 vc (SR (circK (wayG G) G i)) :: .stb (fun h => KaAt h K) :: .box p1 [.map mn] :: (MapF mn (nK K)) :: .stb (fun h => Rows 2 h v (NR G us)) :: .stb (fun h => TRows h (tosG G) us) :: .stb (fun h => WaysV h m (wayG G) vs) :: fs) h) => ?_)
    refine WO.nil ?_
    refine WP.seq ?_
    refine WP.reg ?_
    refine WO.val (v := .ptr bx 0) (L.faddr rfl) ?_
    refine WO.val (v := L.str p.1) (L.loadB rfl (st.box_at 0 rfl) rfl) ?_
    refine WO.callFS rfl (from_c D.fm (gdW_of g) ((st.pick 8 rfl) : St (.stb (fun h => WaysV h m (wayG G) vs) :: .box bx [L.str p.1, u] :: .acu br fr 1 vr (SR (restK (wayG G) G i)) :: .acu bc fc 1 vc (SR (circK (wayG G) G i)) :: .stb (fun h => KaAt h K) :: .box p1 [.map mn] :: (MapF mn (nK K)) :: .stb (fun h => Rows 2 h v (NR G us)) :: .stb (fun h => TRows h (tosG G) us) :: fs) _)) ?_
    rintro _ h ⟨mo, S, rfl, _, _, hS, st⟩
    replace st : St (.stb (fun h => MapAt h mo (ttK S)) :: .stb (fun h => WaysV h m (wayG G) vs) :: .box bx [L.str p.1, u] :: .acu br fr 1 vr (SR (restK (wayG G) G i)) :: .acu bc fc 1 vc (SR (circK (wayG G) G i)) :: .stb (fun h => KaAt h K) :: .box p1 [.map mn] :: (MapF mn (nK K)) :: .stb (fun h => Rows 2 h v (NR G us)) :: .stb (fun h => TRows h (tosG G) us) :: fs) h := st
    refine WO.nil ?_
    refine WP.seq ?_
    refine WP.reg ?_
    refine WO.val (v := .ptr bx 0) (L.faddr rfl) ?_
    refine WO.val (v := L.str p.1) (L.loadB rfl (st.box_at 2 rfl) rfl) ?_
    by_cases hin : p.1 ∈ S
    · have hc : Reach (wayG G) p.1 p.1 := (hS _).1 hin
      refine WO.valS (v := .bool true) ((L.lookK rfl rfl (st.stb_at 0 rfl)).trans (by rw [ttK_get, decide_eq_true hin])) ?_
      refine WO.nil ?_
      refine WP.cond (t := true) rfl ?_
      refine WP.reg ?_
      refine WO.val (v := .ptr bx 0) (L.faddr rfl) ?_
      refine WO.val (v := L.str p.1) (L.loadB rfl (st.box_at 2 rfl) rfl) ?_
      refine WO.bslF (rows := [[L.str p.1]]) st rfl (by decide) rfl (by simp) (fun lc1 h (st : St (.stb (fun h => Rows 1 h (.sl lc1 0 1 (some 1)) [[L.str p.1]]) :: .stb (fun h => MapAt h mo (ttK S)) :: .stb (fun h => WaysV h m (wayG G) vs) :: .box bx [L.str p.1, u] :: .acu br fr 1 vr (SR (restK (wayG G) G i)) :: .acu bc fc 1 vc (SR (circK (wayG G) G i)) :: .stb (fun h => KaAt h K) :: .box p1 [.map mn] :: (MapF mn (nK K)) :: .stb (fun h => Rows 2 h v (NR G us)) :: .stb (fun h => TRows h (tosG G) us) :: fs) h) => ?_)
      rw [← restK_in hp hc] at st
      replace st : St (.stb (fun h => Rows 1 h (.sl lc1 0 1 (some 1)) [[L.str p.1]]) :: .stb (fun h => MapAt h mo (ttK S)) :: .stb (fun h => WaysV h m (wayG G) vs) :: .box bx [L.str p.1, u] :: .acu br fr 1 vr (SR (restK (wayG G) G (i + 1))) :: .acu bc fc 1 vc (SR (circK (wayG G) G i)) :: .stb (fun h => KaAt h K) :: .box p1 [.map mn] :: (MapF mn (nK K)) :: .stb (fun h => Rows 2 h v (NR G us)) :: .stb (fun h => TRows h (tosG G) us) :: fs) h := st
      refine WO.appUS ((st.pick 5 rfl) : St (.acu bc fc 1 vc (SR (circK (wayG G) G i)) :: .stb (fun h => Rows 1 h (.sl lc1 0 1 (some 1)) [[L.str p.1]]) :: .stb (fun h => MapAt h mo (ttK S)) :: .stb (fun h => WaysV h m (wayG G) vs) :: .box bx [L.str p.1, u] :: .acu br fr 1 vr (SR (restK (wayG G) G (i + 1))) :: .stb (fun h => KaAt h K) :: .box p1 [.map mn] :: (MapF mn (nK K)) :: .stb (fun h => Rows 2 h v (NR G us)) :: .stb (fun h => TRows h (tosG G) us) :: fs) _) rfl rfl (new := [[L.str p.1]]) (st.stb_at 0 rfl) (by decide) (by rw [SR_len]; simp only [List.length_cons, List.length_nil]; omega) (fun bs1 f1 v1 h (st : St (.acu bs1 f1 1 v1 ((SR (circK (wayG G) G i)) ++ ([[L.str p.1]])) :: .stb (fun h => Rows 1 h (.sl lc1 0 1 (some 1)) [[L.str p.1]]) :: .stb (fun h => MapAt h mo (ttK S)) :: .stb (fun h => WaysV h m (wayG G) vs) :: .box bx [L.str p.1, u] :: .acu br fr 1 vr (SR (restK (wayG G) G (i + 1))) :: .stb (fun h => KaAt h K) :: .box p1 [.map mn] :: (MapF mn (nK K)) :: .stb (fun h => Rows 2 h v (NR G us)) :: .stb (fun h => TRows h (tosG G) us) :: fs) h) => ?_)
      rw [show (SR (circK (wayG G) G i)) ++ ([[L.str p.1]]) = SR (circK (wayG G) G (i + 1)) from (by rw [circK_in hp hc, SR_app]; rfl)] at st
      replace st : St (.acu bs1 f1 1 v1 (SR (circK (wayG G) G (i + 1))) :: .stb (fun h => Rows 1 h (.sl lc1 0 1 (some 1)) [[L.str p.1]]) :: .stb (fun h => MapAt h mo (ttK S)) :: .stb (fun h => WaysV h m (wayG G) vs) :: .box bx [L.str p.1, u] :: .acu br fr 1 vr (SR (restK (wayG G) G (i + 1))) :: .stb (fun h => KaAt h K) :: .box p1 [.map mn] :: (MapF mn (nK K)) :: .stb (fun h => Rows 2 h v (NR G us)) :: .stb (fun h => TRows h (tosG G) us) :: fs) h := st
      refine WO.nil ?_
      refine WP.reg ?_
      refine WO.valS (v := .int .i64 ((i + 1 : Nat) : Int)) (L.addE rfl rfl (by omega) (And.intro (by omega) (by omega))) ?_
      refine WO.nil ?_
      exact ⟨i + 1, (by omega), br, fr, vr, bs1, f1, v1, K, (.bool true), (.ptr bx 0), (.map mo), (.bool true), ⟨by omega, OI.circ oi hp hc hS⟩, by kernel_rfl, ((((((((((st.pick 1 rfl).tail.pick 1 rfl).tail.pick 2 rfl).tail.pick 7 rfl).pick 7 rfl).pick 7 rfl).pick 7 rfl).pick 7 rfl).pick 5 rfl).pick 7 rfl)⟩
    · have hc : ¬ Reach (wayG G) p.1 p.1 := fun h => hin ((hS _).2 h)
      refine WO.valS (v := .bool false) ((L.lookK rfl rfl (st.stb_at 0 rfl)).trans (by rw [ttK_get, decide_eq_false hin])) ?_
      refine WO.nil ?_
      refine WP.cond (t := false) rfl ?_
      refine WP.seq ?_
      refine WP.reg ?_
      refine WO.val (v := .map mn) (L.loadB rfl (st.box_at 6 rfl) rfl) ?_
      refine WO.val (v := .ptr bx 0) (L.faddr rfl) ?_
      refine WO.val (v := L.str p.1) (L.loadB rfl (st.box_at 2 rfl) rfl) ?_
      refine WO.mupdK (v := .map mo) (x := p.1) ((st.pick 7 rfl) : St ((MapF mn (nK K)) :: .stb (fun h => MapAt h mo (ttK S)) :: .stb (fun h => WaysV h m (wayG G) vs) :: .box bx [L.str p.1, u] :: .acu br fr 1 vr (SR (restK (wayG G) G i)) :: .acu bc fc 1 vc (SR (circK (wayG G) G i)) :: .stb (fun h => KaAt h K) :: .box p1 [.map mn] :: .stb (fun h => Rows 2 h v (NR G us)) :: .stb (fun h => TRows h (tosG G) us) :: fs) _) rfl rfl rfl (fun h st => ?_)
      rw [show putK p.1 (.map mo) (nK K) = nK (K ++ [(p.1, mo, S)]) from by rw [putK_new (OI.new g oi hp)]; unfold nK; rw [List.map_append]; rfl] at st
      replace st : St ((MapF mn (nK (K ++ [(p.1, mo, S)]))) :: .stb (fun h => MapAt h mo (ttK S)) :: .stb (fun h => WaysV h m (wayG G) vs) :: .box bx [L.str p.1, u] :: .acu br fr 1 vr (SR (restK (wayG G) G i)) :: .acu bc fc 1 vc (SR (circK (wayG G) G i)) :: .stb (fun h => KaAt h K) :: .box p1 [.map mn] :: .stb (fun h => Rows 2 h v (NR G us)) :: .stb (fun h => TRows h (tosG G) us) :: fs) h := st
      replace st : St (.stb (fun h => KaAt h (K ++ [(p.1, mo, S)])) :: (MapF mn (nK (K ++ [(p.1, mo, S)]))) :: .stb (fun h => WaysV h m (wayG G) vs) :: .box bx [L.str p.1, u] :: .acu br fr 1 vr (SR (restK (wayG G) G i)) :: .acu bc fc 1 vc (SR (circK (wayG G) G i)) :: .box p1 [.map mn] :: .stb (fun h => Rows 2 h v (NR G us)) :: .stb (fun h => TRows h (tosG G) us) :: fs) h := (St.and (((st.pick 6 rfl).pick 2 rfl))).imp0 fun h hx => KaAt.snoc hx.1 hx.2
      refine WO.nil ?_
      refine WP.reg ?_
      refine WO.val (v := .ptr bx 0) (L.faddr rfl) ?_
      refine WO.val (v := L.str p.1) (L.loadB rfl (st.box_at 3 rfl) rfl) ?_
      refine WO.bslF (rows := [[L.str p.1]]) st rfl (by decide) rfl (by simp) (fun lr1 h (st : St (.stb (fun h => Rows 1 h (.sl lr1 0 1 (some 1)) [[L.str p.1]]) :: .stb (fun h => KaAt h (K ++ [(p.1, mo, S)])) :: (MapF mn (nK (K ++ [(p.1, mo, S)]))) :: .stb (fun h => WaysV h m (wayG G) vs) :: .box bx [L.str p.1, u] :: .acu br fr 1 vr (SR (restK (wayG G) G i)) :: .acu bc fc 1 vc (SR (circK (wayG G) G i)) :: .box p1 [.map mn] :: .stb (fun h => Rows 2 h v (NR G us)) :: .stb (fun h => TRows h (tosG G) us) :: fs) h) => ?_)
      rw [← circK_out hp hc] at st
      replace st : St (.stb (fun h => Rows 1 h (.sl lr1 0 1 (some 1)) [[L.str p.1]]) :: .stb (fun h => KaAt h (K ++ [(p.1, mo, S)])) :: (MapF mn (nK (K ++ [(p.1, mo, S)]))) :: .stb (fun h => WaysV h m (wayG G) vs) :: .box bx [L.str p.1, u] :: .acu br fr 1 vr (SR (restK (wayG G) G i)) :: .acu bc fc 1 vc (SR (circK (wayG G) G (i + 1))) :: .box p1 [.map mn] :: .stb (fun h => Rows 2 h v (NR G us)) :: .stb (fun h => TRows h (tosG G) us) :: fs) h := st
      refine WO.appUS ((st.pick 5 rfl) : St (.acu br fr 1 vr (SR (restK (wayG G) G i)) :: .stb (fun h => Rows 1 h (.sl lr1 0 1 (some 1)) [[L.str p.1]]) :: .stb (fun h => KaAt h (K ++ [(p.1, mo, S)])) :: (MapF mn (nK (K ++ [(p.1, mo, S)]))) :: .stb (fun h => WaysV h m (wayG G) vs) :: .box bx [L.str p.1, u] :: .acu bc fc 1 vc (SR (circK (wayG G) G (i + 1))) :: .box p1 [.map mn] :: .stb (fun h => Rows 2 h v (NR G us)) :: .stb (fun h => TRows h (tosG G) us) :: fs) _) rfl rfl (new := [[L.str p.1]]) (st.stb_at 0 rfl) (by decide) (by rw [SR_len]; simp only [List.length_cons, List.length_nil]; omega) (fun bs2 f2 v2 h (st : St (.acu bs2 f2 1 v2 ((SR (restK (wayG G) G i)) ++ ([[L.str p.1]])) :: .stb (fun h => Rows 1 h (.sl lr1 0 1 (some 1)) [[L.str p.1]]) :: .stb (fun h => KaAt h (K ++ [(p.1, mo, S)])) :: (MapF mn (nK (K ++ [(p.1, mo, S)]))) :: .stb (fun h => WaysV h m (wayG G) vs) :: .box bx [L.str p.1, u] :: .acu bc fc 1 vc (SR (circK (wayG G) G (i + 1))) :: .box p1 [.map mn] :: .stb (fun h => Rows 2 h v (NR G us)) :: .stb (fun h => TRows h (tosG G) us) :: fs) h) => ?_)
      rw [show (SR (restK (wayG G) G i)) ++ ([[L.str p.1]]) = SR (restK (wayG G) G (i + 1)) from (by rw [restK_out hp hc, SR_app]; rfl)] at st
      replace st : St (.acu bs2 f2 1 v2 (SR (restK (wayG G) G (i + 1))) :: .stb (fun h => Rows 1 h (.sl lr1 0 1 (some 1)) [[L.str p.1]]) :: .stb (fun h => KaAt h (K ++ [(p.1, mo, S)])) :: (MapF mn (nK (K ++ [(p.1, mo, S)]))) :: .stb (fun h => WaysV h m (wayG G) vs) :: .box bx [L.str p.1, u] :: .acu bc fc 1 vc (SR (circK (wayG G) G (i + 1))) :: .box p1 [.map mn] :: .stb (fun h => Rows 2 h v (NR G us)) :: .stb (fun h => TRows h (tosG G) us) :: fs) h := st
      refine WO.nil ?_
      refine WP.reg ?_
      refine WO.valS (v := .int .i64 ((i + 1 : Nat) : Int)) (L.addE rfl rfl (by omega) (And.intro (by omega) (by omega))) ?_
      refine WO.nil ?_
      exact ⟨i + 1, (by omega), bs2, f2, v2, bc, fc, vc, (K ++ [(p.1, mo, S)]), (.bool true), (.ptr bx 0), (.map mo), (.bool false), ⟨by omega, OI.rest oi hp hc hS⟩, by kernel_rfl, (((((((((st.pick 1 rfl).tail.pick 4 rfl).tail.pick 7 rfl).pick 7 rfl).pick 4 rfl).pick 7 rfl).pick 5 rfl).pick 7 rfl).pick 6 rfl)⟩
  · replace c1 : ¬ i < G.length := by omega
    have ei : i = G.length := by omega
    rw [ei] at st oi
    rw [ei]
    have hRl := restK_len (wayG G) G G.length
    have hCl := circK_len (wayG G) G G.length
    replace st : St (.acu br fr 1 vr (SR (restK (wayG G) G G.length)) :: .acu bc fc 1 vc (SR (circK (wayG G) G G.length)) :: .stb (fun h => KaAt h K) :: .box p1 [.map mn] :: (MapF mn (nK K)) :: .stb (fun h => Rows 2 h v (NR G us)) :: .stb (fun h => TRows h (tosG G) us) :: .stb (fun h => WaysV h m (wayG G) vs) :: fs) h := st
    refine WO.nil ?_
    refine WP.seq ?_
    refine WP.cond (t := false) rfl ?_
    refine WP.exit ?_
    refine WP.seq ?_
    refine WP.reg ?_
    refine WO.callF rfl (sort_runs D.f14 (ss := circK (wayG G) G G.length) (by omega) ((st.pick 1 rfl) : St (.acu bc fc 1 vc (SR (circK (wayG G) G G.length)) :: .acu br fr 1 vr (SR (restK (wayG G) G G.length)) :: .stb (fun h => KaAt h K) :: .box p1 [.map mn] :: (MapF mn (nK K)) :: .stb (fun h => Rows 2 h v (NR G us)) :: .stb (fun h => TRows h (tosG G) us) :: .stb (fun h => WaysV h m (wayG G) vs) :: fs) _)) ?_
    rintro _ h st
    replace st : St (.acu bc fc 1 vc (SR (sortB (circK (wayG G) G G.length))) :: .acu br fr 1 vr (SR (restK (wayG G) G G.length)) :: .stb (fun h => KaAt h K) :: .box p1 [.map mn] :: (MapF mn (nK K)) :: .stb (fun h => Rows 2 h v (NR G us)) :: .stb (fun h => TRows h (tosG G) us) :: .stb (fun h => WaysV h m (wayG G) vs) :: fs) h := st
    refine WO.nil ?_
    refine WP.seq ?_
    refine WP.reg ?_
    refine WO.callF rfl (sort_runs D.f14 (ss := restK (wayG G) G G.length) (by omega) ((st.pick 1 rfl) : St (.acu br fr 1 vr (SR (restK (wayG G) G G.length)) :: .acu bc fc 1 vc (SR (sortB (circK (wayG G) G G.length))) :: .stb (fun h => KaAt h K) :: .box p1 [.map mn] :: (MapF mn (nK K)) :: .stb (fun h => Rows 2 h v (NR G us)) :: .stb (fun h => TRows h (tosG G) us) :: .stb (fun h => WaysV h m (wayG G) vs) :: fs) _)) ?_
    rintro _ h st
    replace st : St (.acu br fr 1 vr (SR (sortB (restK (wayG G) G G.length))) :: .acu bc fc 1 vc (SR (sortB (circK (wayG G) G G.length))) :: .stb (fun h => KaAt h K) :: .box p1 [.map mn] :: (MapF mn (nK K)) :: .stb (fun h => Rows 2 h v (NR G us)) :: .stb (fun h => TRows h (tosG G) us) :: .stb (fun h => WaysV h m (wayG G) vs) :: fs) h := st
    refine WO.nil ?_
    refine WP.seq ?_
    refine WP.reg ?_
    obtain ⟨C0, hC0⟩ : ∃ C0, C0 = sortB (circK (wayG G) G G.length) := ⟨_, rfl⟩
    obtain ⟨R0, hR0⟩ : ∃ R0, R0 = sortB (restK (wayG G) G G.length) := ⟨_, rfl⟩
    have hC0l : C0.length ≤ 8 := by rw [hC0, (sortB_perm _).length_eq]; have := g.few; omega
    have hR0l : R0.length ≤ 8 := by rw [hR0, (sortB_perm _).length_eq]; have := g.few; omega
    rw [← hC0, ← hR0] at st
    replace st : St (.acu br fr 1 vr (SR R0) :: .acu bc fc 1 vc (SR C0) :: .stb (fun h => KaAt h K) :: .box p1 [.map mn] :: (MapF mn (nK K)) :: .stb (fun h => Rows 2 h v (NR G us)) :: .stb (fun h => TRows h (tosG G) us) :: .stb (fun h => WaysV h m (wayG G) vs) :: fs) h := st
    refine WO.mapF st (fun md h st => ?_)
    replace st : St ((MapF md (ttK ([]))) :: .acu br fr 1 vr (SR R0) :: .acu bc fc 1 vc (SR C0) :: .stb (fun h => KaAt h K) :: .box p1 [.map mn] :: (MapF mn (nK K)) :: .stb (fun h => Rows 2 h v (NR G us)) :: .stb (fun h => TRows h (tosG G) us) :: .stb (fun h => WaysV h m (wayG G) vs) :: fs) h := st
    refine WO.boxFS st L.alloc (fun p2 h (st : St (.box p2 [.mapN] :: (MapF md (ttK ([]))) :: .acu br fr 1 vr (SR R0) :: .acu bc fc 1 vc (SR C0) :: .stb (fun h => KaAt h K) :: .box p1 [.map mn] :: (MapF mn (nK K)) :: .stb (fun h => Rows 2 h v (NR G us)) :: .stb (fun h => TRows h (tosG G) us) :: .stb (fun h => WaysV h m (wayG G) vs) :: fs) h) => ?_)
    refine WO.storeF (row' := [.map md]) st 0 rfl rfl rfl rfl rfl rfl rfl (fun h (st : St (.box p2 [.map md] :: (MapF md (ttK ([]))) :: .acu br fr 1 vr (SR R0) :: .acu bc fc 1 vc (SR C0) :: .stb (fun h => KaAt h K) :: .box p1 [.map mn] :: (MapF mn (nK K)) :: .stb (fun h => Rows 2 h v (NR G us)) :: .stb (fun h => TRows h (tosG G) us) :: .stb (fun h => WaysV h m (wayG G) vs) :: fs) h) => ?_)
    refine WO.nil ?_
    refine WP.seq ?_
    refine WP.seq ?_
    refine WP.reg ?_
    refine WO.valS (v := vc) rfl ?_
    refine WO.valS (v := .int .i64 (C0.length : Int)) (L.llenRn rfl (st.acuRows 3 rfl (by decide)) (SR_len _)) ?_
    refine WO.valS (v := .int .i64 0) rfl ?_
    refine WO.nil ?_
    refine WP.block ?_
    refine WP.loopG (α := Nat) (fun k env h => ∃ x17 x20, (k ≤ C0.length) ∧ env = argsP [v, .slN, vc, .int .i64 0, .map m, .bool false, .int .i64 (G.length : Int), .int .i64 (G.length : Int), .bool false, v, x10, x11, x12, .ptr p1 0, vr, .int .i64 (k : Int), .int .i64 (C0.length : Int), x17, vc, .ptr p2 0, x20] 0 Env.nil ∧ St ((MapF md (ttK (C0.take k))) :: .box p2 [.map md] :: .acu br fr 1 vr (SR R0) :: .acu bc fc 1 vc (SR C0) :: .stb (fun h => KaAt h K) :: .box p1 [.map mn] :: (MapF mn (nK K)) :: .stb (fun h => WaysV h m (wayG G) vs) :: .stb (fun h => Rows 2 h v (NR G us)) :: .stb (fun h => TRows h (tosG G) us) :: fs) h) (fun k => C0.length - k) 0 ?_ ?_
    · exact ⟨.bot, .bot, Nat.zero_le _, by kernel_rfl, ((((((((st.pick 9 rfl).pick 7 rfl).pick 7 rfl).pick 7 rfl).pick 7 rfl).pick 7 rfl).pick 6 rfl).pick 7 rfl)⟩
    rintro k _ h ⟨x17, x20, hk, rfl, st⟩
    replace st : St ((MapF md (ttK (C0.take k))) :: .box p2 [.map md] :: .acu br fr 1 vr (SR R0) :: .acu bc fc 1 vc (SR C0) :: .stb (fun h => KaAt h K) :: .box p1 [.map mn] :: (MapF mn (nK K)) :: .stb (fun h => WaysV h m (wayG G) vs) :: .stb (fun h => Rows 2 h v (NR G us)) :: .stb (fun h => TRows h (tosG G) us) :: fs) h := st
    refine WP.seq ?_
    refine WP.reg ?_
    refine WO.ifS (L.lss rfl rfl) (fun c1 => ?_) (fun c1 => ?_)
    · replace c1 : k < C0.length := by omega
      obtain ⟨x, hx⟩ : ∃ y, C0[k]? = some y := ⟨C0[k]'(by omega), List.getElem?_eq_getElem (by omega)⟩
      refine WO.nil ?_
      refine WP.seq ?_
      refine WP.cond (t := true) rfl ?_
      refine WP.skip ?_
      refine WP.seq ?_
      refine WP.block ?_
      refine WP.seq ?_
      refine WP.reg ?_
      refine WO.val (v := .ptr (slB vc) (slO vc + k * 1)) (L.iaddrZ (st.acuRows 3 rfl (by decide)) (by rw [SR_len]; omega) rfl rfl) ?_
      refine WO.valS (v := L.str x) (L.load rfl ((st.acuRows 3 rfl (by decide)).load1Z (SR_at hx))) ?_
      refine WO.nil ?_
      refine WP.reg ?_
      refine WO.val (v := .map md) (L.loadB rfl (st.box_at 1 rfl) rfl) ?_
      refine WO.mupdK (v := .bool true) (x := x) st rfl rfl rfl (fun h st => ?_)
      rw [ttK_put (circ_new g hC0 hx), ← take_next hx] at st
      replace st : St ((MapF md (ttK (C0.take (k + 1)))) :: .box p2 [.map md] :: .acu br fr 1 vr (SR R0) :: .acu bc fc 1 vc (SR C0) :: .stb (fun h => KaAt h K) :: .box p1 [.map mn] :: (MapF mn (nK K)) :: .stb (fun h => WaysV h m (wayG G) vs) :: .stb (fun h => Rows 2 h v (NR G us)) :: .stb (fun h => TRows h (tosG G) us) :: fs) h := st
      refine WO.nil ?_
      refine WP.reg ?_
      refine WO.valS (v := .int .i64 ((k + 1 : Nat) : Int)) (L.addE rfl rfl (by omega) (And.intro (by omega) (by omega))) ?_
      refine WO.nil ?_
      exact ⟨k + 1, (by omega), (.bool true), (L.str x), by omega, by kernel_rfl, st⟩
    · have ek : k = C0.length := by omega
      rw [List.take_of_length_le (by omega)] at st
      rw [ek]
      replace st : St ((MapF md (ttK C0)) :: .box p2 [.map md] :: .acu br fr 1 vr (SR R0) :: .acu bc fc 1 vc (SR C0) :: .stb (fun h => KaAt h K) :: .box p1 [.map mn] :: (MapF mn (nK K)) :: .stb (fun h => WaysV h m (wayG G) vs) :: .stb (fun h => Rows 2 h v (NR G us)) :: .stb (fun h => TRows h (tosG G) us) :: fs) h := st
      refine WO.nil ?_
      refine WP.seq ?_
      refine WP.cond (t := false) rfl ?_
      refine WP.exit ?_
      refine WP.seq ?_
      refine WP.reg ?_
      refine WO.valS (v := .fn 15 [] [.ptr p1 0, .ptr p2 0]) rfl ?_
      refine WO.nil ?_
      refine WP.seq ?_
      refine WP.block ?_
      replace st : St (.acc 0 1 .slN (SR []) :: (MapF md (ttK C0)) :: .box p2 [.map md] :: .acu br fr 1 vr (SR R0) :: .acu bc fc 1 vc (SR C0) :: .stb (fun h => KaAt h K) :: .box p1 [.map mn] :: (MapF mn (nK K)) :: .stb (fun h => WaysV h m (wayG G) vs) :: .stb (fun h => Rows 2 h v (NR G us)) :: .stb (fun h => TRows h (tosG G) us) :: fs) h := st.acc0 1
      refine WP.loopG (α := Nat) (fun n env h => ∃ D1 R O br fr vr fo vo x21 x23 x24, (LI (wayG G) C0 R0 D1 R O ∧ n = R.length) ∧ env = argsP [v, vo, vc, .int .i64 0, .map m, .bool false, .int .i64 (G.length : Int), .int .i64 (G.length : Int), .bool false, v, x10, x11, x12, .ptr p1 0, vr, .int .i64 (C0.length : Int), .int .i64 (C0.length : Int), .bool false, vc, .ptr p2 0, x20, x21, .fn 15 [] [.ptr p1 0, .ptr p2 0], x23, x24] 0 Env.nil ∧ St (.acc fo 1 vo (SR O) :: (MapF md (ttK D1)) :: .box p2 [.map md] :: .acu br fr 1 vr (SR R) :: .acu bc fc 1 vc (SR C0) :: .stb (fun h => KaAt h K) :: .box p1 [.map mn] :: (MapF mn (nK K)) :: .stb (fun h => WaysV h m (wayG G) vs) :: .stb (fun h => Rows 2 h v (NR G us)) :: .stb (fun h => TRows h (tosG G) us) :: fs) h) (fun n => n) R0.length ?_ ?_
      · exact ⟨C0, R0, [], br, fr, vr, 0, .slN, .bot, .bot, .bot, ⟨LI.start g hC0 hR0, rfl⟩, by kernel_rfl, st⟩
      rintro n _ h ⟨D1, R, O, br, fr, vr, fo, vo, x21, x23, x24, ⟨li, hn_⟩, rfl, st⟩
      replace st : St (.acc fo 1 vo (SR O) :: (MapF md (ttK D1)) :: .box p2 [.map md] :: .acu br fr 1 vr (SR R) :: .acu bc fc 1 vc (SR C0) :: .stb (fun h => KaAt h K) :: .box p1 [.map mn] :: (MapF mn (nK K)) :: .stb (fun h => WaysV h m (wayG G) vs) :: .stb (fun h => Rows 2 h v (NR G us)) :: .stb (fun h => TRows h (tosG G) us) :: fs) h := st
      refine WP.seq ?_
      refine WP.seq ?_
      refine WP.reg ?_
      refine WO.val (v := .int .i64 (R.length : Int)) (L.llenRn rfl (st.acuRows 3 rfl (by decide)) (SR_len _)) ?_
      have hRl8 : R.length ≤ 8 := by have := li.short; omega
      refine WO.ifS (L.gtr rfl rfl) (fun c1 => ?_) (fun c1 => ?_)
      · replace c1 : 0 < R.length := by omega
        obtain ⟨b, rfl⟩ := acu_sl (n := R.length) (st.acu_at 3 rfl) (SR_len _) (by omega)
        replace st : St (.acc fo 1 vo (SR O) :: (MapF md (ttK D1)) :: .box p2 [.map md] :: .acu br fr 1 (.sl b 0 R.length none) (SR R) :: .acu bc fc 1 vc (SR C0) :: .stb (fun h => KaAt h K) :: .box p1 [.map mn] :: (MapF mn (nK K)) :: .stb (fun h => WaysV h m (wayG G) vs) :: .stb (fun h => Rows 2 h v (NR G us)) :: .stb (fun h => TRows h (tosG G) us) :: fs) h := st
        refine WO.nil ?_
        refine WP.cond (t := true) rfl ?_
        refine WP.skip ?_
        refine WP.block ?_
        refine WP.seq ?_
        refine WP.reg ?_
        refine WO.callFS rfl (index_g D (P := rdyB (wayG G) D1) (by omega) (st.acuRows 3 rfl (by decide)) (fun x hx => ?_)) ?_
        · obtain ⟨q, hq, rfl⟩ := oi.find hR0 (li.sub x hx)
          have hr := rdy_c D.f15 (L.load1_box (st.box_at 6 rfl) rfl) (L.load1_box (st.box_at 2 rfl) rfl) (st.mapAt 7 rfl) (st.mapAt 1 rfl) (oi.get g hq) (st.stb_at 5 rfl q hq)
          rw [show decide (∀ y ∈ q.2.2, y ∈ D1) = rdyB (wayG G) D1 q.1 from oi.rdy hq D1] at hr
          exact hr
        rintro v1 h ⟨hv, rfl⟩
        rcases hv with ⟨rfl, hno⟩ | ⟨k, x, rfl, hx, hP, hno⟩
        · refine WO.nil ?_
          refine WP.seq ?_
          refine WP.seq ?_
          refine WP.reg ?_
          refine WO.ifS (L.lss rfl rfl) (fun _ => ?_) (fun c9 => by exfalso; omega)
          refine WO.nil ?_
          refine WP.cond (t := true) rfl ?_
          refine WP.exit ?_
          refine WP.seq ?_
          refine WP.reg ?_
          refine WO.valS (v := .int .i64 0) rfl ?_
          refine WO.nil ?_
          refine WP.ret ?_
          have hfin : OrdR (rdyB (wayG G)) C0 R0 O := li.none hno
          have s2 := (st).shut (by decide)
          have s3 := ((s2.pick 4 rfl)).shutU (by decide)
          have s4 := ((((((((s3.pick 2 rfl).tail.pick 2 rfl).tail.pick 2 rfl).tail.pick 2 rfl).tail.pick 2 rfl).tail.pick 2 rfl).tail.pick 2 rfl).tail.pick 1 rfl)
          have s5 := ((St.and ((s4.pick 2 rfl).pick 3 rfl |> fun s => s)).imp0 (Q := fun h => NRows h v G) fun h hx => ⟨us, hx.2, hx.1⟩)
          exact ⟨_, (res_cons (res_tmp (v := vo) rfl) (res_cons (res_tmp (v := vc) rfl) (res_cons (res_tmp (v := .int .i64 0) rfl) (res_nil _ _)))), _, _, C0, R0, O, rfl, hC0, hR0, hfin, ((s5.pick 2 rfl).pick 2 rfl)⟩
        · have hkl : k < R.length := (List.getElem?_eq_some_iff.1 hx).1
          refine WO.nil ?_
          refine WP.seq ?_
          refine WP.seq ?_
          refine WP.reg ?_
          refine WO.ifS (L.lss rfl rfl) (fun c9 => by exfalso; omega) (fun _ => ?_)
          refine WO.nil ?_
          refine WP.cond (t := false) rfl ?_
          refine WP.skip ?_
          refine WP.seq ?_
          refine WP.draw ?_
          refine WD.val (v := .map md) (L.loadB rfl (st.box_at 2 rfl) rfl) ?_
          refine WD.val (v := .sl b 0 R.length none) rfl ?_
          refine WD.val (v := .int .i64 (k : Int)) rfl ?_
          refine WD.val (v := .ptr b (0 + k * 1)) (L.iaddr rfl rfl hkl) ?_
          refine WD.val (v := L.str x) (L.load rfl ((st.acuRows 3 rfl (by decide)).load1 (SR_at hx))) ?_
          refine WD.mupdK (v := .bool true) (x := x) ((st.pick 1 rfl) : St ((MapF md (ttK D1)) :: .acc fo 1 vo (SR O) :: .box p2 [.map md] :: .acu br fr 1 (.sl b 0 R.length none) (SR R) :: .acu bc fc 1 vc (SR C0) :: .stb (fun h => KaAt h K) :: .box p1 [.map mn] :: (MapF mn (nK K)) :: .stb (fun h => WaysV h m (wayG G) vs) :: .stb (fun h => Rows 2 h v (NR G us)) :: .stb (fun h => TRows h (tosG G) us) :: fs) _) rfl rfl rfl (fun h st => rfl) (fun h st => ?_)
          rw [ttK_put (li.disj x (List.mem_of_getElem? hx))] at st
          replace st : St ((MapF md (ttK (D1 ++ [x]))) :: .acc fo 1 vo (SR O) :: .box p2 [.map md] :: .acu br fr 1 (.sl b 0 R.length none) (SR R) :: .acu bc fc 1 vc (SR C0) :: .stb (fun h => KaAt h K) :: .box p1 [.map mn] :: (MapF mn (nK K)) :: .stb (fun h => WaysV h m (wayG G) vs) :: .stb (fun h => Rows 2 h v (NR G us)) :: .stb (fun h => TRows h (tosG G) us) :: fs) h := st
          refine WD.nil ?_
          refine WP.seq ?_
          refine WP.reg ?_
          refine WO.val (v := .ptr b (0 + k * 1)) (L.iaddr rfl rfl hkl) ?_
          refine WO.val (v := L.str x) (L.load rfl ((st.acuRows 3 rfl (by decide)).load1 (SR_at hx))) ?_
          refine WO.bslF (rows := [[L.str x]]) st rfl (by decide) rfl (by simp) (fun bo1 h (st : St (.stb (fun h => Rows 1 h (.sl bo1 0 1 (some 1)) [[L.str x]]) :: (MapF md (ttK (D1 ++ [x]))) :: .acc fo 1 vo (SR O) :: .box p2 [.map md] :: .acu br fr 1 (.sl b 0 R.length none) (SR R) :: .acu bc fc 1 vc (SR C0) :: .stb (fun h => KaAt h K) :: .box p1 [.map mn] :: (MapF mn (nK K)) :: .stb (fun h => WaysV h m (wayG G) vs) :: .stb (fun h => Rows 2 h v (NR G us)) :: .stb (fun h => TRows h (tosG G) us) :: fs) h) => ?_)
          refine WO.appFS st 2 rfl rfl rfl (st.stb_at 0 rfl) (by decide) (by rw [SR_len]; have := li.shortO; simp only [List.length_cons, List.length_nil]; omega) (fun fo2 vo2 h st => ?_)
          rw [show SR O ++ [[L.str x]] = SR (O ++ [x]) from by rw [SR_app]; rfl] at st
          replace st : St (.stb (fun h => Rows 1 h (.sl bo1 0 1 (some 1)) [[L.str x]]) :: (MapF md (ttK (D1 ++ [x]))) :: .acc fo2 1 vo2 (SR (O ++ [x])) :: .box p2 [.map md] :: .acu br fr 1 (.sl b 0 R.length none) (SR R) :: .acu bc fc 1 vc (SR C0) :: .stb (fun h => KaAt h K) :: .box p1 [.map mn] :: (MapF mn (nK K)) :: .stb (fun h => WaysV h m (wayG G) vs) :: .stb (fun h => Rows 2 h v (NR G us)) :: .stb (fun h => TRows h (tosG G) us) :: fs) h := st
          refine WO.nil ?_
          refine WP.reg ?_
          refine WO.val (v := .int .i64 ((k + 1 : Nat) : Int)) (L.addE rfl rfl (by omega) (And.intro (by omega) (by omega))) ?_
          refine WO.callFS rfl (delete_c D hkl (by omega) ((st.pick 4 rfl) : St (.acu br fr 1 (.sl b 0 R.length none) (SR R) :: .stb (fun h => Rows 1 h (.sl bo1 0 1 (some 1)) [[L.str x]]) :: (MapF md (ttK (D1 ++ [x]))) :: .acc fo2 1 vo2 (SR (O ++ [x])) :: .box p2 [.map md] :: .acu bc fc 1 vc (SR C0) :: .stb (fun h => KaAt h K) :: .box p1 [.map mn] :: (MapF mn (nK K)) :: .stb (fun h => WaysV h m (wayG G) vs) :: .stb (fun h => Rows 2 h v (NR G us)) :: .stb (fun h => TRows h (tosG G) us) :: fs) _)) ?_
          rintro _ h ⟨rfl, st⟩
          replace st : St (.acu br fr 1 (.sl b 0 (R.length - 1) none) (SR (R.eraseIdx k)) :: .stb (fun h => Rows 1 h (.sl bo1 0 1 (some 1)) [[L.str x]]) :: (MapF md (ttK (D1 ++ [x]))) :: .acc fo2 1 vo2 (SR (O ++ [x])) :: .box p2 [.map md] :: .acu bc fc 1 vc (SR C0) :: .stb (fun h => KaAt h K) :: .box p1 [.map mn] :: (MapF mn (nK K)) :: .stb (fun h => WaysV h m (wayG G) vs) :: .stb (fun h => Rows 2 h v (NR G us)) :: .stb (fun h => TRows h (tosG G) us) :: fs) h := st
          refine WO.nil ?_
          exact ⟨_, (by rw [hn_, List.length_eraseIdx, if_pos hkl]; omega), (D1 ++ [x]), (R.eraseIdx k), (O ++ [x]), br, fr, .sl b 0 (R.length - 1) none, fo2, vo2, (.bool true), (.int .i64 (k : Int)), (.bool false), ⟨LI.next li hx hP hno, rfl⟩, by kernel_rfl, ((((st.pick 1 rfl).tail.pick 3 rfl).pick 2 rfl).pick 3 rfl)⟩
      · have hR : R = [] := List.length_eq_zero_iff.1 (by omega)
        refine WO.nil ?_
        refine WP.cond (t := false) rfl ?_
        refine WP.exit ?_
        refine WP.seq ?_
        refine WP.reg ?_
        refine WO.valS (v := .int .i64 0) rfl ?_
        refine WO.nil ?_
        refine WP.ret ?_
        have hfin : OrdR (rdyB (wayG G)) C0 R0 O := li.none (fun x hx => by rw [hR] at hx; cases hx)
        have s2 := (st).shut (by decide)
        have s3 := ((s2.pick 4 rfl)).shutU (by decide)
        have s4 := ((((((((s3.pick 2 rfl).tail.pick 2 rfl).tail.pick 2 rfl).tail.pick 2 rfl).tail.pick 2 rfl).tail.pick 2 rfl).tail.pick 2 rfl).tail.pick 1 rfl)
        have s5 := ((St.and ((s4.pick 2 rfl).pick 3 rfl |> fun s => s)).imp0 (Q := fun h => NRows h v G) fun h hx => ⟨us, hx.2, hx.1⟩)
        exact ⟨_, (res_cons (res_tmp (v := vo) rfl) (res_cons (res_tmp (v := vc) rfl) (res_cons (res_tmp (v := .int .i64 0) rfl) (res_nil _ _)))), _, _, C0, R0, O, rfl, hC0, hR0, hfin, ((s5.pick 2 rfl).pick 2 rfl)⟩

end
end Go.Eng.Ytfapefhnicdncaa
