/- Part of a proof of a law, by an evaluator that the machine follows: rules, contracts of functions, what they come to. No condition of its own. -/
import Derived.Test.YtfapefhnicdncaaConA
import Derived.Test.YtfapefhnicdncaaSymD
set_option linter.unusedVariables false
set_option linter.unusedSimpArgs false
namespace Go.Eng.Ytfapefhnicdncaa
open Go.Eng
noncomputable section
variable {c : Ctx}
/-- the functions that are told -/
structure HasWy (c : Ctx) : Prop where
  f12 : T.get 12 c.funs = some i12
theorem accL_in {gs : List Fact} {W : List (Nat × V × List Lab.Txt)} {fs : List Fact} {h : Heap} (s : St (accL W ++ (gs ++ fs)) h) : St (gs ++ (accL W ++ fs)) h := by
  refine s.perm ?_
  rw [← List.append_assoc, ← List.append_assoc]
  exact List.Perm.append_right fs List.perm_append_comm
theorem accL_out {gs : List Fact} {W : List (Nat × V × List Lab.Txt)} {fs : List Fact} {h : Heap} (s : St (gs ++ (accL W ++ fs)) h) : St (accL W ++ (gs ++ fs)) h := by
  refine s.perm ?_
  rw [← List.append_assoc, ← List.append_assoc]
  exact List.Perm.append_right fs List.perm_append_comm
theorem take_new {G : Gr} {i : Nat} {p : Lab.Txt × List Lab.Txt} (hn : (nmsG G).Nodup) (hp : G[i]? = some p) : p.1 ∉ (K0 G i).map fun p => p.1 := by
  unfold K0; rw [List.map_map]
  intro hm
  obtain ⟨q, hq, e⟩ := List.mem_map.1 hm
  obtain ⟨k, hk⟩ := List.mem_iff_getElem?.1 hq
  have hki : k < i := by have := (List.getElem?_eq_some_iff.1 hk).1; rw [List.length_take] at this; omega
  rw [List.getElem?_take_of_lt hki] at hk
  have h1 := nmsG_at hk
  have h2 := nmsG_at hp
  have e : q.1 = p.1 := e
  rw [e, ← h2] at h1
  have := (List.getElem?_inj (i := k) (by have := (List.getElem?_eq_some_iff.1 hp).1; rw [nmsG_len]; omega) hn).1 h1
  omega
theorem curT_bound {G : Gr} {i : Nat} {p : Lab.Txt × List Lab.Txt} (hp : G[i]? = some p) (j : Nat) : (curT G i j i).length ≤ p.2.length := by
  unfold curT
  rw [if_neg (by omega), if_pos rfl, hp]
  show (filtG (nmsG G) (p.2.take j)).length ≤ _
  unfold filtG
  exact Nat.le_trans (List.length_filter_le _ _) (by rw [List.length_take]; omega)
theorem cur_skip {G : Gr} {i j : Nat} {p : Lab.Txt × List Lab.Txt} {t : Lab.Txt} {W : List (Nat × V × List Lab.Txt)} (hp : G[i]? = some p) (ht : p.2[j]? = some t) (hin : t ∉ nmsG G) (hc : ∀ a w, W[a]? = some w → w.2.2 = curT G i j a) : ∀ a w, W[a]? = some w → w.2.2 = curT G i (j + 1) a := by
  intro a w h
  rw [hc a w h, curT_next hp ht, if_neg hin]
  by_cases e : a = i
  · rw [if_pos e]
  · rw [if_neg e]
theorem cur_step {G : Gr} {i j f : Nat} {v : V} {p : Lab.Txt × List Lab.Txt} {t : Lab.Txt} {W W2 : List (Nat × V × List Lab.Txt)} {w : Nat × V × List Lab.Txt} (hp : G[i]? = some p) (ht : p.2[j]? = some t) (hin : t ∈ nmsG G) (hc : ∀ a w, W[a]? = some w → w.2.2 = curT G i j a) (hw : W[i]? = some w) (h2 : W2 = W.set i (f, v, w.2.2 ++ [t])) : ∀ a w, W2[a]? = some w → w.2.2 = curT G i (j + 1) a := by
  intro a w2 h
  rw [h2] at h
  rw [curT_next hp ht]
  by_cases e : a = i
  · subst e
    rw [List.getElem?_set_self (List.getElem?_eq_some_iff.1 hw).1] at h
    cases h
    rw [if_pos rfl, if_pos hin, ← hc _ w hw]
  · rw [List.getElem?_set_ne (fun e2 => e e2.symm)] at h
    rw [if_neg e]; exact hc a w2 h
theorem ways_c (D : HasWy c) {fs : List Fact} {h : Heap} {v : V} {G : Gr} (g : GdN G) (st : St (.stb (fun h => NRows h v G) :: fs) h) :
    RunP c 12 [v] h fun v1 h1 => ∃ m vs, v1 = .map m ∧ St (.stb (fun h => WaysV h m (wayG G) vs) :: .stb (fun h => NRows h v G) :: fs) h1 := by
  have hG8 := g.few
  refine RunP.fun_ D.f12 rfl ?_
  refine WP.seq ?_
  refine WP.reg ?_
  refine WO.valS (v := .mapN) rfl ?_
  refine WO.nil ?_
  refine WP.seq ?_
  refine WP.reg ?_
  obtain ⟨us, hvl, st⟩ := St.exN (st)
  refine WO.mapFS st (fun m h st => ?_)
  replace st : St ((MapF m (K0 G 0)) :: .stb (fun h => Rows 2 h v (NR G us)) :: .stb (fun h => TRows h (tosG G) us) :: fs) h := st
  refine WO.nil ?_
  refine WP.seq ?_
  refine WP.seq ?_
  refine WP.reg ?_
  refine WO.valS (v := v) rfl ?_
  refine WO.valS (v := .int .i64 (G.length : Int)) (L.llenRn rfl (st.stb_at 1 rfl) (NR_len hvl)) ?_
  refine WO.valS (v := .int .i64 0) rfl ?_
  refine WO.nil ?_
  refine WP.block ?_
  refine WP.loopG (α := Nat) (fun i env h => ∃ x4 x6, (i ≤ G.length) ∧ env = argsP [v, .mapN, .int .i64 (i : Int), .int .i64 (G.length : Int), x4, v, x6, .map m] 0 Env.nil ∧ St ((MapF m (K0 G i)) :: .stb (fun h => Rows 2 h v (NR G us)) :: .stb (fun h => TRows h (tosG G) us) :: fs) h) (fun i => G.length - i) 0 ?_ ?_
  · exact ⟨.bot, .bot, Nat.zero_le _, by kernel_rfl, st⟩
  rintro i _ h ⟨x4, x6, hi, rfl, st⟩
  replace st : St ((MapF m (K0 G i)) :: .stb (fun h => Rows 2 h v (NR G us)) :: .stb (fun h => TRows h (tosG G) us) :: fs) h := st
  refine WP.seq ?_
  refine WP.reg ?_
  refine WO.ifS (L.lss rfl rfl) (fun c1 => ?_) (fun c1 => ?_)
  · replace c1 : i < G.length := by omega
    obtain ⟨p, hp⟩ : ∃ p, G[i]? = some p := ⟨G[i]'(by omega), List.getElem?_eq_getElem (by omega)⟩
    obtain ⟨u, hu⟩ : ∃ u, us[i]? = some u := ⟨us[i]'(by omega), List.getElem?_eq_getElem (by omega)⟩
    have hN := nmsG_at hp
    refine WO.nil ?_
    refine WP.seq ?_
    refine WP.cond (t := true) rfl ?_
    refine WP.skip ?_
    refine WP.seq ?_
    refine WP.block ?_
    refine WP.seq ?_
    refine WP.reg ?_
    refine WO.val (v := .ptr (slB v) (slO v + i * 2)) (L.iaddr (n := G.length) ((((st.stb_at 1 rfl).sl (show i < (NR G us).length by rw [NR_len hvl]; exact c1)).trans (by rw [NR_len hvl]))) rfl c1) ?_
    refine WO.val (v := .agg [L.str p.1, u]) (L.loadn rfl ((st.stb_at 1 rfl).loadnZ (NR_at hp hu))) ?_
    refine WO.boxFS st L.alloc (fun b1 h (st : St (.box b1 [.str 0 0, .slN] :: (MapF m (K0 G i)) :: .stb (fun h => Rows 2 h v (NR G us)) :: .stb (fun h => TRows h (tosG G) us) :: fs) h) => ?_)
    refine WO.storeF (row' := [L.str p.1, u]) st 0 rfl rfl rfl rfl rfl rfl rfl (fun h (st : St (.box b1 [L.str p.1, u] :: (MapF m (K0 G i)) :: .stb (fun h => Rows 2 h v (NR G us)) :: .stb (fun h => TRows h (tosG G) us) :: fs) h) => ?_)
    refine WO.nil ?_
    refine WP.reg ?_
    refine WO.val (v := .ptr b1 0) (L.faddr rfl) ?_
    refine WO.val (v := L.str p.1) (L.loadB rfl (st.box_at 0 rfl) rfl) ?_
    refine WO.mupdK (v := V.slN) (x := p.1) ((st.pick 1 rfl) : St ((MapF m (K0 G i)) :: .box b1 [L.str p.1, u] :: .stb (fun h => Rows 2 h v (NR G us)) :: .stb (fun h => TRows h (tosG G) us) :: fs) _) rfl rfl rfl (fun h st => ?_)
    rw [show putK p.1 V.slN (K0 G i) = K0 G (i + 1) from by rw [putK_new (take_new g.nd hp)]; unfold K0; rw [take_next hp, List.map_append]; rfl] at st
    replace st : St ((MapF m (K0 G (i + 1))) :: .box b1 [L.str p.1, u] :: .stb (fun h => Rows 2 h v (NR G us)) :: .stb (fun h => TRows h (tosG G) us) :: fs) h := st
    refine WO.nil ?_
    refine WP.reg ?_
    refine WO.valS (v := .int .i64 ((i + 1 : Nat) : Int)) (L.addE rfl rfl (by omega) (And.intro (by omega) (by omega))) ?_
    refine WO.nil ?_
    exact ⟨i + 1, (by omega), (.bool true), (.ptr b1 0), by omega, by kernel_rfl, (st.pick 1 rfl).tail⟩
  · replace c1 : ¬ i < G.length := by omega
    rw [show K0 G i = KW (nmsG G) (List.replicate G.length (0, .slN, [])) from by unfold K0; rw [List.take_of_length_le (by omega), ← nmsG_len, KW_rep]; unfold nmsG; rw [List.map_map]; rfl] at st
    have ei : i = G.length := by omega
    rw [ei]
    have st2 := St.acc0L (st) G.length
    replace st : St ((MapF m (KW (nmsG G) (List.replicate G.length (0, .slN, [])))) :: .stb (fun h => Rows 2 h v (NR G us)) :: .stb (fun h => TRows h (tosG G) us) :: (accL (List.replicate G.length (0, V.slN, [])) ++ fs)) h := accL_in (gs := [_, _, _]) st2
    refine WO.nil ?_
    refine WP.seq ?_
    refine WP.cond (t := false) rfl ?_
    refine WP.exit ?_
    refine WP.seq ?_
    refine WP.seq ?_
    refine WP.reg ?_
    refine WO.valS (v := v) rfl ?_
    refine WO.valS (v := .int .i64 (G.length : Int)) (L.llenRn rfl (st.stb_at 1 rfl) (NR_len hvl)) ?_
    refine WO.valS (v := .int .i64 0) rfl ?_
    refine WO.nil ?_
    refine WP.block ?_
    refine WP.loopG (α := Nat) (fun i env h => ∃ W x10 x12 x13 x14 x15 x16 x17 x18 x19, (i ≤ G.length ∧ W.length = G.length ∧ ∀ a w, W[a]? = some w → w.2.2 = curT G i 0 a) ∧ env = argsP [v, .mapN, .int .i64 (G.length : Int), .int .i64 (G.length : Int), .bool false, v, x6, .map m, .int .i64 (i : Int), .int .i64 (G.length : Int), x10, v, x12, x13, x14, x15, x16, x17, x18, x19] 0 Env.nil ∧ St ((MapF m (KW (nmsG G) W)) :: .stb (fun h => Rows 2 h v (NR G us)) :: .stb (fun h => TRows h (tosG G) us) :: (accL W ++ fs)) h) (fun i => G.length - i) 0 ?_ ?_
    · exact ⟨(List.replicate G.length (0, V.slN, [])), .bot, .bot, .bot, .bot, .bot, .bot, .bot, .bot, .bot, ⟨Nat.zero_le _, List.length_replicate, fun a w hw => by rw [curT_zero]; rw [List.getElem?_replicate] at hw; split at hw <;> simp at hw; rw [← hw]⟩, by kernel_rfl, st⟩
    rintro i _ h ⟨W, x10, x12, x13, x14, x15, x16, x17, x18, x19, ⟨hi, hWl, hWc⟩, rfl, st⟩
    replace st : St ((MapF m (KW (nmsG G) W)) :: .stb (fun h => Rows 2 h v (NR G us)) :: .stb (fun h => TRows h (tosG G) us) :: (accL W ++ fs)) h := st
    refine WP.seq ?_
    refine WP.reg ?_
    refine WO.ifS (L.lss rfl rfl) (fun c1 => ?_) (fun c1 => ?_)
    · replace c1 : i < G.length := by omega
      obtain ⟨p, hp⟩ : ∃ p, G[i]? = some p := ⟨G[i]'(by omega), List.getElem?_eq_getElem (by omega)⟩
      obtain ⟨u, hu⟩ : ∃ u, us[i]? = some u := ⟨us[i]'(by omega), List.getElem?_eq_getElem (by omega)⟩
      have hN := nmsG_at hp
      have hto := g.to p (List.mem_of_getElem? hp)
      refine WO.nil ?_
      refine WP.seq ?_
      refine WP.cond (t := true) rfl ?_
      refine WP.skip ?_
      refine WP.seq ?_
      refine WP.block ?_
      refine WP.seq ?_
      refine WP.reg ?_
      refine WO.val (v := .ptr (slB v) (slO v + i * 2)) (L.iaddr (n := G.length) ((((st.stb_at 1 rfl).sl (show i < (NR G us).length by rw [NR_len hvl]; exact c1)).trans (by rw [NR_len hvl]))) rfl c1) ?_
      refine WO.val (v := .agg [L.str p.1, u]) (L.loadn rfl ((st.stb_at 1 rfl).loadnZ (NR_at hp hu))) ?_
      refine WO.boxFS st L.alloc (fun b2 h (st : St (.box b2 [.str 0 0, .slN] :: (MapF m (KW (nmsG G) W)) :: .stb (fun h => Rows 2 h v (NR G us)) :: .stb (fun h => TRows h (tosG G) us) :: (accL W ++ fs)) h) => ?_)
      refine WO.storeF (row' := [L.str p.1, u]) st 0 rfl rfl rfl rfl rfl rfl rfl (fun h (st : St (.box b2 [L.str p.1, u] :: (MapF m (KW (nmsG G) W)) :: .stb (fun h => Rows 2 h v (NR G us)) :: .stb (fun h => TRows h (tosG G) us) :: (accL W ++ fs)) h) => ?_)
      refine WO.nil ?_
      refine WP.seq ?_
      refine WP.reg ?_
      refine WO.val (v := .ptr b2 1) (L.faddr rfl) ?_
      refine WO.valS (v := u) (L.loadB rfl (st.box_at 0 rfl) rfl) ?_
      refine WO.valS (v := .int .i64 (p.2.length : Int)) (L.llenRn rfl (((st.stb_at 3 rfl)).row (show (tosG G)[i]? = some p.2 from tosG_at hp) hu) (SR_len _)) ?_
      refine WO.valS (v := .int .i64 0) rfl ?_
      refine WO.nil ?_
      refine WP.block ?_
      refine WP.loopG (α := Nat) (fun j env h => ∃ W x15 x17 x18 x19, (j ≤ p.2.length ∧ W.length = G.length ∧ ∀ a w, W[a]? = some w → w.2.2 = curT G i j a) ∧ env = argsP [v, .mapN, .int .i64 (G.length : Int), .int .i64 (G.length : Int), .bool false, v, x6, .map m, .int .i64 (i : Int), .int .i64 (G.length : Int), .bool true, v, .ptr b2 0, .int .i64 (j : Int), .int .i64 (p.2.length : Int), x15, u, x17, x18, x19] 0 Env.nil ∧ St (.box b2 [L.str p.1, u] :: (MapF m (KW (nmsG G) W)) :: .stb (fun h => Rows 2 h v (NR G us)) :: .stb (fun h => TRows h (tosG G) us) :: (accL W ++ fs)) h) (fun j => p.2.length - j) 0 ?_ ?_
      · exact ⟨W, x15, x17, x18, x19, ⟨Nat.zero_le _, hWl, hWc⟩, by kernel_rfl, st⟩
      rintro j _ h ⟨W, x15, x17, x18, x19, ⟨hj, hWl, hWc⟩, rfl, st⟩
      replace st : St (.box b2 [L.str p.1, u] :: (MapF m (KW (nmsG G) W)) :: .stb (fun h => Rows 2 h v (NR G us)) :: .stb (fun h => TRows h (tosG G) us) :: (accL W ++ fs)) h := st
      refine WP.seq ?_
      refine WP.reg ?_
      refine WO.ifS (L.lss rfl rfl) (fun c2 => ?_) (fun c2 => ?_)
      · replace c2 : j < p.2.length := by omega
        obtain ⟨t, ht⟩ : ∃ t, p.2[j]? = some t := ⟨p.2[j]'(by omega), List.getElem?_eq_getElem (by omega)⟩
        obtain ⟨w, hw⟩ : ∃ w, W[i]? = some w := ⟨W[i]'(by omega), List.getElem?_eq_getElem (by omega)⟩
        have hNl : (nmsG G).length = W.length := by rw [nmsG_len, hWl]
        refine WO.nil ?_
        refine WP.seq ?_
        refine WP.cond (t := true) rfl ?_
        refine WP.skip ?_
        refine WP.seq ?_
        refine WP.block ?_
        refine WP.seq ?_
        refine WP.reg ?_
        refine WO.val (v := .ptr (slB u) (slO u + j * 1)) (L.iaddrZ (((st.stb_at 3 rfl)).row (show (tosG G)[i]? = some p.2 from tosG_at hp) hu) (by rw [SR_len]; exact c2) rfl rfl) ?_
        refine WO.valS (v := L.str t) (L.load rfl ((((st.stb_at 3 rfl)).row (show (tosG G)[i]? = some p.2 from tosG_at hp) hu).load1Z (SR_at ht))) ?_
        refine WO.nil ?_
        refine WP.seq ?_
        refine WP.reg ?_
        have hm1 : (getK t (KW (nmsG G) W)).isSome = decide (t ∈ nmsG G) := by rw [getK_mem, KW_keys hNl]
        by_cases hin : t ∈ nmsG G
        · rw [decide_eq_true hin] at hm1
          refine WO.val (v := .tup [(getK t (KW (nmsG G) W)).getD .slN, .bool true]) ((L.lookKo rfl rfl (st.mapAt 1 rfl)).trans (by rw [hm1])) ?_
          refine WO.val (v := (getK t (KW (nmsG G) W)).getD .slN) rfl ?_
          refine WO.val (v := .bool true) rfl ?_
          refine WO.valS (v := .bool true) rfl ?_
          refine WO.nil ?_
          refine WP.seq ?_
          refine WP.reg ?_
          refine WO.valS (v := .bool true) rfl ?_
          refine WO.nil ?_
          refine WP.cond (t := true) rfl ?_
          refine WP.draw ?_
          refine WD.val (v := .map m) rfl ?_
          refine WD.val (v := .ptr b2 0) (L.faddr rfl) ?_
          refine WD.val (v := L.str p.1) (L.loadB rfl (st.box_at 0 rfl) rfl) ?_
          refine WD.val (v := .map m) rfl ?_
          refine WD.val (v := .ptr b2 0) (L.faddr rfl) ?_
          refine WD.val (v := L.str p.1) (L.loadB rfl (st.box_at 0 rfl) rfl) ?_
          refine WD.val (v := w.2.1) ((L.lookK rfl rfl (st.mapAt 1 rfl)).trans (by rw [getK_at g.nd hN hw]; rfl)) ?_
          refine WD.val (v := L.str t) rfl ?_
          refine WD.bslF (rows := [[L.str t]]) st rfl (by decide) rfl (by simp) (fun pl1 h _ (st : St (.stb (fun h => Rows 1 h (.sl pl1 0 1 (some 1)) [[L.str t]]) :: .box b2 [L.str p.1, u] :: (MapF m (KW (nmsG G) W)) :: .stb (fun h => Rows 2 h v (NR G us)) :: .stb (fun h => TRows h (tosG G) us) :: (accL W ++ fs)) h) => ?_)
          obtain ⟨W2_, hW2_⟩ : ∃ F : Nat → V → List (Nat × V × List Lab.Txt), ∀ f2 v2, F f2 v2 = W.set i (f2, v2, w.2.2 ++ [t]) := ⟨_, fun _ _ => rfl⟩
          refine WD.appF st _ (accL_get (gs := [_, _, _, _, _]) hw) rfl rfl (st.stb_at 0 rfl) (by decide) (by rw [SR_len, hWc i w hw]; have := g.to p (List.mem_of_getElem? hp); have := curT_bound hp j; simp only [List.length_cons, List.length_nil]; omega) (fun f2 v2 h st => ?_) (fun f2 v2 h st => ?_)
          · replace st : St (.stb (fun h => Rows 1 h (.sl pl1 0 1 (some 1)) [[L.str t]]) :: .box b2 [L.str p.1, u] :: (MapF m (KW (nmsG G) W)) :: .stb (fun h => Rows 2 h v (NR G us)) :: .stb (fun h => TRows h (tosG G) us) :: (accL (W2_ f2 v2) ++ fs)) h := by rw [hW2_]; exact accL_st (gs := [_, _, _, _, _]) (new := [t]) (by have := (List.getElem?_eq_some_iff.1 hw).1; exact this) st
            exact stills_cons (by first | exact still_rd (L.loadB rfl (st.box_at 1 rfl) rfl) | exact still_box st 1 rfl | exact still_rd (L.loadnB rfl (st.box_at 1 rfl) rfl rfl rfl)) (stills_nil _ _)
          obtain ⟨W2, hW2e⟩ : ∃ W2, W2 = W2_ f2 v2 := ⟨_, rfl⟩
          have hW2 : W2 = W.set i (f2, v2, w.2.2 ++ [t]) := by rw [hW2e, hW2_]
          replace st : St (.stb (fun h => Rows 1 h (.sl pl1 0 1 (some 1)) [[L.str t]]) :: .box b2 [L.str p.1, u] :: (MapF m (KW (nmsG G) W)) :: .stb (fun h => Rows 2 h v (NR G us)) :: .stb (fun h => TRows h (tosG G) us) :: (accL W2 ++ fs)) h := by rw [hW2e]; exact (by rw [hW2_]; exact accL_st (gs := [_, _, _, _, _]) (new := [t]) (by have := (List.getElem?_eq_some_iff.1 hw).1; exact this) st)
          refine WD.mupdK (v := v2) (x := p.1) ((st.pick 2 rfl) : St ((MapF m (KW (nmsG G) W)) :: .stb (fun h => Rows 1 h (.sl pl1 0 1 (some 1)) [[L.str t]]) :: .box b2 [L.str p.1, u] :: .stb (fun h => Rows 2 h v (NR G us)) :: .stb (fun h => TRows h (tosG G) us) :: (accL W2 ++ fs)) _) rfl rfl rfl (fun h st => rfl) (fun h st => ?_)
          rw [show putK p.1 v2 (KW (nmsG G) W) = KW (nmsG G) W2 from by rw [hW2]; exact putK_at g.nd hN (List.getElem?_eq_some_iff.1 hw).1 f2 v2 _] at st
          replace st : St ((MapF m (KW (nmsG G) W2)) :: .stb (fun h => Rows 1 h (.sl pl1 0 1 (some 1)) [[L.str t]]) :: .box b2 [L.str p.1, u] :: .stb (fun h => Rows 2 h v (NR G us)) :: .stb (fun h => TRows h (tosG G) us) :: (accL W2 ++ fs)) h := st
          refine WD.nil ?_
          refine WP.reg ?_
          refine WO.valS (v := .int .i64 ((j + 1 : Nat) : Int)) (L.addE rfl rfl (by omega) (And.intro (by omega) (by omega))) ?_
          refine WO.nil ?_
          exact ⟨j + 1, (by omega), W2, (.bool true), (L.str t), (.bool true), (.bool true), ⟨by omega, by rw [hW2, List.length_set]; exact hWl, cur_step hp ht hin hWc hw hW2⟩, by kernel_rfl, ((st.pick 1 rfl).tail.pick 1 rfl)⟩
        · rw [decide_eq_false hin] at hm1
          refine WO.val (v := .tup [(getK t (KW (nmsG G) W)).getD .slN, .bool false]) ((L.lookKo rfl rfl (st.mapAt 1 rfl)).trans (by rw [hm1])) ?_
          refine WO.val (v := (getK t (KW (nmsG G) W)).getD .slN) rfl ?_
          refine WO.val (v := .bool false) rfl ?_
          refine WO.valS (v := .bool false) rfl ?_
          refine WO.nil ?_
          refine WP.seq ?_
          refine WP.reg ?_
          refine WO.valS (v := .bool false) rfl ?_
          refine WO.nil ?_
          refine WP.cond (t := false) rfl ?_
          refine WP.skip ?_
          refine WP.reg ?_
          refine WO.valS (v := .int .i64 ((j + 1 : Nat) : Int)) (L.addE rfl rfl (by omega) (And.intro (by omega) (by omega))) ?_
          refine WO.nil ?_
          exact ⟨j + 1, (by omega), W, (.bool true), (L.str t), (.bool false), (.bool false), ⟨by omega, hWl, cur_skip hp ht hin hWc⟩, by kernel_rfl, st⟩
      · replace c2 : ¬ j < p.2.length := by omega
        refine WO.nil ?_
        refine WP.seq ?_
        refine WP.cond (t := false) rfl ?_
        refine WP.exit ?_
        refine WP.reg ?_
        refine WO.valS (v := .int .i64 ((i + 1 : Nat) : Int)) (L.addE rfl rfl (by omega) (And.intro (by omega) (by omega))) ?_
        refine WO.nil ?_
        exact ⟨i + 1, (by omega), W, (.bool true), (.ptr b2 0), (.int .i64 (j : Int)), (.int .i64 (p.2.length : Int)), (.bool false), u, x17, x18, x19, ⟨by omega, hWl, fun a w hw => by rw [hWc a w hw]; exact curT_row hp (by omega) a⟩, by kernel_rfl, st.tail⟩
    · replace c1 : ¬ i < G.length := by omega
      refine WO.nil ?_
      refine WP.seq ?_
      refine WP.cond (t := false) rfl ?_
      refine WP.exit ?_
      refine WP.seq ?_
      refine WP.reg ?_
      refine WO.valS (v := .map m) rfl ?_
      refine WO.nil ?_
      refine WP.ret ?_
      have ei : i = G.length := by omega
      rw [ei] at hWc
      have sm := St.mapShut (st)
      have s2 := St.accShut (fs := [_, _, _] ++ fs) (accL_out (gs := [_, _, _]) sm)
      have s3 := (s2.pick 1 rfl).and.imp0 (Q := fun h => WaysV h m (wayG G) (W.map fun w => w.2.1)) fun h hx => waysV_of hWl hWc hx.1 hx.2
      have s4 := ((s3.pick 1 rfl).pick 2 rfl)
      exact ⟨_, (res_cons (res_tmp (v := .map m) rfl) (res_nil _ _)), m, _, rfl, ((St.and ((s3.pick 2 rfl).pick 2 rfl)).imp0 (Q := fun h => NRows h v G) fun h hx => ⟨us, hx.1, hx.2⟩).pick 1 rfl⟩

end
end Go.Eng.Ytfapefhnicdncaa
