/- Part of a proof of a law, by an evaluator that the machine follows: rules, contracts of functions, what they come to. No condition of its own. -/
import Derived.Test.YtfapefhnicdncaaCodeA
import Derived.Test.YtfapefhnicdncaaSymC
set_option linter.unusedVariables false
set_option linter.unusedSimpArgs false
namespace Go.Eng.Ytfapefhnicdncaa
open Go.Eng
noncomputable section
variable {c : Ctx}
/-- the functions that are told -/
structure HasL (c : Ctx) : Prop where
  f5 : T.get 5 c.funs = some i5
theorem accL_in2 {A B : Fact} {W : List (Nat × V × List Lab.Txt)} {fs : List Fact} {h : Heap} (s : St (accL W ++ A :: B :: fs) h) : St (A :: B :: (accL W ++ fs)) h :=
  s.perm (List.perm_middle.trans (List.Perm.cons _ List.perm_middle))
theorem accL_out2 {A B : Fact} {W : List (Nat × V × List Lab.Txt)} {fs : List Fact} {h : Heap} (s : St (A :: B :: (accL W ++ fs)) h) : St (accL W ++ ([A, B] ++ fs)) h :=
  s.perm (List.perm_middle.trans (List.Perm.cons _ List.perm_middle)).symm
theorem lenStep {W : List (Nat × V × List Lab.Txt)} {q p f : Nat} {v : V} {x : Lab.Txt} {w w2 : Nat × V × List Lab.Txt} (hq : ∀ w ∈ W, w.2.2.length ≤ q) (hw : w ∈ W) (hm : w2 ∈ W.set p (f, v, w.2.2 ++ [x])) : w2.2.2.length ≤ q + 1 := by
  rcases List.mem_or_eq_of_mem_set hm with hm | rfl
  · have := hq w2 hm; omega
  · have := hq w hw
    show (w.2.2 ++ [x]).length ≤ q + 1
    rw [List.length_append]; simp only [List.length_cons, List.length_nil]; omega
structure GdG (G : Gr) : Prop where
  pos : 1 ≤ G.length
  few : G.length ≤ 8
  nm : ∀ i p, G[i]? = some p → p.1 = nmL i
  to : ∀ p ∈ G, p.2.length ≤ 20
theorem gd_of {k q : Nat} {W : List (Nat × V × List Lab.Txt)} (h1 : 1 ≤ k) (h8 : k ≤ 8) (hl : W.length = k) (hq : q ≤ 20) (hw : ∀ w ∈ W, w.2.2.length ≤ q) : GdG (List.zip (nmsL k) (W.map fun w => w.2.2)) := by
  have hlen : (List.zip (nmsL k) (W.map fun w => w.2.2)).length = k := by rw [List.length_zip, nmsL_len, List.length_map, hl]; omega
  refine ⟨by omega, by omega, fun i p hp => ?_, fun p hp => ?_⟩
  · have hi := (List.getElem?_eq_some_iff.1 hp).1
    rw [List.getElem?_zip_eq_some] at hp
    have := nmsL_at (k := k) (i := i) (by omega)
    rw [this] at hp; exact (Option.some.inj hp.1).symm
  · have := (List.of_mem_zip hp).2
    obtain ⟨w, hm, e⟩ := List.mem_map.1 this
    rw [← e]; have := hw w hm; omega
theorem letters_c (D : HasL c) {fs : List Fact} {h : Heap} {n : Nat} {a : V} {ns : List UInt8} (hn : n < 256) (st : St (.stb (fun h => ByRows h a ns) :: fs) h) :
    RunP c 5 [.int .u8 (n : Int), a] h fun v1 h1 => ∃ G, GdG G ∧ St (.stb (fun h => NRows h v1 G) :: .stb (fun h => ByRows h a ns) :: fs) h1 := by
  refine RunP.fun_ D.f5 rfl ?_
  refine WP.seq ?_
  refine WP.reg ?_
  refine WO.valS (v := .slN) rfl ?_
  refine WO.nil ?_
  refine WP.seq ?_
  refine WP.reg ?_
  refine WO.val (v := .int .i64 (n : Int)) (L.conv64 rfl (And.intro (by omega) (by omega))) ?_
  refine WO.val (v := .int .i64 ((n % 8 : Nat) : Int)) (L.rem (b := 8) rfl rfl rfl (by decide)) ?_
  obtain ⟨k, hk⟩ : ∃ k, 1 + n % 8 = k := ⟨_, rfl⟩
  have hk1 : 1 ≤ k := by omega
  have hk8 : k ≤ 8 := by omega
  refine WO.valS (v := .int .i64 (k : Int)) (L.addE rfl rfl (by omega) (And.intro (by omega) (by omega))) ?_
  refine WO.nil ?_
  refine WP.seq ?_
  refine WP.reg ?_
  refine WO.valS (v := .slN) rfl ?_
  refine WO.nil ?_
  refine WP.seq ?_
  refine WP.seq ?_
  refine WP.reg ?_
  refine WO.valS (v := .int .i64 0) rfl ?_
  refine WO.nil ?_
  refine WP.block ?_
  replace st : St (.acu ([]) 0 2 .slN ((nmsL 0).map fun x => [L.str x, V.slN]) :: .stb (fun h => ByRows h a ns) :: fs) h := st.acu0 2
  refine WP.loopG (α := Nat) (fun i env h => ∃ bs f vn x5, (i ≤ k) ∧ env = argsP [.int .u8 (n : Int), a, .slN, .int .i64 (i : Int), .int .i64 (k : Int), x5, vn] 0 Env.nil ∧ St (.acu bs f 2 vn ((nmsL i).map fun x => [L.str x, V.slN]) :: .stb (fun h => ByRows h a ns) :: fs) h) (fun i => k - i) 0 ?_ ?_
  · exact ⟨[], 0, .slN, .bot, Nat.zero_le _, by kernel_rfl, st⟩
  rintro i _ h ⟨bs, f, vn, x5, hi, rfl, st⟩
  replace st : St (.acu bs f 2 vn ((nmsL i).map fun x => [L.str x, V.slN]) :: .stb (fun h => ByRows h a ns) :: fs) h := st
  refine WP.seq ?_
  refine WP.seq ?_
  refine WP.reg ?_
  refine WO.ifS (L.lss rfl rfl) (fun c1 => ?_) (fun c1 => ?_)
  · replace c1 : i < k := by omega
    refine WO.nil ?_
    refine WP.cond (t := true) rfl ?_
    refine WP.skip ?_
    refine WP.seq ?_
    refine WP.block ?_
    refine WP.reg ?_
    refine WO.val (v := .int .u8 (i : Int)) (L.convU8 rfl (by omega)) ?_
    refine WO.val (v := .int .u8 ((97 + i : Nat) : Int)) (L.addU8 (a := 97) rfl rfl rfl (by omega)) ?_
    refine WO.bslF (rows := [[.int .u8 ((97 + i : Nat) : Int)]]) st rfl (by decide) rfl (by simp) (fun bb1 h (st : St (.stb (fun h => Rows 1 h (.sl bb1 0 1 (some 1)) [[.int .u8 ((97 + i : Nat) : Int)]]) :: .acu bs f 2 vn ((nmsL i).map fun x => [L.str x, V.slN]) :: .stb (fun h => ByRows h a ns) :: fs) h) => ?_)
    refine WO.val (v := L.str (nmL i)) (L.bstrK (k := 97 + i) rfl (by omega) (st.stb_at 0 rfl)) ?_
    refine WO.val (v := .agg [L.str (nmL i), .slN]) (L.build rfl) ?_
    refine WO.bslF (rows := [[L.str (nmL i), .slN]]) st rfl (by decide) rfl (by simp) (fun nn1 h (st : St (.stb (fun h => Rows 2 h (.sl nn1 0 1 (some 1)) [[L.str (nmL i), .slN]]) :: .stb (fun h => Rows 1 h (.sl bb1 0 1 (some 1)) [[.int .u8 ((97 + i : Nat) : Int)]]) :: .acu bs f 2 vn ((nmsL i).map fun x => [L.str x, V.slN]) :: .stb (fun h => ByRows h a ns) :: fs) h) => ?_)
    refine WO.appUS ((st.pick 2 rfl) : St (.acu bs f 2 vn ((nmsL i).map fun x => [L.str x, V.slN]) :: .stb (fun h => Rows 2 h (.sl nn1 0 1 (some 1)) [[L.str (nmL i), .slN]]) :: .stb (fun h => Rows 1 h (.sl bb1 0 1 (some 1)) [[.int .u8 ((97 + i : Nat) : Int)]]) :: .stb (fun h => ByRows h a ns) :: fs) _) rfl rfl (new := [[L.str (nmL i), V.slN]]) (st.stb_at 0 rfl) (by decide) (by rw [List.length_map, nmsL_len]; simp only [List.length_cons, List.length_nil]; omega) (fun bs1 f1 v1 h (st : St (.acu bs1 f1 2 v1 (((nmsL i).map fun x => [L.str x, V.slN]) ++ ([[L.str (nmL i), V.slN]])) :: .stb (fun h => Rows 2 h (.sl nn1 0 1 (some 1)) [[L.str (nmL i), .slN]]) :: .stb (fun h => Rows 1 h (.sl bb1 0 1 (some 1)) [[.int .u8 ((97 + i : Nat) : Int)]]) :: .stb (fun h => ByRows h a ns) :: fs) h) => ?_)
    rw [show ((nmsL i).map fun x => [L.str x, V.slN]) ++ ([[L.str (nmL i), V.slN]]) = (nmsL (i + 1)).map fun x => [L.str x, V.slN] from (by rw [nmsL_succ, List.map_append]; rfl)] at st
    replace st : St (.acu bs1 f1 2 v1 ((nmsL (i + 1)).map fun x => [L.str x, V.slN]) :: .stb (fun h => Rows 2 h (.sl nn1 0 1 (some 1)) [[L.str (nmL i), .slN]]) :: .stb (fun h => Rows 1 h (.sl bb1 0 1 (some 1)) [[.int .u8 ((97 + i : Nat) : Int)]]) :: .stb (fun h => ByRows h a ns) :: fs) h := st
    refine WO.nil ?_
    refine WP.reg ?_
    refine WO.valS (v := .int .i64 ((i + 1 : Nat) : Int)) (L.addE rfl rfl (by omega) (And.intro (by omega) (by omega))) ?_
    refine WO.nil ?_
    exact ⟨i + 1, (by omega), bs1, f1, v1, (.bool true), by omega, by kernel_rfl, ((st.pick 1 rfl).tail.pick 1 rfl).tail⟩
  · have ei : i = k := by omega
    rw [ei] at st
    rw [ei]
    obtain ⟨b, rfl⟩ := acu_sl (st.acu_at 0 rfl) ((List.length_map _).trans (nmsL_len _)) (by omega)
    rw [← NW_rep] at st
    replace st : St (.acu bs f 2 (.sl b 0 k none) (NW (nmsL k) (List.replicate k (0, .slN, []))) :: .stb (fun h => ByRows h a ns) :: fs) h := st
    have st2 := St.acc0L (st) k
    replace st : St (.acu bs f 2 (.sl b 0 k none) (NW (nmsL k) (List.replicate k (0, .slN, []))) :: .stb (fun h => ByRows h a ns) :: (accL (List.replicate k (0, V.slN, [])) ++ fs)) h := accL_in2 st2
    refine WO.nil ?_
    refine WP.cond (t := false) rfl ?_
    refine WP.exit ?_
    refine WP.seq ?_
    refine WP.seq ?_
    refine WP.reg ?_
    refine WO.valS (v := .int .i64 0) rfl ?_
    refine WO.nil ?_
    refine WP.block ?_
    refine WP.loopG (α := Nat) (fun q env h => ∃ W bs f x8 x9, (2 * q ≤ ns.length ∧ q ≤ 20 ∧ W.length = k ∧ ∀ w ∈ W, w.2.2.length ≤ q) ∧ env = argsP [.int .u8 (n : Int), a, .slN, .int .i64 (k : Int), .int .i64 (k : Int), .bool false, .sl b 0 k none, .int .i64 ((2 * q : Nat) : Int), x8, x9] 0 Env.nil ∧ St (.acu bs f 2 (.sl b 0 k none) (NW (nmsL k) W) :: .stb (fun h => ByRows h a ns) :: (accL W ++ fs)) h) (fun q => ns.length - 2 * q) 0 ?_ ?_
    · exact ⟨(List.replicate k (0, V.slN, [])), bs, f, .bot, .bot, ⟨Nat.zero_le _, Nat.zero_le _, List.length_replicate, fun w hw => by rw [(List.mem_replicate.1 hw).2]; exact Nat.le_refl _⟩, by kernel_rfl, st⟩
    rintro q _ h ⟨W, bs, f, x8, x9, ⟨hq, hq20, hWl, hWq⟩, rfl, st⟩
    replace st : St (.acu bs f 2 (.sl b 0 k none) (NW (nmsL k) W) :: .stb (fun h => ByRows h a ns) :: (accL W ++ fs)) h := st
    refine WP.seq ?_
    refine WP.seq ?_
    refine WP.reg ?_
    refine WO.val (v := .int .i64 ((2 * q + 1 : Nat) : Int)) (L.addE rfl rfl (by omega) (And.intro (by omega) (by omega))) ?_
    refine WO.val (v := .int .i64 (ns.length : Int)) (L.llenBy rfl (st.stb_at 1 rfl)) ?_
    refine WO.ifV (L.lss rfl rfl) (fun c2 => ?_) (fun c2 => ?_)
    · replace c2 : 2 * q + 1 < ns.length := by omega
      refine WO.yes rfl ?_
      refine WO.val (v := .int .i64 ((2 * q : Nat) : Int)) rfl ?_
      refine WO.yes rfl ?_
      refine WO.ifV (L.lss rfl rfl) (fun c3 => ?_) (fun c3 => ?_)
      · replace c3 : 2 * q < 40 := by omega
        obtain ⟨x, hx⟩ : ∃ y, ns[2 * q]? = some y := ⟨ns[2 * q]'(by omega), List.getElem?_eq_getElem (by omega)⟩
        obtain ⟨y, hy⟩ : ∃ y, ns[2 * q + 1]? = some y := ⟨ns[2 * q + 1]'(by omega), List.getElem?_eq_getElem (by omega)⟩
        have hx6 : x.toNat < 256 := x.toNat_lt
        have hy6 : y.toNat < 256 := y.toNat_lt
        refine WO.valS (v := .bool true) rfl ?_
        refine WO.nil ?_
        refine WP.cond (t := true) rfl ?_
        refine WP.skip ?_
        refine WP.seq ?_
        refine WP.block ?_
        refine WP.seq ?_
        refine WP.reg ?_
        refine WO.val (v := .ptr (slB a) (slO a + (2 * q) * 1)) (L.iaddrBy (st.stb_at 1 rfl) (by omega) rfl rfl) ?_
        refine WO.val (v := .int .u8 (x.toNat : Int)) (L.load rfl ((st.stb_at 1 rfl).at hx)) ?_
        refine WO.val (v := .int .i64 (x.toNat : Int)) (L.conv64 rfl (And.intro (by omega) (by omega))) ?_
        obtain ⟨p, ep, hp⟩ : ∃ p, x.toNat % k = p ∧ p < k := ⟨_, rfl, Nat.mod_lt _ (by omega)⟩
        obtain ⟨w, hw⟩ : ∃ w, W[p]? = some w := ⟨W[p]'(by omega), List.getElem?_eq_getElem (by omega)⟩
        have hN := nmsL_at (k := k) hp
        refine WO.valS (v := .int .i64 (p : Int)) (L.rem rfl rfl ep (by omega)) ?_
        refine WO.nil ?_
        refine WP.draw ?_
        refine WD.val (v := .sl b 0 k none) rfl ?_
        refine WD.val (v := .int .i64 (p : Int)) rfl ?_
        refine WD.val (v := .sl b 0 k none) rfl ?_
        refine WD.val (v := .int .i64 (p : Int)) rfl ?_
        refine WD.val (v := .ptr b (0 + p * 2)) (L.iaddr (r := 2) rfl rfl hp) ?_
        refine WD.val (v := .ptr b (0 + p * 2 + 1)) (L.faddr rfl) ?_
        refine WD.val (v := w.2.1) (L.load rfl ((st.acuRows 0 rfl (by decide)).load1F (NW_at hN hw) rfl)) ?_
        refine WD.val (v := a) rfl ?_
        refine WD.val (v := .int .i64 ((2 * q : Nat) : Int)) rfl ?_
        refine WD.val (v := .int .i64 ((2 * q + 1 : Nat) : Int)) (L.addE rfl rfl (by omega) (And.intro (by omega) (by omega))) ?_
        refine WD.val (v := .ptr (slB a) (slO a + (2 * q + 1) * 1)) (L.iaddrBy (st.stb_at 1 rfl) (by omega) rfl rfl) ?_
        refine WD.val (v := .int .u8 (y.toNat : Int)) (L.load rfl ((st.stb_at 1 rfl).at hy)) ?_
        refine WD.val (v := .int .i64 (k : Int)) rfl ?_
        refine WD.val (v := .int .u8 (k : Int)) (L.convU8 rfl (by omega)) ?_
        obtain ⟨y2, ey, hy2⟩ : ∃ p, y.toNat % k = p ∧ p < k := ⟨_, rfl, Nat.mod_lt _ (by omega)⟩
        refine WD.val (v := .int .u8 (y2 : Int)) (L.rem rfl rfl ey (by omega)) ?_
        refine WD.val (v := .int .u8 ((97 + y2 : Nat) : Int)) (L.addU8 (a := 97) rfl rfl rfl (by omega)) ?_
        refine WD.bslF (rows := [[.int .u8 ((97 + y2 : Nat) : Int)]]) st rfl (by decide) rfl (by simp) (fun bz1 h _ (st : St (.stb (fun h => Rows 1 h (.sl bz1 0 1 (some 1)) [[.int .u8 ((97 + y2 : Nat) : Int)]]) :: .acu bs f 2 (.sl b 0 k none) (NW (nmsL k) W) :: .stb (fun h => ByRows h a ns) :: (accL W ++ fs)) h) => ?_)
        refine WD.val (v := L.str (nmL y2)) (L.bstrK (k := 97 + y2) rfl (by omega) (st.stb_at 0 rfl)) ?_
        refine WD.bslF (rows := [[L.str (nmL y2)]]) st rfl (by decide) rfl (by simp) (fun pl1 h _ (st : St (.stb (fun h => Rows 1 h (.sl pl1 0 1 (some 1)) [[L.str (nmL y2)]]) :: .stb (fun h => Rows 1 h (.sl bz1 0 1 (some 1)) [[.int .u8 ((97 + y2 : Nat) : Int)]]) :: .acu bs f 2 (.sl b 0 k none) (NW (nmsL k) W) :: .stb (fun h => ByRows h a ns) :: (accL W ++ fs)) h) => ?_)
        refine WD.appF st _ (accL_get (gs := [_, _, _, _]) hw) rfl rfl (st.stb_at 0 rfl) (by decide) (by rw [SR_len]; have := hWq w (List.mem_of_getElem? hw); simp only [List.length_cons, List.length_nil]; omega) (fun _ _ h st => by rfl) (fun f2 v2 h st => ?_)
        obtain ⟨W2, hW2⟩ : ∃ W2, W2 = W.set p (f2, v2, w.2.2 ++ [nmL y2]) := ⟨_, rfl⟩
        replace st : St (.stb (fun h => Rows 1 h (.sl pl1 0 1 (some 1)) [[L.str (nmL y2)]]) :: .stb (fun h => Rows 1 h (.sl bz1 0 1 (some 1)) [[.int .u8 ((97 + y2 : Nat) : Int)]]) :: .acu bs f 2 (.sl b 0 k none) (NW (nmsL k) W) :: .stb (fun h => ByRows h a ns) :: (accL W2 ++ fs)) h := by rw [hW2]; exact accL_st (gs := [_, _, _, _]) (new := [nmL y2]) (by omega) st
        have hW2p : W2[p]? = some (f2, v2, w.2.2 ++ [nmL y2]) := by rw [hW2]; exact List.getElem?_set_self (by omega)
        have hc2 := (st.acc_at _ (accL_get (gs := [_, _, _, _]) hW2p)).cells
        refine WD.val (v := .ptr b (0 + p * 2)) (L.iaddr (r := 2) rfl rfl hp) ?_
        refine WD.val (v := .ptr b (0 + p * 2 + 1)) (L.faddr rfl) ?_
        refine WD.storeUc (v := v2) ((st.pick 2 rfl) : St (.acu bs f 2 (.sl b 0 k none) (NW (nmsL k) W) :: .stb (fun h => Rows 1 h (.sl pl1 0 1 (some 1)) [[L.str (nmL y2)]]) :: .stb (fun h => Rows 1 h (.sl bz1 0 1 (some 1)) [[.int .u8 ((97 + y2 : Nat) : Int)]]) :: .stb (fun h => ByRows h a ns) :: (accL W2 ++ fs)) _) rfl hc2 (by decide) (by decide) (NW_at hN hw) (fun h st => rfl) (fun h st => ?_)
        rw [show (NW (nmsL k) W).set p ([L.str (nmL p), w.2.1].set 1 v2) = NW (nmsL k) W2 from by rw [hW2]; exact NW_set hN (by omega) f2 v2 _] at st
        replace st : St (.acu bs f 2 (.sl b 0 k none) (NW (nmsL k) W2) :: .stb (fun h => Rows 1 h (.sl pl1 0 1 (some 1)) [[L.str (nmL y2)]]) :: .stb (fun h => Rows 1 h (.sl bz1 0 1 (some 1)) [[.int .u8 ((97 + y2 : Nat) : Int)]]) :: .stb (fun h => ByRows h a ns) :: (accL W2 ++ fs)) h := st
        refine WD.nil ?_
        refine WP.reg ?_
        refine WO.valS (v := .int .i64 ((2 * (q + 1) : Nat) : Int)) (L.addE rfl rfl (by omega) (And.intro (by omega) (by omega))) ?_
        refine WO.nil ?_
        exact ⟨q + 1, (by omega), W2, _, _, (.bool true), (.int .i64 (p : Int)), ⟨by omega, by omega, by rw [hW2, List.length_set]; exact hWl, fun w2 hm => lenStep hWq (List.mem_of_getElem? hw) (hW2 ▸ hm)⟩, by kernel_rfl, ((st.pick 1 rfl).tail.pick 1 rfl).tail⟩
      · refine WO.valS (v := .bool false) rfl ?_
        refine WO.nil ?_
        refine WP.cond (t := false) rfl ?_
        refine WP.exit ?_
        refine WP.seq ?_
        refine WP.reg ?_
        refine WO.valS (v := .sl b 0 k none) rfl ?_
        refine WO.nil ?_
        refine WP.ret ?_
        have sz := (st).shutU (by decide)
        have s2 := St.accShut (fs := [_, _] ++ fs) (accL_out2 sz)
        have s3 := ((s2.pick 1 rfl).and).imp0 (Q := fun h => NRows h (.sl b 0 k none) (List.zip (nmsL k) (W.map fun w => w.2.2))) fun h hx => NRows.of ((nmsL_len k).trans hWl.symm) hx.1 hx.2
        exact ⟨_, (res_cons (res_tmp (v := .sl b 0 k none) rfl) (res_nil _ _)), _, gd_of hk1 hk8 hWl hq20 hWq, s3⟩
    · refine WO.no rfl ?_
      refine WO.no rfl ?_
      refine WO.valS (v := .bool false) rfl ?_
      refine WO.nil ?_
      refine WP.cond (t := false) rfl ?_
      refine WP.exit ?_
      refine WP.seq ?_
      refine WP.reg ?_
      refine WO.valS (v := .sl b 0 k none) rfl ?_
      refine WO.nil ?_
      refine WP.ret ?_
      have sz := (st).shutU (by decide)
      have s2 := St.accShut (fs := [_, _] ++ fs) (accL_out2 sz)
      have s3 := ((s2.pick 1 rfl).and).imp0 (Q := fun h => NRows h (.sl b 0 k none) (List.zip (nmsL k) (W.map fun w => w.2.2))) fun h hx => NRows.of ((nmsL_len k).trans hWl.symm) hx.1 hx.2
      exact ⟨_, (res_cons (res_tmp (v := .sl b 0 k none) rfl) (res_nil _ _)), _, gd_of hk1 hk8 hWl hq20 hWq, s3⟩

end
end Go.Eng.Ytfapefhnicdncaa
