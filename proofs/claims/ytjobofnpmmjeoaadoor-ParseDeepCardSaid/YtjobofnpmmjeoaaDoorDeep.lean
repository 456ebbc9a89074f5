/- Part of a proof of a law, by an evaluator that the machine follows: rules, contracts of functions, what they come to. No condition of its own. -/
import Derived.Test.YtjobofnpmmjeoaaDoorConE
import Derived.Test.YtjobofnpmmjeoaaDoorSym
import Derived.Test.YtjobofnpmmjeoaaDoorSpec
namespace Go.Eng.YtjobofnpmmjeoaaDoor
open Go.Eng
noncomputable section
variable {c : Ctx}
theorem num_c (D : HasF c) {fs : List Fact} {h : Heap} {e : Nat} (st : St fs h) :
    RunP c 12 [.int .i64 (e : Int)] h fun v h1 => v = .int .i64 (e : Int) ∧ St fs h1 := by
  refine RunP.fun_ D.f12 rfl ?_
  refine WP.seq ?_
  refine WP.reg ?_
  refine WO.valS (v := .int .i64 0) rfl ?_
  refine WO.nil ?_
  refine WP.seq ?_
  refine WP.reg ?_
  refine WO.valS (v := .int .i64 (e : Int)) rfl ?_
  refine WO.nil ?_
  refine WP.ret ?_
  exact ⟨_, (res_cons (res_tmp (v := .int .i64 (e : Int)) rfl) (res_nil _ _)), (rfl), st⟩

theorem rows_two {h : Heap} {x : V} {r : Nat} {rows : List (List V)} (hr : Rows r h x rows) (hne : rows ≠ []) : ∃ b o cap, x = .sl b o rows.length cap := by
  cases hr with
  | nil => exact absurd rfl hne
  | row _ _ _ _ _ _ => exact ⟨_, _, _, rfl⟩
def awT : List UInt8 := [108, 97, 98, 101, 108, 115, 32, 97, 32, 60, 32, 98, 32, 60, 32, 99, 59]
def awR (x : Except (Nat × Nat) (List Pm)) : Bool := match x with
  | .ok [_, p] => decide (p.name = [98]) && decide (p.label = [99])
  | _ => false
theorem aw_ok : awR (Par.rows awT) = true := by kernel_rfl
theorem aw_two : ∃ p q, Par.rows awT = .ok [p, q] ∧ q.name = [98] ∧ q.label = [99] := by
  have h := aw_ok
  generalize Par.rows awT = x at h
  unfold awR at h
  split at h
  · rename_i p q
    simp at h; exact ⟨p, q, rfl, h.1, h.2⟩
  · cases h

theorem awake_c (D : HasF c) (h9 : T.get 9 c.funs = some i9) (DD : HasD c) {fs : List Fact} {h : Heap} (st : St fs h) :
    RunP c 9 [] h fun v h1 => v = .bool true ∧ St fs h1 := by
  refine RunP.fun_ h9 rfl ?_
  refine WP.seq ?_
  refine WP.reg ?_
  refine WO.valS (v := .bool false) rfl ?_
  refine WO.nil ?_
  refine WP.seq ?_
  refine WP.reg ?_
  obtain ⟨p, q, hpq, hqn, hql⟩ := aw_two
  have hc := Labels_c (s := awT) D DD st (by decide)
  rw [hpq] at hc
  refine WO.callF rfl hc ?_
  rintro _ h ⟨x, rfl, hcv, st⟩
  obtain ⟨xb, xo, xc, rfl⟩ := rows_two (st.stb_at 0 rfl) (by simp)
  replace st : St (.stb (fun h => Rows 3 h (.sl xb xo 2 xc) ([p, q].map Pm.row)) :: fs) h := st
  refine WO.val (v := .sl xb xo 2 xc) rfl ?_
  refine WO.val (v := .int .i64 ((0 : Nat) : Int)) rfl ?_
  refine WO.val (v := .int .i64 ((0 : Nat) : Int)) rfl ?_
  refine WO.valS (v := .sl xb xo 2 xc) rfl ?_
  refine WO.valS (v := .int .i64 ((0 : Nat) : Int)) rfl ?_
  refine WO.nil ?_
  refine WP.seq ?_
  refine WP.reg ?_
  refine WO.callF rfl (num_c (e := 0) D st) ?_
  rintro _ h ⟨rfl, st⟩
  replace st : St (.stb (fun h => Rows 3 h (.sl xb xo 2 xc) ([p, q].map Pm.row)) :: fs) h := st
  refine WO.ifV (L.eql rfl rfl) (fun c1 => ?_) (fun c1 => by exfalso; omega)
  refine WO.yes rfl ?_
  refine WO.val (v := .sl xb xo 2 xc) rfl ?_
  refine WO.yes rfl ?_
  refine WO.val (v := .int .i64 ((2 : Nat) : Int)) (L.llen rfl) ?_
  refine WO.yes rfl ?_
  refine WO.ifV (L.eql rfl rfl) (fun c2 => ?_) (fun c2 => by exfalso; omega)
  refine WO.val (v := .bool true) rfl ?_
  refine WO.yes rfl ?_
  refine WO.val (v := .sl xb xo 2 xc) rfl ?_
  refine WO.yes rfl ?_
  refine WO.val (v := .ptr xb (xo + 1 * 3)) (L.iaddr rfl rfl (by omega)) ?_
  refine WO.yes rfl ?_
  refine WO.val (v := .ptr xb (xo + 1 * 3 + 0)) (L.faddr rfl) ?_
  refine WO.yes rfl ?_
  refine WO.val (v := L.str q.name) (L.load rfl ((st.stb_at 0 rfl).load1F (i := 1) (j := 0) (v := L.str q.name) rfl rfl)) ?_
  refine WO.yes rfl ?_
  refine WO.ifV (L.seq (m := [98]) rfl rfl) (fun c3 => ?_) (fun c3 => by exfalso; exact c3 hqn)
  refine WO.val (v := .bool true) rfl ?_
  refine WO.yes rfl ?_
  refine WO.val (v := .sl xb xo 2 xc) rfl ?_
  refine WO.yes rfl ?_
  refine WO.val (v := .ptr xb (xo + 1 * 3)) (L.iaddr rfl rfl (by omega)) ?_
  refine WO.yes rfl ?_
  refine WO.val (v := .ptr xb (xo + 1 * 3 + 1)) (L.faddr rfl) ?_
  refine WO.yes rfl ?_
  refine WO.val (v := L.str q.label) (L.load rfl ((st.stb_at 0 rfl).load1F (i := 1) (j := 1) (v := L.str q.label) rfl rfl)) ?_
  refine WO.yes rfl ?_
  refine WO.ifV (L.seq (m := [99]) rfl rfl) (fun c4 => ?_) (fun c4 => by exfalso; exact c4 hql)
  refine WO.valS (v := .bool true) rfl ?_
  refine WO.nil ?_
  refine WP.ret ?_
  exact ⟨_, (res_cons (res_tmp (v := .bool true) rfl) (res_nil _ _)), rfl, st.tail⟩

end
end Go.Eng.YtjobofnpmmjeoaaDoor
namespace Go.Eng.YtjobofnpmmjeoaaDoor
open Go.Eng
noncomputable section
variable {c : Ctx}
def rep : Nat → List UInt8 → List UInt8
  | 0, _ => []
  | n + 1, s => rep n s ++ s
def repT (b : List UInt8) : Nat → List UInt8
  | 0 => b
  | n + 1 => repT b n ++ [32, 125]
theorem repT_eq (b : List UInt8) : ∀ n, repT b n = b ++ rep n [32, 125]
  | 0 => by simp [repT, rep]
  | n + 1 => by rw [repT, repT_eq b n, rep, List.append_assoc]
theorem rep_le {s : List UInt8} (hs : s.length ≤ 10) : ∀ n, (rep n s).length ≤ 10 * n
  | 0 => by simp [rep]
  | n + 1 => by have := rep_le hs n; simp [rep]; omega
def begT : List UInt8 := [109, 111, 100, 117, 108, 101, 32, 109, 32, 59, 32, 112, 114, 111, 99, 32, 112, 32, 40, 32, 41, 32, 112, 99, 32, 97, 32, 117, 115, 101, 115, 32, 123, 32, 125, 32, 123]
def begS : List UInt8 := begT ++ [32, 114, 101, 115, 117, 108, 116, 32, 61]
def whl : List UInt8 := [32, 119, 104, 105, 108, 101, 32, 49, 32, 123]
def deepT (k : Nat) : List UInt8 := begT ++ rep k whl ++ rep k [32, 125] ++ [32, 125]
def ahs : List (List UInt8) := [[40], [45], [33]]
def bhs : List (List UInt8) := [[41], [], []]
def deepS (y z : List UInt8) (k : Nat) : List UInt8 := begS ++ rep k (32 :: y) ++ [32, 49] ++ rep k (32 :: z) ++ [32, 59, 32, 125]
def codeOf {α : Type} (x : Except (Nat × Nat) α) : Nat × Nat := match x with | .ok _ => (0, 0) | .error e => e
theorem mod_code (D : HasF c) (DD : HasD c) {fs : List Fact} {h : Heap} {s : List UInt8} {e a : Nat} (st : St fs h) (hsz : s.length < 4294967296) (hs : codeOf (Par.text s) = (e, a)) : RunP c 10 [L.str s] h fun v h1 => ∃ row, v = .tup [.agg row, .int .i64 (e : Int), .int .i64 (a : Int)] ∧ row.length = 5 ∧ St fs h1 := by
  obtain ⟨v, h1, hr, hp⟩ := Module_c D DD st hsz
  refine ⟨v, h1, hr, ?_⟩
  cases ht : Par.text s with
  | ok m =>
    rw [ht] at hp hs
    obtain ⟨row, rfl, hrow, st⟩ := hp
    cases hs
    exact ⟨row, rfl, hrow, st.tail⟩
  | error x =>
    obtain ⟨e1, a1⟩ := x
    rw [ht] at hp hs
    obtain ⟨rfl, st⟩ := hp
    cases hs
    exact ⟨_, rfl, rfl, st⟩
theorem ahs_len {w : Nat} {y : List UInt8} (h : ahs[w % 3]? = some y) : y.length ≤ 1 := by
  have := List.mem_of_getElem? h
  simp [ahs] at this
  rcases this with rfl | rfl | rfl <;> simp
theorem bhs_len {w : Nat} {y : List UInt8} (h : bhs[w % 3]? = some y) : y.length ≤ 1 := by
  have := List.mem_of_getElem? h
  simp [bhs] at this
  rcases this with rfl | rfl <;> simp

theorem deep_c (D : HasF c) (h5 : T.get 5 c.funs = some i5) (h9 : T.get 9 c.funs = some i9) (DD : HasD c) {n w : Nat} (hn : n < 256) (hS : ∀ k, 1 ≤ k → k ≤ 60 → ∀ y z, ahs[w % 3]? = some y → bhs[w % 3]? = some z → codeOf (Par.text (deepS y z k)) = if k < 40 then (0, 0) else (12, 125)) (hT : ∀ k, 1 ≤ k → k ≤ 60 → codeOf (Par.text (deepT k)) = if k < 40 then (0, 0) else (12, 436)) {fs : List Fact} {h : Heap} (st : St fs h) :
    RunP c 5 [.int .u8 (n : Int), .int .u8 (w : Int)] h fun v h1 => v = .bool true ∧ St fs h1 := by
  obtain ⟨k, hk⟩ : ∃ k, k = 1 + n % 60 := ⟨_, rfl⟩
  have hk1 : 1 ≤ k := by omega
  have hk2 : k ≤ 60 := by omega
  obtain ⟨y, hy⟩ : ∃ y, ahs[w % 3]? = some y := ⟨_, List.getElem?_eq_getElem (Nat.mod_lt _ (by decide))⟩
  obtain ⟨z, hz⟩ : ∃ z, bhs[w % 3]? = some z := ⟨_, List.getElem?_eq_getElem (Nat.mod_lt _ (by decide))⟩
  have hy1 : (32 :: y).length ≤ 10 := by have := ahs_len hy; simp; omega
  have hz1 : (32 :: z).length ≤ 10 := by have := bhs_len hz; simp; omega
  have hbl : begS.length = 46 := rfl
  have hbl2 : begT.length = 37 := rfl
  have hwl : whl.length = 10 := rfl
  have hyl := ahs_len hy
  have hzl := bhs_len hz
  refine RunP.fun_ h5 rfl ?_
  refine WP.seq ?_
  refine WP.reg ?_
  refine WO.valS (v := .bool false) rfl ?_
  refine WO.nil ?_
  refine WP.seq ?_
  refine WP.reg ?_
  refine WO.val (v := .int .i64 (n : Int)) (L.conv64 rfl (And.intro (by omega) (by omega))) ?_
  refine WO.val (v := .int .i64 ((n % 60 : Nat) : Int)) (L.rem (b := 60) rfl rfl rfl (by decide)) ?_
  refine WO.valS (v := .int .i64 (k : Int)) (L.addE rfl rfl (by omega) (And.intro (by omega) (by omega))) ?_
  refine WO.nil ?_
  refine WP.seq ?_
  refine WP.reg ?_
  refine WO.bslF (rows := ahs.map useRow) st rfl (by decide) rfl (by intro row hm; simp at hm; obtain ⟨a, _, rfl⟩ := hm; rfl) (fun as h (st : St (.stb (fun h => Rows 1 h (.sl as 0 3 (some 3)) (ahs.map useRow)) :: fs) h) => ?_)
  refine WO.val (v := .int .u8 ((w % 3 : Nat) : Int)) (L.rem (b := 3) rfl rfl rfl (by decide)) ?_
  refine WO.val (L.iaddrK rfl rfl (Nat.mod_lt _ (by decide))) ?_
  refine WO.valS (v := L.str y) (L.load rfl ((st.stb_at 0 rfl).load1 (by rw [List.getElem?_map, hy]; rfl))) ?_
  refine WO.nil ?_
  refine WP.seq ?_
  refine WP.reg ?_
  refine WO.bslF (rows := bhs.map useRow) st rfl (by decide) rfl (by intro row hm; simp at hm; obtain ⟨a, _, rfl⟩ := hm; rfl) (fun bs h (st : St (.stb (fun h => Rows 1 h (.sl bs 0 3 (some 3)) (bhs.map useRow)) :: .stb (fun h => Rows 1 h (.sl as 0 3 (some 3)) (ahs.map useRow)) :: fs) h) => ?_)
  refine WO.val (v := .int .u8 ((w % 3 : Nat) : Int)) (L.rem (b := 3) rfl rfl rfl (by decide)) ?_
  refine WO.val (L.iaddrK rfl rfl (Nat.mod_lt _ (by decide))) ?_
  refine WO.valS (v := L.str z) (L.load rfl ((st.stb_at 0 rfl).load1 (by rw [List.getElem?_map, hz]; rfl))) ?_
  refine WO.nil ?_
  refine WP.seq ?_
  refine WP.reg ?_
  refine WO.valS (v := L.str begS) rfl ?_
  refine WO.nil ?_
  refine WP.seq ?_
  refine WP.reg ?_
  refine WO.valS (v := L.str (begS ++ rep 0 (32 :: y))) (by simp [rep]; rfl) ?_
  refine WO.nil ?_
  refine WP.seq ?_
  refine WP.seq ?_
  refine WP.reg ?_
  refine WO.valS (v := .int .i64 0) rfl ?_
  refine WO.nil ?_
  refine WP.block ?_
  refine WP.loopG (α := Nat) (fun i env h => ∃ x6, (i ≤ k) ∧ env = argsP [.int .u8 (n : Int), .int .u8 (w : Int), .bool false, L.str begS, .int .i64 (i : Int), .int .i64 (k : Int), x6, L.str (begS ++ rep i (32 :: y)), L.str y, .bot, .bot, L.str z] 0 Env.nil ∧ St (.stb (fun h => Rows 1 h (.sl bs 0 3 (some 3)) (bhs.map useRow)) :: .stb (fun h => Rows 1 h (.sl as 0 3 (some 3)) (ahs.map useRow)) :: fs) h) (fun i => k - i) 0 ?_ ?_
  · exact ⟨.bot, (Nat.zero_le _), by kernel_rfl, ((st.pick 1 rfl).pick 1 rfl)⟩
  rintro i _ h ⟨x6, hi_i, rfl, st⟩
  replace st : St (.stb (fun h => Rows 1 h (.sl bs 0 3 (some 3)) (bhs.map useRow)) :: .stb (fun h => Rows 1 h (.sl as 0 3 (some 3)) (ahs.map useRow)) :: fs) h := st
  have _ := rep_le (s := 32 :: y) hy1 i;
  refine WP.seq ?_
  refine WP.seq ?_
  refine WP.reg ?_
  refine WO.ifS (L.lss rfl rfl) (fun c1 => ?_) (fun c1 => ?_)
  · replace c1 : i < k := by omega
    refine WO.nil ?_
    refine WP.cond (t := true) rfl ?_
    refine WP.skip ?_
    refine WP.seq ?_
    refine WP.block ?_
    refine WP.reg ?_
    refine WO.val (v := L.str (begS ++ rep i (32 :: y) ++ [32])) (L.scatE (m := [32]) rfl rfl rfl (by simp; omega)) ?_
    refine WO.valS (v := L.str (begS ++ rep (i + 1) (32 :: y))) (L.scatE rfl rfl (by simp [rep]) (by simp; omega)) ?_
    refine WO.nil ?_
    refine WP.reg ?_
    refine WO.valS (v := .int .i64 ((i + 1 : Nat) : Int)) (L.addE rfl rfl (by omega) (And.intro (by omega) (by omega))) ?_
    refine WO.nil ?_
    exact ⟨i + 1, (by omega), (.bool true), by omega, by kernel_rfl, ((st.pick 1 rfl).pick 1 rfl)⟩
  · replace c1 : ¬ (i < k) := by omega
    refine WO.nil ?_
    refine WP.cond (t := false) rfl ?_
    refine WP.exit ?_
    refine WP.seq ?_
    refine WP.reg ?_
    have e_i : k = i := by omega
    subst e_i
    have _ := rep_le (s := 32 :: y) hy1 k;
    replace st : St (.stb (fun h => Rows 1 h (.sl bs 0 3 (some 3)) (bhs.map useRow)) :: .stb (fun h => Rows 1 h (.sl as 0 3 (some 3)) (ahs.map useRow)) :: fs) h := st
    refine WO.valS (v := L.str (begS ++ rep k (32 :: y) ++ [32, 49] ++ rep 0 (32 :: z))) (L.scatE (m := [32, 49]) rfl rfl (by simp [rep]) (by simp; omega)) ?_
    refine WO.nil ?_
    refine WP.seq ?_
    refine WP.seq ?_
    refine WP.reg ?_
    refine WO.valS (v := .int .i64 0) rfl ?_
    refine WO.nil ?_
    refine WP.block ?_
    refine WP.loopG (α := Nat) (fun j env h => ∃ x10, (j ≤ k) ∧ env = argsP [.int .u8 (n : Int), .int .u8 (w : Int), .bool false, L.str begS, .int .i64 (k : Int), .int .i64 (k : Int), .bool false, L.str (begS ++ rep k (32 :: y) ++ [32, 49] ++ rep j (32 :: z)), L.str y, .int .i64 (j : Int), x10, L.str z] 0 Env.nil ∧ St (.stb (fun h => Rows 1 h (.sl bs 0 3 (some 3)) (bhs.map useRow)) :: .stb (fun h => Rows 1 h (.sl as 0 3 (some 3)) (ahs.map useRow)) :: fs) h) (fun j => k - j) 0 ?_ ?_
    · exact ⟨.bot, (Nat.zero_le _), by kernel_rfl, ((st.pick 1 rfl).pick 1 rfl)⟩
    rintro j _ h ⟨x10, hi_j, rfl, st⟩
    replace st : St (.stb (fun h => Rows 1 h (.sl bs 0 3 (some 3)) (bhs.map useRow)) :: .stb (fun h => Rows 1 h (.sl as 0 3 (some 3)) (ahs.map useRow)) :: fs) h := st
    have _ := rep_le (s := 32 :: z) hz1 j;
    refine WP.seq ?_
    refine WP.seq ?_
    refine WP.reg ?_
    refine WO.ifS (L.lss rfl rfl) (fun c2 => ?_) (fun c2 => ?_)
    · replace c2 : j < k := by omega
      refine WO.nil ?_
      refine WP.cond (t := true) rfl ?_
      refine WP.skip ?_
      refine WP.seq ?_
      refine WP.block ?_
      refine WP.reg ?_
      refine WO.val (v := L.str (begS ++ rep k (32 :: y) ++ [32, 49] ++ rep j (32 :: z) ++ [32])) (L.scatE (m := [32]) rfl rfl rfl (by simp; omega)) ?_
      refine WO.valS (v := L.str (begS ++ rep k (32 :: y) ++ [32, 49] ++ rep (j + 1) (32 :: z))) (L.scatE rfl rfl (by simp [rep]) (by simp; omega)) ?_
      refine WO.nil ?_
      refine WP.reg ?_
      refine WO.valS (v := .int .i64 ((j + 1 : Nat) : Int)) (L.addE rfl rfl (by omega) (And.intro (by omega) (by omega))) ?_
      refine WO.nil ?_
      exact ⟨j + 1, (by omega), (.bool true), by omega, by kernel_rfl, ((st.pick 1 rfl).pick 1 rfl)⟩
    · replace c2 : ¬ (j < k) := by omega
      refine WO.nil ?_
      refine WP.cond (t := false) rfl ?_
      refine WP.exit ?_
      refine WP.seq ?_
      refine WP.reg ?_
      have e_j : k = j := by omega
      subst e_j
      have _ := rep_le (s := 32 :: z) hz1 k;
      replace st : St (.stb (fun h => Rows 1 h (.sl bs 0 3 (some 3)) (bhs.map useRow)) :: .stb (fun h => Rows 1 h (.sl as 0 3 (some 3)) (ahs.map useRow)) :: fs) h := st
      refine WO.val (v := L.str (deepS y z k)) (L.scatE (m := [32, 59, 32, 125]) rfl rfl (by simp [deepS]) (by simp; omega)) ?_
      obtain ⟨e1, a1, he1⟩ : ∃ e a, codeOf (Par.text (deepS y z k)) = (e, a) := ⟨_, _, rfl⟩
      have he12 := hS k hk1 hk2 y z hy hz
      rw [he1] at he12
      refine WO.callF rfl (mod_code D DD st (by have _ := rep_le (s := 32 :: y) hy1 k; have _ := rep_le (s := 32 :: z) hz1 k; simp only [deepS, deepT, begS, begT, List.length_append, List.length_cons, List.length_nil]; omega) he1) ?_
      rintro _ h ⟨rowe1, rfl, hrowe1, st⟩
      replace st : St (.stb (fun h => Rows 1 h (.sl bs 0 3 (some 3)) (bhs.map useRow)) :: .stb (fun h => Rows 1 h (.sl as 0 3 (some 3)) (ahs.map useRow)) :: fs) h := st
      refine WO.val (v := .agg rowe1) rfl ?_
      refine WO.val (v := .int .i64 (e1 : Int)) rfl ?_
      refine WO.val (v := .int .i64 (a1 : Int)) rfl ?_
      refine WO.boxF st L.alloc (fun m1 h (st : St (.box m1 [.str 0 0, .int .i64 0, .slN, .slN, .slN] :: .stb (fun h => Rows 1 h (.sl bs 0 3 (some 3)) (bhs.map useRow)) :: .stb (fun h => Rows 1 h (.sl as 0 3 (some 3)) (ahs.map useRow)) :: fs) h) => ?_)
      refine WO.storeF (row' := rowe1) st 0 rfl rfl rfl (by rw [lenV_eq]; exact hrowe1) rfl rfl (overV_all hrowe1) (fun h (st : St (.box m1 rowe1 :: .stb (fun h => Rows 1 h (.sl bs 0 3 (some 3)) (bhs.map useRow)) :: .stb (fun h => Rows 1 h (.sl as 0 3 (some 3)) (ahs.map useRow)) :: fs) h) => ?_)
      refine WO.valS (v := .int .i64 (e1 : Int)) rfl ?_
      refine WO.valS (v := .int .i64 (a1 : Int)) rfl ?_
      refine WO.nil ?_
      refine WP.seq ?_
      refine WP.reg ?_
      refine WO.valS (v := L.str (begT ++ rep 0 whl)) rfl ?_
      refine WO.nil ?_
      refine WP.seq ?_
      refine WP.seq ?_
      refine WP.reg ?_
      refine WO.valS (v := .int .i64 0) rfl ?_
      refine WO.nil ?_
      refine WP.block ?_
      refine WP.loopG (α := Nat) (fun i2 env h => ∃ x13, (i2 ≤ k) ∧ env = argsP [.int .u8 (n : Int), .int .u8 (w : Int), .bool false, L.str begS, .int .i64 (k : Int), .int .i64 (k : Int), .bool false, L.str (begS ++ rep k (32 :: y) ++ [32, 49] ++ rep k (32 :: z)), L.str y, .int .i64 (k : Int), .bool false, L.str z, .int .i64 (i2 : Int), x13, L.str (begT ++ rep i2 whl), .bot, .bot, .bot, .int .i64 (e1 : Int), .bot, .int .i64 (a1 : Int)] 0 Env.nil ∧ St (.box m1 rowe1 :: .stb (fun h => Rows 1 h (.sl bs 0 3 (some 3)) (bhs.map useRow)) :: .stb (fun h => Rows 1 h (.sl as 0 3 (some 3)) (ahs.map useRow)) :: fs) h) (fun i2 => k - i2) 0 ?_ ?_
      · exact ⟨.bot, (Nat.zero_le _), by kernel_rfl, (((st.pick 2 rfl).pick 2 rfl).pick 2 rfl)⟩
      rintro i2 _ h ⟨x13, hi_i2, rfl, st⟩
      replace st : St (.box m1 rowe1 :: .stb (fun h => Rows 1 h (.sl bs 0 3 (some 3)) (bhs.map useRow)) :: .stb (fun h => Rows 1 h (.sl as 0 3 (some 3)) (ahs.map useRow)) :: fs) h := st
      have _ := rep_le (s := whl) (by decide) i2;
      refine WP.seq ?_
      refine WP.seq ?_
      refine WP.reg ?_
      refine WO.ifS (L.lss rfl rfl) (fun c3 => ?_) (fun c3 => ?_)
      · replace c3 : i2 < k := by omega
        refine WO.nil ?_
        refine WP.cond (t := true) rfl ?_
        refine WP.skip ?_
        refine WP.seq ?_
        refine WP.block ?_
        refine WP.reg ?_
        refine WO.valS (v := L.str (begT ++ rep (i2 + 1) whl)) (L.scatE (m := [32, 119, 104, 105, 108, 101, 32, 49, 32, 123]) rfl rfl (by simp [rep, whl]) (by simp; omega)) ?_
        refine WO.nil ?_
        refine WP.reg ?_
        refine WO.valS (v := .int .i64 ((i2 + 1 : Nat) : Int)) (L.addE rfl rfl (by omega) (And.intro (by omega) (by omega))) ?_
        refine WO.nil ?_
        exact ⟨i2 + 1, (by omega), (.bool true), by omega, by kernel_rfl, (((st.pick 2 rfl).pick 2 rfl).pick 2 rfl)⟩
      · replace c3 : ¬ (i2 < k) := by omega
        refine WO.nil ?_
        refine WP.cond (t := false) rfl ?_
        refine WP.exit ?_
        refine WP.seq ?_
        refine WP.seq ?_
        refine WP.reg ?_
        have e_i2 : k = i2 := by omega
        subst e_i2
        have _ := rep_le (s := whl) (by decide) k;
        replace st : St (.box m1 rowe1 :: .stb (fun h => Rows 1 h (.sl bs 0 3 (some 3)) (bhs.map useRow)) :: .stb (fun h => Rows 1 h (.sl as 0 3 (some 3)) (ahs.map useRow)) :: fs) h := st
        refine WO.valS (v := .int .i64 0) rfl ?_
        refine WO.nil ?_
        refine WP.block ?_
        refine WP.loopG (α := Nat) (fun j2 env h => ∃ x16, (j2 ≤ k) ∧ env = argsP [.int .u8 (n : Int), .int .u8 (w : Int), .bool false, L.str begS, .int .i64 (k : Int), .int .i64 (k : Int), .bool false, L.str (begS ++ rep k (32 :: y) ++ [32, 49] ++ rep k (32 :: z)), L.str y, .int .i64 (k : Int), .bool false, L.str z, .int .i64 (k : Int), .bool false, L.str (repT (begT ++ rep k whl) j2), .int .i64 (j2 : Int), x16, .bot, .int .i64 (e1 : Int), .bot, .int .i64 (a1 : Int)] 0 Env.nil ∧ St (.box m1 rowe1 :: .stb (fun h => Rows 1 h (.sl bs 0 3 (some 3)) (bhs.map useRow)) :: .stb (fun h => Rows 1 h (.sl as 0 3 (some 3)) (ahs.map useRow)) :: fs) h) (fun j2 => k - j2) 0 ?_ ?_
        · exact ⟨.bot, (Nat.zero_le _), by kernel_rfl, (((st.pick 2 rfl).pick 2 rfl).pick 2 rfl)⟩
        rintro j2 _ h ⟨x16, hi_j2, rfl, st⟩
        replace st : St (.box m1 rowe1 :: .stb (fun h => Rows 1 h (.sl bs 0 3 (some 3)) (bhs.map useRow)) :: .stb (fun h => Rows 1 h (.sl as 0 3 (some 3)) (ahs.map useRow)) :: fs) h := st
        have _ := rep_le (s := [32, 125]) (by decide) j2; have hrt := congrArg List.length (repT_eq (begT ++ rep k whl) j2); simp at hrt
        refine WP.seq ?_
        refine WP.seq ?_
        refine WP.reg ?_
        refine WO.ifS (L.lss rfl rfl) (fun c4 => ?_) (fun c4 => ?_)
        · replace c4 : j2 < k := by omega
          refine WO.nil ?_
          refine WP.cond (t := true) rfl ?_
          refine WP.skip ?_
          refine WP.seq ?_
          refine WP.block ?_
          refine WP.reg ?_
          refine WO.valS (v := L.str (repT (begT ++ rep k whl) (j2 + 1))) (L.scatE (m := [32, 125]) rfl rfl (by simp [repT]) (by simp; omega)) ?_
          refine WO.nil ?_
          refine WP.reg ?_
          refine WO.valS (v := .int .i64 ((j2 + 1 : Nat) : Int)) (L.addE rfl rfl (by omega) (And.intro (by omega) (by omega))) ?_
          refine WO.nil ?_
          exact ⟨j2 + 1, (by omega), (.bool true), by omega, by kernel_rfl, (((st.pick 2 rfl).pick 2 rfl).pick 2 rfl)⟩
        · replace c4 : ¬ (j2 < k) := by omega
          refine WO.nil ?_
          refine WP.cond (t := false) rfl ?_
          refine WP.exit ?_
          refine WP.seq ?_
          refine WP.reg ?_
          have e_j2 : k = j2 := by omega
          subst e_j2
          have _ := rep_le (s := [32, 125]) (by decide) k;
          replace st : St (.box m1 rowe1 :: .stb (fun h => Rows 1 h (.sl bs 0 3 (some 3)) (bhs.map useRow)) :: .stb (fun h => Rows 1 h (.sl as 0 3 (some 3)) (ahs.map useRow)) :: fs) h := st
          refine WO.val (v := L.str (deepT k)) (L.scatE (m := [32, 125]) rfl rfl (by simp [deepT, repT_eq]) (by simp; omega)) ?_
          obtain ⟨e2, a2, he2⟩ : ∃ e a, codeOf (Par.text (deepT k)) = (e, a) := ⟨_, _, rfl⟩
          have he22 := hT k hk1 hk2
          rw [he2] at he22
          refine WO.callF rfl (mod_code D DD st (by have _ := rep_le (s := whl) (by decide) k; have _ := rep_le (s := [32, 125]) (by decide) k; simp only [deepS, deepT, begS, begT, List.length_append, List.length_cons, List.length_nil]; omega) he2) ?_
          rintro _ h ⟨rowe2, rfl, hrowe2, st⟩
          replace st : St (.box m1 rowe1 :: .stb (fun h => Rows 1 h (.sl bs 0 3 (some 3)) (bhs.map useRow)) :: .stb (fun h => Rows 1 h (.sl as 0 3 (some 3)) (ahs.map useRow)) :: fs) h := st
          refine WO.val (v := .agg rowe2) rfl ?_
          refine WO.val (v := .int .i64 (e2 : Int)) rfl ?_
          refine WO.val (v := .int .i64 (a2 : Int)) rfl ?_
          refine WO.boxF st L.alloc (fun m2 h (st : St (.box m2 [.str 0 0, .int .i64 0, .slN, .slN, .slN] :: .box m1 rowe1 :: .stb (fun h => Rows 1 h (.sl bs 0 3 (some 3)) (bhs.map useRow)) :: .stb (fun h => Rows 1 h (.sl as 0 3 (some 3)) (ahs.map useRow)) :: fs) h) => ?_)
          refine WO.storeF (row' := rowe2) st 0 rfl rfl rfl (by rw [lenV_eq]; exact hrowe2) rfl rfl (overV_all hrowe2) (fun h (st : St (.box m2 rowe2 :: .box m1 rowe1 :: .stb (fun h => Rows 1 h (.sl bs 0 3 (some 3)) (bhs.map useRow)) :: .stb (fun h => Rows 1 h (.sl as 0 3 (some 3)) (ahs.map useRow)) :: fs) h) => ?_)
          refine WO.valS (v := .int .i64 (e2 : Int)) rfl ?_
          refine WO.valS (v := .int .i64 (a2 : Int)) rfl ?_
          refine WO.nil ?_
          refine WP.seq ?_
          refine WP.seq ?_
          refine WP.reg ?_
          refine WO.ifS (L.lss rfl rfl) (fun c5 => ?_) (fun c5 => ?_)
          · replace c5 : k < 40 := by omega
            rw [if_pos c5] at he12 he22
            obtain ⟨hx1, hx2⟩ := Prod.mk.inj he12
            obtain ⟨hx3, hx4⟩ := Prod.mk.inj he22
            refine WO.nil ?_
            refine WP.cond (t := true) rfl ?_
            refine WP.seq ?_
            refine WP.reg ?_
            refine WO.callF rfl (num_c (e := e1) D st) ?_
            rintro _ h ⟨rfl, st⟩
            replace st : St (.box m2 rowe2 :: .box m1 rowe1 :: .stb (fun h => Rows 1 h (.sl bs 0 3 (some 3)) (bhs.map useRow)) :: .stb (fun h => Rows 1 h (.sl as 0 3 (some 3)) (ahs.map useRow)) :: fs) h := st
            refine WO.ifV (L.eql rfl rfl) (fun c6 => ?_) (fun c6 => by exfalso; omega)
            refine WO.yes rfl ?_
            refine WO.val (v := .int .i64 (e2 : Int)) rfl ?_
            refine WO.yes rfl ?_
            refine WO.callF rfl (num_c (e := e2) D st) ?_
            rintro _ h ⟨rfl, st⟩
            replace st : St (.box m2 rowe2 :: .box m1 rowe1 :: .stb (fun h => Rows 1 h (.sl bs 0 3 (some 3)) (bhs.map useRow)) :: .stb (fun h => Rows 1 h (.sl as 0 3 (some 3)) (ahs.map useRow)) :: fs) h := st
            refine WO.yes rfl ?_
            refine WO.ifV (L.eql rfl rfl) (fun c7 => ?_) (fun c7 => by exfalso; omega)
            refine WO.val (v := .bool true) rfl ?_
            refine WO.yes rfl ?_
            refine WO.callF rfl (awake_c D h9 DD st) ?_
            rintro _ h ⟨rfl, st⟩
            refine WO.valS (v := .bool true) rfl ?_
            refine WO.nil ?_
            refine WP.ret ?_
            exact ⟨_, (res_cons (res_tmp (v := .bool true) rfl) (res_nil _ _)), rfl, st.tail.tail.tail.tail⟩
          · replace c5 : ¬ k < 40 := by omega
            rw [if_neg c5] at he12 he22
            obtain ⟨hx1, hx2⟩ := Prod.mk.inj he12
            obtain ⟨hx3, hx4⟩ := Prod.mk.inj he22
            refine WO.nil ?_
            refine WP.cond (t := false) rfl ?_
            refine WP.skip ?_
            refine WP.seq ?_
            refine WP.reg ?_
            refine WO.callF rfl (num_c (e := e1) D st) ?_
            rintro _ h ⟨rfl, st⟩
            replace st : St (.box m2 rowe2 :: .box m1 rowe1 :: .stb (fun h => Rows 1 h (.sl bs 0 3 (some 3)) (bhs.map useRow)) :: .stb (fun h => Rows 1 h (.sl as 0 3 (some 3)) (ahs.map useRow)) :: fs) h := st
            refine WO.ifV (L.eql rfl rfl) (fun c8 => ?_) (fun c8 => by exfalso; omega)
            refine WO.yes rfl ?_
            refine WO.val (v := .int .i64 (e2 : Int)) rfl ?_
            refine WO.yes rfl ?_
            refine WO.callF rfl (num_c (e := e2) D st) ?_
            rintro _ h ⟨rfl, st⟩
            replace st : St (.box m2 rowe2 :: .box m1 rowe1 :: .stb (fun h => Rows 1 h (.sl bs 0 3 (some 3)) (bhs.map useRow)) :: .stb (fun h => Rows 1 h (.sl as 0 3 (some 3)) (ahs.map useRow)) :: fs) h := st
            refine WO.yes rfl ?_
            refine WO.ifV (L.eql rfl rfl) (fun c9 => ?_) (fun c9 => by exfalso; omega)
            refine WO.val (v := .bool true) rfl ?_
            refine WO.yes rfl ?_
            refine WO.val (v := .int .i64 (a1 : Int)) rfl ?_
            refine WO.yes rfl ?_
            refine WO.val (v := L.str begS) rfl ?_
            refine WO.yes rfl ?_
            refine WO.val (v := .int .i64 (begS.length : Int)) (L.slen rfl) ?_
            refine WO.yes rfl ?_
            refine WO.val (v := .int .i64 124) (L.addE rfl rfl (by omega) (And.intro (by omega) (by omega))) ?_
            refine WO.yes rfl ?_
            refine WO.val (v := .int .i64 125) (L.addE rfl rfl (by omega) (And.intro (by omega) (by omega))) ?_
            refine WO.yes rfl ?_
            refine WO.ifV (L.eql rfl rfl) (fun c10 => ?_) (fun c10 => by exfalso; omega)
            refine WO.val (v := .bool true) rfl ?_
            refine WO.yes rfl ?_
            refine WO.val (v := .int .i64 (a2 : Int)) rfl ?_
            refine WO.yes rfl ?_
            refine WO.ifV (L.eql rfl rfl) (fun c11 => ?_) (fun c11 => by exfalso; omega)
            refine WO.val (v := .bool true) rfl ?_
            refine WO.yes rfl ?_
            refine WO.callF rfl (awake_c D h9 DD st) ?_
            rintro _ h ⟨rfl, st⟩
            refine WO.valS (v := .bool true) rfl ?_
            refine WO.nil ?_
            refine WP.ret ?_
            exact ⟨_, (res_cons (res_tmp (v := .bool true) rfl) (res_nil _ _)), rfl, st.tail.tail.tail.tail⟩

end
end Go.Eng.YtjobofnpmmjeoaaDoor
/- The texts of ParseDeep, by the parser's plain form: computed. No condition. -/
set_option maxRecDepth 1000000
namespace Go.Eng.YtjobofnpmmjeoaaDoor
open Go.Eng
noncomputable section
def okC (x : Nat × Nat) (e a : Nat) : Bool := x.1.beq e && x.2.beq a
theorem okC_eq {x : Nat × Nat} {e a : Nat} (h : okC x e a = true) : x = (e, a) := by
  obtain ⟨x1, x2⟩ := x
  simp [okC] at h
  rw [h.1, h.2]
def allFrom (f : Nat → Bool) (lo : Nat) : Nat → Bool
  | 0 => true
  | n + 1 => f (lo + n + 1) && allFrom f lo n
theorem allFrom_get {f : Nat → Bool} {lo : Nat} : ∀ {n : Nat}, allFrom f lo n = true → ∀ k, lo < k → k ≤ lo + n → f k = true
  | 0, _, k, h1, h2 => by omega
  | n + 1, h, k, h1, h2 => by
    simp [allFrom] at h
    by_cases e : k = lo + n + 1
    · rw [e]; exact h.1
    · exact allFrom_get h.2 k h1 (by omega)
def okT0 (k : Nat) : Bool := okC (codeOf (Par.text (deepT k))) 0 0
def okT1 (k : Nat) : Bool := okC (codeOf (Par.text (deepT k))) 12 436
def okS0 (y z : List UInt8) (k : Nat) : Bool := okC (codeOf (Par.text (deepS y z k))) 0 0
def okS1 (y z : List UInt8) (k : Nat) : Bool := okC (codeOf (Par.text (deepS y z k))) 12 125
theorem t0_0 : allFrom okT0 0 20 = true := by kernel_rfl
theorem t0_20 : allFrom okT0 20 19 = true := by kernel_rfl
theorem t1_39 : allFrom okT1 39 11 = true := by kernel_rfl
theorem t1_50 : allFrom okT1 50 10 = true := by kernel_rfl
theorem s0_0 : allFrom (okS0 [40] [41]) 0 39 = true := by kernel_rfl
theorem s1_0 : allFrom (okS1 [40] [41]) 39 21 = true := by kernel_rfl
theorem s0_1 : allFrom (okS0 [45] []) 0 39 = true := by kernel_rfl
theorem s1_1 : allFrom (okS1 [45] []) 39 21 = true := by kernel_rfl
theorem s0_2 : allFrom (okS0 [33] []) 0 39 = true := by kernel_rfl
theorem s1_2 : allFrom (okS1 [33] []) 39 21 = true := by kernel_rfl
theorem textT (k : Nat) (h1 : 1 ≤ k) (h2 : k ≤ 60) : codeOf (Par.text (deepT k)) = if k < 40 then (0, 0) else (12, 436) := by
  by_cases h : k < 40
  · rw [if_pos h]
    by_cases g : k ≤ 20
    · exact okC_eq (allFrom_get t0_0 k (by omega) (by omega))
    · exact okC_eq (allFrom_get t0_20 k (by omega) (by omega))
  · rw [if_neg h]
    by_cases g : k ≤ 50
    · exact okC_eq (allFrom_get t1_39 k (by omega) (by omega))
    · exact okC_eq (allFrom_get t1_50 k (by omega) (by omega))
theorem textS (w k : Nat) (h1 : 1 ≤ k) (h2 : k ≤ 60) (y z : List UInt8) (hy : ahs[w % 3]? = some y) (hz : bhs[w % 3]? = some z) : codeOf (Par.text (deepS y z k)) = if k < 40 then (0, 0) else (12, 125) := by
  have hw : w % 3 = 0 ∨ w % 3 = 1 ∨ w % 3 = 2 := by omega
  by_cases h : k < 40
  · rw [if_pos h]
    rcases hw with e | e | e <;> rw [e] at hy hz <;> cases hy <;> cases hz
    · exact okC_eq (allFrom_get s0_0 k (by omega) (by omega))
    · exact okC_eq (allFrom_get s0_1 k (by omega) (by omega))
    · exact okC_eq (allFrom_get s0_2 k (by omega) (by omega))
  · rw [if_neg h]
    rcases hw with e | e | e <;> rw [e] at hy hz <;> cases hy <;> cases hz
    · exact okC_eq (allFrom_get s1_0 k (by omega) (by omega))
    · exact okC_eq (allFrom_get s1_1 k (by omega) (by omega))
    · exact okC_eq (allFrom_get s1_2 k (by omega) (by omega))
end
end Go.Eng.YtjobofnpmmjeoaaDoor
/- The contracts stand in the program's context. No condition. -/
namespace Go.Eng.YtjobofnpmmjeoaaDoor
open Go.Eng
noncomputable section
def ctxS : Ctx := Ctx.of funs dfuns (moreIdx 56)
theorem hasF : HasF ctxS := by constructor <;> rfl
theorem hasD : HasD ctxS := ⟨⟨_, rfl⟩, fun st => idx_runs (f0 := 56) rfl rfl rfl st⟩
end
end Go.Eng.YtjobofnpmmjeoaaDoor
