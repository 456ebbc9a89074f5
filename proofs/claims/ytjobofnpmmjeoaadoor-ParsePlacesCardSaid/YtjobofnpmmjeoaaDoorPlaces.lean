/- Part of a proof of a law, by an evaluator that the machine follows: rules, contracts of functions, what they come to. No condition of its own. -/
import Derived.Test.YtjobofnpmmjeoaaDoorConE
import Derived.Test.YtjobofnpmmjeoaaDoorSym
import Derived.Test.YtjobofnpmmjeoaaDoorSpec
import Derived.Test.YtjobofnpmmjeoaaDoorBehind
namespace Go.Eng.YtjobofnpmmjeoaaDoor
open Go.Eng
noncomputable section
variable {c : Ctx}
theorem num_c (D : HasF c) {fs : List Fact} {h : Heap} {e : Nat} (st : St fs h) :
    RunP c 12 [.int .i64 (e : Int)] h fun v h1 => v = .int .i64 (e : Int) ∧ St fs h1 := by
  refine RunP.fun_ D.f12 rfl ?_
  refine WP.seq ?_
  refine WP.reg ?_
  refine WO.valS (v := .int .i64 0) rfl ?_
  refine WO.nil ?_
  refine WP.seq ?_
  refine WP.reg ?_
  refine WO.valS (v := .int .i64 (e : Int)) rfl ?_
  refine WO.nil ?_
  refine WP.ret ?_
  exact ⟨_, (res_cons (res_tmp (v := .int .i64 (e : Int)) rfl) (res_nil _ _)), (rfl), st⟩

theorem rows_two {h : Heap} {x : V} {r : Nat} {rows : List (List V)} (hr : Rows r h x rows) (hne : rows ≠ []) : ∃ b o cap, x = .sl b o rows.length cap := by
  cases hr with
  | nil => exact absurd rfl hne
  | row _ _ _ _ _ _ => exact ⟨_, _, _, rfl⟩
def awT : List UInt8 := [108, 97, 98, 101, 108, 115, 32, 97, 32, 60, 32, 98, 32, 60, 32, 99, 59]
def awR (x : Except (Nat × Nat) (List Pm)) : Bool := match x with
  | .ok [_, p] => decide (p.name = [98]) && decide (p.label = [99])
  | _ => false
theorem aw_ok : awR (Par.rows awT) = true := by kernel_rfl
theorem aw_two : ∃ p q, Par.rows awT = .ok [p, q] ∧ q.name = [98] ∧ q.label = [99] := by
  have h := aw_ok
  generalize Par.rows awT = x at h
  unfold awR at h
  split at h
  · rename_i p q
    simp at h; exact ⟨p, q, rfl, h.1, h.2⟩
  · cases h

theorem awake_c (D : HasF c) (h9 : T.get 9 c.funs = some i9) (DD : HasD c) {fs : List Fact} {h : Heap} (st : St fs h) :
    RunP c 9 [] h fun v h1 => v = .bool true ∧ St fs h1 := by
  refine RunP.fun_ h9 rfl ?_
  refine WP.seq ?_
  refine WP.reg ?_
  refine WO.valS (v := .bool false) rfl ?_
  refine WO.nil ?_
  refine WP.seq ?_
  refine WP.reg ?_
  obtain ⟨p, q, hpq, hqn, hql⟩ := aw_two
  have hc := Labels_c (s := awT) D DD st (by decide)
  rw [hpq] at hc
  refine WO.callF rfl hc ?_
  rintro _ h ⟨x, rfl, hcv, st⟩
  obtain ⟨xb, xo, xc, rfl⟩ := rows_two (st.stb_at 0 rfl) (by simp)
  replace st : St (.stb (fun h => Rows 3 h (.sl xb xo 2 xc) ([p, q].map Pm.row)) :: fs) h := st
  refine WO.val (v := .sl xb xo 2 xc) rfl ?_
  refine WO.val (v := .int .i64 ((0 : Nat) : Int)) rfl ?_
  refine WO.val (v := .int .i64 ((0 : Nat) : Int)) rfl ?_
  refine WO.valS (v := .sl xb xo 2 xc) rfl ?_
  refine WO.valS (v := .int .i64 ((0 : Nat) : Int)) rfl ?_
  refine WO.nil ?_
  refine WP.seq ?_
  refine WP.reg ?_
  refine WO.callF rfl (num_c (e := 0) D st) ?_
  rintro _ h ⟨rfl, st⟩
  replace st : St (.stb (fun h => Rows 3 h (.sl xb xo 2 xc) ([p, q].map Pm.row)) :: fs) h := st
  refine WO.ifV (L.eql rfl rfl) (fun c1 => ?_) (fun c1 => by exfalso; omega)
  refine WO.yes rfl ?_
  refine WO.val (v := .sl xb xo 2 xc) rfl ?_
  refine WO.yes rfl ?_
  refine WO.val (v := .int .i64 ((2 : Nat) : Int)) (L.llen rfl) ?_
  refine WO.yes rfl ?_
  refine WO.ifV (L.eql rfl rfl) (fun c2 => ?_) (fun c2 => by exfalso; omega)
  refine WO.val (v := .bool true) rfl ?_
  refine WO.yes rfl ?_
  refine WO.val (v := .sl xb xo 2 xc) rfl ?_
  refine WO.yes rfl ?_
  refine WO.val (v := .ptr xb (xo + 1 * 3)) (L.iaddr rfl rfl (by omega)) ?_
  refine WO.yes rfl ?_
  refine WO.val (v := .ptr xb (xo + 1 * 3 + 0)) (L.faddr rfl) ?_
  refine WO.yes rfl ?_
  refine WO.val (v := L.str q.name) (L.load rfl ((st.stb_at 0 rfl).load1F (i := 1) (j := 0) (v := L.str q.name) rfl rfl)) ?_
  refine WO.yes rfl ?_
  refine WO.ifV (L.seq (m := [98]) rfl rfl) (fun c3 => ?_) (fun c3 => by exfalso; exact c3 hqn)
  refine WO.val (v := .bool true) rfl ?_
  refine WO.yes rfl ?_
  refine WO.val (v := .sl xb xo 2 xc) rfl ?_
  refine WO.yes rfl ?_
  refine WO.val (v := .ptr xb (xo + 1 * 3)) (L.iaddr rfl rfl (by omega)) ?_
  refine WO.yes rfl ?_
  refine WO.val (v := .ptr xb (xo + 1 * 3 + 1)) (L.faddr rfl) ?_
  refine WO.yes rfl ?_
  refine WO.val (v := L.str q.label) (L.load rfl ((st.stb_at 0 rfl).load1F (i := 1) (j := 1) (v := L.str q.label) rfl rfl)) ?_
  refine WO.yes rfl ?_
  refine WO.ifV (L.seq (m := [99]) rfl rfl) (fun c4 => ?_) (fun c4 => by exfalso; exact c4 hql)
  refine WO.valS (v := .bool true) rfl ?_
  refine WO.nil ?_
  refine WP.ret ?_
  exact ⟨_, (res_cons (res_tmp (v := .bool true) rfl) (res_nil _ _)), rfl, st.tail⟩

end
end Go.Eng.YtjobofnpmmjeoaaDoor
namespace Go.Eng.YtjobofnpmmjeoaaDoor
open Go.Eng
noncomputable section
variable {c : Ctx}
def eCode {α : Type} (x : Except (Nat × Nat) α) : Nat × Nat := match x with | .ok _ => (0, 0) | .error e => e
theorem modE_c (D : HasF c) (DD : HasD c) {fs : List Fact} {h : Heap} {s : List UInt8} {e a : Nat} (st : St fs h) (hsz : s.length < 4294967296) (hs : eCode (Par.text s) = (e, a)) : RunP c 10 [L.str s] h fun v h1 => ∃ row, v = .tup [.agg row, .int .i64 (e : Int), .int .i64 (a : Int)] ∧ row.length = 5 ∧ St fs h1 := by
  obtain ⟨v, h1, hr, hp⟩ := Module_c D DD st hsz
  refine ⟨v, h1, hr, ?_⟩
  cases ht : Par.text s with
  | ok m =>
    rw [ht] at hp hs
    obtain ⟨row, rfl, hrow, st⟩ := hp
    cases hs
    exact ⟨row, rfl, hrow, st.tail⟩
  | error x =>
    obtain ⟨e1, a1⟩ := x
    rw [ht] at hp hs
    obtain ⟨rfl, st⟩ := hp
    cases hs
    exact ⟨_, rfl, rfl, st⟩
theorem text_err {s : List UInt8} {ts : List Tok} {e a : Nat} (hl : Lex.lex s = .ok ts) (h : eCode (Par.text s) = (e, a)) (he : e ≠ 0) : Par.modul 0 ts = .error (e, a) := by
  unfold Par.text at h
  rw [hl] at h
  simp only at h
  cases hm : Par.modul 0 ts with
  | error x => rw [hm] at h; exact congrArg Except.error h
  | ok x => obtain ⟨m, l⟩ := x; rw [hm] at h; cases h; exact absurd rfl he
theorem err_text {s : List UInt8} {ts : List Tok} {e a : Nat} (hl : Lex.lex s = .ok ts) (h : Par.modul 0 ts = .error (e, a)) : eCode (Par.text s) = (e, a) := by
  unfold Par.text
  rw [hl]
  simp only
  rw [h]; rfl
/-- the last of the tokens ahead of i at the place a -/
def LastAt (ts : List Tok) (a i : Nat) (kk : Int) : Prop := (kk = -1 ∧ ∀ (j : Nat) (u : Tok), ts[j]? = some u → j < i → u.at_ ≠ a) ∨ ∃ k : Nat, kk = (k : Int) ∧ k < i ∧ (∃ t : Tok, ts[k]? = some t ∧ t.at_ = a) ∧ ∀ (j : Nat) (u : Tok), ts[j]? = some u → j < i → u.at_ = a → j ≤ k
theorem LastAt.zero (ts : List Tok) (a : Nat) : LastAt ts a 0 (-1) := Or.inl ⟨rfl, fun _ _ _ h => absurd h (Nat.not_lt_zero _)⟩
theorem LastAt.hit {ts : List Tok} {a i : Nat} {u : Tok} (hu : ts[i]? = some u) (ha : u.at_ = a) : LastAt ts a (i + 1) (i : Int) := Or.inr ⟨i, rfl, Nat.lt_succ_self _, ⟨u, hu, ha⟩, fun j _ _ hj _ => Nat.le_of_lt_succ hj⟩
theorem LastAt.miss {ts : List Tok} {a i : Nat} {kk : Int} {u : Tok} (h : LastAt ts a i kk) (hu : ts[i]? = some u) (ha : u.at_ ≠ a) : LastAt ts a (i + 1) kk := by
  rcases h with ⟨e, h⟩ | ⟨k, e, hk, ht, h⟩
  · refine Or.inl ⟨e, fun j w hw hj => ?_⟩
    rcases Nat.lt_succ_iff_lt_or_eq.1 hj with hj | rfl
    · exact h j w hw hj
    · rw [hu] at hw; cases hw; exact ha
  · refine Or.inr ⟨k, e, Nat.lt_succ_of_lt hk, ht, fun j w hw hj hwa => ?_⟩
    rcases Nat.lt_succ_iff_lt_or_eq.1 hj with hj | rfl
    · exact h j w hw hj hwa
    · rw [hu] at hw; cases hw; exact absurd hwa ha
theorem LastAt.some {ts : List Tok} {a : Nat} {kk : Int} {j : Nat} {t : Tok} (h : LastAt ts a ts.length kk) (ht : ts[j]? = some t) (ha : t.at_ = a) : ∃ (k : Nat) (u : Tok), kk = (k : Int) ∧ k < ts.length ∧ ts[k]? = some u ∧ u.at_ = a ∧ ∀ (j : Nat) (w : Tok), ts[j]? = some w → w.at_ = a → j ≤ k := by
  rcases h with ⟨_, h⟩ | ⟨k, e, hk, ⟨u, hu, hua⟩, h⟩
  · exact absurd ha (h j t ht (List.getElem?_eq_some_iff.1 ht).1)
  · exact ⟨k, u, e, hk, hu, hua, fun j w hw hwa => h j w hw (List.getElem?_eq_some_iff.1 hw).1 hwa⟩

theorem places_c (D : HasF c) (h4 : T.get 4 c.funs = some i4) (h9 : T.get 9 c.funs = some i9) (DD : HasD c) {s mo : List UInt8} {fs : List Fact} {h : Heap} (st : St fs h) :
    RunP c 4 [L.str s, L.str mo] h fun v h1 => v = .bool true ∧ St fs h1 := by
  refine RunP.fun_ h4 rfl ?_
  refine WP.seq ?_
  refine WP.reg ?_
  refine WO.valS (v := .bool false) rfl ?_
  refine WO.nil ?_
  refine WP.seq ?_
  refine WP.seq ?_
  refine WP.reg ?_
  refine WO.val (v := .int .i64 (s.length : Int)) (L.slen rfl) ?_
  refine WO.ifV (L.gtr rfl rfl) (fun c1 => ?_) (fun c1 => ?_)
  · replace c1 : s.length > 1000 := by omega
    refine WO.no rfl ?_
    refine WO.no rfl ?_
    refine WO.no rfl ?_
    refine WO.valS (v := .bool true) rfl ?_
    refine WO.nil ?_
    refine WP.cond (t := true) rfl ?_
    refine WP.seq ?_
    refine WP.reg ?_
    refine WO.callFS rfl (awake_c D h9 DD st) ?_
    rintro _ h ⟨rfl, st⟩
    refine WO.nil ?_
    refine WP.ret ?_
    exact ⟨_, (res_cons (res_tmp (v := .bool true) rfl) (res_nil _ _)), rfl, st⟩
  · replace c1 : ¬ (s.length > 1000) := by omega
    refine WO.yes rfl ?_
    refine WO.val (v := L.str mo) rfl ?_
    refine WO.yes rfl ?_
    refine WO.val (v := .int .i64 (mo.length : Int)) (L.slen rfl) ?_
    refine WO.yes rfl ?_
    refine WO.ifV (L.gtr rfl rfl) (fun c2 => ?_) (fun c2 => ?_)
    · replace c2 : mo.length > 1000 := by omega
      refine WO.valS (v := .bool true) rfl ?_
      refine WO.nil ?_
      refine WP.cond (t := true) rfl ?_
      refine WP.seq ?_
      refine WP.reg ?_
      refine WO.callFS rfl (awake_c D h9 DD st) ?_
      rintro _ h ⟨rfl, st⟩
      refine WO.nil ?_
      refine WP.ret ?_
      exact ⟨_, (res_cons (res_tmp (v := .bool true) rfl) (res_nil _ _)), rfl, st⟩
    · replace c2 : ¬ (mo.length > 1000) := by omega
      refine WO.valS (v := .bool false) rfl ?_
      refine WO.nil ?_
      refine WP.cond (t := false) rfl ?_
      refine WP.skip ?_
      refine WP.seq ?_
      refine WP.reg ?_
      obtain ⟨e, a, hea⟩ : ∃ e a, eCode (Par.text s) = (e, a) := ⟨_, _, rfl⟩
      refine WO.callF rfl (modE_c D DD st (by omega) hea) ?_
      rintro _ h ⟨row1, rfl, hrow1, st⟩
      replace st : St (fs) h := st
      refine WO.val (v := .agg row1) rfl ?_
      refine WO.val (v := .int .i64 (e : Int)) rfl ?_
      refine WO.val (v := .int .i64 (a : Int)) rfl ?_
      refine WO.boxF st L.alloc (fun m1 h (st : St (.box m1 [.str 0 0, .int .i64 0, .slN, .slN, .slN] :: fs) h) => ?_)
      refine WO.storeF (row' := row1) st 0 rfl rfl rfl (by rw [lenV_eq]; exact hrow1) rfl rfl (overV_all hrow1) (fun h (st : St (.box m1 row1 :: fs) h) => ?_)
      refine WO.valS (v := .int .i64 (e : Int)) rfl ?_
      refine WO.valS (v := .int .i64 (a : Int)) rfl ?_
      refine WO.nil ?_
      refine WP.seq ?_
      refine WP.reg ?_
      have hc := lex_c (s := s) D DD st (by omega)
      cases hsp : Lex.lex s with
      | error x =>
        obtain ⟨e1, a1⟩ := x
        rw [hsp] at hc
        refine WO.callF rfl hc ?_
        rintro _ h ⟨rfl, st⟩
        replace st : St (.box m1 row1 :: fs) h := st
        refine WO.val (v := .slN) rfl ?_
        refine WO.val (v := .int .i64 (e1 : Int)) rfl ?_
        refine WO.val (v := .int .i64 (a1 : Int)) rfl ?_
        refine WO.valS (v := .slN) rfl ?_
        refine WO.valS (v := .int .i64 (e1 : Int)) rfl ?_
        refine WO.nil ?_
        refine WP.seq ?_
        refine WP.reg ?_
        have hc := lex_c (s := mo) D DD st (by omega)
        cases hsq : Lex.lex mo with
        | error x =>
          obtain ⟨e2, a2⟩ := x
          rw [hsq] at hc
          refine WO.callF rfl hc ?_
          rintro _ h ⟨rfl, st⟩
          replace st : St (.box m1 row1 :: fs) h := st
          refine WO.val (v := .slN) rfl ?_
          refine WO.val (v := .int .i64 (e2 : Int)) rfl ?_
          refine WO.val (v := .int .i64 (a2 : Int)) rfl ?_
          refine WO.valS (v := .int .i64 (e2 : Int)) rfl ?_
          refine WO.nil ?_
          refine WP.seq ?_
          refine WP.seq ?_
          refine WP.reg ?_
          refine WO.callF rfl (num_c (e := e1) D st) ?_
          rintro _ h ⟨rfl, st⟩
          replace st : St (.box m1 row1 :: fs) h := st
          have he0 := lex_err hsp
          refine WO.ifV (L.neq rfl rfl) (fun c_ => ?_) (fun c_ => by exfalso; omega)
          refine WO.no rfl ?_
          refine WO.no rfl ?_
          refine WO.no rfl ?_
          refine WO.val (v := .bool true) rfl ?_
          refine WO.no rfl ?_
          refine WO.no rfl ?_
          refine WO.no rfl ?_
          refine WO.no rfl ?_
          refine WO.no rfl ?_
          refine WO.no rfl ?_
          refine WO.no rfl ?_
          refine WO.no rfl ?_
          refine WO.valS (v := .bool true) rfl ?_
          refine WO.nil ?_
          refine WP.cond (t := true) rfl ?_
          refine WP.seq ?_
          refine WP.reg ?_
          refine WO.callFS rfl (awake_c D h9 DD st) ?_
          rintro _ h ⟨rfl, st⟩
          refine WO.nil ?_
          refine WP.ret ?_
          exact ⟨_, (res_cons (res_tmp (v := .bool true) rfl) (res_nil _ _)), rfl, st.tail⟩
        | ok x =>
          rw [hsq] at hc
          refine WO.callF rfl hc ?_
          rintro _ h ⟨y2, rfl, st⟩
          replace st : St (.stb (fun h => Rows 3 h y2 (x.map Tok.row)) :: .box m1 row1 :: fs) h := st
          obtain ⟨p2, rfl, rfl⟩ := toks_sl st (lex_ok hsq ⟨0, 0, 0, none, x⟩ rfl).2
          obtain ⟨hlfp2, hnep2⟩ := lex_ok hsq p2 rfl
          replace st : St (p2.toks :: .box m1 row1 :: fs) h := st
          refine WO.val (v := .sl p2.tb p2.to p2.ts.length p2.cap) rfl ?_
          refine WO.val (v := .int .i64 0) rfl ?_
          refine WO.val (v := .int .i64 0) rfl ?_
          refine WO.valS (v := .int .i64 0) rfl ?_
          refine WO.nil ?_
          refine WP.seq ?_
          refine WP.seq ?_
          refine WP.reg ?_
          refine WO.callF rfl (num_c (e := e1) D st) ?_
          rintro _ h ⟨rfl, st⟩
          replace st : St (p2.toks :: .box m1 row1 :: fs) h := st
          have he0 := lex_err hsp
          refine WO.ifV (L.neq rfl rfl) (fun c_ => ?_) (fun c_ => by exfalso; omega)
          refine WO.no rfl ?_
          refine WO.no rfl ?_
          refine WO.no rfl ?_
          refine WO.val (v := .bool true) rfl ?_
          refine WO.no rfl ?_
          refine WO.no rfl ?_
          refine WO.no rfl ?_
          refine WO.no rfl ?_
          refine WO.no rfl ?_
          refine WO.no rfl ?_
          refine WO.no rfl ?_
          refine WO.no rfl ?_
          refine WO.valS (v := .bool true) rfl ?_
          refine WO.nil ?_
          refine WP.cond (t := true) rfl ?_
          refine WP.seq ?_
          refine WP.reg ?_
          refine WO.callFS rfl (awake_c D h9 DD st) ?_
          rintro _ h ⟨rfl, st⟩
          refine WO.nil ?_
          refine WP.ret ?_
          exact ⟨_, (res_cons (res_tmp (v := .bool true) rfl) (res_nil _ _)), rfl, st.tail.tail⟩
      | ok x =>
        rw [hsp] at hc
        refine WO.callF rfl hc ?_
        rintro _ h ⟨y, rfl, st⟩
        replace st : St (.stb (fun h => Rows 3 h y (x.map Tok.row)) :: .box m1 row1 :: fs) h := st
        obtain ⟨p, rfl, rfl⟩ := toks_sl st (lex_ok hsp ⟨0, 0, 0, none, x⟩ rfl).2
        obtain ⟨hlfp, hnep⟩ := lex_ok hsp p rfl
        replace st : St (p.toks :: .box m1 row1 :: fs) h := st
        refine WO.val (v := .sl p.tb p.to p.ts.length p.cap) rfl ?_
        refine WO.val (v := .int .i64 0) rfl ?_
        refine WO.val (v := .int .i64 0) rfl ?_
        refine WO.valS (v := .sl p.tb p.to p.ts.length p.cap) rfl ?_
        refine WO.valS (v := .int .i64 0) rfl ?_
        refine WO.nil ?_
        refine WP.seq ?_
        refine WP.reg ?_
        have hc := lex_c (s := mo) D DD st (by omega)
        cases hsq : Lex.lex mo with
        | error x =>
          obtain ⟨e2, a2⟩ := x
          rw [hsq] at hc
          refine WO.callF rfl hc ?_
          rintro _ h ⟨rfl, st⟩
          replace st : St (p.toks :: .box m1 row1 :: fs) h := st
          refine WO.val (v := .slN) rfl ?_
          refine WO.val (v := .int .i64 (e2 : Int)) rfl ?_
          refine WO.val (v := .int .i64 (a2 : Int)) rfl ?_
          refine WO.valS (v := .int .i64 (e2 : Int)) rfl ?_
          refine WO.nil ?_
          refine WP.seq ?_
          refine WP.seq ?_
          refine WP.reg ?_
          refine WO.callF rfl (num_c (e := 0) D st) ?_
          rintro _ h ⟨rfl, st⟩
          replace st : St (p.toks :: .box m1 row1 :: fs) h := st
          refine WO.ifV (L.neq rfl rfl) (fun c_ => by exfalso; omega) (fun c_ => ?_)
          refine WO.yes rfl ?_
          refine WO.val (v := .int .i64 (e2 : Int)) rfl ?_
          refine WO.yes rfl ?_
          refine WO.callF rfl (num_c (e := e2) D st) ?_
          rintro _ h ⟨rfl, st⟩
          replace st : St (p.toks :: .box m1 row1 :: fs) h := st
          refine WO.yes rfl ?_
          have he0 := lex_err hsq
          refine WO.ifV (L.neq rfl rfl) (fun c_ => ?_) (fun c_ => by exfalso; omega)
          refine WO.val (v := .bool true) rfl ?_
          refine WO.no rfl ?_
          refine WO.no rfl ?_
          refine WO.no rfl ?_
          refine WO.no rfl ?_
          refine WO.no rfl ?_
          refine WO.no rfl ?_
          refine WO.no rfl ?_
          refine WO.no rfl ?_
          refine WO.valS (v := .bool true) rfl ?_
          refine WO.nil ?_
          refine WP.cond (t := true) rfl ?_
          refine WP.seq ?_
          refine WP.reg ?_
          refine WO.callFS rfl (awake_c D h9 DD st) ?_
          rintro _ h ⟨rfl, st⟩
          refine WO.nil ?_
          refine WP.ret ?_
          exact ⟨_, (res_cons (res_tmp (v := .bool true) rfl) (res_nil _ _)), rfl, st.tail.tail⟩
        | ok x =>
          rw [hsq] at hc
          refine WO.callF rfl hc ?_
          rintro _ h ⟨y2, rfl, st⟩
          replace st : St (.stb (fun h => Rows 3 h y2 (x.map Tok.row)) :: p.toks :: .box m1 row1 :: fs) h := st
          obtain ⟨p2, rfl, rfl⟩ := toks_sl st (lex_ok hsq ⟨0, 0, 0, none, x⟩ rfl).2
          obtain ⟨hlfp2, hnep2⟩ := lex_ok hsq p2 rfl
          replace st : St (p2.toks :: p.toks :: .box m1 row1 :: fs) h := st
          refine WO.val (v := .sl p2.tb p2.to p2.ts.length p2.cap) rfl ?_
          refine WO.val (v := .int .i64 0) rfl ?_
          refine WO.val (v := .int .i64 0) rfl ?_
          refine WO.valS (v := .int .i64 0) rfl ?_
          refine WO.nil ?_
          refine WP.seq ?_
          refine WP.seq ?_
          refine WP.reg ?_
          refine WO.callF rfl (num_c (e := 0) D st) ?_
          rintro _ h ⟨rfl, st⟩
          replace st : St (p2.toks :: p.toks :: .box m1 row1 :: fs) h := st
          refine WO.ifV (L.neq rfl rfl) (fun c_ => by exfalso; omega) (fun c_ => ?_)
          refine WO.yes rfl ?_
          refine WO.val (v := .int .i64 0) rfl ?_
          refine WO.yes rfl ?_
          refine WO.callF rfl (num_c (e := 0) D st) ?_
          rintro _ h ⟨rfl, st⟩
          replace st : St (p2.toks :: p.toks :: .box m1 row1 :: fs) h := st
          refine WO.yes rfl ?_
          refine WO.ifV (L.neq rfl rfl) (fun c_ => by exfalso; omega) (fun c_ => ?_)
          refine WO.val (v := .bool false) rfl ?_
          refine WO.yes rfl ?_
          refine WO.val (v := .int .i64 (e : Int)) rfl ?_
          refine WO.yes rfl ?_
          refine WO.callF rfl (num_c (e := e) D st) ?_
          rintro _ h ⟨rfl, st⟩
          replace st : St (p2.toks :: p.toks :: .box m1 row1 :: fs) h := st
          refine WO.yes rfl ?_
          refine WO.ifV (L.neq rfl rfl) (fun c3 => ?_) (fun c3 => ?_)
          · replace c3 : e ≠ 11 := by omega
            refine WO.yes rfl ?_
            refine WO.val (v := .bool true) rfl ?_
            refine WO.yes rfl ?_
            refine WO.val (v := .int .i64 (e : Int)) rfl ?_
            refine WO.yes rfl ?_
            refine WO.callF rfl (num_c (e := e) D st) ?_
            rintro _ h ⟨rfl, st⟩
            replace st : St (p2.toks :: p.toks :: .box m1 row1 :: fs) h := st
            refine WO.yes rfl ?_
            refine WO.ifV (L.neq rfl rfl) (fun c4 => ?_) (fun c4 => ?_)
            · replace c4 : e ≠ 12 := by omega
              refine WO.yes rfl ?_
              refine WO.val (v := .bool true) rfl ?_
              refine WO.valS (v := .bool true) rfl ?_
              refine WO.nil ?_
              refine WP.cond (t := true) rfl ?_
              refine WP.seq ?_
              refine WP.reg ?_
              refine WO.callFS rfl (awake_c D h9 DD st) ?_
              rintro _ h ⟨rfl, st⟩
              refine WO.nil ?_
              refine WP.ret ?_
              exact ⟨_, (res_cons (res_tmp (v := .bool true) rfl) (res_nil _ _)), rfl, st.tail.tail.tail⟩
            · replace c4 : ¬ (e ≠ 12) := by omega
              refine WO.yes rfl ?_
              refine WO.val (v := .bool false) rfl ?_
              refine WO.valS (v := .bool false) rfl ?_
              refine WO.nil ?_
              refine WP.cond (t := false) rfl ?_
              refine WP.skip ?_
              refine WP.seq ?_
              refine WP.reg ?_
              refine WO.valS (v := .int .i64 (-1)) rfl ?_
              refine WO.nil ?_
              refine WP.seq ?_
              refine WP.seq ?_
              refine WP.reg ?_
              refine WO.valS (v := .int .i64 0) rfl ?_
              refine WO.nil ?_
              refine WP.block ?_
              have he_ : e ≠ 0 := by omega
              have hmod := text_err hsp hea he_
              have hnp : 0 < p.ts.length := List.length_pos_iff.2 hnep
              have hsm := hlfp.small
              refine WP.loopG (α := Nat) (fun i env h => ∃ kk x10 x12, (i ≤ p.ts.length ∧ LastAt p.ts a i kk) ∧ env = argsP [L.str s, L.str mo, .bool false, .bool false, .int .i64 0, .int .i64 0, .int .i64 (e : Int), .bool false, .sl p.tb p.to p.ts.length p.cap, .int .i64 (i : Int), x10, .int .i64 (a : Int), x12, .int .i64 kk] 0 Env.nil ∧ St (p2.toks :: p.toks :: .box m1 row1 :: fs) h) (fun i => p.ts.length - i) 0 ?_ ?_
              · exact ⟨(-1), .bot, .bot, ⟨Nat.zero_le _, LastAt.zero _ _⟩, by kernel_rfl, (((st.pick 2 rfl).pick 2 rfl).pick 2 rfl)⟩
              rintro i _ h ⟨kk, x10, x12, ⟨hi, hla⟩, rfl, st⟩
              replace st : St (p2.toks :: p.toks :: .box m1 row1 :: fs) h := st
              refine WP.seq ?_
              refine WP.seq ?_
              refine WP.reg ?_
              refine WO.val (v := .int .i64 (p.ts.length : Int)) (L.llen rfl) ?_
              refine WO.ifS (L.lss rfl rfl) (fun c5 => ?_) (fun c5 => ?_)
              · replace c5 : i < p.ts.length := by omega
                refine WO.nil ?_
                refine WP.cond (t := true) rfl ?_
                refine WP.skip ?_
                refine WP.seq ?_
                refine WP.block ?_
                refine WP.seq ?_
                refine WP.reg ?_
                obtain ⟨u, ho⟩ : ∃ u, p.ts[i]? = some u := ⟨_, List.getElem?_eq_getElem c5⟩
                refine WO.val (v := .ptr p.tb (p.to + i * 3)) (L.iaddr rfl rfl c5) ?_
                refine WO.val (v := .ptr p.tb (p.to + i * 3 + 2)) (L.faddr rfl) ?_
                refine WO.val (v := .int .i64 (u.at_ : Int)) (L.load rfl ((st.stb_at 1 rfl).load1F (i := i) (j := 2) (row := u.row) (by rw [List.getElem?_map, ho]; rfl) rfl)) ?_
                refine WO.ifS (L.eql rfl rfl) (fun c6 => ?_) (fun c6 => ?_)
                · replace c6 : u.at_ = a := by omega
                  refine WO.nil ?_
                  refine WP.cond (t := true) rfl ?_
                  refine WP.reg ?_
                  refine WO.valS (v := .int .i64 (i : Int)) rfl ?_
                  refine WO.nil ?_
                  refine WP.reg ?_
                  refine WO.valS (v := .int .i64 ((i + 1 : Nat) : Int)) (L.addE rfl rfl (by omega) (And.intro (by omega) (by omega))) ?_
                  refine WO.nil ?_
                  exact ⟨i + 1, (by omega), (i : Int), (.bool true), (.bool true), ⟨by omega, LastAt.hit ho c6⟩, by kernel_rfl, (((st.pick 2 rfl).pick 2 rfl).pick 2 rfl)⟩
                · replace c6 : ¬ (u.at_ = a) := by omega
                  refine WO.nil ?_
                  refine WP.cond (t := false) rfl ?_
                  refine WP.skip ?_
                  refine WP.reg ?_
                  refine WO.valS (v := .int .i64 ((i + 1 : Nat) : Int)) (L.addE rfl rfl (by omega) (And.intro (by omega) (by omega))) ?_
                  refine WO.nil ?_
                  exact ⟨i + 1, (by omega), kk, (.bool true), (.bool false), ⟨by omega, hla.miss ho c6⟩, by kernel_rfl, (((st.pick 2 rfl).pick 2 rfl).pick 2 rfl)⟩
              · replace c5 : ¬ (i < p.ts.length) := by omega
                refine WO.nil ?_
                refine WP.cond (t := false) rfl ?_
                refine WP.exit ?_
                refine WP.seq ?_
                refine WP.seq ?_
                refine WP.reg ?_
                have hin : i = p.ts.length := by omega
                subst hin
                obtain ⟨j0, t0, hj0, hta0⟩ := err_place hsp hmod
                obtain ⟨k, t, rfl, hkn, htk, hta, hlast⟩ := hla.some hj0 hta0
                refine WO.ifS (L.lss rfl rfl) (fun c_ => by exfalso; omega) (fun c_ => ?_)
                refine WO.nil ?_
                refine WP.cond (t := false) rfl ?_
                refine WP.skip ?_
                refine WP.seq ?_
                refine WP.seq ?_
                refine WP.reg ?_
                refine WO.val (v := .int .i64 (p.ts.length : Int)) (L.llen rfl) ?_
                refine WO.val (v := .int .i64 ((p.ts.length - 1 : Nat) : Int)) (L.subE rfl rfl (by omega) (And.intro (by omega) (by omega))) ?_
                refine WO.ifS (L.eql rfl rfl) (fun c7 => ?_) (fun c7 => ?_)
                · replace c7 : k = (p.ts.length - 1) := by omega
                  refine WO.nil ?_
                  refine WP.cond (t := true) rfl ?_
                  refine WP.seq ?_
                  refine WP.reg ?_
                  refine WO.callFS rfl (awake_c D h9 DD st) ?_
                  rintro _ h ⟨rfl, st⟩
                  refine WO.nil ?_
                  refine WP.ret ?_
                  exact ⟨_, (res_cons (res_tmp (v := .bool true) rfl) (res_nil _ _)), rfl, st.tail.tail.tail⟩
                · replace c7 : ¬ (k = (p.ts.length - 1)) := by omega
                  refine WO.nil ?_
                  refine WP.cond (t := false) rfl ?_
                  refine WP.skip ?_
                  refine WP.seq ?_
                  refine WP.reg ?_
                  have hk1 : k + 1 < p.ts.length := by omega
                  obtain ⟨hb, ts2, hlx2, hmd2⟩ := err_stays hsp hsq (by omega) (by omega) hmod hk1 htk hlast hta
                  have hea2 := err_text hlx2 hmd2
                  refine WO.val (v := .ptr p.tb (p.to + k * 3)) (L.iaddr rfl rfl (by omega)) ?_
                  refine WO.val (v := .ptr p.tb (p.to + k * 3 + 1)) (L.faddr rfl) ?_
                  refine WO.val (v := L.str t.text) (L.load rfl ((st.stb_at 1 rfl).load1F (i := k) (j := 1) (row := t.row) (by rw [List.getElem?_map, htk]; rfl) rfl)) ?_
                  refine WO.val (v := .int .i64 (t.text.length : Int)) (L.slen rfl) ?_
                  refine WO.val (v := .int .i64 ((a + t.text.length : Nat) : Int)) (L.addE rfl rfl (by omega) (And.intro (by omega) (by omega))) ?_
                  refine WO.val (v := L.str ((s.drop 0).take (a + t.text.length - 0))) (L.ssub rfl rfl rfl (by omega) (by omega)) ?_
                  refine WO.val (v := L.str (s.take (a + t.text.length) ++ [32])) (L.scatE (m := [32]) rfl rfl (by simp) (by simp; omega)) ?_
                  refine WO.val (v := L.str (s.take (a + t.text.length) ++ 32 :: mo)) (L.scatE rfl rfl (by simp) (by simp; omega)) ?_
                  refine WO.callF rfl (modE_c D DD st (by simp; omega) hea2) ?_
                  rintro _ h ⟨row2, rfl, hrow2, st⟩
                  replace st : St (p2.toks :: p.toks :: .box m1 row1 :: fs) h := st
                  refine WO.val (v := .agg row2) rfl ?_
                  refine WO.val (v := .int .i64 (e : Int)) rfl ?_
                  refine WO.val (v := .int .i64 (a : Int)) rfl ?_
                  refine WO.boxF st L.alloc (fun m2 h (st : St (.box m2 [.str 0 0, .int .i64 0, .slN, .slN, .slN] :: p2.toks :: p.toks :: .box m1 row1 :: fs) h) => ?_)
                  refine WO.storeF (row' := row2) st 0 rfl rfl rfl (by rw [lenV_eq]; exact hrow2) rfl rfl (overV_all hrow2) (fun h (st : St (.box m2 row2 :: p2.toks :: p.toks :: .box m1 row1 :: fs) h) => ?_)
                  refine WO.valS (v := .int .i64 (e : Int)) rfl ?_
                  refine WO.valS (v := .int .i64 (a : Int)) rfl ?_
                  refine WO.nil ?_
                  refine WP.seq ?_
                  refine WP.reg ?_
                  refine WO.callF rfl (num_c (e := e) D st) ?_
                  rintro _ h ⟨rfl, st⟩
                  replace st : St (.box m2 row2 :: p2.toks :: p.toks :: .box m1 row1 :: fs) h := st
                  refine WO.callF rfl (num_c (e := e) D st) ?_
                  rintro _ h ⟨rfl, st⟩
                  replace st : St (.box m2 row2 :: p2.toks :: p.toks :: .box m1 row1 :: fs) h := st
                  refine WO.ifV (L.eql rfl rfl) (fun c8 => ?_) (fun c8 => by exfalso; omega)
                  refine WO.yes rfl ?_
                  refine WO.val (v := .int .i64 (a : Int)) rfl ?_
                  refine WO.yes rfl ?_
                  refine WO.val (v := .int .i64 (a : Int)) rfl ?_
                  refine WO.yes rfl ?_
                  refine WO.ifV (L.eql rfl rfl) (fun c9 => ?_) (fun c9 => by exfalso; omega)
                  refine WO.val (v := .bool true) rfl ?_
                  refine WO.yes rfl ?_
                  refine WO.callF rfl (awake_c D h9 DD st) ?_
                  rintro _ h ⟨rfl, st⟩
                  refine WO.valS (v := .bool true) rfl ?_
                  refine WO.nil ?_
                  refine WP.ret ?_
                  exact ⟨_, (res_cons (res_tmp (v := .bool true) rfl) (res_nil _ _)), rfl, st.tail.tail.tail.tail⟩
          · replace c3 : ¬ (e ≠ 11) := by omega
            refine WO.yes rfl ?_
            refine WO.val (v := .bool false) rfl ?_
            refine WO.no rfl ?_
            refine WO.no rfl ?_
            refine WO.no rfl ?_
            refine WO.yes rfl ?_
            refine WO.val (v := .bool false) rfl ?_
            refine WO.valS (v := .bool false) rfl ?_
            refine WO.nil ?_
            refine WP.cond (t := false) rfl ?_
            refine WP.skip ?_
            refine WP.seq ?_
            refine WP.reg ?_
            refine WO.valS (v := .int .i64 (-1)) rfl ?_
            refine WO.nil ?_
            refine WP.seq ?_
            refine WP.seq ?_
            refine WP.reg ?_
            refine WO.valS (v := .int .i64 0) rfl ?_
            refine WO.nil ?_
            refine WP.block ?_
            have he_ : e ≠ 0 := by omega
            have hmod := text_err hsp hea he_
            have hnp : 0 < p.ts.length := List.length_pos_iff.2 hnep
            have hsm := hlfp.small
            refine WP.loopG (α := Nat) (fun i env h => ∃ kk x10 x12, (i ≤ p.ts.length ∧ LastAt p.ts a i kk) ∧ env = argsP [L.str s, L.str mo, .bool false, .bool false, .int .i64 0, .int .i64 0, .int .i64 (e : Int), .bool false, .sl p.tb p.to p.ts.length p.cap, .int .i64 (i : Int), x10, .int .i64 (a : Int), x12, .int .i64 kk] 0 Env.nil ∧ St (p2.toks :: p.toks :: .box m1 row1 :: fs) h) (fun i => p.ts.length - i) 0 ?_ ?_
            · exact ⟨(-1), .bot, .bot, ⟨Nat.zero_le _, LastAt.zero _ _⟩, by kernel_rfl, (((st.pick 2 rfl).pick 2 rfl).pick 2 rfl)⟩
            rintro i _ h ⟨kk, x10, x12, ⟨hi, hla⟩, rfl, st⟩
            replace st : St (p2.toks :: p.toks :: .box m1 row1 :: fs) h := st
            refine WP.seq ?_
            refine WP.seq ?_
            refine WP.reg ?_
            refine WO.val (v := .int .i64 (p.ts.length : Int)) (L.llen rfl) ?_
            refine WO.ifS (L.lss rfl rfl) (fun c10 => ?_) (fun c10 => ?_)
            · replace c10 : i < p.ts.length := by omega
              refine WO.nil ?_
              refine WP.cond (t := true) rfl ?_
              refine WP.skip ?_
              refine WP.seq ?_
              refine WP.block ?_
              refine WP.seq ?_
              refine WP.reg ?_
              obtain ⟨u, ho⟩ : ∃ u, p.ts[i]? = some u := ⟨_, List.getElem?_eq_getElem c10⟩
              refine WO.val (v := .ptr p.tb (p.to + i * 3)) (L.iaddr rfl rfl c10) ?_
              refine WO.val (v := .ptr p.tb (p.to + i * 3 + 2)) (L.faddr rfl) ?_
              refine WO.val (v := .int .i64 (u.at_ : Int)) (L.load rfl ((st.stb_at 1 rfl).load1F (i := i) (j := 2) (row := u.row) (by rw [List.getElem?_map, ho]; rfl) rfl)) ?_
              refine WO.ifS (L.eql rfl rfl) (fun c11 => ?_) (fun c11 => ?_)
              · replace c11 : u.at_ = a := by omega
                refine WO.nil ?_
                refine WP.cond (t := true) rfl ?_
                refine WP.reg ?_
                refine WO.valS (v := .int .i64 (i : Int)) rfl ?_
                refine WO.nil ?_
                refine WP.reg ?_
                refine WO.valS (v := .int .i64 ((i + 1 : Nat) : Int)) (L.addE rfl rfl (by omega) (And.intro (by omega) (by omega))) ?_
                refine WO.nil ?_
                exact ⟨i + 1, (by omega), (i : Int), (.bool true), (.bool true), ⟨by omega, LastAt.hit ho c11⟩, by kernel_rfl, (((st.pick 2 rfl).pick 2 rfl).pick 2 rfl)⟩
              · replace c11 : ¬ (u.at_ = a) := by omega
                refine WO.nil ?_
                refine WP.cond (t := false) rfl ?_
                refine WP.skip ?_
                refine WP.reg ?_
                refine WO.valS (v := .int .i64 ((i + 1 : Nat) : Int)) (L.addE rfl rfl (by omega) (And.intro (by omega) (by omega))) ?_
                refine WO.nil ?_
                exact ⟨i + 1, (by omega), kk, (.bool true), (.bool false), ⟨by omega, hla.miss ho c11⟩, by kernel_rfl, (((st.pick 2 rfl).pick 2 rfl).pick 2 rfl)⟩
            · replace c10 : ¬ (i < p.ts.length) := by omega
              refine WO.nil ?_
              refine WP.cond (t := false) rfl ?_
              refine WP.exit ?_
              refine WP.seq ?_
              refine WP.seq ?_
              refine WP.reg ?_
              have hin : i = p.ts.length := by omega
              subst hin
              obtain ⟨j0, t0, hj0, hta0⟩ := err_place hsp hmod
              obtain ⟨k, t, rfl, hkn, htk, hta, hlast⟩ := hla.some hj0 hta0
              refine WO.ifS (L.lss rfl rfl) (fun c_ => by exfalso; omega) (fun c_ => ?_)
              refine WO.nil ?_
              refine WP.cond (t := false) rfl ?_
              refine WP.skip ?_
              refine WP.seq ?_
              refine WP.seq ?_
              refine WP.reg ?_
              refine WO.val (v := .int .i64 (p.ts.length : Int)) (L.llen rfl) ?_
              refine WO.val (v := .int .i64 ((p.ts.length - 1 : Nat) : Int)) (L.subE rfl rfl (by omega) (And.intro (by omega) (by omega))) ?_
              refine WO.ifS (L.eql rfl rfl) (fun c12 => ?_) (fun c12 => ?_)
              · replace c12 : k = (p.ts.length - 1) := by omega
                refine WO.nil ?_
                refine WP.cond (t := true) rfl ?_
                refine WP.seq ?_
                refine WP.reg ?_
                refine WO.callFS rfl (awake_c D h9 DD st) ?_
                rintro _ h ⟨rfl, st⟩
                refine WO.nil ?_
                refine WP.ret ?_
                exact ⟨_, (res_cons (res_tmp (v := .bool true) rfl) (res_nil _ _)), rfl, st.tail.tail.tail⟩
              · replace c12 : ¬ (k = (p.ts.length - 1)) := by omega
                refine WO.nil ?_
                refine WP.cond (t := false) rfl ?_
                refine WP.skip ?_
                refine WP.seq ?_
                refine WP.reg ?_
                have hk1 : k + 1 < p.ts.length := by omega
                obtain ⟨hb, ts2, hlx2, hmd2⟩ := err_stays hsp hsq (by omega) (by omega) hmod hk1 htk hlast hta
                have hea2 := err_text hlx2 hmd2
                refine WO.val (v := .ptr p.tb (p.to + k * 3)) (L.iaddr rfl rfl (by omega)) ?_
                refine WO.val (v := .ptr p.tb (p.to + k * 3 + 1)) (L.faddr rfl) ?_
                refine WO.val (v := L.str t.text) (L.load rfl ((st.stb_at 1 rfl).load1F (i := k) (j := 1) (row := t.row) (by rw [List.getElem?_map, htk]; rfl) rfl)) ?_
                refine WO.val (v := .int .i64 (t.text.length : Int)) (L.slen rfl) ?_
                refine WO.val (v := .int .i64 ((a + t.text.length : Nat) : Int)) (L.addE rfl rfl (by omega) (And.intro (by omega) (by omega))) ?_
                refine WO.val (v := L.str ((s.drop 0).take (a + t.text.length - 0))) (L.ssub rfl rfl rfl (by omega) (by omega)) ?_
                refine WO.val (v := L.str (s.take (a + t.text.length) ++ [32])) (L.scatE (m := [32]) rfl rfl (by simp) (by simp; omega)) ?_
                refine WO.val (v := L.str (s.take (a + t.text.length) ++ 32 :: mo)) (L.scatE rfl rfl (by simp) (by simp; omega)) ?_
                refine WO.callF rfl (modE_c D DD st (by simp; omega) hea2) ?_
                rintro _ h ⟨row3, rfl, hrow3, st⟩
                replace st : St (p2.toks :: p.toks :: .box m1 row1 :: fs) h := st
                refine WO.val (v := .agg row3) rfl ?_
                refine WO.val (v := .int .i64 (e : Int)) rfl ?_
                refine WO.val (v := .int .i64 (a : Int)) rfl ?_
                refine WO.boxF st L.alloc (fun m2 h (st : St (.box m2 [.str 0 0, .int .i64 0, .slN, .slN, .slN] :: p2.toks :: p.toks :: .box m1 row1 :: fs) h) => ?_)
                refine WO.storeF (row' := row3) st 0 rfl rfl rfl (by rw [lenV_eq]; exact hrow3) rfl rfl (overV_all hrow3) (fun h (st : St (.box m2 row3 :: p2.toks :: p.toks :: .box m1 row1 :: fs) h) => ?_)
                refine WO.valS (v := .int .i64 (e : Int)) rfl ?_
                refine WO.valS (v := .int .i64 (a : Int)) rfl ?_
                refine WO.nil ?_
                refine WP.seq ?_
                refine WP.reg ?_
                refine WO.callF rfl (num_c (e := e) D st) ?_
                rintro _ h ⟨rfl, st⟩
                replace st : St (.box m2 row3 :: p2.toks :: p.toks :: .box m1 row1 :: fs) h := st
                refine WO.callF rfl (num_c (e := e) D st) ?_
                rintro _ h ⟨rfl, st⟩
                replace st : St (.box m2 row3 :: p2.toks :: p.toks :: .box m1 row1 :: fs) h := st
                refine WO.ifV (L.eql rfl rfl) (fun c13 => ?_) (fun c13 => by exfalso; omega)
                refine WO.yes rfl ?_
                refine WO.val (v := .int .i64 (a : Int)) rfl ?_
                refine WO.yes rfl ?_
                refine WO.val (v := .int .i64 (a : Int)) rfl ?_
                refine WO.yes rfl ?_
                refine WO.ifV (L.eql rfl rfl) (fun c14 => ?_) (fun c14 => by exfalso; omega)
                refine WO.val (v := .bool true) rfl ?_
                refine WO.yes rfl ?_
                refine WO.callF rfl (awake_c D h9 DD st) ?_
                rintro _ h ⟨rfl, st⟩
                refine WO.valS (v := .bool true) rfl ?_
                refine WO.nil ?_
                refine WP.ret ?_
                exact ⟨_, (res_cons (res_tmp (v := .bool true) rfl) (res_nil _ _)), rfl, st.tail.tail.tail.tail⟩

end
end Go.Eng.YtjobofnpmmjeoaaDoor
/- The contracts stand in the program's context. No condition. -/
namespace Go.Eng.YtjobofnpmmjeoaaDoor
open Go.Eng
noncomputable section
def ctxS : Ctx := Ctx.of funs dfuns (moreIdx 56)
theorem hasF : HasF ctxS := by constructor <;> rfl
theorem hasD : HasD ctxS := ⟨⟨_, rfl⟩, fun st => idx_runs (f0 := 56) rfl rfl rfl st⟩
end
end Go.Eng.YtjobofnpmmjeoaaDoor
