/- Part of a proof of a law, by an evaluator that the machine follows: rules, contracts of functions, what they come to. No condition of its own. -/
import Derived.Test.YtmcjcbldmoijiaaGreatDoorConA
import Derived.Test.YtmcjcbldmoijiaaGreatDoorSymE
set_option linter.unusedVariables false
set_option linter.unusedSimpArgs false
namespace Go.Eng.YtmcjcbldmoijiaaGreatDoor
open Go.Eng
noncomputable section
variable {c : Ctx}
/-- the functions that are told -/
structure HasC (c : Ctx) : Prop where
  f5 : T.get 5 c.funs = some i5
  yes : ∀ h : Heap, RunP c 8 [] h fun v h1 => v = .bool true ∧ h1 = h
  a : HasA c
  b : HasB c
theorem rises_at {U : List Lab.Txt} {i : Nat} {x y : Lab.Txt} (h : U.Pairwise (· < ·)) (hi : 1 ≤ i) (hx : U[i]? = some x) (hy : U[i - 1]? = some y) : y < x := by
  obtain ⟨h1, e1⟩ := List.getElem?_eq_some_iff.1 hx
  obtain ⟨h2, e2⟩ := List.getElem?_eq_some_iff.1 hy
  have := List.pairwise_iff_getElem.1 h (i - 1) i h2 h1 (by omega)
  rw [e1, e2] at this; exact this
theorem sets_c (D : HasC c) {fs : List Fact} {h : Heap} {va vb : V} {A B : List Lab.Txt} (st : St (.stb (fun h => SRows h va A) :: .stb (fun h => SRows h vb B) :: fs) h) :
    RunP c 5 [va, vb] h fun v1 h1 => v1 = .bool true := by
  refine RunP.fun_ D.f5 rfl ?_
  refine WP.seq ?_
  refine WP.reg ?_
  refine WO.valS (v := .bool false) rfl ?_
  refine WO.nil ?_
  refine WP.seq ?_
  refine WP.seq ?_
  refine WP.reg ?_
  refine WO.val (v := .int .i64 (A.length : Int)) (L.llenS rfl (st.stb_at 0 rfl)) ?_
  refine WO.ifV (L.gtr rfl rfl) (fun c1 => ?_) (fun c1 => ?_)
  · replace c1 : 60 < A.length := by omega
    refine WO.no rfl ?_
    refine WO.no rfl ?_
    refine WO.no rfl ?_
    refine WO.valS (v := .bool true) rfl ?_
    refine WO.nil ?_
    refine WP.cond (t := true) rfl ?_
    refine WP.seq ?_
    refine WP.reg ?_
    refine WO.callFS rfl (D.yes _) ?_
    rintro _ _ ⟨rfl, rfl⟩
    refine WO.nil ?_
    refine WP.ret ?_
    exact ⟨_, (res_cons (res_tmp (v := .bool true) rfl) (res_nil _ _)), rfl⟩
  · replace c1 : A.length ≤ 60 := by omega
    refine WO.yes rfl ?_
    refine WO.val (v := vb) rfl ?_
    refine WO.yes rfl ?_
    refine WO.val (v := .int .i64 (B.length : Int)) (L.llenS rfl (st.stb_at 1 rfl)) ?_
    refine WO.yes rfl ?_
    refine WO.ifV (L.gtr rfl rfl) (fun c2 => ?_) (fun c2 => ?_)
    · replace c2 : 60 < B.length := by omega
      refine WO.valS (v := .bool true) rfl ?_
      refine WO.nil ?_
      refine WP.cond (t := true) rfl ?_
      refine WP.seq ?_
      refine WP.reg ?_
      refine WO.callFS rfl (D.yes _) ?_
      rintro _ _ ⟨rfl, rfl⟩
      refine WO.nil ?_
      refine WP.ret ?_
      exact ⟨_, (res_cons (res_tmp (v := .bool true) rfl) (res_nil _ _)), rfl⟩
    · replace c2 : B.length ≤ 60 := by omega
      refine WO.valS (v := .bool false) rfl ?_
      refine WO.nil ?_
      refine WP.cond (t := false) rfl ?_
      refine WP.skip ?_
      refine WP.seq ?_
      refine WP.reg ?_
      refine WO.callFS rfl (union_c D.b (by omega) st) ?_
      rintro vu h st
      obtain ⟨U, hU⟩ : ∃ U, U = risen (A ++ B) := ⟨_, rfl⟩
      rw [← hU] at st
      have hUl : U.length < 4294967296 := by have := risen_len (A ++ B); rw [List.length_append] at this; rw [hU]; omega
      have hUr : U.Pairwise (· < ·) := hU ▸ risen_rises _
      have hUm : ∀ z, z ∈ U ↔ z ∈ A ∨ z ∈ B := fun z => by rw [hU, risen_mem, List.mem_append]
      replace st : St (.stb (fun h => SRows h vu U) :: .stb (fun h => SRows h va A) :: .stb (fun h => SRows h vb B) :: fs) h := st.imp0 fun h hx => hx.sr
      refine WO.nil ?_
      refine WP.seq ?_
      refine WP.seq ?_
      refine WP.reg ?_
      refine WO.valS (v := .int .i64 1) rfl ?_
      refine WO.nil ?_
      refine WP.block ?_
      refine WP.loopG (α := Nat) (fun i env h => ∃ x2 x6 x7, (1 ≤ i) ∧ env = argsP [va, vb, x2, .bool false, vu, .int .i64 (i : Int), x6, x7] 0 Env.nil ∧ St (.stb (fun h => SRows h vu U) :: .stb (fun h => SRows h va A) :: .stb (fun h => SRows h vb B) :: fs) h) (fun i => U.length - i) 1 ?_ ?_
      · exact ⟨(.bool false), .bot, .bot, Nat.le_refl _, by kernel_rfl, st⟩
      rintro i _ h ⟨x2, x6, x7, hi, rfl, st⟩
      replace st : St (.stb (fun h => SRows h vu U) :: .stb (fun h => SRows h va A) :: .stb (fun h => SRows h vb B) :: fs) h := st
      refine WP.seq ?_
      refine WP.seq ?_
      refine WP.reg ?_
      refine WO.val (v := .int .i64 (U.length : Int)) (L.llenS rfl (st.stb_at 0 rfl)) ?_
      refine WO.ifS (L.lss rfl rfl) (fun c3 => ?_) (fun c3 => ?_)
      · replace c3 : i < U.length := by omega
        obtain ⟨x, hx⟩ : ∃ y, U[i]? = some y := ⟨U[i]'(by omega), List.getElem?_eq_getElem (by omega)⟩
        obtain ⟨y, hy⟩ : ∃ y, U[i - 1]? = some y := ⟨U[i - 1]'(by omega), List.getElem?_eq_getElem (by omega)⟩
        refine WO.nil ?_
        refine WP.cond (t := true) rfl ?_
        refine WP.skip ?_
        refine WP.seq ?_
        refine WP.block ?_
        refine WP.seq ?_
        refine WP.draw ?_
        refine WD.val (v := vu) rfl ?_
        refine WD.val (v := .int .i64 (i : Int)) rfl ?_
        refine WD.val (v := .ptr (slB vu) (slO vu + i * 1)) (L.iaddrS (st.stb_at 0 rfl) (by omega) rfl rfl) ?_
        refine WD.val (v := L.str x) (L.load rfl (SRows.at (st.stb_at 0 rfl) hx)) ?_
        refine WD.val (v := vu) rfl ?_
        refine WD.val (v := .int .i64 (i : Int)) rfl ?_
        refine WD.val (v := .int .i64 ((i - 1 : Nat) : Int)) (L.subE rfl rfl (by omega) (And.intro (by omega) (by omega))) ?_
        refine WD.val (v := .ptr (slB vu) (slO vu + (i - 1) * 1)) (L.iaddrS (st.stb_at 0 rfl) (by omega) rfl rfl) ?_
        refine WD.val (v := L.str y) (L.load rfl (SRows.at (st.stb_at 0 rfl) hy)) ?_
        refine WD.valS (v := .bool false) (L.sleqF rfl rfl (rises_at hUr hi hx hy)) ?_
        refine WD.nil ?_
        refine WP.cond (t := false) rfl ?_
        refine WP.skip ?_
        refine WP.reg ?_
        refine WO.valS (v := .int .i64 ((i + 1 : Nat) : Int)) (L.addE rfl rfl (by omega) (And.intro (by omega) (by omega))) ?_
        refine WO.nil ?_
        exact ⟨i + 1, (by omega), x2, (.bool true), (.bool false), by omega, by kernel_rfl, st⟩
      · replace c3 : ¬ (i < U.length) := by omega
        refine WO.nil ?_
        refine WP.cond (t := false) rfl ?_
        refine WP.exit ?_
        refine WP.seq ?_
        refine WP.seq ?_
        refine WP.reg ?_
        refine WO.valS (v := .int .i64 0) rfl ?_
        refine WO.nil ?_
        refine WP.block ?_
        refine WP.loopG (α := Nat) (fun j env h => ∃ x2 x9 x10, (j ≤ U.length) ∧ env = argsP [va, vb, x2, .bool false, vu, .int .i64 (i : Int), .bool false, x7, .int .i64 (j : Int), x9, x10] 0 Env.nil ∧ St (.stb (fun h => SRows h vu U) :: .stb (fun h => SRows h va A) :: .stb (fun h => SRows h vb B) :: fs) h) (fun j => U.length - j) 0 ?_ ?_
        · exact ⟨x2, .bot, .bot, Nat.zero_le _, by kernel_rfl, st⟩
        rintro j _ h ⟨x2, x9, x10, hj, rfl, st⟩
        replace st : St (.stb (fun h => SRows h vu U) :: .stb (fun h => SRows h va A) :: .stb (fun h => SRows h vb B) :: fs) h := st
        refine WP.seq ?_
        refine WP.seq ?_
        refine WP.reg ?_
        refine WO.val (v := .int .i64 (U.length : Int)) (L.llenS rfl (st.stb_at 0 rfl)) ?_
        refine WO.ifS (L.lss rfl rfl) (fun c4 => ?_) (fun c4 => ?_)
        · replace c4 : j < U.length := by omega
          obtain ⟨x, hx⟩ : ∃ y, U[j]? = some y := ⟨U[j]'(by omega), List.getElem?_eq_getElem (by omega)⟩
          refine WO.nil ?_
          refine WP.cond (t := true) rfl ?_
          refine WP.skip ?_
          refine WP.seq ?_
          refine WP.block ?_
          refine WP.seq ?_
          refine WP.reg ?_
          refine WO.val (v := .ptr (slB vu) (slO vu + j * 1)) (L.iaddrS (st.stb_at 0 rfl) (by omega) rfl rfl) ?_
          refine WO.val (v := L.str x) (L.load rfl (SRows.at (st.stb_at 0 rfl) hx)) ?_
          refine WO.callF rfl (has_c D.a (by omega) (st.stb_at 1 rfl)) ?_
          rintro _ _ ⟨rfl, rfl⟩
          rcases bool_or (decide (x ∈ A)) with hb | hb
          all_goals rw [hb]
          · refine WO.val (v := .bool true) rfl ?_
            refine WO.yes rfl ?_
            refine WO.val (v := vb) rfl ?_
            refine WO.yes rfl ?_
            refine WO.val (v := vu) rfl ?_
            refine WO.yes rfl ?_
            refine WO.val (v := .int .i64 (j : Int)) rfl ?_
            refine WO.yes rfl ?_
            refine WO.val (v := .ptr (slB vu) (slO vu + j * 1)) (L.iaddrS (st.stb_at 0 rfl) (by omega) rfl rfl) ?_
            refine WO.yes rfl ?_
            refine WO.val (v := L.str x) (L.load rfl (SRows.at (st.stb_at 0 rfl) hx)) ?_
            refine WO.yes rfl ?_
            refine WO.callF rfl (has_c D.a (by omega) (st.stb_at 2 rfl)) ?_
            rintro _ _ ⟨rfl, rfl⟩
            rw [decide_eq_true (((hUm x).1 (List.mem_of_getElem? hx)).resolve_left (of_decide_eq_false hb))]
            refine WO.yes rfl ?_
            refine WO.val (v := .bool false) rfl ?_
            refine WO.valS (v := .bool false) rfl ?_
            refine WO.nil ?_
            refine WP.cond (t := false) rfl ?_
            refine WP.skip ?_
            refine WP.reg ?_
            refine WO.valS (v := .int .i64 ((j + 1 : Nat) : Int)) (L.addE rfl rfl (by omega) (And.intro (by omega) (by omega))) ?_
            refine WO.nil ?_
            exact ⟨j + 1, (by omega), x2, (.bool true), (.bool false), by omega, by kernel_rfl, st⟩
          · refine WO.val (v := .bool false) rfl ?_
            refine WO.no rfl ?_
            refine WO.no rfl ?_
            refine WO.no rfl ?_
            refine WO.no rfl ?_
            refine WO.no rfl ?_
            refine WO.no rfl ?_
            refine WO.no rfl ?_
            refine WO.valS (v := .bool false) rfl ?_
            refine WO.nil ?_
            refine WP.cond (t := false) rfl ?_
            refine WP.skip ?_
            refine WP.reg ?_
            refine WO.valS (v := .int .i64 ((j + 1 : Nat) : Int)) (L.addE rfl rfl (by omega) (And.intro (by omega) (by omega))) ?_
            refine WO.nil ?_
            exact ⟨j + 1, (by omega), x2, (.bool true), (.bool false), by omega, by kernel_rfl, st⟩
        · replace c4 : ¬ (j < U.length) := by omega
          refine WO.nil ?_
          refine WP.cond (t := false) rfl ?_
          refine WP.exit ?_
          refine WP.seq ?_
          refine WP.reg ?_
          refine WO.callF rfl (runion_c D.a (by omega) (((st.pick 2 rfl).pick 2 rfl) : St (.stb (fun h => SRows h va A) :: .stb (fun h => SRows h vb B) :: .stb (fun h => SRows h vu U) :: fs) _)) ?_
          rintro vr h ⟨bs, f, st⟩
          rw [← hU] at st
          replace st : St (.stb (fun h => SRows h vr U) :: .stb (fun h => SRows h va A) :: .stb (fun h => SRows h vb B) :: .stb (fun h => SRows h vu U) :: fs) h := (st.shutU (by decide)).imp0 fun h hx => hx.sr
          refine WO.callF rfl (texts_t D.a hUl (st.stb_at 3 rfl) (st.stb_at 0 rfl)) ?_
          rintro _ _ ⟨rfl, rfl⟩
          refine WO.yes rfl ?_
          refine WO.val (v := va) rfl ?_
          refine WO.yes rfl ?_
          refine WO.val (v := vb) rfl ?_
          refine WO.yes rfl ?_
          refine WO.callF rfl (within_c D.a (by omega) (by omega) (((st.pick 2 rfl).pick 2 rfl) : St (.stb (fun h => SRows h va A) :: .stb (fun h => SRows h vb B) :: .stb (fun h => SRows h vr U) :: .stb (fun h => SRows h vu U) :: fs) _)) ?_
          rintro _ h ⟨rfl, st⟩
          replace st : St (.stb (fun h => SRows h va A) :: .stb (fun h => SRows h vb B) :: .stb (fun h => SRows h vr U) :: .stb (fun h => SRows h vu U) :: fs) h := st
          refine WO.yes rfl ?_
          refine WO.val (v := va) rfl ?_
          refine WO.yes rfl ?_
          refine WO.val (v := vb) rfl ?_
          refine WO.yes rfl ?_
          refine WO.callF rfl (rwithin_c D.a (by omega) (by omega) (st.stb_at 0 rfl) (st.stb_at 1 rfl)) ?_
          rintro _ _ ⟨rfl, rfl⟩
          refine WO.yes rfl ?_
          refine WO.val (v := .bool true) (L.eqBool_same rfl rfl) ?_
          refine WO.val (v := .bool true) rfl ?_
          refine WO.yes rfl ?_
          refine WO.val (v := va) rfl ?_
          refine WO.yes rfl ?_
          refine WO.val (v := vu) rfl ?_
          refine WO.yes rfl ?_
          refine WO.callF rfl (within_c D.a (by omega) (by omega) (((st.pick 3 rfl).pick 1 rfl) : St (.stb (fun h => SRows h va A) :: .stb (fun h => SRows h vu U) :: .stb (fun h => SRows h vb B) :: .stb (fun h => SRows h vr U) :: fs) _)) ?_
          rintro _ h ⟨rfl, st⟩
          rw [subB_yes fun x hx => (hUm x).2 (.inl hx)]
          replace st : St (.stb (fun h => SRows h va A) :: .stb (fun h => SRows h vu U) :: .stb (fun h => SRows h vb B) :: .stb (fun h => SRows h vr U) :: fs) h := st
          refine WO.val (v := .bool true) rfl ?_
          refine WO.yes rfl ?_
          refine WO.val (v := vb) rfl ?_
          refine WO.yes rfl ?_
          refine WO.val (v := vu) rfl ?_
          refine WO.yes rfl ?_
          refine WO.callF rfl (within_c D.a (by omega) (by omega) (((st.pick 1 rfl).pick 2 rfl) : St (.stb (fun h => SRows h vb B) :: .stb (fun h => SRows h vu U) :: .stb (fun h => SRows h va A) :: .stb (fun h => SRows h vr U) :: fs) _)) ?_
          rintro _ h ⟨rfl, st⟩
          rw [subB_yes fun x hx => (hUm x).2 (.inr hx)]
          replace st : St (.stb (fun h => SRows h vb B) :: .stb (fun h => SRows h vu U) :: .stb (fun h => SRows h va A) :: .stb (fun h => SRows h vr U) :: fs) h := st
          refine WO.val (v := .bool true) rfl ?_
          refine WO.yes rfl ?_
          refine WO.callF rfl (D.yes _) ?_
          rintro _ _ ⟨rfl, rfl⟩
          refine WO.valS (v := .bool true) rfl ?_
          refine WO.nil ?_
          refine WP.ret ?_
          exact ⟨_, (res_cons (res_tmp (v := .bool true) rfl) (res_nil _ _)), rfl⟩

end
end Go.Eng.YtmcjcbldmoijiaaGreatDoor
