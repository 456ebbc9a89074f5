/- Part of a proof of a law, by an evaluator that the machine follows: rules, contracts of functions, what they come to. No condition of its own. -/
import Derived.Test.YtfapefhnicdncaaSymG
set_option linter.unusedVariables false
set_option linter.unusedSimpArgs false
namespace Go.Eng
noncomputable section
theorem Reach.inN {W : Gr} (g : GdW W) {x y : Lab.Txt} (h : Reach W x y) : y ∈ nmsG W := by
  cases h with
  | one hm => exact g.succ hm
  | step _ hm => exact g.succ hm
/-- how many of R it leads to -/
def cntR (W : Gr) (R : List Lab.Txt) (x : Lab.Txt) : Nat := (R.filter fun y => @decide (Reach W x y) (Classical.propDecidable _)).length
theorem filter_le2 {p q : Lab.Txt → Bool} (hs : ∀ z, p z = true → q z = true) : ∀ R : List Lab.Txt, (R.filter p).length ≤ (R.filter q).length
  | [] => Nat.le_refl _
  | b :: R => by
    have ih := filter_le2 hs R
    rw [List.filter_cons, List.filter_cons]
    cases hb : p b with
    | true => rw [hs b hb]; simpa using ih
    | false => cases q b <;> simp <;> omega
theorem filter_lt2 {p q : Lab.Txt → Bool} (hs : ∀ z, p z = true → q z = true) {y : Lab.Txt} (h1 : q y = true) (h2 : p y = false) : ∀ {R : List Lab.Txt}, y ∈ R → (R.filter p).length < (R.filter q).length
  | [], hy => by cases hy
  | a :: R, hy => by
    rw [List.filter_cons, List.filter_cons]
    rcases List.mem_cons.1 hy with rfl | hy
    · rw [h1, h2]; have := filter_le2 hs R; simp; omega
    · have := filter_lt2 hs h1 h2 hy
      cases ha : p a with
      | true => rw [hs a ha]; simpa using this
      | false => cases q a <;> simp <;> omega
theorem cntR_lt {W : Gr} {R : List Lab.Txt} {x y : Lab.Txt} (hy : y ∈ R) (hxy : Reach W x y) (hyy : ¬ Reach W y y) : cntR W R y < cntR W R x :=
  filter_lt2 (p := fun z => @decide (Reach W y z) (Classical.propDecidable _)) (q := fun z => @decide (Reach W x z) (Classical.propDecidable _)) (fun z h => (@decide_eq_true_iff _ (Classical.propDecidable _)).2 (hxy.trans ((@decide_eq_true_iff _ (Classical.propDecidable _)).1 h)))
    ((@decide_eq_true_iff _ (Classical.propDecidable _)).2 hxy) ((@decide_eq_false_iff_not _ (Classical.propDecidable _)).2 hyy) hy
theorem ready_ex {W : Gr} (g : GdW W) {D R : List Lab.Txt} (hD : ∀ y ∈ nmsG W, y ∈ D ∨ y ∈ R) (hac : ∀ x ∈ R, ¬ Reach W x x) (h : ∀ x ∈ R, rdyB W D x = false) : R = [] := by
  have key : ∀ n x, x ∈ R → cntR W R x ≤ n → False := by
    intro n
    induction n with
    | zero =>
      intro x hx hn
      have h1 : ¬ ∀ y, Reach W x y → y ∈ D := fun hall => by have := h x hx; rw [(rdyB_iff W D x).2 hall] at this; cases this
      refine h1 fun y hy => ?_
      rcases hD y (hy.inN g) with hd | hr
      · exact hd
      · have := cntR_lt hr hy (hac y hr); omega
    | succ n ih =>
      intro x hx hn
      have h1 : ¬ ∀ y, Reach W x y → y ∈ D := fun hall => by have := h x hx; rw [(rdyB_iff W D x).2 hall] at this; cases this
      refine h1 fun y hy => ?_
      rcases hD y (hy.inN g) with hd | hr
      · exact hd
      · have := cntR_lt hr hy (hac y hr)
        exact (ih y hr (by omega)).elim
  cases R with
  | nil => rfl
  | cons a R => exact (key _ a (by simp) (Nat.le_refl _)).elim
theorem OrdR.perm {W : Gr} (g : GdW W) {D R O : List Lab.Txt} (o : OrdR (rdyB W) D R O) : (∀ y ∈ nmsG W, y ∈ D ∨ y ∈ R) → (∀ x ∈ R, ¬ Reach W x x) → O.Perm R := by
  induction o with
  | nil h => intro hD hac; rw [ready_ex g hD hac h]
  | @cons D R O k x hx hP hno _ ih =>
    intro hD hac
    have hkl := (List.getElem?_eq_some_iff.1 hx).1
    have e : R.Perm (x :: R.eraseIdx k) := by
      have e : R = R.take k ++ x :: R.drop (k + 1) := by
        obtain ⟨h1, h2⟩ := List.getElem?_eq_some_iff.1 hx
        rw [← h2]; simp
      rw [List.eraseIdx_eq_take_drop_succ]
      exact (List.Perm.of_eq e).trans List.perm_middle
    refine (List.Perm.cons x (ih (fun y hy => ?_) fun y hy => hac y ((List.eraseIdx_sublist R k).subset hy))).trans e.symm
    rcases hD y hy with h | h
    · exact .inl (by simp [h])
    · rcases List.mem_cons.1 (e.mem_iff.1 h) with rfl | h
      · exact .inl (by simp)
      · exact .inr h
theorem OrdR.before {W : Gr} {D R O : List Lab.Txt} (o : OrdR (rdyB W) D R O) : ∀ {i : Nat} {x y : Lab.Txt}, O[i]? = some x → Reach W x y → y ∈ D ∨ y ∈ O.take i := by
  induction o with
  | nil h => intro i x y hi; simp at hi
  | @cons D R O k x hx hP hno _ ih =>
    intro i z y hi hr
    cases i with
    | zero =>
      obtain rfl : x = z := by simpa using hi
      exact .inl ((rdyB_iff W D x).1 hP y hr)
    | succ i =>
      rcases ih (i := i) (by simpa using hi) hr with h | h
      · rcases List.mem_append.1 h with h | h
        · exact .inl h
        · obtain rfl : y = x := by simpa using h
          exact .inr (by simp)
      · exact .inr (by rw [List.take_succ_cons]; exact List.mem_cons_of_mem _ h)
/-- what Order tells of nodes -/
structure OrdG (G : Gr) (C0 R0 O : List Lab.Txt) : Prop where
  c : C0 = sortB (circK (wayG G) G G.length)
  r : R0 = sortB (restK (wayG G) G G.length)
  o : OrdR (rdyB (wayG G)) C0 R0 O
theorem gdW_ofN {G : Gr} (g : GdN G) : GdW (wayG G) := by
  refine ⟨by unfold wayG; rw [List.length_map]; exact g.few, fun p hp => ?_, fun p hp y hy => ?_⟩
  · obtain ⟨q, hq, rfl⟩ := List.mem_map.1 hp
    exact Nat.le_trans (List.length_filter_le _ _) (g.to q hq)
  · obtain ⟨q, hq, rfl⟩ := List.mem_map.1 hp
    rw [wayG_nms]
    have := (List.mem_filter.1 hy).2
    exact of_decide_eq_true this
section
variable {G : Gr} {C0 R0 O : List Lab.Txt} (g : GdN G) (o : OrdG G C0 R0 O)
include g o
theorem OrdG.perm : O.Perm R0 := o.o.perm (gdW_ofN g) (fun y hy => by
  rw [wayG_nms] at hy
  by_cases h : Reach (wayG G) y y
  · exact .inl ((circ_mem o.c).2 ⟨hy, h⟩)
  · exact .inr ((rest_mem o.r).2 ⟨hy, h⟩)) fun x hx => ((rest_mem o.r).1 hx).2
theorem OrdG.len : O.length + C0.length = G.length := by
  rw [(o.perm g).length_eq, o.r, o.c, (sortB_perm _).length_eq, (sortB_perm _).length_eq]
  unfold restK circK
  rw [List.take_length, ← nmsG_len G]
  generalize nmsG G = l
  induction l with
  | nil => rfl
  | cons a l ih =>
    rw [List.filter_cons, List.filter_cons]
    cases loopB (wayG G) a <;> simp <;> omega
theorem OrdG.memO {x : Lab.Txt} (hx : x ∈ nmsG G) : x ∈ O ↔ ¬ Reach (wayG G) x x := by
  rw [(o.perm g).mem_iff, rest_mem o.r]
  exact ⟨fun h => h.2, fun h => ⟨hx, h⟩⟩
omit g in
theorem OrdG.memC {x : Lab.Txt} (hx : x ∈ nmsG G) : x ∈ C0 ↔ Reach (wayG G) x x := by
  rw [circ_mem o.c]
  exact ⟨fun h => h.2, fun h => ⟨hx, h⟩⟩
theorem OrdG.not {i k : Nat} {x y : Lab.Txt} (hx : O[i]? = some x) (hy : O[k]? = some y) (hik : i ≤ k) : ¬ Reach (wayG G) x y := by
  intro h
  have hyR := (rest_mem o.r).1 ((o.perm g).mem_iff.1 (List.mem_of_getElem? hy))
  rcases o.o.before hx h with hd | hd
  · exact hyR.2 ((circ_mem o.c).1 hd).2
  · obtain ⟨j, hj⟩ := List.mem_iff_getElem?.1 hd
    have hji : j < i := by have := (List.getElem?_eq_some_iff.1 hj).1; rw [List.length_take] at this; omega
    rw [List.getElem?_take_of_lt hji] at hj
    have hn : O.Nodup := (o.perm g).nodup_iff.2 (rest_nd g o.r)
    have := (List.getElem?_inj (i := j) (List.getElem?_eq_some_iff.1 hj).1 hn).1 (hj.trans hy.symm)
    omega
theorem OrdG.small : O.length ≤ 8 ∧ C0.length ≤ 8 := by have := o.len g; have := g.few; omega
end
theorem L.eqBoolF {ev : Ev} {h : Heap} {x y : A} {a b : Bool} (hx : ev x = .bool a) (hy : ev y = .bool b) (e : a ≠ b) : light (.eq false .bool x y) ev h = .val (.bool false) := by
  show (Option.rec .bad (fun b => .val (.bool (b != false))) (Eq1.eq .bool (ev x) (ev y)) : LR) = _
  rw [hx, hy]; cases a <;> cases b <;> first | exact absurd rfl e | rfl
theorem L.neBoolF {ev : Ev} {h : Heap} {x y : A} {a b : Bool} (hx : ev x = .bool a) (hy : ev y = .bool b) (e : a = b) : light (.eq true .bool x y) ev h = .val (.bool false) := by
  show (Option.rec .bad (fun b => .val (.bool (b != true))) (Eq1.eq .bool (ev x) (ev y)) : LR) = _
  rw [hx, hy, e]; cases b <;> rfl
end
end Go.Eng
