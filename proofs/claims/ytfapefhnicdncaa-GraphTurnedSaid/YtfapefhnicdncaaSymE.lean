/- Part of a proof of a law, by an evaluator that the machine follows: rules, contracts of functions, what they come to. No condition of its own. -/
import Derived.Test.YtfapefhnicdncaaSymD
import Derived.Test.YtfapefhnicdncaaSymB
set_option linter.unusedVariables false
set_option linter.unusedSimpArgs false
namespace Go.Eng
noncomputable section
/-! ### what a name leads to -/
def succG (W : Gr) (x : Lab.Txt) : List Lab.Txt := match W with
  | [] => []
  | p :: W => if p.1 = x then p.2 else succG W x
inductive Reach (W : Gr) (x : Lab.Txt) : Lab.Txt → Prop
  | one {y : Lab.Txt} : y ∈ succG W x → Reach W x y
  | step {z y : Lab.Txt} : Reach W x z → y ∈ succG W z → Reach W x y
theorem Reach.trans {W : Gr} {x y z : Lab.Txt} (h : Reach W x y) (h2 : Reach W y z) : Reach W x z := by
  induction h2 with
  | one hm => exact .step h hm
  | step _ hm ih => exact .step ih hm
theorem succG_mem {W : Gr} {x y : Lab.Txt} : y ∈ succG W x → ∃ p ∈ W, p.1 = x ∧ y ∈ p.2 := by
  induction W with
  | nil => intro h; cases h
  | cons p W ih =>
    intro h
    unfold succG at h
    by_cases e : p.1 = x
    · rw [if_pos e] at h; exact ⟨p, by simp, e, h⟩
    · rw [if_neg e] at h
      obtain ⟨q, hq, h1, h2⟩ := ih h
      exact ⟨q, by simp [hq], h1, h2⟩
/-- true at each of them -/
def ttK (S : List Lab.Txt) : List (Lab.Txt × V) := S.map fun x => (x, .bool true)
theorem ttK_keys (S : List Lab.Txt) : (ttK S).map (fun p => p.1) = S := by unfold ttK; rw [List.map_map]; exact List.map_id _
theorem ttK_get (x : Lab.Txt) : ∀ S : List Lab.Txt, (getK x (ttK S)).getD (.bool false) = .bool (decide (x ∈ S))
  | [] => rfl
  | y :: S => by
    show (getK x ((y, .bool true) :: ttK S)).getD (.bool false) = _
    unfold getK
    by_cases h : y = x
    · rw [if_pos h, decide_eq_true (by rw [h]; simp)]; rfl
    · rw [if_neg h, ttK_get x S]
      exact congrArg V.bool (decide_eq_decide.2 ⟨fun hm => List.mem_cons_of_mem _ hm, fun hm => (List.mem_cons.1 hm).resolve_left fun e => h e.symm⟩)
theorem ttK_put {x : Lab.Txt} {S : List Lab.Txt} (h : x ∉ S) : putK x (.bool true) (ttK S) = ttK (S ++ [x]) := by
  rw [putK_new (by rw [ttK_keys]; exact h)]; unfold ttK; rw [List.map_append]; rfl
/-- the value of a name in a map of ways -/
def valK (W : Gr) (vs : List V) (x : Lab.Txt) : V := (getK x (List.zip (nmsG W) vs)).getD .slN
theorem valK_rows {h : Heap} : ∀ {W : Gr} {vs : List V}, TRows h (tosG W) vs → ∀ x, Rows 1 h (valK W vs x) (SR (succG W x)) ∧ (succG W x = [] → valK W vs x = .slN)
  | [], [], _, x => ⟨.nil, fun _ => rfl⟩
  | [], _ :: _, t, x => t.elim
  | _ :: _, [], t, x => t.elim
  | p :: W, v :: vs, t, x => by
    have e : valK (p :: W) (v :: vs) x = if p.1 = x then v else valK W vs x := by
      show (getK x ((p.1, v) :: List.zip (nmsG W) vs)).getD .slN = _
      unfold getK
      by_cases h : p.1 = x
      · rw [if_pos h, if_pos h]; rfl
      · rw [if_neg h, if_neg h]; rfl
    rw [e]
    unfold succG
    by_cases h : p.1 = x
    · rw [if_pos h, if_pos h]; exact t.1
    · rw [if_neg h, if_neg h]; exact valK_rows t.2 x
/-! ### the search -/
structure GdW (W : Gr) : Prop where
  few : W.length ≤ 8
  to : ∀ p ∈ W, p.2.length ≤ 64
  inN : ∀ p ∈ W, ∀ y ∈ p.2, y ∈ nmsG W
structure FI (W : Gr) (x : Lab.Txt) (S stk : List Lab.Txt) : Prop where
  nd : S.Nodup
  inN : ∀ y ∈ S, y ∈ nmsG W
  stN : ∀ y ∈ stk, y ∈ nmsG W
  len : stk.length ≤ (S.length + 1) * 64
  sr : ∀ y ∈ S, Reach W x y
  tr : ∀ y ∈ stk, Reach W x y
  c0 : ∀ y ∈ succG W x, y ∈ S ∨ y ∈ stk
  c1 : ∀ z ∈ S, ∀ y ∈ succG W z, y ∈ S ∨ y ∈ stk
theorem GdW.succ {W : Gr} (g : GdW W) {x y : Lab.Txt} (h : y ∈ succG W x) : y ∈ nmsG W := by
  obtain ⟨p, hp, _, hy⟩ := succG_mem h
  exact g.inN p hp y hy
theorem GdW.deg {W : Gr} (g : GdW W) (x : Lab.Txt) : (succG W x).length ≤ 64 := by
  have h := g.to
  clear g
  induction W with
  | nil => exact Nat.zero_le _
  | cons p W ih =>
    unfold succG
    by_cases e : p.1 = x
    · rw [if_pos e]; exact h p (by simp)
    · rw [if_neg e]; exact ih fun q hq => h q (by simp [hq])
theorem FI.start {W : Gr} (g : GdW W) (x : Lab.Txt) : FI W x [] (succG W x) :=
  ⟨List.nodup_nil, fun _ h => by simp at h, fun y h => g.succ h, by simpa using g.deg x, fun _ h => by simp at h, fun y h => .one h, fun y h => .inr h, fun _ h => by simp at h⟩
section
variable {W : Gr} {x y : Lab.Txt} {S l : List Lab.Txt} (g : GdW W) (f : FI W x S (l ++ [y]))
include f
theorem FI.skip (hy : y ∈ S) : FI W x S l := by
  refine ⟨f.nd, f.inN, fun z h => f.stN z (by simp [h]), by have := f.len; rw [List.length_append] at this; omega, f.sr, fun z h => f.tr z (by simp [h]), fun z h => ?_, fun z hz w hw => ?_⟩
  · rcases f.c0 z h with h | h
    · exact .inl h
    · rcases List.mem_append.1 h with h | h
      · exact .inr h
      · obtain rfl : z = y := by simpa using h
        exact .inl hy
  · rcases f.c1 z hz w hw with h | h
    · exact .inl h
    · rcases List.mem_append.1 h with h | h
      · exact .inr h
      · obtain rfl : w = y := by simpa using h
        exact .inl hy
include g
theorem FI.add (hy : y ∉ S) : FI W x (S ++ [y]) (l ++ succG W y) := by
  have hyr := f.tr y (by simp)
  refine ⟨?_, fun z h => ?_, fun z h => ?_, ?_, fun z h => ?_, fun z h => ?_, fun z h => ?_, fun z hz w hw => ?_⟩
  · rw [List.nodup_append]
    exact ⟨f.nd, by simp, fun a ha b hb e => by
      obtain rfl : b = y := by simpa using hb
      exact hy (e ▸ ha)⟩
  · rcases List.mem_append.1 h with h | h
    · exact f.inN z h
    · obtain rfl : z = y := by simpa using h
      exact f.stN z (by simp)
  · rcases List.mem_append.1 h with h | h
    · exact f.stN z (by simp [h])
    · exact g.succ h
  · have h1 := f.len
    have h2 := g.deg y
    simp only [List.length_append, List.length_cons, List.length_nil] at h1 ⊢
    omega
  · rcases List.mem_append.1 h with h | h
    · exact f.sr z h
    · obtain rfl : z = y := by simpa using h
      exact hyr
  · rcases List.mem_append.1 h with h | h
    · exact f.tr z (by simp [h])
    · exact .step hyr h
  · rcases f.c0 z h with h | h
    · exact .inl (by simp [h])
    · rcases List.mem_append.1 h with h | h
      · exact .inr (by simp [h])
      · obtain rfl : z = y := by simpa using h
        exact .inl (by simp)
  · rcases List.mem_append.1 hz with hz | hz
    · rcases f.c1 z hz w hw with h | h
      · exact .inl (by simp [h])
      · rcases List.mem_append.1 h with h | h
        · exact .inr (by simp [h])
        · obtain rfl : w = y := by simpa using h
          exact .inl (by simp)
    · obtain rfl : z = y := by simpa using hz
      exact .inr (by simp [hw])
omit f in
omit g in
theorem nodup_le : ∀ {l m : List Lab.Txt}, l.Nodup → (∀ a ∈ l, a ∈ m) → l.length ≤ m.length
  | [], _, _, _ => Nat.zero_le _
  | a :: l, m, hn, hs => by
    rw [List.nodup_cons] at hn
    have ha := hs a (by simp)
    have := nodup_le (l := l) (m := m.erase a) hn.2 fun b hb => (List.mem_erase_of_ne (fun e : b = a => hn.1 (by rw [← e]; exact hb))).2 (hs b (by simp [hb]))
    rw [List.length_erase_of_mem ha] at this
    have h0 := List.length_pos_of_mem ha
    rw [List.length_cons]; omega
theorem FI.room (hy : y ∉ S) : S.length < 8 := by
  have h1 : (S ++ [y]).length ≤ (nmsG W).length := nodup_le (FI.add g f hy).nd (FI.add g f hy).inN
  rw [List.length_append, nmsG_len] at h1
  have := g.few
  simp at h1; omega
end
theorem FI.done {W : Gr} {x : Lab.Txt} {S : List Lab.Txt} (f : FI W x S []) (y : Lab.Txt) : y ∈ S ↔ Reach W x y := by
  constructor
  · exact f.sr y
  · intro h
    induction h with
    | one hm => exact (f.c0 _ hm).resolve_right (by simp)
    | step _ hm ih => exact (f.c1 _ ih _ hm).resolve_right (by simp)
theorem FI.small {W : Gr} (g : GdW W) {x : Lab.Txt} {S stk : List Lab.Txt} (f : FI W x S stk) : S.length ≤ 8 := by
  have h1 := nodup_le f.nd f.inN
  rw [nmsG_len] at h1
  have := g.few; omega
end
end Go.Eng
namespace Go.Eng
noncomputable section
theorem L.slnilF {ev : Ev} {h : Heap} {x y : A} {b o n : Nat} {cap : Option Nat} (hx : ev x = .sl b o n cap) (hy : ev y = .slN) : light (.eq false .sl x y) ev h = .val (.bool false) := by
  show (Option.rec .bad (fun b => .val (.bool (b != false))) (Eq1.eq .sl (ev x) (ev y)) : LR) = _
  rw [hx, hy]; rfl
theorem L.slnilT {ev : Ev} {h : Heap} {x y : A} (hx : ev x = .slN) (hy : ev y = .slN) : light (.eq false .sl x y) ev h = .val (.bool true) := by
  show (Option.rec .bad (fun b => .val (.bool (b != false))) (Eq1.eq .sl (ev x) (ev y)) : LR) = _
  rw [hx, hy]; rfl
section
variable {c : Ctx} {Q : QT} {env : Env} {h : Heap} {fs : List Fact} {l : List Opr} {vs : List V} {i j : D8}
theorem WO.bslL8 {r n : Nat} {zero : List V} {ps : List (Nat × Nat × A)} {rows : List (List V)} (st : St fs h) (hf : fill ps (fun a => a.ev vs env) (rep n zero) = some rows.flatten) (hr : 0 < r) (hn : rows.length = n) (hl : ∀ row ∈ rows, row.length = r)
    (K : ∀ b h1, 8 ≤ b → St (.stb (fun h => Rows r h (.sl b 0 n (some n)) rows) :: fs) h1 → WO c l Q (.sl b 0 n (some n) :: vs) env h1) : WO c (.p (.L (.bsl r n zero ps)) :: l) Q vs env h :=
  WO.new (L.bsl hf) (okSize_cl hr) (K _ _ st.wf.lim (st.frozen _ fun _ hg => rows_new hr hn hl hg))
theorem WO.appEUS {r bytes b : Nat} {s x : A} {xv : V} {new : List (List V)} (st : St fs h) (hs : s.ev vs env = .sl b 0 0 (some 0)) (hb : 8 ≤ b) (hx : x.ev vs env = xv) (hn : Rows r h xv new) (hr : 0 < r) (hne : 0 < new.length) (hfit : new.length * bytes ≤ 1099511627776)
    (K : ∀ bs f v h1, St (.acu bs f r v new :: fs) h1 → WO c l Q (v :: vs) (Env.set i j v env) h1) : WO c (.s i j (.H (.append r bytes s x)) :: l) Q vs env h := by
  have hl : ∀ row ∈ new, row.length = r := by
    cases hn with
    | nil => intro row hm; simp at hm
    | row _ _ _ _ _ hlen => exact hlen
  have hld : h.load b 0 (Nat.mul 0 r) = some [] := by rw [show Nat.mul 0 r = 0 from Nat.zero_mul r]; rfl
  have e := append1_lit (h := h) (r := r) (bytes := bytes) (b := b) (n := 0) (m := new.length) (old := []) (new := new.flatten) hb hld hne (by rw [Nat.zero_add]; exact hfit)
  rw [Nat.zero_add, List.nil_append] at e
  obtain ⟨bs, f, v, h', e2, s'⟩ := (st.acu0 r).appendU (bytes := bytes) hr hl (by simpa using hfit)
  exact WO.actS (fun _ => L.append (ev := fun a => a.ev vs env) hs hx hn (e.trans e2)) (K _ _ _ _ s')
end
end
end Go.Eng
