/- Part of a proof of a law, by an evaluator that the machine follows: rules, contracts of functions, what they come to. No condition of its own. -/
import Derived.Test.YtfapefhnicdncaaSymG
set_option linter.unusedVariables false
set_option linter.unusedSimpArgs false
namespace Go.Eng
noncomputable section
theorem Reach.inN {W : Gr} (g : GdW W) {x y : Lab.Txt} (h : Reach W x y) : y ∈ nmsG W := by
  cases h with
  | one hm => exact g.succ hm
  | step _ hm => exact g.succ hm
/-- how many of R it leads to -/
def cntR (W : Gr) (R : List Lab.Txt) (x : Lab.Txt) : Nat := (R.filter fun y => @decide (Reach W x y) (Classical.propDecidable _)).length
theorem filter_le2 {p q : Lab.Txt → Bool} (hs : ∀ z, p z = true → q z = true) : ∀ R : List Lab.Txt, (R.filter p).length ≤ (R.filter q).length
  | [] => Nat.le_refl _
  | b :: R => by
    have ih := filter_le2 hs R
    rw [List.filter_cons, List.filter_cons]
    cases hb : p b with
    | true => rw [hs b hb]; simpa using ih
    | false => cases q b <;> simp <;> omega
theorem filter_lt2 {p q : Lab.Txt → Bool} (hs : ∀ z, p z = true → q z = true) {y : Lab.Txt} (h1 : q y = true) (h2 : p y = false) : ∀ {R : List Lab.Txt}, y ∈ R → (R.filter p).length < (R.filter q).length
  | [], hy => by cases hy
  | a :: R, hy => by
    rw [List.filter_cons, List.filter_cons]
    rcases List.mem_cons.1 hy with rfl | hy
    · rw [h1, h2]; have := filter_le2 hs R; simp; omega
    · have := filter_lt2 hs h1 h2 hy
      cases ha : p a with
      | true => rw [hs a ha]; simpa using this
      | false => cases q a <;> simp <;> omega
theorem cntR_lt {W : Gr} {R : List Lab.Txt} {x y : Lab.Txt} (hy : y ∈ R) (hxy : Reach W x y) (hyy : ¬ Reach W y y) : cntR W R y < cntR W R x :=
  filter_lt2 (p := fun z => @decide (Reach W y z) (Classical.propDecidable _)) (q := fun z => @decide (Reach W x z) (Classical.propDecidable _)) (fun z h => (@decide_eq_true_iff _ (Classical.propDecidable _)).2 (hxy.trans ((@decide_eq_true_iff _ (Classical.propDecidable _)).1 h)))
    ((@decide_eq_true_iff _ (Classical.propDecidable _)).2 hxy) ((@decide_eq_false_iff_not _ (Classical.propDecidable _)).2 hyy) hy
theorem ready_ex {W : Gr} (g : GdW W) {D R : List Lab.Txt} (hD : ∀ y ∈ nmsG W, y ∈ D ∨ y ∈ R) (hac : ∀ x ∈ R, ¬ Reach W x x) (h : ∀ x ∈ R, rdyB W D x = false) : R = [] := by
  have key : ∀ n x, x ∈ R → cntR W R x ≤ n → False := by
    intro n
    induction n with
    | zero =>
      intro x hx hn
      have h1 : ¬ ∀ y, Reach W x y → y ∈ D := fun hall => by have := h x hx; rw [(rdyB_iff W D x).2 hall] at this; cases this
      refine h1 fun y hy => ?_
      rcases hD y (hy.inN g) with hd | hr
      · exact hd
      · have := cntR_lt hr hy (hac y hr); omega
    | succ n ih =>
      intro x hx hn
      have h1 : ¬ ∀ y, Reach W x y → y ∈ D := fun hall => by have := h x hx; rw [(rdyB_iff W D x).2 hall] at this; cases this
      refine h1 fun y hy => ?_
      rcases hD y (hy.inN g) with hd | hr
      · exact hd
      · have := cntR_lt hr hy (hac y hr)
        exact (ih y hr (by omega)).elim
  cases R with
  | nil => rfl
  | cons a R => exact (key _ a (by simp) (Nat.le_refl _)).elim
theorem OrdR.perm {W : Gr} (g : GdW W) {D R O : List Lab.Txt} (o : OrdR (rdyB W) D R O) : (∀ y ∈ nmsG W, y ∈ D ∨ y ∈ R) → (∀ x ∈ R, ¬ Reach W x x) → O.Perm R := by
  induction o with
  | nil h => intro hD hac; rw [ready_ex g hD hac h]
  | @cons D R O k x hx hP hno _ ih =>
    intro hD hac
    have hkl := (List.getElem?_eq_some_iff.1 hx).1
    have e : R.Perm (x :: R.eraseIdx k) := by
      have e : R = R.take k ++ x :: R.drop (k + 1) := by
        obtain ⟨h1, h2⟩ := List.getElem?_eq_some_iff.1 hx
        rw [← h2]; simp
      rw [List.eraseIdx_eq_take_drop_succ]
      exact (List.Perm.of_eq e).trans List.perm_middle
    refine (List.Perm.cons x (ih (fun y hy => ?_) fun y hy => hac y ((List.eraseIdx_sublist R k).subset hy))).trans e.symm
    rcases hD y hy with h | h
    · exact .inl (by simp [h])
    · rcases List.mem_cons.1 (e.mem_iff.1 h) with rfl | h
      · exact .inl (by simp)
      · exact .inr h
theorem OrdR.before {W : Gr} {D R O : List Lab.Txt} (o : OrdR (rdyB W) D R O) : ∀ {i : Nat} {x y : Lab.Txt}, O[i]? = some x → Reach W x y → y ∈ D ∨ y ∈ O.take i := by
  induction o with
  | nil h => intro i x y hi; simp at hi
  | @cons D R O k x hx hP hno _ ih =>
    intro i z y hi hr
    cases i with
    | zero =>
      obtain rfl : x = z := by simpa using hi
      exact .inl ((rdyB_iff W D x).1 hP y hr)
    | succ i =>
      rcases ih (i := i) (by simpa using hi) hr with h | h
      · rcases List.mem_append.1 h with h | h
        · exact .inl h
        · obtain rfl : y = x := by simpa using h
          exact .inr (by simp)
      · exact .inr (by rw [List.take_succ_cons]; exact List.mem_cons_of_mem _ h)
/-- what Order tells of nodes -/
structure OrdG (G : Gr) (C0 R0 O : List Lab.Txt) : Prop where
  c : C0 = sortB (circK (wayG G) G G.length)
  r : R0 = sortB (restK (wayG G) G G.length)
  o : OrdR (rdyB (wayG G)) C0 R0 O
theorem gdW_ofN {G : Gr} (g : GdN G) : GdW (wayG G) := by
  refine ⟨by unfold wayG; rw [List.length_map]; exact g.few, fun p hp => ?_, fun p hp y hy => ?_⟩
  · obtain ⟨q, hq, rfl⟩ := List.mem_map.1 hp
    exact Nat.le_trans (List.length_filter_le _ _) (g.to q hq)
  · obtain ⟨q, hq, rfl⟩ := List.mem_map.1 hp
    rw [wayG_nms]
    have := (List.mem_filter.1 hy).2
    exact of_decide_eq_true this
section
variable {G : Gr} {C0 R0 O : List Lab.Txt} (g : GdN G) (o : OrdG G C0 R0 O)
include g o
theorem OrdG.perm : O.Perm R0 := o.o.perm (gdW_ofN g) (fun y hy => by
  rw [wayG_nms] at hy
  by_cases h : Reach (wayG G) y y
  · exact .inl ((circ_mem o.c).2 ⟨hy, h⟩)
  · exact .inr ((rest_mem o.r).2 ⟨hy, h⟩)) fun x hx => ((rest_mem o.r).1 hx).2
theorem OrdG.len : O.length + C0.length = G.length := by
  rw [(o.perm g).length_eq, o.r, o.c, (sortB_perm _).length_eq, (sortB_perm _).length_eq]
  unfold restK circK
  rw [List.take_length, ← nmsG_len G]
  generalize nmsG G = l
  induction l with
  | nil => rfl
  | cons a l ih =>
    rw [List.filter_cons, List.filter_cons]
    cases loopB (wayG G) a <;> simp <;> omega
theorem OrdG.memO {x : Lab.Txt} (hx : x ∈ nmsG G) : x ∈ O ↔ ¬ Reach (wayG G) x x := by
  rw [(o.perm g).mem_iff, rest_mem o.r]
  exact ⟨fun h => h.2, fun h => ⟨hx, h⟩⟩
omit g in
theorem OrdG.memC {x : Lab.Txt} (hx : x ∈ nmsG G) : x ∈ C0 ↔ Reach (wayG G) x x := by
  rw [circ_mem o.c]
  exact ⟨fun h => h.2, fun h => ⟨hx, h⟩⟩
theorem OrdG.not {i k : Nat} {x y : Lab.Txt} (hx : O[i]? = some x) (hy : O[k]? = some y) (hik : i ≤ k) : ¬ Reach (wayG G) x y := by
  intro h
  have hyR := (rest_mem o.r).1 ((o.perm g).mem_iff.1 (List.mem_of_getElem? hy))
  rcases o.o.before hx h with hd | hd
  · exact hyR.2 ((circ_mem o.c).1 hd).2
  · obtain ⟨j, hj⟩ := List.mem_iff_getElem?.1 hd
    have hji : j < i := by have := (List.getElem?_eq_some_iff.1 hj).1; rw [List.length_take] at this; omega
    rw [List.getElem?_take_of_lt hji] at hj
    have hn : O.Nodup := (o.perm g).nodup_iff.2 (rest_nd g o.r)
    have := (List.getElem?_inj (i := j) (List.getElem?_eq_some_iff.1 hj).1 hn).1 (hj.trans hy.symm)
    omega
theorem OrdG.small : O.length ≤ 8 ∧ C0.length ≤ 8 := by have := o.len g; have := g.few; omega
end
theorem L.eqBoolF {ev : Ev} {h : Heap} {x y : A} {a b : Bool} (hx : ev x = .bool a) (hy : ev y = .bool b) (e : a ≠ b) : light (.eq false .bool x y) ev h = .val (.bool false) := by
  show (Option.rec .bad (fun b => .val (.bool (b != false))) (Eq1.eq .bool (ev x) (ev y)) : LR) = _
  rw [hx, hy]; cases a <;> cases b <;> first | exact absurd rfl e | rfl
theorem L.neBoolF {ev : Ev} {h : Heap} {x y : A} {a b : Bool} (hx : ev x = .bool a) (hy : ev y = .bool b) (e : a = b) : light (.eq true .bool x y) ev h = .val (.bool false) := by
  show (Option.rec .bad (fun b => .val (.bool (b != true))) (Eq1.eq .bool (ev x) (ev y)) : LR) = _
  rw [hx, hy, e]; cases b <;> rfl
end
end Go.Eng
namespace Go.Eng
noncomputable section
section
variable {c : Ctx} {Q : QT} {env : Env} {h : Heap} {fs : List Fact} {vs : List V} {l : List Opd} {lg : List Log} {uo : List Nat}
theorem WD.appLAF {F : Fact} {r bytes : Nat} {s x : A} {v xv : V} {rows new : List (List V)} (hF : LAF F r v rows) (st : St (F :: fs) h) (hs : s.ev vs env = v) (hx : x.ev vs env = xv) (hn : Rows r h xv new) (hr : 0 < r) (hne : 0 < new.length) (hfit : (rows.length + new.length) * bytes ≤ 1099511627776)
    (hst : ∀ f' v' h1, St (.acc f' r v' (rows ++ new) :: fs) h1 → stills uo h1 lg = true) (K : ∀ f' v' h1, St (.acc f' r v' (rows ++ new) :: fs) h1 → WD c l Q (v' :: vs) (.no :: lg) env h1) : WD c (⟨.p (.H (.append r bytes s x)), uo⟩ :: l) Q vs lg env h := by
  have hl : ∀ {v : V} {rs : List (List V)}, Rows r h v rs → ∀ row ∈ rs, row.length = r := by
    intro v rs hn
    cases hn with
    | nil => intro row hm; simp at hm
    | row _ _ _ _ _ hlen => exact hlen
  rcases hF with ⟨rfl, lb, rfl, hlb⟩ | ⟨f, rfl⟩
  · have hold := st.stb_at 0 rfl
    obtain ⟨f', v', h', e, s'⟩ := st.appendL (bytes := bytes) hlb hold hr (hl hold) (hl hn) hne hfit
    have s2 := s'.sub (List.Sublist.cons_cons _ (List.sublist_cons_self _ _))
    exact WD.act (fun _ => L.append (ev := fun a => a.ev vs env) hs hx hn e) (hst _ _ _ s2) (K _ _ _ s2)
  · obtain ⟨f', v', h', e, s'⟩ := st.appendA (bytes := bytes) hr (hl hn) hfit
    exact WD.act (fun _ => L.append (ev := fun a => a.ev vs env) hs hx hn e) (hst _ _ _ s') (K _ _ _ s')
end
theorem LAF.cells {F : Fact} {r : Nat} {v : V} {rows : List (List V)} {fs : List Fact} {h : Heap} (hF : LAF F r v rows) (st : St (F :: fs) h) : v.asCells = some [v] := by
  rcases hF with ⟨_, lb, rfl, _⟩ | ⟨f, rfl⟩
  · rfl
  · exact (st.acc_at 0 rfl).cells
theorem TRows.snoc {h : Heap} : ∀ {J : List (List Lab.Txt)} {vs : List V} {r : List Lab.Txt} {v : V}, TRows h J vs → (Rows 1 h v (SR r) ∧ (r = [] → v = .slN)) → TRows h (J ++ [r]) (vs ++ [v])
  | [], [], _, _, _, hr => ⟨hr, trivial⟩
  | [], _ :: _, _, _, h, _ => h.elim
  | _ :: _, [], _, _, h, _ => h.elim
  | _ :: _, _ :: _, _, _, h, hr => ⟨h.1, h.2.snoc hr⟩
theorem NR_snoc : ∀ {G : Gr} {vs : List V}, vs.length = G.length → ∀ (p : Lab.Txt × List Lab.Txt) (u : V), NR (G ++ [p]) (vs ++ [u]) = NR G vs ++ [[L.str p.1, u]]
  | [], [], _, _, _ => rfl
  | [], _ :: _, h, _, _ => by simp at h
  | _ :: _, [], h, _, _ => by simp at h
  | a :: G, v :: vs, h, p, u => by
    have := NR_snoc (G := G) (vs := vs) (by simpa using h) p u
    show [L.str a.1, v] :: NR (G ++ [p]) (vs ++ [u]) = _
    rw [this]; rfl
/-! ### nodes in another order, each twice, and one that is none -/
def zz : Lab.Txt := [122, 122]
def downT (l : List Lab.Txt) (q : Nat) : List Lab.Txt := (l.drop q).reverse.flatMap fun t => [t, t]
theorem downT_all (l : List Lab.Txt) : downT l l.length = [] := by unfold downT; rw [List.drop_length]; rfl
theorem downT_step {l : List Lab.Txt} {q : Nat} {t : Lab.Txt} (h : l[q]? = some t) : downT l q = downT l (q + 1) ++ [t, t] := by
  unfold downT
  obtain ⟨h1, h2⟩ := List.getElem?_eq_some_iff.1 h
  rw [List.drop_eq_getElem_cons h1, h2, List.reverse_cons, List.flatMap_append]; rfl
theorem downT_len (l : List Lab.Txt) (q : Nat) : (downT l q).length ≤ 2 * l.length := by
  unfold downT
  have : ∀ m : List Lab.Txt, (m.flatMap fun t => [t, t]).length = 2 * m.length := fun m => by
    induction m with
    | nil => rfl
    | cons a m ih => rw [List.flatMap_cons, List.length_append, ih, List.length_cons]; simp; omega
  rw [this, List.length_reverse, List.length_drop]; omega
theorem downT_mem {l : List Lab.Txt} {t : Lab.Txt} : t ∈ downT l 0 ↔ t ∈ l := by unfold downT; simp
def turnG (G : Gr) (q : Nat) : Gr := (G.drop q).reverse.map fun p => (p.1, zz :: downT p.2 0)
theorem turnG_all (G : Gr) : turnG G G.length = [] := by unfold turnG; rw [List.drop_length]; rfl
theorem turnG_step {G : Gr} {q : Nat} {p : Lab.Txt × List Lab.Txt} (h : G[q]? = some p) : turnG G q = turnG G (q + 1) ++ [(p.1, zz :: downT p.2 0)] := by
  unfold turnG
  obtain ⟨h1, h2⟩ := List.getElem?_eq_some_iff.1 h
  rw [List.drop_eq_getElem_cons h1, h2, List.reverse_cons, List.map_append]; rfl
theorem turnG_len (G : Gr) (q : Nat) : (turnG G q).length ≤ G.length := by unfold turnG; rw [List.length_map, List.length_reverse, List.length_drop]; omega
theorem turn_nms (G : Gr) : nmsG (turnG G 0) = (nmsG G).reverse := by unfold nmsG turnG; rw [List.drop_zero, List.map_map, List.map_reverse]; rfl
theorem turn_gd {G : Gr} (g : GdN G) (h20 : ∀ p ∈ G, p.2.length ≤ 20) : GdN (turnG G 0) := by
  refine ⟨by rw [turn_nms]; exact List.pairwise_reverse.2 (g.nd.imp fun h => h.symm), Nat.le_trans (turnG_len G 0) g.few, fun p hp => ?_⟩
  unfold turnG at hp
  obtain ⟨q, hq, rfl⟩ := List.mem_map.1 hp
  have hq : q ∈ G := by simpa using hq
  have := downT_len q.2 0
  have := h20 q hq
  show (zz :: downT q.2 0).length ≤ 64
  rw [List.length_cons]; omega
theorem succ_iff {G : Gr} (hn : (nmsG G).Nodup) {x y : Lab.Txt} : y ∈ succG (wayG G) x ↔ ∃ p ∈ G, p.1 = x ∧ y ∈ p.2 ∧ y ∈ nmsG G := by
  constructor
  · intro h
    obtain ⟨p, hp, h1, h2⟩ := succG_mem h
    obtain ⟨q, hq, rfl⟩ := List.mem_map.1 hp
    have h3 := List.mem_filter.1 h2
    exact ⟨q, hq, h1, h3.1, of_decide_eq_true h3.2⟩
  · rintro ⟨p, hp, h1, h2, h3⟩
    have key : ∀ W : Gr, (nmsG W).Nodup → ∀ q ∈ W, q.1 = x → succG W x = q.2 := by
      intro W hW
      induction W with
      | nil => intro q hq; cases hq
      | cons a W ih =>
        intro q hq e
        have hW : (a.1 :: nmsG W).Nodup := hW
        rw [List.nodup_cons] at hW
        unfold succG
        rcases List.mem_cons.1 hq with rfl | hq
        · rw [if_pos e]
        · rw [if_neg (fun e2 : a.1 = x => hW.1 (by rw [e2, ← e]; exact List.mem_map.2 ⟨q, hq, rfl⟩))]
          exact ih hW.2 q hq e
    rw [key (wayG G) (by rw [wayG_nms]; exact hn) (p.1, filtG (nmsG G) p.2) (List.mem_map.2 ⟨p, hp, rfl⟩) h1]
    exact List.mem_filter.2 ⟨h2, decide_eq_true h3⟩
theorem Reach.congr {W M : Gr} (h : ∀ x y, y ∈ succG W x ↔ y ∈ succG M x) {x y : Lab.Txt} (r : Reach W x y) : Reach M x y := by
  induction r with
  | one hm => exact .one ((h _ _).1 hm)
  | step _ hm ih => exact .step ih ((h _ _).1 hm)
theorem turn_reach {G : Gr} (g : GdN G) (g2 : GdN (turnG G 0)) (hz : zz ∉ nmsG G) (x y : Lab.Txt) : Reach (wayG (turnG G 0)) x y ↔ Reach (wayG G) x y := by
  have h : ∀ x y, y ∈ succG (wayG G) x ↔ y ∈ succG (wayG (turnG G 0)) x := by
    intro x y
    rw [succ_iff g.nd, succ_iff g2.nd, turn_nms]
    constructor
    · rintro ⟨p, hp, h1, h2, h3⟩
      exact ⟨(p.1, zz :: downT p.2 0), by unfold turnG; exact List.mem_map.2 ⟨p, by simpa using hp, rfl⟩, h1, List.mem_cons_of_mem _ (downT_mem.2 h2), List.mem_reverse.2 h3⟩
    · rintro ⟨p, hp, h1, h2, h3⟩
      unfold turnG at hp
      obtain ⟨q, hq, rfl⟩ := List.mem_map.1 hp
      have h3 := List.mem_reverse.1 h3
      refine ⟨q, by simpa using hq, h1, ?_, h3⟩
      rcases List.mem_cons.1 h2 with rfl | h2
      · exact absurd h3 hz
      · exact downT_mem.1 h2
  exact ⟨Reach.congr fun x y => (h x y).symm, Reach.congr h⟩
theorem sortB_eq {l m : List Lab.Txt} (h : l.Perm m) : sortB l = sortB m :=
  List.Perm.eq_of_pairwise (le := fun a b => a ≤ b) (fun a b _ _ h1 h2 => List.le_antisymm h1 h2) (sortB_sorted l) (sortB_sorted m) ((sortB_perm l).trans (h.trans (sortB_perm m).symm))
theorem turn_same {G : Gr} (g : GdN G) (g2 : GdN (turnG G 0)) (hz : zz ∉ nmsG G) {C R O C' R' O' : List Lab.Txt} (o : OrdG G C R O) (o' : OrdG (turnG G 0) C' R' O') : C = C' ∧ O = O' := by
  have hr := turn_reach g g2 hz
  have e1 : loopB (wayG (turnG G 0)) = loopB (wayG G) := by
    funext x; rw [Bool.eq_iff_iff, loopB_iff, loopB_iff]; exact hr x x
  have e2 : rdyB (wayG (turnG G 0)) = rdyB (wayG G) := by
    funext D x; rw [Bool.eq_iff_iff, rdyB_iff, rdyB_iff]; exact forall_congr' fun y => by rw [hr x y]
  have hp : (nmsG (turnG G 0)).Perm (nmsG G) := by rw [turn_nms]; exact List.reverse_perm _
  have hC : C = C' := by
    rw [o.c, o'.c]
    refine sortB_eq ?_
    unfold circK; rw [List.take_length, List.take_length, e1]
    exact (hp.filter _).symm
  have hR : R = R' := by
    rw [o.r, o'.r]
    refine sortB_eq ?_
    unfold restK; rw [List.take_length, List.take_length, e1]
    exact (hp.filter _).symm
  refine ⟨hC, ?_⟩
  have h1 := o.o
  have h2 := o'.o
  rw [e2, ← hC, ← hR] at h2
  exact h1.same h2
end
end Go.Eng
