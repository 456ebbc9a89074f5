/- Part of a proof of a law, by an evaluator that the machine follows: rules, contracts of functions, what they come to. No condition of its own. -/
import Derived.Test.YtfapefhnicdncaaSymF
import Derived.Test.YtfapefhnicdncaaEngG
set_option linter.unusedVariables false
set_option linter.unusedSimpArgs false
namespace Go.Eng
noncomputable section
/-! ### is all that a name needs done? by the summary -/
theorem incr_same (clk : Nat) (l : List Ent) (lo : Nat) : incr clk l lo = incrM clk l lo := rfl
theorem trueIn_tt (D : List Lab.Txt) (x : Lab.Txt) : trueIn (entsOf 0 (ttK D)) (L.str x) = some (decide (x ∈ D)) := by
  have hf := find_ents x 0 (ttK D)
  have hm := getK_mem (x := x) (ks := ttK D)
  rw [ttK_keys] at hm
  have hg := ttK_get x D
  unfold trueIn
  cases e : getK x (ttK D) with
  | none =>
    rw [e] at hf hm
    rw [hf]
    have : decide (x ∈ D) = false := hm.symm
    rw [this]
  | some v =>
    rw [e] at hf hm hg
    obtain ⟨n, h1, h2⟩ := hf
    rw [h1]
    have h3 : decide (x ∈ D) = true := hm.symm
    have h4 : v = .bool (decide (x ∈ D)) := hg
    show n.val.asBool = _
    rw [h2, h4]; rfl
theorem allIn_tt (D : List Lab.Txt) : ∀ (i : Nat) (S : List Lab.Txt), allIn (entsOf 0 (ttK D)) (entsOf i (ttK S)) = some (decide (∀ y ∈ S, y ∈ D))
  | _, [] => by simp [ttK, entsOf, allIn]
  | i, y :: S => by
    have e : allIn (entsOf 0 (ttK D)) (entsOf i (ttK (y :: S))) = (match trueIn (entsOf 0 (ttK D)) (L.str y), allIn (entsOf 0 (ttK D)) (entsOf (i + 1) (ttK S)) with
      | some a, some b => some (a && b)
      | _, _ => none) := rfl
    rw [e, trueIn_tt, allIn_tt D (i + 1) S]
    show some (decide (y ∈ D) && decide (∀ y ∈ S, y ∈ D)) = _
    congr 1
    rw [Bool.eq_iff_iff]; simp
theorem rdy_c {c : Ctx} {f0 : Nat} (hc : ∀ args h r, moreRdy f0 f0 args h = r → r ≠ .bad → Runs c f0 args h r) {h : Heap} {x : Lab.Txt} {p1 p2 mn md b : Nat} {K : List (Lab.Txt × V)} {D S : List Lab.Txt} (h1 : h.load1 p1 0 = some (.map mn)) (h2 : h.load1 p2 0 = some (.map md)) (hK : MapAt h mn K) (hD : MapAt h md (ttK D)) (hx : getK x K = some (.map b)) (hb : MapAt h b (ttK S)) :
    RunP c f0 [L.str x, .ptr p1 0, .ptr p2 0] h fun v h' => v = .bool (decide (∀ y ∈ S, y ∈ D)) ∧ h' = h := by
  refine ⟨_, _, hc _ _ (.ok (.bool (decide (∀ y ∈ S, y ∈ D))) h) ?_ (by simp), rfl, rfl⟩
  unfold moreRdy
  rw [show f0.beq f0 = true from Nat.beq_refl _]
  show rdyAt x.length (enc x) h (h.load1 p1 0) (h.load1 p2 0) = _
  rw [h1, h2]
  show (match h.obj mn, h.obj md with
    | some (.map es _), some (.map ds _) => (match valOf (find (eqKey .str) (L.str x) es) with
      | some v => rdyIn ds h v
      | none => .bad)
    | _, _ => .bad) = _
  rw [show h.obj mn = _ from hK, show h.obj md = _ from hD]
  have hf := find_ents x 0 K
  rw [hx] at hf
  obtain ⟨e, e1, e2⟩ := hf
  show (match valOf (find (eqKey .str) (L.str x) (entsOf 0 K)) with
      | some v => rdyIn (entsOf 0 (ttK D)) h v
      | none => .bad) = _
  rw [e1]
  show rdyIn (entsOf 0 (ttK D)) h e.val = _
  rw [e2]
  show (match h.obj b with
    | some (.map ks clk) => match incr clk ks 0, allIn (entsOf 0 (ttK D)) ks with
      | true, some r => OR.ok (.bool r) h
      | _, _ => .bad
    | _ => .bad) = _
  rw [show h.obj b = _ from hb]
  show (match incr (ttK S).length (entsOf 0 (ttK S)) 0, allIn (entsOf 0 (ttK D)) (entsOf 0 (ttK S)) with
      | true, some r => OR.ok (.bool r) h
      | _, _ => .bad) = _
  rw [incr_same, incr_ents 0 0 _ _ (Nat.le_refl _) (by omega), allIn_tt]
/-! ### the order, as a relation -/
inductive OrdR (P : List Lab.Txt → Lab.Txt → Bool) : List Lab.Txt → List Lab.Txt → List Lab.Txt → Prop
  | nil {D R : List Lab.Txt} : (∀ x ∈ R, P D x = false) → OrdR P D R []
  | cons {D R O : List Lab.Txt} {k : Nat} {x : Lab.Txt} : R[k]? = some x → P D x = true → (∀ y ∈ R.take k, P D y = false) → OrdR P (D ++ [x]) (R.eraseIdx k) O → OrdR P D R (x :: O)
theorem OrdR.same {P : List Lab.Txt → Lab.Txt → Bool} {D R O : List Lab.Txt} (a : OrdR P D R O) : ∀ {O2 : List Lab.Txt}, OrdR P D R O2 → O = O2 := by
  induction a with
  | nil h =>
    intro O2 b
    cases b with
    | nil _ => rfl
    | cons h1 h2 _ _ => rw [h _ (List.mem_of_getElem? h1)] at h2; cases h2
  | @cons D R O k x h1 h2 h3 _ ih =>
    intro O2 b
    cases b with
    | nil h => rw [h _ (List.mem_of_getElem? h1)] at h2; cases h2
    | @cons _ _ O' k2 x2 g1 g2 g3 g4 =>
      have e : k = k2 := by
        apply Nat.le_antisymm
        · refine Nat.le_of_not_lt fun hlt => ?_
          have := h3 x2 (List.mem_of_getElem? (i := k2) (by rw [List.getElem?_take_of_lt hlt]; exact g1))
          rw [this] at g2; cases g2
        · refine Nat.le_of_not_lt fun hlt => ?_
          have := g3 x (List.mem_of_getElem? (i := k) (by rw [List.getElem?_take_of_lt hlt]; exact h1))
          rw [this] at h2; cases h2
      subst e
      rw [h1] at g1; cases g1
      rw [ih g4]
end
end Go.Eng
namespace Go.Eng
noncomputable section
/-! ### those in circles, the others; what is ready -/
def loopB (W : Gr) (x : Lab.Txt) : Bool := @decide (Reach W x x) (Classical.propDecidable _)
def rdyB (W : Gr) (D : List Lab.Txt) (x : Lab.Txt) : Bool := @decide (∀ y, Reach W x y → y ∈ D) (Classical.propDecidable _)
theorem loopB_iff (W : Gr) (x : Lab.Txt) : loopB W x = true ↔ Reach W x x := by unfold loopB; exact @decide_eq_true_iff _ (Classical.propDecidable _)
theorem rdyB_iff (W : Gr) (D : List Lab.Txt) (x : Lab.Txt) : rdyB W D x = true ↔ ∀ y, Reach W x y → y ∈ D := by unfold rdyB; exact @decide_eq_true_iff _ (Classical.propDecidable _)
def circK (W G : Gr) (i : Nat) : List Lab.Txt := (nmsG (G.take i)).filter (loopB W)
def restK (W G : Gr) (i : Nat) : List Lab.Txt := (nmsG (G.take i)).filter fun x => !loopB W x
theorem circK_len (W G : Gr) (i : Nat) : (circK W G i).length ≤ G.length := Nat.le_trans (List.length_filter_le _ _) (by rw [nmsG_len, List.length_take]; omega)
theorem restK_len (W G : Gr) (i : Nat) : (restK W G i).length ≤ G.length := Nat.le_trans (List.length_filter_le _ _) (by rw [nmsG_len, List.length_take]; omega)
section
variable {W G : Gr} {i : Nat} {p : Lab.Txt × List Lab.Txt} (hp : G[i]? = some p)
include hp
theorem nms_next : nmsG (G.take (i + 1)) = nmsG (G.take i) ++ [p.1] := by unfold nmsG; rw [take_next hp, List.map_append]; rfl
theorem circK_in (hc : Reach W p.1 p.1) : circK W G (i + 1) = circK W G i ++ [p.1] := by
  unfold circK; rw [nms_next hp, List.filter_append]; simp [(loopB_iff W p.1).2 hc]
theorem circK_out (hc : ¬ Reach W p.1 p.1) : circK W G (i + 1) = circK W G i := by
  have h : loopB W p.1 = false := by cases e : loopB W p.1 with
    | false => rfl
    | true => exact absurd ((loopB_iff W p.1).1 e) hc
  unfold circK; rw [nms_next hp, List.filter_append]; simp [h]
theorem restK_in (hc : Reach W p.1 p.1) : restK W G (i + 1) = restK W G i := by
  unfold restK; rw [nms_next hp, List.filter_append]; simp [(loopB_iff W p.1).2 hc]
theorem restK_out (hc : ¬ Reach W p.1 p.1) : restK W G (i + 1) = restK W G i ++ [p.1] := by
  have h : loopB W p.1 = false := by cases e : loopB W p.1 with
    | false => rfl
    | true => exact absurd ((loopB_iff W p.1).1 e) hc
  unfold restK; rw [nms_next hp, List.filter_append]; simp [h]
end
abbrev Kt := List (Lab.Txt × Nat × List Lab.Txt)
def nK (K : Kt) : List (Lab.Txt × V) := K.map fun q => (q.1, V.map q.2.1)
def KaAt (h : Heap) (K : Kt) : Prop := ∀ q ∈ K, MapAt h q.2.1 (ttK q.2.2)
theorem KaAt.snoc {h : Heap} {K : Kt} {x : Lab.Txt} {m : Nat} {S : List Lab.Txt} (h1 : MapAt h m (ttK S)) (h2 : KaAt h K) : KaAt h (K ++ [(x, m, S)]) := fun q hq => by
  rcases List.mem_append.1 hq with hq | hq
  · exact h2 q hq
  · obtain rfl : q = (x, m, S) := by simpa using hq
    exact h1
structure OI (W G : Gr) (i : Nat) (K : Kt) : Prop where
  keys : K.map (fun q => q.1) = restK W G i
  sets : ∀ q ∈ K, ∀ y, y ∈ q.2.2 ↔ Reach W q.1 y
theorem OI.start (W G : Gr) : OI W G 0 [] := ⟨by unfold restK nmsG; simp, fun q hq => by cases hq⟩
theorem nK_keys (K : Kt) : (nK K).map (fun p => p.1) = K.map fun q => q.1 := by unfold nK; rw [List.map_map]; rfl
theorem nodup_take {G : Gr} (g : GdN G) (i : Nat) : (nmsG (G.take i)).Nodup := by
  have : nmsG (G.take i) = (nmsG G).take i := by unfold nmsG; rw [List.map_take]
  rw [this]; exact g.nd.sublist (List.take_sublist _ _)
section
variable {W G : Gr} {i m : Nat} {p : Lab.Txt × List Lab.Txt} {K : Kt} {S : List Lab.Txt} (g : GdN G) (o : OI W G i K)
include g o
omit g in
theorem OI.circ (hp : G[i]? = some p) (hc : Reach W p.1 p.1) (_ : ∀ y, y ∈ S ↔ Reach W p.1 y) : OI W G (i + 1) K := ⟨by rw [restK_in hp hc]; exact o.keys, o.sets⟩
omit g in
theorem OI.rest (hp : G[i]? = some p) (hc : ¬ Reach W p.1 p.1) (hS : ∀ y, y ∈ S ↔ Reach W p.1 y) : OI W G (i + 1) (K ++ [(p.1, m, S)]) := by
  refine ⟨by rw [restK_out hp hc, List.map_append, o.keys]; rfl, fun q hq => ?_⟩
  rcases List.mem_append.1 hq with hq | hq
  · exact o.sets q hq
  · obtain rfl : q = (p.1, m, S) := by simpa using hq
    exact hS
theorem OI.new (hp : G[i]? = some p) : p.1 ∉ (nK K).map fun p => p.1 := by
  rw [nK_keys, o.keys]
  intro hm
  have hm := (List.mem_filter.1 hm).1
  have hn := nodup_take g (i + 1)
  rw [nms_next hp, List.nodup_append] at hn
  exact hn.2.2 _ hm p.1 (by simp) rfl
theorem OI.get {q : Lab.Txt × Nat × List Lab.Txt} (hq : q ∈ K) : getK q.1 (nK K) = some (.map q.2.1) := by
  have hn : (K.map fun q => q.1).Nodup := by rw [o.keys]; exact (nodup_take g i).sublist List.filter_sublist
  clear o
  induction K with
  | nil => cases hq
  | cons a K ih =>
    rw [List.map_cons, List.nodup_cons] at hn
    show getK q.1 ((a.1, V.map a.2.1) :: nK K) = _
    unfold getK
    rcases List.mem_cons.1 hq with rfl | hq
    · rw [if_pos rfl]
    · rw [if_neg (fun e : a.1 = q.1 => hn.1 (by rw [e]; exact List.mem_map.2 ⟨q, hq, rfl⟩))]; exact ih hq hn.2
omit g in
theorem OI.find {R0 : List Lab.Txt} (hR : R0 = sortB (restK W G i)) {x : Lab.Txt} (hx : x ∈ R0) : ∃ q, q ∈ K ∧ q.1 = x := by
  rw [hR] at hx
  have hx := (sortB_perm _).mem_iff.1 hx
  rw [← o.keys] at hx
  obtain ⟨q, h1, h2⟩ := List.mem_map.1 hx
  exact ⟨q, h1, h2⟩
omit g in
theorem OI.rdy {q : Lab.Txt × Nat × List Lab.Txt} (hq : q ∈ K) (D : List Lab.Txt) : decide (∀ y ∈ q.2.2, y ∈ D) = rdyB W D q.1 := by
  rw [Bool.eq_iff_iff, decide_eq_true_iff, rdyB_iff]
  exact ⟨fun h y hy => h y ((o.sets q hq y).2 hy), fun h y hy => h y ((o.sets q hq y).1 hy)⟩
end
/-! ### the last loop -/
structure LI (W : Gr) (C0 R0 D R O : List Lab.Txt) : Prop where
  ord : ∀ O', OrdR (rdyB W) D R O' → OrdR (rdyB W) C0 R0 (O ++ O')
  sub : ∀ x ∈ R, x ∈ R0
  len : O.length + R.length = R0.length
  nd : R.Nodup
  disj : ∀ x ∈ R, x ∉ D
section
variable {W G : Gr} {C0 R0 D R O : List Lab.Txt}
theorem LI.short (l : LI W C0 R0 D R O) : R.length ≤ R0.length := by have := l.len; omega
theorem LI.shortO (l : LI W C0 R0 D R O) : O.length ≤ R0.length := by have := l.len; omega
theorem circ_nd (g : GdN G) (hC : C0 = sortB (circK W G G.length)) : C0.Nodup := by
  rw [hC]; exact (sortB_perm _).nodup_iff.2 ((nodup_take g _).sublist List.filter_sublist)
theorem rest_nd (g : GdN G) (hR : R0 = sortB (restK W G G.length)) : R0.Nodup := by
  rw [hR]; exact (sortB_perm _).nodup_iff.2 ((nodup_take g _).sublist List.filter_sublist)
theorem circ_mem (hC : C0 = sortB (circK W G G.length)) {x : Lab.Txt} : x ∈ C0 ↔ x ∈ nmsG G ∧ Reach W x x := by
  rw [hC, (sortB_perm _).mem_iff]
  unfold circK
  rw [List.take_length, List.mem_filter, loopB_iff]
theorem rest_mem (hR : R0 = sortB (restK W G G.length)) {x : Lab.Txt} : x ∈ R0 ↔ x ∈ nmsG G ∧ ¬ Reach W x x := by
  rw [hR, (sortB_perm _).mem_iff]
  unfold restK
  rw [List.take_length, List.mem_filter, ← loopB_iff]; simp
theorem circ_new (g : GdN G) (hC : C0 = sortB (circK W G G.length)) {k : Nat} {x : Lab.Txt} (hx : C0[k]? = some x) : x ∉ C0.take k := by
  intro hm
  have hn := (circ_nd g hC).sublist (List.take_sublist (k + 1) C0)
  rw [take_next hx, List.nodup_append] at hn
  exact hn.2.2 _ hm x (by simp) rfl
theorem LI.start (g : GdN G) (hC : C0 = sortB (circK W G G.length)) (hR : R0 = sortB (restK W G G.length)) : LI W C0 R0 C0 R0 [] :=
  ⟨fun O' h => h, fun _ h => h, by simp, rest_nd g hR, fun x h1 h2 => ((rest_mem hR).1 h1).2 ((circ_mem hC).1 h2).2⟩
theorem LI.next {k : Nat} {x : Lab.Txt} (l : LI W C0 R0 D R O) (hx : R[k]? = some x) (hP : rdyB W D x = true) (hno : ∀ y ∈ R.take k, rdyB W D y = false) : LI W C0 R0 (D ++ [x]) (R.eraseIdx k) (O ++ [x]) := by
  have hkl := (List.getElem?_eq_some_iff.1 hx).1
  have he : x ∉ R.eraseIdx k := by
    rw [List.eraseIdx_eq_take_drop_succ]
    have hn := l.nd
    have e : R = R.take k ++ x :: R.drop (k + 1) := by
      rw [List.getElem?_eq_some_iff] at hx
      obtain ⟨h1, h2⟩ := hx
      rw [← h2]; simp
    rw [e, List.nodup_append, List.nodup_cons] at hn
    intro hm
    rcases List.mem_append.1 hm with hm | hm
    · exact hn.2.2 _ hm x (by simp) rfl
    · exact hn.2.1.1 hm
  refine ⟨fun O' h => ?_, fun y hy => l.sub y ((List.eraseIdx_sublist R k).subset hy), ?_, l.nd.sublist (List.eraseIdx_sublist R k), fun y hy hd => ?_⟩
  · rw [List.append_assoc]; exact l.ord _ (.cons hx hP hno h)
  · have := l.len
    rw [List.length_eraseIdx, if_pos hkl, List.length_append]; simp only [List.length_cons, List.length_nil]; omega
  · rcases List.mem_append.1 hd with hd | hd
    · exact l.disj y ((List.eraseIdx_sublist R k).subset hy) hd
    · obtain rfl : y = x := by simpa using hd
      exact he hy
theorem LI.none (l : LI W C0 R0 D R O) (h : ∀ x ∈ R, rdyB W D x = false) : OrdR (rdyB W) C0 R0 O := by
  have := l.ord [] (.nil h); rw [List.append_nil] at this; exact this
end
end
end Go.Eng
