/- Part of a proof of a law, by an evaluator that the machine follows: rules, contracts of functions, what they come to. No condition of its own. -/
import Derived.Test.YtmcjcbldmoijiaaGreatDoorEngF
import Derived.Shelf.SlSortCmp.InsertionK
set_option linter.unusedVariables false
set_option linter.unusedSimpArgs false
namespace Go.Eng
noncomputable section
open Go.Sort Go.Proofs
/-! ### slices.SortFunc of rows by their first text, by its contract -/
section
variable {β γ : Type}
def insP (v : List UInt8 × β) : List (List UInt8 × β) → List (List UInt8 × β)
  | [] => [v]
  | u :: l => if u.1 < v.1 then u :: insP v l else v :: u :: l
def sortP : List (List UInt8 × β) → List (List UInt8 × β)
  | [] => []
  | v :: l => insP v (sortP l)
theorem insP_map (f : β → γ) (v : List UInt8 × β) : ∀ l : List (List UInt8 × β), insP (v.1, f v.2) (l.map fun r => (r.1, f r.2)) = (insP v l).map fun r => (r.1, f r.2)
  | [] => rfl
  | u :: l => by
    by_cases h : u.1 < v.1
    · show (if u.1 < v.1 then _ else _) = _
      rw [if_pos h, show insP v (u :: l) = u :: insP v l from if_pos h, insP_map f v l]; rfl
    · show (if u.1 < v.1 then _ else _) = _
      rw [if_neg h, show insP v (u :: l) = v :: u :: l from if_neg h]; rfl
theorem sortP_map (f : β → γ) : ∀ l : List (List UInt8 × β), sortP (l.map fun r => (r.1, f r.2)) = (sortP l).map fun r => (r.1, f r.2)
  | [] => rfl
  | v :: l => by
    show insP (v.1, f v.2) (sortP (l.map fun r => (r.1, f r.2))) = _
    rw [sortP_map f l, insP_map]; rfl
theorem insP_perm (v : List UInt8 × β) : ∀ l, (insP v l).Perm (v :: l)
  | [] => List.Perm.refl _
  | u :: l => by
    unfold insP
    by_cases h : u.1 < v.1
    · rw [if_pos h]; exact (List.Perm.cons u (insP_perm v l)).trans (List.Perm.swap ..)
    · rw [if_neg h]
theorem sortP_perm : ∀ l : List (List UInt8 × β), (sortP l).Perm l
  | [] => List.Perm.refl _
  | v :: l => (insP_perm v _).trans (List.Perm.cons v (sortP_perm l))
theorem insP_sorted (v : List UInt8 × β) : ∀ l : List (List UInt8 × β), l.Pairwise (fun a b => a.1 ≤ b.1) → (insP v l).Pairwise (fun a b => a.1 ≤ b.1)
  | [], _ => by simp [insP]
  | u :: l, h => by
    unfold insP
    by_cases hu : u.1 < v.1
    · rw [if_pos hu]
      refine List.pairwise_cons.2 ⟨fun x hx => ?_, insP_sorted v l (List.pairwise_cons.1 h).2⟩
      rcases List.mem_cons.1 ((insP_perm v l).mem_iff.1 hx) with rfl | hx
      · exact List.le_of_lt hu
      · exact (List.pairwise_cons.1 h).1 x hx
    · rw [if_neg hu]
      have hvu : v.1 ≤ u.1 := hu
      refine List.pairwise_cons.2 ⟨fun x hx => ?_, h⟩
      rcases List.mem_cons.1 hx with rfl | hx
      · exact hvu
      · exact List.le_trans hvu ((List.pairwise_cons.1 h).1 x hx)
theorem sortP_sorted : ∀ l : List (List UInt8 × β), (sortP l).Pairwise (fun a b => a.1 ≤ b.1)
  | [] => List.Pairwise.nil
  | v :: l => insP_sorted v _ (sortP_sorted l)
/-- keys that are pairwise unlike leave one order -/
theorem sortP_only {a b : List (List UInt8 × β)} (p : a.Perm b) (ha : a.Pairwise (fun x y => x.1 ≤ y.1)) (hn : (b.map (·.1)).Nodup) : a = sortP b := by
  refine (p.trans (sortP_perm b).symm).eq_of_pairwise (fun x y hx hy h1 h2 => ?_) ha (sortP_sorted b)
  have hx : x ∈ b := p.mem_iff.1 hx
  have hy : y ∈ b := (sortP_perm b).mem_iff.1 hy
  have e : x.1 = y.1 := List.le_antisymm h1 h2
  obtain ⟨i, hi, rfl⟩ := List.mem_iff_getElem.1 hx
  obtain ⟨j, hj, rfl⟩ := List.mem_iff_getElem.1 hy
  rw [List.Nodup, List.pairwise_map, List.pairwise_iff_getElem] at hn
  rcases Nat.lt_trichotomy i j with h | h | h
  · exact absurd e (hn i j hi hj h)
  · subst h; rfl
  · exact absurd e.symm (hn j i hj hi h)
end
def rowsV (k : Nat) : Nat → List V → List (List V)
  | 0, _ => []
  | n + 1, l => l.take k :: rowsV k n (l.drop k)
def lessR (a b : List V) : Bool := lessV (a.headD .bot) (b.headD .bot)
def insR (v : List V) : List (List V) → List (List V)
  | [] => [v]
  | u :: l => if lessR u v then u :: insR v l else v :: u :: l
def sortR : List (List V) → List (List V)
  | [] => []
  | v :: l => insR v (sortR l)
def strR (r : List V) : Bool := (r.headD .bot).asStr.isSome
def risesR : List (List V) → Bool
  | a :: b :: l => lessR a b && risesR (b :: l)
  | _ => true
def sortF (k : Nat) (h : Heap) (b o n : Nat) : OR := match h.load b o (n * k) with
  | none => .bad
  | some l => if (rowsV k n l).all strR = true ∧ risesR (sortR (rowsV k n l)) = true ∧ n < 4294967296 ∧ 0 < k then h.storeC b o (n * k) (sortR (rowsV k n l)).flatten .bad (fun h => .ok (.tup []) h) else .bad
def moreSortF (f0 cb k : Nat) : Nat → List V → Heap → OR := fun f args h => match f.beq f0, args with
  | true, [.slN, .fn g [] []] => if g = cb then .ok (.tup []) h else .bad
  | true, [.sl b o n _, .fn g [] []] => if g = cb then sortF k h b o n else .bad
  | _, _ => .bad
/-- a row of cells, as it is told and as it lies -/
abbrev TR := List UInt8 × (List V × List Value)
def TR.v (t : TR) : List V := sV t.1 :: t.2.1
def TR.x (t : TR) : List Value := encStr t.1 :: t.2.2
theorem insR_eq (v : TR) : ∀ l : List TR, insR v.v (l.map TR.v) = (insP v l).map TR.v
  | [] => rfl
  | u :: l => by
    have e : lessR u.v v.v = decide (u.1 < v.1) := by
      show lessV (sV u.1) (sV v.1) = _
      rw [lessV_eq, bytesLess_iff]
    show (if lessR u.v v.v = true then _ else _) = _
    rw [e]
    by_cases h : u.1 < v.1
    · rw [if_pos (by simpa using h), show insP v (u :: l) = u :: insP v l from if_pos h, insR_eq v l]; rfl
    · rw [if_neg (by simpa using h), show insP v (u :: l) = v :: u :: l from if_neg h]; rfl
theorem sortR_eq : ∀ l : List TR, sortR (l.map TR.v) = (sortP l).map TR.v
  | [] => rfl
  | v :: l => by
    show insR v.v (sortR (l.map TR.v)) = _
    rw [sortR_eq l, insR_eq]; rfl
theorem risesR_nodup : ∀ {l : List TR}, risesR (l.map TR.v) = true → l.Pairwise (fun a b => a.1 < b.1)
  | [], _ => List.Pairwise.nil
  | [a], _ => by simp
  | a :: b :: l, h => by
    have h : (lessR a.v b.v && risesR ((b :: l).map TR.v)) = true := h
    rw [Bool.and_eq_true] at h
    have e : lessR a.v b.v = decide (a.1 < b.1) := by
      show lessV (sV a.1) (sV b.1) = _
      rw [lessV_eq, bytesLess_iff]
    rw [e] at h
    have hab : a.1 < b.1 := by simpa using h.1
    have ih := risesR_nodup h.2
    refine List.pairwise_cons.2 ⟨fun x hx => ?_, ih⟩
    rcases List.mem_cons.1 hx with rfl | hx
    · exact hab
    · exact List.lt_trans hab ((List.pairwise_cons.1 ih).1 x hx)
theorem keys_nodup {l : List TR} (h : risesR (sortR (l.map TR.v)) = true) : (l.map (·.1)).Nodup := by
  rw [sortR_eq] at h
  have h1 := risesR_nodup h
  have h2 : ((sortP l).map (·.1)).Nodup := by
    rw [List.Nodup, List.pairwise_map]
    exact h1.imp fun {a b} hlt (e : a.1 = b.1) => List.lt_irrefl b.1 (by rw [e] at hlt; exact hlt)
  exact ((sortP_perm l).map _).nodup_iff.1 h2
theorem vrels.split {ι : Inj} : ∀ {l : List V} {m : List Value} (k : Nat), vrels ι l m → vrels ι (l.take k) (m.take k) ∧ vrels ι (l.drop k) (m.drop k)
  | [], m, k, h => by
    have h : m = [] := h
    subst h; simp only [List.take_nil, List.drop_nil]; exact ⟨rfl, rfl⟩
  | a :: l, m, 0, h => by
    simp only [List.take_zero, List.drop_zero]; exact ⟨rfl, h⟩
  | a :: l, m, k + 1, h => by
    obtain ⟨x, xs, rfl, h1, h2⟩ := h
    obtain ⟨g1, g2⟩ := vrels.split k h2
    exact ⟨⟨x, xs.take k, rfl, h1, g1⟩, g2⟩
theorem sV_of {ι : Inj} {v : V} {x : Value} (h : v.asStr.isSome = true) (r : vrel ι v x) : ∃ s : List UInt8, v = sV s ∧ x = encStr s := by
  cases v <;> first | (cases h; done) | skip
  obtain ⟨s, rfl, rfl, rfl⟩ := r
  exact ⟨s.data.toList, rfl, by simp [encStr]⟩
theorem rows_rel {ι : Inj} {k : Nat} (hk : 0 < k) : ∀ {n : Nat} {l : List V} {xs : List Value}, l.length = n * k → (rowsV k n l).all strR = true → vrels ι l xs → (∀ x ∈ xs, x.oneCell' = true) →
    ∃ T : List TR, T.length = n ∧ rowsV k n l = T.map TR.v ∧ l = (T.map TR.v).flatten ∧ xs = (T.map TR.x).flatten ∧ ∀ t ∈ T, vrels ι t.v t.x ∧ t.x.length = k ∧ ∀ x ∈ t.x, x.oneCell' = true
  | 0, l, xs, hl, _, hr, _ => by
    have : l = [] := List.eq_nil_of_length_eq_zero (by rw [hl, Nat.zero_mul])
    subst this
    have hr : xs = [] := hr
    subst hr
    exact ⟨[], rfl, rfl, rfl, rfl, by simp⟩
  | n + 1, l, xs, hl, hs, hr, h1 => by
    rw [Nat.succ_mul] at hl
    obtain ⟨r1, r2⟩ := vrels.split k hr
    have hs : (strR (l.take k) && (rowsV k n (l.drop k)).all strR) = true := hs
    rw [Bool.and_eq_true] at hs
    obtain ⟨T, e1, e2, e3, e4, e5⟩ := rows_rel hk (n := n) (l := l.drop k) (xs := xs.drop k) (by rw [List.length_drop]; omega) hs.2 r2 (fun x hx => h1 x (List.mem_of_mem_drop hx))
    cases ht : l.take k with
    | nil =>
      have := congrArg List.length ht
      have hk2 : k ≤ l.length := by rw [hl]; exact Nat.le_add_left ..
      rw [List.length_take, Nat.min_eq_left hk2, List.length_nil] at this; omega
    | cons v vs =>
      rw [ht] at hs r1
      obtain ⟨x, ys, hx, g1, g2⟩ := r1
      obtain ⟨s, rfl, rfl⟩ := sV_of hs.1 g1
      refine ⟨(s, vs, ys) :: T, by rw [List.length_cons, e1], ?_, ?_, ?_, ?_⟩
      · show l.take k :: rowsV k n (l.drop k) = _
        rw [ht, e2]; rfl
      · show l = TR.v (s, vs, ys) ++ (T.map TR.v).flatten
        rw [← e3]
        show l = (sV s :: vs) ++ l.drop k
        rw [← ht, List.take_append_drop]
      · show xs = TR.x (s, vs, ys) ++ (T.map TR.x).flatten
        rw [← e4]
        show xs = (encStr s :: ys) ++ xs.drop k
        rw [← hx, List.take_append_drop]
      · intro t htm
        rcases List.mem_cons.1 htm with rfl | htm
        · refine ⟨⟨_, _, rfl, g1, g2⟩, ?_, fun x hx' => h1 x ?_⟩
          · show (encStr s :: ys).length = k
            rw [← hx, List.length_take, hr.length, hl]; exact Nat.min_eq_left (Nat.le_add_left ..)
          · have : x ∈ xs.take k := by rw [hx]; exact hx'
            exact List.mem_of_mem_take this
        · exact e5 t htm
theorem trs_rel {ι : Inj} : ∀ {T : List TR}, (∀ t ∈ T, vrels ι t.v t.x) → vrels ι (T.map TR.v).flatten (T.map TR.x).flatten
  | [], _ => rfl
  | t :: T, h => (h t (by simp)).append (trs_rel fun u hu => h u (by simp [hu]))
theorem flat_len {k : Nat} : ∀ {T : List TR}, (∀ t ∈ T, t.x.length = k) → (T.map TR.x).flatten.length = T.length * k
  | [], _ => by simp
  | t :: T, h => by
    show (t.x ++ (T.map TR.x).flatten).length = _
    rw [List.length_append, h t (by simp), flat_len fun u hu => h u (by simp [hu]), List.length_cons, Nat.succ_mul]; omega
theorem moreSortF_ok {P : Program} {f0 cb k : Nat} (hb : hasBody P f0)
    (hc : ∀ (blk off cap : Nat) (X : List (List UInt8 × List Value)) (w : World), (∀ r ∈ X, r.2.length + 1 = k ∧ ∀ v ∈ r.2, v.oneCell' = true) → (X.map (·.1)).Nodup →
      Sort.Holds id w blk off ((X.map fun r => encStr r.1 :: r.2).flatten).toArray → blk < w.heap.size → X.length < 4611686018427387904 →
      Calls P f0 #[.slice (some ⟨blk, off, none⟩) X.length cap, .func (.func cb) #[] #[]] w fun e w' => e = .returned (.tuple #[]) ∧ ∃ n os, w' = grow (putRow id (Sort.ahead w n) blk off ((sortP X).map fun r => encStr r.1 :: r.2).flatten.toArray) os)
    (h0 : ∀ (p : Option Addr) (cap : Nat) (w : World), Calls P f0 #[.slice p 0 cap, .func (.func cb) #[] #[]] w fun e w' => e = .returned (.tuple #[]) ∧ w' = w) : MoreOk P (moreSortF f0 cb k) := by
  have argsF : ∀ {ι : Inj} {v : V} {g : Nat} {args : Array Value}, vrels ι [v, .fn g [] []] args.toList → ∃ y, vrel ι v y ∧ args = #[y, .func (.func g) #[] #[]] := by
    intro ι v g args hr
    obtain ⟨y1, l1, e1, r1, y2, l2, rfl, r2, r3⟩ := hr
    have r3 : l2 = [] := r3
    subst r3
    obtain ⟨xs, ys, rfl, q1, q2⟩ := r2
    have q1 : xs.toList = [] := q1
    have q2 : ys.toList = [] := q2
    have q1 : xs = #[] := by rw [← Array.toArray_toList (xs := xs), q1]
    have q2 : ys = #[] := by rw [← Array.toArray_toList (xs := ys), q2]
    subst q1; subst q2
    exact ⟨y1, r1, by rw [← Array.toArray_toList (xs := args), e1]⟩
  intro f vs h
  unfold moreSortF
  split
  · rename_i g hf
    have hf : f = f0 := Nat.eq_of_beq_eq_true hf
    subst hf
    by_cases hg : g = cb
    · subst hg
      rw [if_pos rfl]
      refine ⟨Nat.le_refl _, fun _ => ⟨hb, fun ι w args gd _ hr => ?_⟩⟩
      obtain ⟨y1, r1, rfl⟩ := argsF hr
      have r1 : y1 = .slice none 0 0 := r1
      subst r1
      refine (h0 none 0 w).mono fun e w' he => ?_
      obtain ⟨rfl, rfl⟩ := he
      exact ⟨ι, Chg.refl gd, ⟨#[], rfl, rfl⟩⟩
    · rw [if_neg hg]; exact ⟨trivial, fun h => absurd rfl h⟩
  · rename_i b o n cap g hf
    have hf : f = f0 := Nat.eq_of_beq_eq_true hf
    subst hf
    by_cases hg : g = cb
    rotate_left
    · rw [if_neg hg]; exact ⟨trivial, fun h => absurd rfl h⟩
    subst hg
    rw [if_pos rfl]
    unfold sortF
    cases hl : h.load b o (n * k) with
    | none => exact ⟨trivial, fun h => absurd rfl h⟩
    | some l =>
      simp only
      by_cases hs : (rowsV k n l).all strR = true ∧ risesR (sortR (rowsV k n l)) = true ∧ n < 4294967296 ∧ 0 < k
      rotate_left
      · rw [if_neg hs]; exact ⟨trivial, fun h => absurd rfl h⟩
      rw [if_pos hs]
      obtain ⟨hs1, hs2, hs3, hk⟩ := hs
      refine ⟨storeC_next (Nat.le_refl _), fun hne => ⟨hb, fun ι w args gd _ hr => ?_⟩⟩
      obtain ⟨y1, r1, rfl⟩ := argsF hr
      obtain ⟨B, a, c, hB, rfl, hsl⟩ := r1
      rw [storeC_eq _ _ _ _ _ _ _ gd.memLt (gd.bLt hB)] at hne ⊢
      cases hst : storeO h b o (n * k) (sortR (rowsV k n l)).flatten with
      | none => rw [hst] at hne; exact absurd rfl hne
      | some h1 =>
        show Calls P f _ w (OutP ι h w (.ok (.tup []) h1))
        obtain ⟨xs, hxl, hxr, hx1, hcell⟩ := load_rel gd hB hl
        obtain ⟨T, hT, e2, e3, e4, e5⟩ := rows_rel hk (by rw [← hxr.length, hxl]) hs1 hxr hx1
        rw [e2] at hst hs2
        have hnd := keys_nodup hs2
        rw [sortR_eq] at hst
        by_cases hn0 : n = 0
        · subst hn0
          rw [Nat.zero_mul] at hst
          cases storeO_zero hst
          refine (h0 (some a) c w).mono fun e w' he => ?_
          obtain ⟨rfl, rfl⟩ := he
          exact ⟨ι, Chg.refl gd, ⟨#[], rfl, rfl⟩⟩
        · have hadr := slOk_addr hsl (by omega)
          subst hadr
          have hnk : n * k ≠ 0 := Nat.mul_ne_zero hn0 (by omega)
          have e5' : ∀ t : TR, t ∈ sortP T → vrels ι (TR.v t) (TR.x t) ∧ (TR.x t).length = k ∧ ∀ x ∈ TR.x t, x.oneCell' = true := fun t ht => e5 t ((sortP_perm T).mem_iff.1 ht)
          have hSl : (sortP T).length = n := by rw [(sortP_perm T).length_eq, hT]
          have hXl : ((sortP T).map TR.x).flatten.length = n * k := by rw [flat_len fun t ht => (e5' t ht).2.1, hSl]
          have hrel := trs_rel (ι := ι) (T := sortP T) fun t ht => (e5' t ht).1
          have hVl : ((sortP T).map TR.v).flatten.length = n * k := by rw [← hrel.length, hXl]
          have hX1 : ∀ x ∈ ((sortP T).map TR.x).flatten, x.oneCell' = true := by
            intro x hx
            obtain ⟨r, hr, hxr⟩ := List.mem_flatten.1 hx
            obtain ⟨t, ht, rfl⟩ := List.mem_map.1 hr
            exact (e5' t ht).2.2 x hxr
          obtain ⟨ob, ob', h1', hob, hic, hic', hsolo, hfall, hh1, hle, hsz, hstat, hcellO, hkk⟩ := storeO_obj hnk hst hVl (gd.bLt hB) gd.memLt
          have hbn := gd.dom b (gd.bLt hB) (by simp [hob])
          have hrr := (gd.obj b B ob hB hob hbn).cells hic
          obtain ⟨cs, el, fr, q1, q2, q3, q4, q5, q6⟩ := hrr
          have hH : Sort.Holds id w B.c (B.off + o) xs.toArray := by
            intro j hj
            have hj : j < xs.length := by simpa using hj
            refine ⟨?_, ?_⟩
            · have := hcell j xs[j] (List.getElem?_eq_getElem hj)
              rw [this]; simp [hj]
            · have hno := q2.at_ (k := B.off + o + j) (by omega) (by omega) (by omega)
              simp only [World.frozen?, q1]
              simp; omega
          obtain ⟨w1, k1, k2, k3, k4, _⟩ := store_rel (P := P) gd hB hst hVl hrel hX1
          have hrun := run_storeCells_cells (P := P) B.c (B.off + o) ((sortP T).map TR.x).flatten 0 w (fun j hj => by
              have hj : j < xs.length := by rw [hXl] at hj; omega
              have := (hH j (by simpa using hj)).1
              simp only [Nat.add_zero]
              rw [this]; rfl) (fun j hj => by
              have hj : j < xs.length := by rw [hXl] at hj; omega
              exact (hH j (by simpa using hj)).2) hX1
          have hw1 : w1 = w.setCells B.c (B.off + o) ((sortP T).map TR.x).flatten := by
            have := k1.symm.trans hrun
            simpa using this
          have ex : (T.map fun t : TR => (t.1, t.2.2)).map (fun r => encStr r.1 :: r.2) = T.map TR.x := by rw [List.map_map]; rfl
          have es : ((sortP (T.map fun t : TR => (t.1, t.2.2))).map fun r => encStr r.1 :: r.2) = (sortP T).map TR.x := by
            rw [sortP_map (fun p : List V × List Value => p.2), List.map_map]; rfl
          have := hc B.c (B.off + o) c (T.map fun t : TR => (t.1, t.2.2)) w (fun r hr => by
            obtain ⟨t, ht, rfl⟩ := List.mem_map.1 hr
            obtain ⟨_, g2, g3⟩ := e5 t ht
            exact ⟨g2, fun v hv => g3 v (List.mem_cons_of_mem _ hv)⟩) (by rw [List.map_map]; exact hnd) (by rw [ex, ← e4]; exact hH) (gd.inH b B hB) (by rw [List.length_map, hT]; omega)
          rw [List.length_map, hT, es] at this
          refine this.mono fun e w' he => ?_
          obtain ⟨rfl, m, os, rfl⟩ := he
          have hsame := setCells_same B.c ((sortP T).map TR.x).flatten (B.off + o) w
          generalize hXS : ((sortP T).map TR.x).flatten = XS at *
          have heap : ∀ k, k < w.heap.size → (grow (putRow id (Sort.ahead w m) B.c (B.off + o) XS.toArray) os).heap[k]? = w1.heap[k]? := by
            intro k hk
            show ((putRow id (Sort.ahead w m) B.c (B.off + o) XS.toArray).heap ++ os)[k]? = _
            rw [Array.getElem?_append_left (by simpa using hk)]
            show (w.heap.modify B.c (onCells (putCells id (B.off + o) XS.toArray)))[k]? = _
            rw [Array.getElem?_modify, hw1]
            by_cases hkb : B.c = k
            · subst hkb
              obtain ⟨cs', c1, c2, c3⟩ := setCells_row XS (B.off + o) w cs q1 (by rw [hXl]; omega)
              rw [if_pos rfl, q1, c1]
              simp only [Option.map_some, onCells]
              congr 2
              apply Array.ext_getElem?
              intro j
              rw [c3]
              unfold putCells
              rw [Array.getElem?_mapIdx]
              simp only [hXl, List.size_toArray]
              by_cases hj : B.off + o ≤ j ∧ j < B.off + o + n * k
              · rw [if_pos hj]
                have hjc : j < cs.size := by omega
                rw [Array.getElem?_eq_getElem hjc]
                have hjl : j - (B.off + o) < XS.length := by omega
                simp [hj, hjl]
              · rw [if_neg hj]
                cases hcj : cs[j]? with
                | none => rfl
                | some y => simp [if_neg hj]
            · rw [if_neg hkb, setCells_far _ _ _ _ (Ne.symm hkb)]
          have hsz1 : w1.heap.size = w.heap.size := by rw [hw1]; exact hsame.2.2.2
          refine ⟨ι, Chg.same (k2.world (fun k hk => heap k (by omega)) (by simp; omega)) ⟨fun k hk hf => (heap k hk).trans (k3.keep k hk hf), by simp, rfl, rfl, rfl⟩ k4, ⟨#[], rfl, rfl⟩⟩
  · exact ⟨trivial, fun h => absurd rfl h⟩
end
end Go.Eng
namespace Go.Eng
noncomputable section
open Go.Sort Go.Proofs
/-! ### the shelf's contract of slices.SortFunc at rows of cells whose first is a text -/
structure KR (k : Nat) where
  val : List UInt8 × List Value
  ok : val.2.length + 1 = k ∧ ∀ v ∈ val.2, v.oneCell' = true
def KR.enc {k : Nat} (r : KR k) : List Value := encStr r.val.1 :: r.val.2
def cfS (a b : List UInt8) : Int := if a < b then -1 else if b < a then 1 else 0
def KR.cf {k : Nat} (a b : KR k) : Int := cfS a.val.1 b.val.1
theorem KR.inh {k : Nat} (hk : 0 < k) : Nonempty (Inhabited (KR k)) := ⟨⟨⟨([], List.replicate (k - 1) (.int .i64 0)), by simp; omega, fun v hv => by rw [List.eq_of_mem_replicate hv]; rfl⟩⟩⟩
theorem KR.len {k : Nat} (r : KR k) : r.enc.length = k := by
  show r.val.2.length + 1 = k
  exact r.ok.1
theorem KR.one {k : Nat} (r : KR k) : ∀ v ∈ r.enc, v.oneCell' = true := by
  intro v hv
  rcases List.mem_cons.1 hv with rfl | hv
  · rfl
  · exact r.ok.2 v hv
theorem KR.lt {k : Nat} (a b : KR k) : ltOf KR.cf a b = decide (a.val.1 < b.val.1) := by
  unfold ltOf KR.cf cfS
  by_cases h : a.val.1 < b.val.1
  · simp [h]
  · by_cases h2 : b.val.1 < a.val.1 <;> simp [h, h2]
theorem KR.swo {k : Nat} : SWO (ltOf (KR.cf (k := k))) where
  irrefl x := by rw [KR.lt]; simp
  trans x y z h1 h2 := by
    rw [KR.lt] at *
    simp only [decide_eq_true_eq] at *
    exact List.lt_trans h1 h2
  ntrans x y z h1 h2 := by
    rw [KR.lt] at *
    simp only [decide_eq_false_iff_not] at *
    exact fun h => (show y.val.1 ≤ x.val.1 from h1) |> fun a => (show z.val.1 ≤ y.val.1 from h2) |> fun b => (show z.val.1 ≤ x.val.1 from List.le_trans b a) h
theorem flat_get {α : Type} {k : Nat} (hk : 0 < k) : ∀ (L : List (List α)), (∀ r ∈ L, r.length = k) → ∀ t : Nat, L.flatten[t]? = (L[t / k]?).bind fun r => r[t % k]?
  | [], _, t => by simp
  | r :: L, h, t => by
    have hr : r.length = k := h r (by simp)
    rw [List.flatten_cons]
    by_cases ht : t < k
    · rw [List.getElem?_append_left (by omega), Nat.div_eq_of_lt ht, Nat.mod_eq_of_lt ht]; rfl
    · rw [List.getElem?_append_right (by omega), hr, flat_get hk L (fun s hs => h s (by simp [hs])) (t - k)]
      obtain ⟨u, rfl⟩ : ∃ u, t = u + k := ⟨t - k, by omega⟩
      rw [Nat.add_sub_cancel, Nat.add_div_right _ hk, Nat.add_mod_right]; rfl
theorem flatK_eq {k : Nat} (hk : 0 < k) [Inhabited (KR k)] (d : Array (KR k)) : flatK KR.enc k d = ((d.toList.map KR.enc).flatten).toArray := by
  apply Array.ext_getElem?
  intro t
  have hf := flat_get hk (d.toList.map KR.enc) (fun r hr => by obtain ⟨x, _, rfl⟩ := List.mem_map.1 hr; exact x.len) t
  by_cases ht : t < d.size * k
  · have hd : t / k < d.size := (Nat.div_lt_iff_lt_mul hk).2 ht
    have hm : t % k < k := Nat.mod_lt _ hk
    have g := get_flatK KR.enc k d t ht
    have hs : t < (flatK KR.enc k d).size := by rw [size_flatK]; exact ht
    rw [getElem!_pos _ t hs] at g
    rw [Array.getElem?_eq_getElem hs, g]
    simp only [List.getElem?_toArray]
    rw [hf, List.getElem?_map, Array.getElem?_toList, Array.getElem?_eq_getElem hd]
    have hl : t % k < (KR.enc d[t / k]).length := by rw [KR.len]; exact hm
    show some _ = (KR.enc d[t / k])[t % k]?
    rw [getElem!_pos d _ hd, getElem!_pos (KR.enc d[t / k]) (t % k) hl, List.getElem?_eq_getElem hl]
  · have hs : (flatK KR.enc k d).size ≤ t := by rw [size_flatK]; omega
    rw [Array.getElem?_eq_none hs]
    simp only [List.getElem?_toArray]
    have hd : d.size ≤ t / k := (Nat.le_div_iff_mul_le hk).2 (by omega)
    rw [hf, List.getElem?_map, Array.getElem?_toList, Array.getElem?_eq_none hd]; rfl
theorem KR.mk_ {k : Nat} : ∀ (X : List (List UInt8 × List Value)), (∀ r ∈ X, r.2.length + 1 = k ∧ ∀ v ∈ r.2, v.oneCell' = true) → ∃ D : List (KR k), D.map KR.val = X
  | [], _ => ⟨[], rfl⟩
  | r :: X, h => by
    obtain ⟨D, e⟩ := KR.mk_ X fun s hs => h s (by simp [hs])
    exact ⟨⟨r, h r (by simp)⟩ :: D, by rw [List.map_cons, e]⟩
theorem KR.rows {k : Nat} (D : List (KR k)) : D.map KR.enc = (D.map KR.val).map fun r => encStr r.1 :: r.2 := by rw [List.map_map]; rfl
theorem sorted_key {k : Nat} [Inhabited (KR k)] {d d' : Array (KR k)} (p : PermIn 0 d.size d d') (s : SortedIn (ltOf KR.cf) 0 d.size d') (hn : ((d.toList.map KR.val).map (·.1)).Nodup) : d'.toList.map KR.val = sortP (d.toList.map KR.val) := by
  obtain ⟨p1, _, p3⟩ := p
  rw [Array.extract_eq_self_of_le (by omega), Array.extract_eq_self_of_le (Nat.le_refl _)] at p3
  refine sortP_only (p3.map _) ?_ hn
  rw [List.pairwise_map, List.pairwise_iff_getElem]
  intro i j hi hj hij
  have hi : i < d'.size := by simpa using hi
  have hj : j < d'.size := by simpa using hj
  have h := s i j (Nat.zero_le _) hij (by omega)
  rw [KR.lt, getElem!_pos d' i hi, getElem!_pos d' j hj] at h
  have h : ¬ (d'[j]).val.1 < (d'[i]).val.1 := by simpa using h
  simp only [Array.getElem_toList]
  exact h
/-- what the summary asks of the program, out of the shelf's contract -/
theorem sortF_of {P : Program} {f0 cb k : Nat} (hk : 0 < k) [Inhabited (KR k)]
    (C : ∀ (blk off cap : Nat) (d : Array (KR k)) (w : World), HoldsK KR.enc k w blk off d → blk < w.heap.size → d.size < 4611686018427387904 →
      Calls P f0 #[.slice (some ⟨blk, off, none⟩) d.size cap, .func (.func cb) #[] #[]] w fun e w' => e = .returned (.tuple #[]) ∧ ∃ d' n os, PermIn 0 d.size d d' ∧ SortedIn (ltOf KR.cf) 0 d.size d' ∧ w' = sortWorldK KR.enc k w blk off n d' os) :
    ∀ (blk off cap : Nat) (X : List (List UInt8 × List Value)) (w : World), (∀ r ∈ X, r.2.length + 1 = k ∧ ∀ v ∈ r.2, v.oneCell' = true) → (X.map (·.1)).Nodup →
      Sort.Holds id w blk off ((X.map fun r => encStr r.1 :: r.2).flatten).toArray → blk < w.heap.size → X.length < 4611686018427387904 →
      Calls P f0 #[.slice (some ⟨blk, off, none⟩) X.length cap, .func (.func cb) #[] #[]] w fun e w' => e = .returned (.tuple #[]) ∧ ∃ n os, w' = grow (putRow id (Sort.ahead w n) blk off ((sortP X).map fun r => encStr r.1 :: r.2).flatten.toArray) os := by
  intro blk off cap X w hX hn hH hb hl
  obtain ⟨D, rfl⟩ := KR.mk_ X hX
  have e : flatK KR.enc k D.toArray = ((D.map KR.val).map fun r => encStr r.1 :: r.2).flatten.toArray := by rw [flatK_eq hk, ← KR.rows]
  have hs : D.toArray.size = (D.map KR.val).length := by simp
  have := C blk off cap D.toArray w (by unfold HoldsK; rw [e]; exact hH) hb (by rw [hs]; exact hl)
  rw [hs] at this
  refine this.mono fun e1 w' he => ?_
  obtain ⟨rfl, d', n, os, p, s, rfl⟩ := he
  refine ⟨rfl, n, os, ?_⟩
  have hk' := sorted_key (d := D.toArray) (d' := d') (by rw [hs]; exact p) (by rw [hs]; exact s) hn
  show grow (putRow id (Sort.ahead w n) blk off (flatK KR.enc k d')) os = _
  rw [flatK_eq hk, KR.rows, hk']
end
end Go.Eng
