/- Part of a proof of a law, by an evaluator that the machine follows: rules, contracts of functions, what they come to. No condition of its own. -/
import Derived.Test.YtmcjcbldmoijiaaGreatDoorSymD
import Derived.Test.YtmcjcbldmoijiaaGreatDoorSymB
set_option linter.unusedVariables false
set_option linter.unusedSimpArgs false
namespace Go.Eng
noncomputable section
namespace Lab
/-! ### rows that are made one by one -/
def candS (n : Nat) (p : Nat → Bool) (k : Nat) : List Bool := (List.range n).map fun x => decide (x < k) && p x
theorem candS_len (n : Nat) (p : Nat → Bool) (k : Nat) : (candS n p k).length = n := by simp [candS]
theorem candS_zero (n : Nat) (p : Nat → Bool) : candS n p 0 = List.replicate n false := by
  unfold candS
  apply List.ext_getElem?
  intro i
  rw [List.getElem?_map, List.getElem?_replicate]
  by_cases h : i < n
  · rw [List.getElem?_range h, if_pos h]; rfl
  · rw [List.getElem?_eq_none (by simp; omega), if_neg h]; rfl
theorem candS_set {n : Nat} {p : Nat → Bool} {k : Nat} (hk : k < n) : (candS n p k).set k (p k) = candS n p (k + 1) := by
  apply List.ext_getElem?
  intro i
  rw [List.getElem?_set, candS_len]
  unfold candS
  by_cases e : k = i
  · subst e
    rw [if_pos rfl, if_pos hk, List.getElem?_map, List.getElem?_range hk]; simp
  · rw [if_neg e, List.getElem?_map, List.getElem?_map]
    by_cases h : i < n
    · rw [List.getElem?_range h]
      simp only [Option.map_some]
      congr 2
      exact decide_eq_decide.2 (by omega)
    · rw [List.getElem?_eq_none (by simp; omega)]; rfl
theorem candS_all (n : Nat) (p : Nat → Bool) : candS n p n = (List.range n).map p := by
  unfold candS
  apply List.map_congr_left
  intro x hx
  simp [List.mem_range.1 hx]
theorem candS_at {n : Nat} {p : Nat → Bool} {k : Nat} (hk : k < n) : (candS n p n)[k]? = some (p k) := by
  rw [candS_all, List.getElem?_map, List.getElem?_range hk]; rfl
def trK (n : Nat) (M : List (List Bool)) (i : Nat) : List (List Bool) := (List.range i).map fun a => candS n (fun x => at2 M x a) n
theorem trK_succ (n : Nat) (M : List (List Bool)) (i : Nat) : trK n M (i + 1) = trK n M i ++ [candS n (fun x => at2 M x i) n] := by unfold trK; rw [List.range_succ, List.map_append]; rfl
theorem trK_all (n : Nat) (M : List (List Bool)) : trK n M n = tr n M := by unfold trK tr; simp only [candS_all]
theorem joinRow_at {n : Nat} {M : List (List Bool)} {a b k : Nat} (hb : b < k) : (joinRow n M a k)[b]? = some ((join n M a b).getD 0) := by unfold joinRow; rw [List.getElem?_map, List.getElem?_range hb]; rfl
theorem joinT_at {n : Nat} {M : List (List Bool)} {a k : Nat} (ha : a < k) : (joinT n M k)[a]? = some (joinRow n M a n) := by unfold joinT; rw [List.getElem?_map, List.getElem?_range ha]; rfl
theorem meetRow_at {n : Nat} {M : List (List Bool)} {a b k : Nat} (hb : b < k) : (meetRow n M a k)[b]? = some ((meet n M a b).getD 0) := by unfold meetRow; rw [List.getElem?_map, List.getElem?_range hb]; rfl
theorem meetT_at {n : Nat} {M : List (List Bool)} {a k : Nat} (ha : a < k) : (meetT n M k)[a]? = some (meetRow n M a n) := by unfold meetT; rw [List.getElem?_map, List.getElem?_range ha]; rfl
theorem joinT_len (n : Nat) (M : List (List Bool)) (k : Nat) : (joinT n M k).length = k := by simp [joinT]
theorem meetT_len (n : Nat) (M : List (List Bool)) (k : Nat) : (meetT n M k).length = k := by simp [meetT]
theorem joinRow_len (n : Nat) (M : List (List Bool)) (a k : Nat) : (joinRow n M a k).length = k := by simp [joinRow]
theorem meetRow_len (n : Nat) (M : List (List Bool)) (a k : Nat) : (meetRow n M a k).length = k := by simp [meetRow]
theorem join_lt {n : Nat} {M : List (List Bool)} {a b : Nat} (h0 : 0 < n) : (join n M a b).getD 0 < n := by
  cases h : join n M a b with
  | none => exact h0
  | some x => exact (least_some h).1
theorem meet_lt {n : Nat} {M : List (List Bool)} {a b : Nat} (h0 : 0 < n) : (meet n M a b).getD 0 < n := by
  cases h : meet n M a b with
  | none => exact h0
  | some x => exact (least_some h).1
theorem hiF_lt {n : Nat} {M : List (List Bool)} (h0 : 0 < n) : ∀ k, hiF n M k < n
  | 0 => h0
  | k + 1 => by rw [hiF_succ]; exact join_lt h0
theorem loF_lt {n : Nat} {M : List (List Bool)} (h0 : 0 < n) : ∀ k, loF n M k < n
  | 0 => h0
  | k + 1 => by rw [loF_succ]; exact meet_lt h0
/-- no two are below one another: so far -/
def antiP (n : Nat) (M : List (List Bool)) (a : Nat) : Prop := ∀ x y, x < a → y < n → x ≠ y → ¬ (at2 M x y = true ∧ at2 M y x = true)
def antiQ (M : List (List Bool)) (a b : Nat) : Prop := ∀ y, y < b → a ≠ y → ¬ (at2 M a y = true ∧ at2 M y a = true)
theorem antiQ_succ {M : List (List Bool)} {a b : Nat} (h : antiQ M a b) (hn : a ≠ b → ¬ (at2 M a b = true ∧ at2 M b a = true)) : antiQ M a (b + 1) := fun y hy hne => by
  by_cases e : y = b
  · subst e; exact hn hne
  · exact h y (by omega) hne
theorem antiP_succ {n : Nat} {M : List (List Bool)} {a : Nat} (h : antiP n M a) (hq : antiQ M a n) : antiP n M (a + 1) := fun x y hx hy hne => by
  by_cases e : x = a
  · subst e; exact hq y hy hne
  · exact h x y (by omega) hy hne
theorem okT_anti {n : Nat} {M : List (List Bool)} (s : Sq n M) {a b : Nat} (ha : a < n) (hb : b < n) (hne : a ≠ b) (h1 : at2 M a b = true) (h2 : at2 M b a = true) : okT n M n = false := by
  rw [Bool.eq_false_iff]; intro h
  exact ((okT_iff s).1 h).1 a b ha hb hne ⟨h1, h2⟩
theorem okT_join {n : Nat} {M : List (List Bool)} (s : Sq n M) (h : okJ n M n = false) : okT n M n = false := by
  rw [Bool.eq_false_iff]; intro h2
  rw [((okT_iff s).1 h2).2.1] at h; cases h
theorem okT_meet {n : Nat} {M : List (List Bool)} (s : Sq n M) (h : okJ n (tr n M) n = false) : okT n M n = false := by
  rw [Bool.eq_false_iff]; intro h2
  rw [((okT_iff s).1 h2).2.2] at h; cases h
/-- a row on its way: y: does it lead to k? -/
def rowB (y : Bool) (b : Nat) (r rk : List Bool) : List Bool := if y then rowPart b r rk else r
theorem rowB_len {y : Bool} {b n : Nat} {r rk : List Bool} (hr : r.length = n) (hk : rk.length = n) (hb : b ≤ n) : (rowB y b r rk).length = n := by
  unfold rowB; split
  · exact rowPart_len hr hk hb
  · exact hr
theorem rowB_zero {n k a : Nat} {M : List (List Bool)} {r : List Bool} (s : Sq n M) (ha : a < n) (hr : M[a]? = some r) (y : Bool) (rk : List Bool) : (clPart k a M).set a (rowB y 0 r rk) = clPart k a M := by
  have e : rowB y 0 r rk = r := by unfold rowB; split; exact rowPart_zero r rk; rfl
  rw [e]
  apply List.ext_getElem?
  intro i
  rw [List.getElem?_set]
  by_cases h : a = i
  · subst h
    have : (clPart k a M)[a]? = some r := by rw [clPart_at s (by omega), hr]; simp
    rw [if_pos rfl, if_pos (List.getElem?_eq_some_iff.1 this).1, this]
  · rw [if_neg h]
theorem clPart_len {n k a : Nat} {M : List (List Bool)} (s : Sq n M) (ha : a ≤ n) : (clPart k a M).length = n := by unfold clPart; rw [List.length_append, List.length_map, List.length_take, List.length_drop, s.len]; omega
theorem rowB_row {n k a : Nat} {M : List (List Bool)} {r : List Bool} (s : Sq n M) (ha : a < n) : ((clPart k a M).set a r)[a]? = some r := by
  rw [List.getElem?_set, if_pos rfl, if_pos (by rw [clPart_len s (by omega)]; exact ha)]
theorem rowB_k {n k a b : Nat} {y : Bool} {M : List (List Bool)} {ra rk : List Bool} (s : Sq n M) (ha : a < n) (hk : k < n) (hrk : M[k]? = some rk) (hra : M[a]? = some ra) : ((clPart k a M).set a (rowB y b ra rk))[k]? = some (if a = k then rowB y b ra rk else rk) := by
  rw [List.getElem?_set, clPart_len s (by omega)]
  by_cases e : a = k
  · rw [if_pos e, if_pos ha, if_pos e]
  · rw [if_neg e, if_neg e, clPart_at s (by omega), hrk]
    simp only [Option.map_some]
    split
    · rw [clRow_self hrk]
    · rfl
theorem rowB_at {n b i : Nat} {y x : Bool} {r rk : List Bool} (hr : r.length = n) (hk : rk.length = n) (_hi : i < n) (hb : b ≤ n) (hx : r[i]? = some x) (hbi : b ≤ i) : (rowB y b r rk)[i]? = some x := by
  unfold rowB; split
  · rw [rowPart_at hr hk hb, if_neg (by omega)]; exact hx
  · exact hx
theorem rowB_pivot {n b k : Nat} {y : Bool} {r rk : List Bool} (hr : r.length = n) (hk : rk.length = n) (hkn : k < n) (hy : r[k]? = some y) (hb : b ≤ n) : (rowB y b r rk)[k]? = some y := by
  unfold rowB; split
  · rename_i h
    rw [rowPart_at hr hk hb]
    split
    · unfold orRow
      obtain ⟨z, hz⟩ : ∃ z, rk[k]? = some z := ⟨rk[k]'(by omega), List.getElem?_eq_getElem (by omega)⟩
      rw [List.getElem?_zipWith, hy, hz, h]; rfl
    · exact hy
  · exact hy
theorem rowB_kb {n b i a k : Nat} {y z : Bool} {r rk : List Bool} (hk : rk.length = n) (hz : rk[i]? = some z) (hb : b ≤ n) (e : a = k → r = rk := by intro h; subst h; simp_all) : (if a = k then rowB y b r rk else rk)[i]? = some z := by
  by_cases h : a = k
  · rw [if_pos h, e h]
    unfold rowB; split
    · rw [rowPart_self]; exact hz
    · exact hz
  · rw [if_neg h]; exact hz
theorem rowB_all {n : Nat} {y : Bool} {r rk : List Bool} (hr : r.length = n) (hk : rk.length = n) : rowB y n r rk = if y then orRow r rk else r := by unfold rowB; rw [rowPart_all hr hk]
theorem rowB_cl {k : Nat} {y : Bool} {M : List (List Bool)} {r rk : List Bool} (hrk : M[k]? = some rk) (hy : r[k]? = some y) : (if y then orRow r rk else r) = clRow k M r := by unfold clRow; rw [hrk, hy]; rfl
theorem rowB_succ {n b : Nat} {y x z : Bool} {r rk : List Bool} (hr : r.length = n) (hk : rk.length = n) (hb : b < n) (hx : r[b]? = some x) (hz : rk[b]? = some z) : (rowB y b r rk).set b (x || (y && z)) = rowB y (b + 1) r rk := by
  unfold rowB
  cases y with
  | true => simp only [if_true, Bool.true_and]; exact rowPart_succ hr hk hb hx hz
  | false =>
    simp only [Bool.false_and, Bool.or_false, if_false, Bool.false_eq_true]
    apply List.ext_getElem?
    intro i
    rw [List.getElem?_set]
    by_cases e : b = i
    · subst e; rw [if_pos rfl, if_pos (by omega), hx]
    · rw [if_neg e]
end Lab
theorem pr_take {ps : List Prm} {i : Nat} {p : Prm} (h : ps[i]? = some p) : pr (ps.take (i + 1)) = pr (ps.take i) ++ [(p.1, p.2.1)] := by
  unfold pr; rw [List.take_add_one, h, List.map_append]; rfl
theorem pr_split (ps : List Prm) (i : Nat) : pr (ps.take i) ++ (pr ps).drop i = pr ps := by
  unfold pr; rw [List.map_take, List.take_append_drop]
theorem BRows.snoc {h : Heap} : ∀ {J : List (List Bool)} {vs : List V} {r : List Bool} {v : V}, BRows h J vs → Rows 1 h v (r.map bv) → BRows h (J ++ [r]) (vs ++ [v])
  | [], [], _, _, _, hr => ⟨hr, trivial⟩
  | [], _ :: _, _, _, h, _ => h.elim
  | _ :: _, [], _, _, h, _ => h.elim
  | _ :: _, _ :: _, _, _, h, hr => ⟨h.1, h.2.snoc hr⟩
theorem rep_bv (n : Nat) (p : Nat → Bool) : (List.replicate n [V.bool false]) = (Lab.candS n p 0).map bv := by rw [Lab.candS_zero, List.map_replicate]; rfl
theorem set_bv {n : Nat} {p : Nat → Bool} {k : Nat} (hk : k < n) : ((Lab.candS n p k).map bv).set k [V.bool (p k)] = (Lab.candS n p (k + 1)).map bv := by rw [← Lab.candS_set hk, List.map_set]; rfl
theorem iv_at {h : Heap} {u : V} {r : List Nat} {b x : Nat} (R : Rows 1 h u (r.map iv)) (hx : r[b]? = some x) : h.load1 (slB u) (slO u + b * 1) = some (.int .i64 (x : Int)) := R.load1Z (by rw [List.getElem?_map, hx]; rfl)
theorem fill_four {ev : Ev} {x y z w : A} {a b c d e f p q r s : V} (hx : (ev x).asCells = some [a]) (hy : (ev y).asCells = some [b]) (hz : (ev z).asCells = some [c]) (hw : (ev w).asCells = some [d]) :
    fill [(0, 1, x), (1, 1, y), (2, 1, z), (3, 1, w)] ev [p, q, r, s, e, f] = some [a, b, c, d, e, f] := by
  show (Option.rec none (fun l => bif (lenV l).beq 1 && (Nat.add 0 1).ble (lenV [p, q, r, s, e, f]) then fill [(1, 1, y), (2, 1, z), (3, 1, w)] ev (overV 0 l [p, q, r, s, e, f]) else none) (ev x).asCells : Option (List V)) = _
  rw [hx]
  show (Option.rec none (fun l => bif (lenV l).beq 1 && (Nat.add 1 1).ble (lenV [a, q, r, s, e, f]) then fill [(2, 1, z), (3, 1, w)] ev (overV 1 l [a, q, r, s, e, f]) else none) (ev y).asCells : Option (List V)) = _
  rw [hy]
  show (Option.rec none (fun l => bif (lenV l).beq 1 && (Nat.add 2 1).ble (lenV [a, b, r, s, e, f]) then fill [(3, 1, w)] ev (overV 2 l [a, b, r, s, e, f]) else none) (ev z).asCells : Option (List V)) = _
  rw [hz]
  show (Option.rec none (fun l => bif (lenV l).beq 1 && (Nat.add 3 1).ble (lenV [a, b, c, s, e, f]) then fill [] ev (overV 3 l [a, b, c, s, e, f]) else none) (ev w).asCells : Option (List V)) = _
  rw [hw]; rfl
theorem Rows.cellsR {r : Nat} {h : Heap} {v : V} {rows : List (List V)} (R : Rows r h v rows) : v.asCells = some [v] := by cases R <;> rfl
theorem BTab.cells {h : Heap} {v : V} {M : List (List Bool)} (t : BTab h v M) : v.asCells = some [v] := by obtain ⟨_, R, _⟩ := t; exact R.cellsR
theorem ITab.cells {h : Heap} {v : V} {M : List (List Nat)} (t : ITab h v M) : v.asCells = some [v] := by obtain ⟨_, R, _⟩ := t; exact R.cellsR
/-- slices.. of one's own row: from now on it is read alone -/
theorem cel_bv {fs : List Fact} {h : Heap} {b n : Nat} {r : List Bool} (s : St (.cel b 1 (r.map bv) :: fs) h) (hl : r.length = n) : St (.stb (fun h => Rows 1 h (.sl b 0 n (some n)) (r.map bv)) :: fs) h := by
  have := s.celStill (some n)
  rw [List.length_map, hl] at this; exact this
end
end Go.Eng
namespace Go.Eng
noncomputable section
namespace Lab
/-! ### the laws of a lattice -/
/-- a table that is an order with joins and meets -/
structure Good (n : Nat) (M : List (List Bool)) : Prop where
  sq : Sq n M
  refl : ∀ a, a < n → at2 M a a = true
  trans : ∀ a b c, at2 M a b = true → at2 M b c = true → at2 M a c = true
  ok : okT n M n = true
def jv (n : Nat) (M : List (List Bool)) (a b : Nat) : Nat := (join n M a b).getD 0
def mv (n : Nat) (M : List (List Bool)) (a b : Nat) : Nat := (meet n M a b).getD 0
section
variable {n : Nat} {M : List (List Bool)} (g : Good n M) {a b c d : Nat}
include g
theorem Good.anti (ha : a < n) (hb : b < n) (h1 : at2 M a b = true) (h2 : at2 M b a = true) : a = b := by
  by_cases e : a = b
  · exact e
  · exact absurd ⟨h1, h2⟩ (((okT_iff g.sq).1 g.ok).1 a b ha hb e)
theorem Good.jspec (ha : a < n) (hb : b < n) : jv n M a b < n ∧ at2 M a (jv n M a b) = true ∧ at2 M b (jv n M a b) = true ∧ ∀ d, d < n → at2 M a d = true → at2 M b d = true → at2 M (jv n M a b) d = true := by
  have hc := okC_of g.ok ha hb
  unfold okC at hc
  rw [Bool.and_eq_true, Bool.and_eq_true] at hc
  obtain ⟨x, hx⟩ := Option.isSome_iff_exists.1 hc.2.1
  obtain ⟨p1, p2, p3⟩ := least_some hx
  rw [Bool.and_eq_true] at p2
  unfold jv; rw [hx]
  exact ⟨p1, p2.1, p2.2, fun d hd h1 h2 => p3 d hd (by rw [h1, h2]; rfl)⟩
theorem Good.mspec (ha : a < n) (hb : b < n) : mv n M a b < n ∧ at2 M (mv n M a b) a = true ∧ at2 M (mv n M a b) b = true ∧ ∀ d, d < n → at2 M d a = true → at2 M d b = true → at2 M d (mv n M a b) = true := by
  have hc := okC_of g.ok ha hb
  unfold okC at hc
  rw [Bool.and_eq_true, Bool.and_eq_true] at hc
  obtain ⟨x, hx⟩ := Option.isSome_iff_exists.1 hc.2.2
  obtain ⟨p1, p2, p3⟩ := least_some hx
  rw [Bool.and_eq_true] at p2
  unfold mv; rw [hx]
  exact ⟨p1, p2.1, p2.2, fun d hd h1 h2 => p3 d hd (by rw [h1, h2]; rfl)⟩
theorem Good.jlt (ha : a < n) (hb : b < n) : jv n M a b < n := (g.jspec ha hb).1
theorem Good.mlt (ha : a < n) (hb : b < n) : mv n M a b < n := (g.mspec ha hb).1
theorem Good.jcomm (ha : a < n) (hb : b < n) : jv n M a b = jv n M b a := by
  obtain ⟨p1, p2, p3, p4⟩ := g.jspec ha hb
  obtain ⟨q1, q2, q3, q4⟩ := g.jspec hb ha
  exact g.anti p1 q1 (p4 _ q1 q3 q2) (q4 _ p1 p3 p2)
theorem Good.mcomm (ha : a < n) (hb : b < n) : mv n M a b = mv n M b a := by
  obtain ⟨p1, p2, p3, p4⟩ := g.mspec ha hb
  obtain ⟨q1, q2, q3, q4⟩ := g.mspec hb ha
  exact g.anti p1 q1 (q4 _ p1 p3 p2) (p4 _ q1 q3 q2)
theorem Good.jassoc (ha : a < n) (hb : b < n) (hc : c < n) : jv n M (jv n M a b) c = jv n M a (jv n M b c) := by
  obtain ⟨p1, p2, p3, p4⟩ := g.jspec ha hb
  obtain ⟨q1, q2, q3, q4⟩ := g.jspec hb hc
  obtain ⟨r1, r2, r3, r4⟩ := g.jspec p1 hc
  obtain ⟨s1, s2, s3, s4⟩ := g.jspec ha q1
  exact g.anti r1 s1 (r4 _ s1 (p4 _ s1 s2 (g.trans _ _ _ q2 s3)) (g.trans _ _ _ q3 s3)) (s4 _ r1 (g.trans _ _ _ p2 r2) (q4 _ r1 (g.trans _ _ _ p3 r2) r3))
theorem Good.massoc (ha : a < n) (hb : b < n) (hc : c < n) : mv n M (mv n M a b) c = mv n M a (mv n M b c) := by
  obtain ⟨p1, p2, p3, p4⟩ := g.mspec ha hb
  obtain ⟨q1, q2, q3, q4⟩ := g.mspec hb hc
  obtain ⟨r1, r2, r3, r4⟩ := g.mspec p1 hc
  obtain ⟨s1, s2, s3, s4⟩ := g.mspec ha q1
  exact g.anti r1 s1 (s4 _ r1 (g.trans _ _ _ r2 p2) (q4 _ r1 (g.trans _ _ _ r2 p3) r3)) (r4 _ s1 (p4 _ s1 s2 (g.trans _ _ _ s3 q2)) (g.trans _ _ _ s3 q3))
theorem Good.le_j (ha : a < n) (hb : b < n) : at2 M a b = decide (jv n M a b = b) := by
  obtain ⟨p1, p2, p3, p4⟩ := g.jspec ha hb
  rw [Bool.eq_iff_iff, decide_eq_true_iff]
  constructor
  · intro h; exact g.anti p1 hb (p4 _ hb h (g.refl b hb)) p3
  · intro h; rw [h] at p2; exact p2
theorem Good.le_m (ha : a < n) (hb : b < n) : at2 M a b = decide (mv n M a b = a) := by
  obtain ⟨p1, p2, p3, p4⟩ := g.mspec ha hb
  rw [Bool.eq_iff_iff, decide_eq_true_iff]
  constructor
  · intro h; exact g.anti p1 ha p2 (p4 _ ha (g.refl a ha) h)
  · intro h; rw [h] at p3; exact p3
theorem Good.absj (ha : a < n) (hb : b < n) : jv n M a (mv n M a b) = a := by
  obtain ⟨p1, p2, p3, p4⟩ := g.mspec ha hb
  obtain ⟨q1, q2, q3, q4⟩ := g.jspec ha p1
  exact g.anti q1 ha (q4 _ ha (g.refl a ha) p2) q2
theorem Good.absm (ha : a < n) (hb : b < n) : mv n M a (jv n M a b) = a := by
  obtain ⟨p1, p2, p3, p4⟩ := g.jspec ha hb
  obtain ⟨q1, q2, q3, q4⟩ := g.mspec ha p1
  exact g.anti q1 ha q2 (q4 _ ha (g.refl a ha) p2)
theorem Good.low (ha : a < n) : at2 M (loF n M n) a = true := (loF_bot (by omega) g.trans g.ok n (Nat.le_refl _)).2 a ha
theorem Good.high (ha : a < n) : at2 M a (hiF n M n) = true := (hiF_top (by omega) g.trans g.ok n (Nat.le_refl _)).2 a ha
theorem Good.closed : closed n M = M := by
  refine sq_ext (closed_sq g.sq n (Nat.le_refl _)) g.sq fun a b => ?_
  rw [Bool.eq_iff_iff]
  exact ⟨closed_le (R := fun a b => at2 M a b = true) g.sq (fun _ _ _ => g.trans _ _ _) (fun _ _ h => h) n (Nat.le_refl _) a b, fun h => closed_ext g.sq h n (Nat.le_refl _)⟩
theorem Good.complete (h0 : 0 < n) : complete n M = some (loF n M n, hiF n M n) := by rw [complete_is g.sq h0 g.trans, if_pos g.ok]
end
/-- a lattice that is one -/
structure LatOK (t : Lat) : Prop where
  pos : 0 < t.ns.length
  few : t.ns.length ≤ 12
  rises : t.ns.Pairwise (· < ·)
  good : Good t.ns.length t.M
  J : t.J = joinT t.ns.length t.M t.ns.length
  K : t.K = meetT t.ns.length t.M t.ns.length
  lo : t.lo = loF t.ns.length t.M t.ns.length
  hi : t.hi = hiF t.ns.length t.M t.ns.length
theorem made_ok {l : List (Txt × Txt)} : ((made l).1 = 0 ∧ LatOK (mkLat l)) ∨ ((made l).1 ≠ 0 ∧ mkLat l = Lat.none) := by
  unfold mkLat
  cases hm : (made l).2 with
  | none =>
    refine .inr ⟨?_, rfl⟩
    unfold made at hm ⊢
    split
    · simp
    · split
      · simp
      · rename_i h0 h1
        rw [if_neg h0, if_neg h1] at hm
        split
        · simp
        · rename_i x hx; rw [hx] at hm; cases hm
  | some x =>
    have hm0 := hm
    unfold made at hm
    split at hm
    · cases hm
    · split at hm
      · cases hm
      · rename_i h0 h1
        split at hm
        · cases hm
        · rename_i y hy
          cases hm
          have sq0 := table_sq (names l) l
          have sq := closed_sq sq0 _ (Nat.le_refl _)
          have tr_ : ∀ a b c, at2 (order l) a b = true → at2 (order l) b c = true → at2 (order l) a c = true := fun a b c => closed_trans sq0
          have hci := complete_is sq (Nat.pos_of_ne_zero h0) tr_
          have hok : okT (names l).length (order l) (names l).length = true := by
            cases h : okT (names l).length (order l) (names l).length with
            | true => rfl
            | false =>
              have hci : complete (names l).length (order l) = if okT (names l).length (order l) (names l).length = true then _ else none := hci
              rw [h, if_neg (by decide), hy] at hci; cases hci
          have hci : complete (names l).length (order l) = if okT (names l).length (order l) (names l).length = true then some (loF (names l).length (order l) (names l).length, hiF (names l).length (order l) (names l).length) else none := hci
          rw [hok, if_pos rfl, hy] at hci
          have hx := Option.some.inj hci
          refine .inl ⟨by unfold made; rw [if_neg h0, if_neg h1, hy], ⟨Nat.pos_of_ne_zero h0, by show (names l).length ≤ 12; omega, names_rises l, ⟨sq, fun a ha => closed_ext sq0 ((at2_table _ _ names_has a a).2 (.inl ⟨rfl, ha⟩)) _ (Nat.le_refl _), tr_, hok⟩, rfl, rfl, by show x.1 = _; rw [hx], by show x.2 = _; rw [hx]⟩⟩
end Lab
theorem Lat.OK.small {t : Lat} (h : Lab.LatOK t) : t.small := by
  have h12 := h.few
  refine ⟨by omega, ⟨by rw [h.good.sq.len]; omega, fun r hr => by rw [h.good.sq.row r hr]; omega⟩, ⟨by rw [h.J, Lab.joinT_len]; omega, fun r hr => ?_⟩, ⟨by rw [h.K, Lab.meetT_len]; omega, fun r hr => ?_⟩⟩
  · rw [h.J] at hr
    obtain ⟨a, _, rfl⟩ := List.mem_map.1 hr
    rw [Lab.joinRow_len]; omega
  · rw [h.K] at hr
    obtain ⟨a, _, rfl⟩ := List.mem_map.1 hr
    rw [Lab.meetRow_len]; omega
section
variable {ev : Ev} {h : Heap} {x y : A}
theorem L.eqBool_same {b : Bool} (hx : ev x = .bool b) (hy : ev y = .bool b) : light (.eq false .bool x y) ev h = .val (.bool true) := by
  show (Option.rec .bad (fun b => .val (.bool (b != false))) (Eq1.eq .bool (ev x) (ev y)) : LR) = _
  rw [hx, hy]; cases b <;> rfl
theorem L.sleq {l m : List UInt8} (hx : ev x = L.str l) (hy : ev y = L.str m) : light (.bins .leq x y) ev h = .val (.bool (decide (l ≤ m))) := by
  show (ev x).onStr (fun n a => (ev y).onStr fun m b => LR.of (binS .leq n a m b)) = _
  rw [hx, hy]
  show LR.of (some (.bool (bnot (sLess (sBytes m.length (enc m)) (sBytes l.length (enc l)))))) = _
  rw [sBytes_eq, sBytes_eq, sLess_eq, bytesLess_iff]
  by_cases h : m < l
  · have : ¬ l ≤ m := fun h2 => h2 h
    simp [h, this]; rfl
  · have : l ≤ m := h
    simp [h, this]; rfl
end
theorem tab_freezeC {n : Nat} (cap : Option Nat) : ∀ {bs : List Nat} {M : List (List Bool)} {fs : List Fact} {h : Heap}, bs.length = M.length → (∀ r ∈ M, r.length = n) → St (tabF bs M ++ fs) h → St (.stb (fun h => BRows h M (bs.map fun b => .sl b 0 n cap)) :: fs) h
  | [], [], fs, h, _, _, s => s.triv fun h => trivial
  | [], _ :: _, _, _, hl, _, _ => by simp at hl
  | _ :: _, [], _, _, hl, _, _ => by simp at hl
  | b :: bs, r :: M, fs, h, hl, hr, s => by
    have s1 : St (.cel b 1 (r.map bv) :: (tabF bs M ++ fs)) h := s
    have s2 := s1.celStill cap
    rw [List.length_map, hr r (by simp)] at s2
    have s3 : St (tabF bs M ++ .stb (fun h => Rows 1 h (.sl b 0 n cap) (r.map bv)) :: fs) h := s2.in_
    have s4 := tab_freezeC (n := n) cap (by simpa using hl) (fun r hm => hr r (by simp [hm])) s3
    exact ((s4.pick 1 rfl).and)
/-- an append behind an empty slice literal: a block of its own -/
theorem St.appendE {fs : List Fact} {h : Heap} {r bytes b : Nat} {new : List (List V)} (s : St fs h) (hb : 8 ≤ b) (hr : 0 < r) (hl : ∀ row ∈ new, row.length = r) (hne : 0 < new.length) (hfit : new.length * bytes ≤ 1099511627776) :
    ∃ nb h', appendTo h r bytes (.sl b 0 0 (some 0)) new.flatten new.length = .ok (.sl nb 0 new.length none) h' ∧ St (.cel nb r new :: fs) h' := by
  have hld : h.load b 0 (Nat.mul 0 r) = some [] := by rw [show Nat.mul 0 r = 0 from Nat.zero_mul r]; rfl
  have e := append1_lit (h := h) (r := r) (bytes := bytes) (b := b) (n := 0) (m := new.length) (old := []) (new := new.flatten) hb hld hne (by rw [Nat.zero_add]; exact hfit)
  rw [Nat.zero_add, List.nil_append] at e
  have hb0 : Nat.beq new.length 0 = false := by
    cases e : Nat.beq new.length 0 with
    | false => rfl
    | true => have := Nat.eq_of_beq_eq_true e; omega
  have h1 : (Nat.mul new.length bytes).ble 1099511627776 = true := by
    rw [nble]; simpa using hfit
  have hs : okSize (.cells r h.next 0 (new.length * r) (setRowsP r new.length 0 new.flatten T.e)) = true := by show Nat.blt 0 r = true; rw [nblt]; simpa using hr
  refine ⟨h.next, h.add (.cells r h.next 0 (new.length * r) (setRowsP r new.length 0 new.flatten T.e)), ?_, ?_⟩
  · rw [e]; unfold appendTo
    simp only [hb0, cond_false, h1, cond_true, force_eq, setRows_eq]
    show (Bool.rec .bad (h.newC (.cells r h.next 0 (Nat.mul new.length r) (setRowsP r new.length 0 new.flatten T.e)) fun h2 => .ok (.sl h.next 0 new.length none) h2) (okSize (.cells r h.next 0 (Nat.mul new.length r) (setRowsP r new.length 0 new.flatten T.e))) : OR) = _
    rw [show okSize (.cells r h.next 0 (Nat.mul new.length r) (setRowsP r new.length 0 new.flatten T.e)) = true from hs, newC_eq]; rfl
  · refine s.cel hr fun i row hi => ⟨?_, hl row (List.mem_of_getElem? hi)⟩
    have hlt := (List.getElem?_eq_some_iff.1 hi).1
    rw [setRowsP_get r _ 0 _ T.e i (by omega) (by omega), if_pos ⟨by omega, by omega⟩, Nat.sub_zero, flatten_row i hl hi]
end
end Go.Eng
namespace Go.Eng
noncomputable section
section
variable {ev : Ev} {h : Heap} {x y : A}
theorem L.slnn {b o n : Nat} {cap : Option Nat} (hx : ev x = .sl b o n cap) (hy : ev y = .slN) : light (.eq false .sl x y) ev h = .val (.bool false) := by
  show (Option.rec .bad (fun b => .val (.bool (b != false))) (Eq1.eq .sl (ev x) (ev y)) : LR) = _
  rw [hx, hy]; rfl
theorem L.neBool_both {a b : Bool} (hx : ev x = .bool a) (hy : ev y = .bool b) (e : a = b) : light (.eq true .bool x y) ev h = .val (.bool false) := by
  show (Option.rec .bad (fun b => .val (.bool (b != true))) (Eq1.eq .bool (ev x) (ev y)) : LR) = _
  rw [hx, hy, e]; cases b <;> rfl
theorem L.sleqF {l m : List UInt8} (hx : ev x = L.str l) (hy : ev y = L.str m) (e : m < l) : light (.bins .leq x y) ev h = .val (.bool false) := by
  rw [L.sleq hx hy, decide_eq_false (fun h2 => h2 e)]
end
section
variable {t : Lat} (ok : Lab.LatOK t) {h : Heap} {vN vL vJ vK : V} {a : Nat}
include ok
theorem Lab.LatOK.mlen : t.M.length = t.ns.length := ok.good.sq.len
theorem Lab.LatOK.jlen : t.J.length = t.ns.length := by rw [ok.J, Lab.joinT_len]
theorem Lab.LatOK.klen : t.K.length = t.ns.length := by rw [ok.K, Lab.meetT_len]
theorem Lab.LatOK.jr : ∀ r ∈ t.J, r.length = t.ns.length := fun r hr => by
  rw [ok.J] at hr
  obtain ⟨a, _, rfl⟩ := List.mem_map.1 hr
  exact Lab.joinRow_len _ _ _ _
theorem Lab.LatOK.kr : ∀ r ∈ t.K, r.length = t.ns.length := fun r hr => by
  rw [ok.K] at hr
  obtain ⟨a, _, rfl⟩ := List.mem_map.1 hr
  exact Lab.meetRow_len _ _ _ _
theorem Lab.LatOK.lol : t.lo < t.ns.length := by rw [ok.lo]; exact (Lab.loF_bot ok.pos ok.good.trans ok.good.ok _ (Nat.le_refl _)).1
theorem Lab.LatOK.hil : t.hi < t.ns.length := by rw [ok.hi]; exact (Lab.hiF_top ok.pos ok.good.trans ok.good.ok _ (Nat.le_refl _)).1
theorem Lab.LatOK.up {i : Nat} {x y : Lab.Txt} (h0 : 0 < i) (hx : t.ns[i]? = some x) (hy : t.ns[i - 1]? = some y) : y < x := by
  obtain ⟨h1, rfl⟩ := List.getElem?_eq_some_iff.1 hx
  obtain ⟨h2, rfl⟩ := List.getElem?_eq_some_iff.1 hy
  exact List.pairwise_iff_getElem.1 ok.rises _ _ _ _ (by omega)
theorem Lab.LatOK.jrow (R : LatR h vN vL vJ vK t) (ha : a < t.ns.length) : ∃ (u : V) (r : List Nat), h.load1 (slB vJ) (slO vJ + a * 1) = some u ∧ Rows 1 h u (r.map iv) ∧ r.length = t.ns.length ∧ ∀ b, b < t.ns.length → r[b]? = some (Lab.jv t.ns.length t.M a b) := by
  obtain ⟨u, h1, h2⟩ := R.J.at (i := a) (by rw [ok.J]; exact Lab.joinT_at ha)
  exact ⟨u, _, h1, h2, Lab.joinRow_len _ _ _ _, fun b hb => Lab.joinRow_at hb⟩
theorem Lab.LatOK.krow (R : LatR h vN vL vJ vK t) (ha : a < t.ns.length) : ∃ (u : V) (r : List Nat), h.load1 (slB vK) (slO vK + a * 1) = some u ∧ Rows 1 h u (r.map iv) ∧ r.length = t.ns.length ∧ ∀ b, b < t.ns.length → r[b]? = some (Lab.mv t.ns.length t.M a b) := by
  obtain ⟨u, h1, h2⟩ := R.K.at (i := a) (by rw [ok.K]; exact Lab.meetT_at ha)
  exact ⟨u, _, h1, h2, Lab.meetRow_len _ _ _ _, fun b hb => Lab.meetRow_at hb⟩
theorem Lab.LatOK.nsl (R : LatR h vN vL vJ vK t) : vN = .sl (slB vN) (slO vN) t.ns.length (slC vN) := by
  have := R.N.sl (i := 0) (by rw [SR_len]; exact ok.pos)
  rw [SR_len] at this; exact this
omit ok in
theorem BTab.slB {v : V} {M : List (List Bool)} (T : BTab h v M) (h0 : 0 < M.length) : v = .sl (slB v) (slO v) M.length (slC v) := by
  obtain ⟨vs, h1, h2⟩ := T
  have := h1.sl (i := 0) (by rw [List.length_map, h2.len]; exact h0)
  rw [List.length_map, h2.len] at this; exact this
theorem Lab.LatOK.lsl (R : LatR h vN vL vJ vK t) : vL = .sl (slB vL) (slO vL) t.ns.length (slC vL) := by
  have := BTab.slB R.L (by rw [ok.mlen]; exact ok.pos)
  rw [ok.mlen] at this; exact this
end
section
variable {c : Ctx} {Q : QT} {env : Env} {h : Heap} {fs : List Fact} {l : List Opr} {vs : List V} {i j : D8}
theorem WO.bslL {r n : Nat} {zero : List V} {ps : List (Nat × Nat × A)} {rows : List (List V)} (st : St fs h) (hf : fill ps (fun a => a.ev vs env) (rep n zero) = some rows.flatten) (hr : 0 < r) (hn : rows.length = n) (hl : ∀ row ∈ rows, row.length = r)
    (K : ∀ b h1, 8 ≤ b → St (.stb (fun h => Rows r h (.sl b 0 n (some n)) rows) :: fs) h1 → WO c l Q (.sl b 0 n (some n) :: vs) env h1) : WO c (.p (.L (.bsl r n zero ps)) :: l) Q vs env h :=
  WO.new (L.bsl hf) (okSize_cl hr) (K _ _ st.wf.lim (st.frozen _ fun h' hg => rows_new hr hn hl hg))
theorem WO.appES {r bytes b : Nat} {s x : A} {xv : V} {new : List (List V)} (st : St fs h) (hs : s.ev vs env = .sl b 0 0 (some 0)) (hb : 8 ≤ b) (hx : x.ev vs env = xv) (hn : Rows r h xv new) (hr : 0 < r) (hne : 0 < new.length) (hfit : new.length * bytes ≤ 1099511627776)
    (K : ∀ nb h1, St (.cel nb r new :: fs) h1 → WO c l Q (.sl nb 0 new.length none :: vs) (Env.set i j (.sl nb 0 new.length none) env) h1) : WO c (.s i j (.H (.append r bytes s x)) :: l) Q vs env h := by
  have hl : ∀ row ∈ new, row.length = r := by
    cases hn with
    | nil => intro row hm; simp at hm
    | row _ _ _ _ _ hlen => exact hlen
  obtain ⟨nb, h', e, s'⟩ := st.appendE (bytes := bytes) hb hr hl hne hfit
  exact WO.actS (fun _ => L.append (ev := fun a => a.ev vs env) hs hx hn e) (K _ _ s')
end
theorem BRows.row {h : Heap} {J : List (List Bool)} {vs : List V} (B : BRows h J vs) {i : Nat} {r : List Bool} {u : V} (hi : J[i]? = some r) (hu : vs[i]? = some u) : Rows 1 h u (r.map bv) := by
  obtain ⟨w, h1, h2⟩ := B.at hi
  rw [hu] at h1; cases h1; exact h2
theorem St.exB {v : V} {M : List (List Bool)} {fs : List Fact} {h : Heap} (s : St (.stb (fun h => BTab h v M) :: fs) h) : ∃ vs : List V, vs.length = M.length ∧ St (.stb (fun h => Rows 1 h v (vs.map fun x => [x])) :: .stb (fun h => BRows h M vs) :: fs) h := by
  obtain ⟨rows, s1⟩ := St.exRows (Q := fun h rows => ∃ vs : List V, rows = (vs.map fun x => [x]) ∧ BRows h M vs) (s.imp0 fun h ⟨vs, h1, h2⟩ => ⟨_, h1, vs, rfl, h2⟩)
  obtain ⟨vs, rfl, h2⟩ := s1.stb_at 1 rfl
  exact ⟨vs, h2.len, (((s1.pick 1 rfl).imp0 (Q := fun h => BRows h M vs) fun h hx => by
    obtain ⟨ws, e, hw⟩ := hx
    have e2 : vs = ws := by
      have := congrArg (List.flatMap id) e
      simpa [List.flatMap_map] using this
    rw [e2]; exact hw).pick 1 rfl)⟩
/-- rows that are copied one by one -/
def cpyR (n i : Nat) (bl : List Nat) : List (List V) := (bl.map fun b => [V.sl b 0 n none]) ++ List.replicate (n - i) [V.slN]
theorem cpyR_len {n i : Nat} {bl : List Nat} (hb : bl.length = i) (hi : i ≤ n) : (cpyR n i bl).length = n := by unfold cpyR; simp; omega
theorem cpyR_set {n i nb : Nat} {bl : List Nat} (hb : bl.length = i) (hi : i < n) : (cpyR n i bl).set i [V.sl nb 0 n none] = cpyR n (i + 1) (bl ++ [nb]) := by
  unfold cpyR
  rw [List.set_append_right _ _ (by simp; omega), List.length_map, hb, Nat.sub_self, show n - i = (n - (i + 1)) + 1 by omega, List.replicate_succ]
  simp
theorem cpyR_all {n : Nat} {bl : List Nat} : cpyR n n bl = (bl.map fun b => V.sl b 0 n none).map fun x => [x] := by
  unfold cpyR; simp
theorem take_snoc {α : Type} {l : List α} {i : Nat} {x : α} (h : l[i]? = some x) : l.take (i + 1) = l.take i ++ [x] := by rw [List.take_add_one, h]; rfl
end
end Go.Eng
