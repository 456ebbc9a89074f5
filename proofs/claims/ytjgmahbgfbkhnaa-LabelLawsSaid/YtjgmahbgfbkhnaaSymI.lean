/- Part of a proof of a law, by an evaluator that the machine follows: rules, contracts of functions, what they come to. No condition of its own. -/
import Derived.Test.YtjgmahbgfbkhnaaSymH
set_option linter.unusedVariables false
set_option linter.unusedSimpArgs false
namespace Go.Eng
noncomputable section
namespace Lab
/-! ### rows that are made one by one -/
def candS (n : Nat) (p : Nat → Bool) (k : Nat) : List Bool := (List.range n).map fun x => decide (x < k) && p x
theorem candS_len (n : Nat) (p : Nat → Bool) (k : Nat) : (candS n p k).length = n := by simp [candS]
theorem candS_zero (n : Nat) (p : Nat → Bool) : candS n p 0 = List.replicate n false := by
  unfold candS
  apply List.ext_getElem?
  intro i
  rw [List.getElem?_map, List.getElem?_replicate]
  by_cases h : i < n
  · rw [List.getElem?_range h, if_pos h]; rfl
  · rw [List.getElem?_eq_none (by simp; omega), if_neg h]; rfl
theorem candS_set {n : Nat} {p : Nat → Bool} {k : Nat} (hk : k < n) : (candS n p k).set k (p k) = candS n p (k + 1) := by
  apply List.ext_getElem?
  intro i
  rw [List.getElem?_set, candS_len]
  unfold candS
  by_cases e : k = i
  · subst e
    rw [if_pos rfl, if_pos hk, List.getElem?_map, List.getElem?_range hk]; simp
  · rw [if_neg e, List.getElem?_map, List.getElem?_map]
    by_cases h : i < n
    · rw [List.getElem?_range h]
      simp only [Option.map_some]
      congr 2
      exact decide_eq_decide.2 (by omega)
    · rw [List.getElem?_eq_none (by simp; omega)]; rfl
theorem candS_all (n : Nat) (p : Nat → Bool) : candS n p n = (List.range n).map p := by
  unfold candS
  apply List.map_congr_left
  intro x hx
  simp [List.mem_range.1 hx]
theorem candS_at {n : Nat} {p : Nat → Bool} {k : Nat} (hk : k < n) : (candS n p n)[k]? = some (p k) := by
  rw [candS_all, List.getElem?_map, List.getElem?_range hk]; rfl
def trK (n : Nat) (M : List (List Bool)) (i : Nat) : List (List Bool) := (List.range i).map fun a => candS n (fun x => at2 M x a) n
theorem trK_succ (n : Nat) (M : List (List Bool)) (i : Nat) : trK n M (i + 1) = trK n M i ++ [candS n (fun x => at2 M x i) n] := by unfold trK; rw [List.range_succ, List.map_append]; rfl
theorem trK_all (n : Nat) (M : List (List Bool)) : trK n M n = tr n M := by unfold trK tr; simp only [candS_all]
theorem joinRow_at {n : Nat} {M : List (List Bool)} {a b k : Nat} (hb : b < k) : (joinRow n M a k)[b]? = some ((join n M a b).getD 0) := by unfold joinRow; rw [List.getElem?_map, List.getElem?_range hb]; rfl
theorem joinT_at {n : Nat} {M : List (List Bool)} {a k : Nat} (ha : a < k) : (joinT n M k)[a]? = some (joinRow n M a n) := by unfold joinT; rw [List.getElem?_map, List.getElem?_range ha]; rfl
theorem meetRow_at {n : Nat} {M : List (List Bool)} {a b k : Nat} (hb : b < k) : (meetRow n M a k)[b]? = some ((meet n M a b).getD 0) := by unfold meetRow; rw [List.getElem?_map, List.getElem?_range hb]; rfl
theorem meetT_at {n : Nat} {M : List (List Bool)} {a k : Nat} (ha : a < k) : (meetT n M k)[a]? = some (meetRow n M a n) := by unfold meetT; rw [List.getElem?_map, List.getElem?_range ha]; rfl
theorem joinT_len (n : Nat) (M : List (List Bool)) (k : Nat) : (joinT n M k).length = k := by simp [joinT]
theorem meetT_len (n : Nat) (M : List (List Bool)) (k : Nat) : (meetT n M k).length = k := by simp [meetT]
theorem joinRow_len (n : Nat) (M : List (List Bool)) (a k : Nat) : (joinRow n M a k).length = k := by simp [joinRow]
theorem meetRow_len (n : Nat) (M : List (List Bool)) (a k : Nat) : (meetRow n M a k).length = k := by simp [meetRow]
theorem join_lt {n : Nat} {M : List (List Bool)} {a b : Nat} (h0 : 0 < n) : (join n M a b).getD 0 < n := by
  cases h : join n M a b with
  | none => exact h0
  | some x => exact (least_some h).1
theorem meet_lt {n : Nat} {M : List (List Bool)} {a b : Nat} (h0 : 0 < n) : (meet n M a b).getD 0 < n := by
  cases h : meet n M a b with
  | none => exact h0
  | some x => exact (least_some h).1
theorem hiF_lt {n : Nat} {M : List (List Bool)} (h0 : 0 < n) : ∀ k, hiF n M k < n
  | 0 => h0
  | k + 1 => by rw [hiF_succ]; exact join_lt h0
theorem loF_lt {n : Nat} {M : List (List Bool)} (h0 : 0 < n) : ∀ k, loF n M k < n
  | 0 => h0
  | k + 1 => by rw [loF_succ]; exact meet_lt h0
def antiP (n : Nat) (M : List (List Bool)) (a : Nat) : Prop := ∀ x y, x < a → y < n → x ≠ y → ¬ (at2 M x y = true ∧ at2 M y x = true)
def antiQ (M : List (List Bool)) (a b : Nat) : Prop := ∀ y, y < b → a ≠ y → ¬ (at2 M a y = true ∧ at2 M y a = true)
theorem antiQ_succ {M : List (List Bool)} {a b : Nat} (h : antiQ M a b) (hn : a ≠ b → ¬ (at2 M a b = true ∧ at2 M b a = true)) : antiQ M a (b + 1) := fun y hy hne => by
  by_cases e : y = b
  · subst e; exact hn hne
  · exact h y (by omega) hne
theorem antiP_succ {n : Nat} {M : List (List Bool)} {a : Nat} (h : antiP n M a) (hq : antiQ M a n) : antiP n M (a + 1) := fun x y hx hy hne => by
  by_cases e : x = a
  · subst e; exact hq y hy hne
  · exact h x y (by omega) hy hne
theorem okT_anti {n : Nat} {M : List (List Bool)} (s : Sq n M) {a b : Nat} (ha : a < n) (hb : b < n) (hne : a ≠ b) (h1 : at2 M a b = true) (h2 : at2 M b a = true) : okT n M n = false := by
  rw [Bool.eq_false_iff]; intro h
  exact ((okT_iff s).1 h).1 a b ha hb hne ⟨h1, h2⟩
theorem okT_join {n : Nat} {M : List (List Bool)} (s : Sq n M) (h : okJ n M n = false) : okT n M n = false := by
  rw [Bool.eq_false_iff]; intro h2
  rw [((okT_iff s).1 h2).2.1] at h; cases h
theorem okT_meet {n : Nat} {M : List (List Bool)} (s : Sq n M) (h : okJ n (tr n M) n = false) : okT n M n = false := by
  rw [Bool.eq_false_iff]; intro h2
  rw [((okT_iff s).1 h2).2.2] at h; cases h
end Lab
theorem BRows.snoc {h : Heap} : ∀ {J : List (List Bool)} {vs : List V} {r : List Bool} {v : V}, BRows h J vs → Rows 1 h v (r.map bv) → BRows h (J ++ [r]) (vs ++ [v])
  | [], [], _, _, _, hr => ⟨hr, trivial⟩
  | [], _ :: _, _, _, h, _ => h.elim
  | _ :: _, [], _, _, h, _ => h.elim
  | _ :: _, _ :: _, _, _, h, hr => ⟨h.1, h.2.snoc hr⟩
theorem rep_bv (n : Nat) (p : Nat → Bool) : (List.replicate n [V.bool false]) = (Lab.candS n p 0).map bv := by rw [Lab.candS_zero, List.map_replicate]; rfl
theorem set_bv {n : Nat} {p : Nat → Bool} {k : Nat} (hk : k < n) : ((Lab.candS n p k).map bv).set k [V.bool (p k)] = (Lab.candS n p (k + 1)).map bv := by rw [← Lab.candS_set hk, List.map_set]; rfl
theorem iv_at {h : Heap} {u : V} {r : List Nat} {b x : Nat} (R : Rows 1 h u (r.map iv)) (hx : r[b]? = some x) : h.load1 (slB u) (slO u + b * 1) = some (.int .i64 (x : Int)) := R.load1Z (by rw [List.getElem?_map, hx]; rfl)
theorem fill_four {ev : Ev} {x y z w : A} {a b c d e f p q r s : V} (hx : (ev x).asCells = some [a]) (hy : (ev y).asCells = some [b]) (hz : (ev z).asCells = some [c]) (hw : (ev w).asCells = some [d]) :
    fill [(0, 1, x), (1, 1, y), (2, 1, z), (3, 1, w)] ev [p, q, r, s, e, f] = some [a, b, c, d, e, f] := by
  show (Option.rec none (fun l => bif (lenV l).beq 1 && (Nat.add 0 1).ble (lenV [p, q, r, s, e, f]) then fill [(1, 1, y), (2, 1, z), (3, 1, w)] ev (overV 0 l [p, q, r, s, e, f]) else none) (ev x).asCells : Option (List V)) = _
  rw [hx]
  show (Option.rec none (fun l => bif (lenV l).beq 1 && (Nat.add 1 1).ble (lenV [a, q, r, s, e, f]) then fill [(2, 1, z), (3, 1, w)] ev (overV 1 l [a, q, r, s, e, f]) else none) (ev y).asCells : Option (List V)) = _
  rw [hy]
  show (Option.rec none (fun l => bif (lenV l).beq 1 && (Nat.add 2 1).ble (lenV [a, b, r, s, e, f]) then fill [(3, 1, w)] ev (overV 2 l [a, b, r, s, e, f]) else none) (ev z).asCells : Option (List V)) = _
  rw [hz]
  show (Option.rec none (fun l => bif (lenV l).beq 1 && (Nat.add 3 1).ble (lenV [a, b, c, s, e, f]) then fill [] ev (overV 3 l [a, b, c, s, e, f]) else none) (ev w).asCells : Option (List V)) = _
  rw [hw]; rfl
theorem Rows.cellsR {r : Nat} {h : Heap} {v : V} {rows : List (List V)} (R : Rows r h v rows) : v.asCells = some [v] := by cases R <;> rfl
theorem BTab.cells {h : Heap} {v : V} {M : List (List Bool)} (t : BTab h v M) : v.asCells = some [v] := by obtain ⟨_, R, _⟩ := t; exact R.cellsR
theorem ITab.cells {h : Heap} {v : V} {M : List (List Nat)} (t : ITab h v M) : v.asCells = some [v] := by obtain ⟨_, R, _⟩ := t; exact R.cellsR
theorem cel_bv {fs : List Fact} {h : Heap} {b n : Nat} {r : List Bool} (s : St (.cel b 1 (r.map bv) :: fs) h) (hl : r.length = n) : St (.stb (fun h => Rows 1 h (.sl b 0 n (some n)) (r.map bv)) :: fs) h := by
  have := s.celStill (some n)
  rw [List.length_map, hl] at this; exact this
end
end Go.Eng
