/- Part of a proof of a law, by an evaluator that the machine follows: rules, contracts of functions, what they come to. No condition of its own. -/
import Derived.Test.YtjgmahbgfbkhnaaSymA
set_option linter.unusedVariables false
set_option linter.unusedSimpArgs false
namespace Go.Eng
noncomputable section

/-! ### tables of numbers, frozen; the lattice of a table -/
def iv (x : Nat) : List V := [.int .i64 (x : Int)]
def IRows (h : Heap) : List (List Nat) → List V → Prop
  | [], [] => True
  | r :: J, v :: vs => Rows 1 h v (r.map iv) ∧ IRows h J vs
  | _, _ => False
theorem IRows.snoc {h : Heap} : ∀ {J : List (List Nat)} {vs : List V} {r : List Nat} {v : V}, IRows h J vs → Rows 1 h v (r.map iv) → IRows h (J ++ [r]) (vs ++ [v])
  | [], [], _, _, _, hr => ⟨hr, trivial⟩
  | [], _ :: _, _, _, h, _ => h.elim
  | _ :: _, [], _, _, h, _ => h.elim
  | _ :: _, _ :: _, _, _, h, hr => ⟨h.1, h.2.snoc hr⟩
theorem IRows.len {h : Heap} : ∀ {J : List (List Nat)} {vs : List V}, IRows h J vs → vs.length = J.length
  | [], [], _ => rfl
  | [], _ :: _, h => h.elim
  | _ :: _, [], h => h.elim
  | _ :: _, _ :: _, h => by simp [h.2.len]
theorem IRows.at {h : Heap} : ∀ {J : List (List Nat)} {vs : List V}, IRows h J vs → ∀ {i : Nat} {r : List Nat}, J[i]? = some r → ∃ v, vs[i]? = some v ∧ Rows 1 h v (r.map iv)
  | [], [], _, i, r, hi => by simp at hi
  | [], _ :: _, h, _, _, _ => h.elim
  | _ :: _, [], h, _, _, _ => h.elim
  | a :: J, v :: vs, h, 0, r, hi => by simp at hi; subst hi; exact ⟨v, rfl, h.1⟩
  | a :: J, v :: vs, h, i + 1, r, hi => by
    obtain ⟨w, h1, h2⟩ := h.2.at (i := i) (r := r) (by simpa using hi)
    exact ⟨w, by simpa using h1, h2⟩
def ITab (h : Heap) (v : V) (J : List (List Nat)) : Prop := ∃ vs : List V, Rows 1 h v (vs.map fun x => [x]) ∧ IRows h J vs
def MatV (lb lo n : Nat) (M : List (List Bool)) (h : Heap) : Prop := ∀ a, a < n → ∃ rb ro rcap, h.load1 lb (lo + a * 1) = some (.sl rb ro n rcap) ∧ ∀ b, b < n → h.load1 rb (ro + b * 1) = some (.bool (Lab.at2 M a b))
theorem St.triv {fs : List Fact} {h : Heap} {P : Heap → Prop} (s : St fs h) (hp : ∀ h, P h) : St (.stb P :: fs) h := (St.pure s (Q := True) trivial).imp0 fun h _ => hp h

namespace Lab
def lower (n : Nat) (le : Nat → Nat → Bool) (is : Nat → Bool) (x : Nat) : Bool := (List.range n).all fun d => !is d || le x d
def least (n : Nat) (le : Nat → Nat → Bool) (is : Nat → Bool) : Option Nat := (List.range n).find? fun x => is x && lower n le is x
def join (n : Nat) (M : List (List Bool)) (a b : Nat) : Option Nat := least n (at2 M) fun x => at2 M a x && at2 M b x
def meet (n : Nat) (M : List (List Bool)) (a b : Nat) : Option Nat := least n (fun x y => at2 M y x) fun x => at2 M x a && at2 M x b
def okC (n : Nat) (M : List (List Bool)) (a b : Nat) : Bool := !(decide (a ≠ b) && (at2 M a b && at2 M b a)) && ((join n M a b).isSome && (meet n M a b).isSome)
def joinRow (n : Nat) (M : List (List Bool)) (a k : Nat) : List Nat := (List.range k).map fun b => (join n M a b).getD 0
def meetRow (n : Nat) (M : List (List Bool)) (a k : Nat) : List Nat := (List.range k).map fun b => (meet n M a b).getD 0
def joinT (n : Nat) (M : List (List Bool)) (k : Nat) : List (List Nat) := (List.range k).map fun a => joinRow n M a n
def meetT (n : Nat) (M : List (List Bool)) (k : Nat) : List (List Nat) := (List.range k).map fun a => meetRow n M a n
def okR (n : Nat) (M : List (List Bool)) (a k : Nat) : Bool := (List.range k).all fun b => okC n M a b
def okT (n : Nat) (M : List (List Bool)) (k : Nat) : Bool := (List.range k).all fun a => okR n M a n
def low (n : Nat) (M : List (List Bool)) : Option Nat := least n (at2 M) fun _ => true
def high (n : Nat) (M : List (List Bool)) : Option Nat := least n (fun x y => at2 M y x) fun _ => true
def complete (n : Nat) (M : List (List Bool)) : Option (Nat × Nat) := if okT n M n && ((low n M).isSome && (high n M).isSome) then some ((low n M).getD 0, (high n M).getD 0) else none
theorem joinRow_succ (n : Nat) (M : List (List Bool)) (a k : Nat) : joinRow n M a (k + 1) = joinRow n M a k ++ [(join n M a k).getD 0] := by unfold joinRow; rw [List.range_succ, List.map_append]; rfl
theorem meetRow_succ (n : Nat) (M : List (List Bool)) (a k : Nat) : meetRow n M a (k + 1) = meetRow n M a k ++ [(meet n M a k).getD 0] := by unfold meetRow; rw [List.range_succ, List.map_append]; rfl
theorem joinT_succ (n : Nat) (M : List (List Bool)) (k : Nat) : joinT n M (k + 1) = joinT n M k ++ [joinRow n M k n] := by unfold joinT; rw [List.range_succ, List.map_append]; rfl
theorem meetT_succ (n : Nat) (M : List (List Bool)) (k : Nat) : meetT n M (k + 1) = meetT n M k ++ [meetRow n M k n] := by unfold meetT; rw [List.range_succ, List.map_append]; rfl
theorem okR_succ (n : Nat) (M : List (List Bool)) (a k : Nat) : okR n M a (k + 1) = (okR n M a k && okC n M a k) := by unfold okR; rw [List.range_succ, List.all_append]; simp
theorem okT_succ (n : Nat) (M : List (List Bool)) (k : Nat) : okT n M (k + 1) = (okT n M k && okR n M k n) := by unfold okT; rw [List.range_succ, List.all_append]; simp
theorem okR_no {n : Nat} {M : List (List Bool)} {a b k : Nat} (hb : b < k) (h : okC n M a b = false) : okR n M a k = false := by
  unfold okR; rw [Bool.eq_false_iff]; intro ht
  rw [List.all_eq_true] at ht
  rw [ht b (List.mem_range.2 hb)] at h; cases h
theorem okT_no {n : Nat} {M : List (List Bool)} {a b k : Nat} (ha : a < k) (hb : b < n) (h : okC n M a b = false) : okT n M k = false := by
  unfold okT; rw [Bool.eq_false_iff]; intro ht
  rw [List.all_eq_true] at ht
  have := ht a (List.mem_range.2 ha)
  rw [okR_no hb h] at this; cases this
theorem complete_no {n : Nat} {M : List (List Bool)} {a b : Nat} (ha : a < n) (hb : b < n) (h : okC n M a b = false) : complete n M = none := by
  unfold complete; rw [okT_no ha hb h]; rfl
end Lab
end
end Go.Eng
