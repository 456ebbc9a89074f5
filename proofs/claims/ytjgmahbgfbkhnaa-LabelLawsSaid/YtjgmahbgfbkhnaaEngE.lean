/- Part of a proof of a law, by an evaluator that the machine follows: rules, contracts of functions, what they come to. No condition of its own. -/
import Derived.Test.YtjgmahbgfbkhnaaEngD
import Derived.Deep.Slices
set_option linter.unusedVariables false
set_option linter.unusedSimpArgs false
namespace Go.Eng
noncomputable section

/-! ### two summaries beside one another; the comparison of strings, by its contract -/
def more2 (a b : Nat → List V → Heap → OR) : Nat → List V → Heap → OR := fun f as h => OR.rec (fun v h => .ok v h) (fun v h => .pan v h) (b f as h) (a f as h)
theorem more2_ok {P : Program} {a b : Nat → List V → Heap → OR} (ha : MoreOk P a) (hb : MoreOk P b) : MoreOk P (more2 a b) := by
  intro f as h
  show OR.next h (OR.rec (fun v h => .ok v h) (fun v h => .pan v h) (b f as h) (a f as h) : OR) ∧ ((OR.rec (fun v h => .ok v h) (fun v h => .pan v h) (b f as h) (a f as h) : OR) ≠ .bad → hasBody P f ∧ ∀ ι w (args : Array Value), Good ι h w → vrels ι as args.toList → Calls P f args w (OutP ι h w (OR.rec (fun v h => .ok v h) (fun v h => .pan v h) (b f as h) (a f as h) : OR)))
  have h1 := ha f as h
  cases hr : a f as h with
  | ok v h' => rw [hr] at h1; exact h1
  | pan v h' => rw [hr] at h1; exact h1
  | bad => exact hb f as h
end
end Go.Eng
namespace Go.Eng
noncomputable section

/-! ### a law at given values; what is told once -/
section
variable {P : Program}
theorem law_runC (hmx : P.follows .mixedOrders = true) {c : Ctx} (hf : allT (chkF P) c.funs = true) (hs : SumsOk P c)
    {n f : Nat} {as : List V} (he : isTrue (lev c n f as .none Heap.empty).1 = true) {args : Array Value} (hr : vrels Inj.none as args.toList) (w : World) :
    Calls P f args w fun e w' => e = .returned (.bool true) ∧ Kept w w' := by
  obtain ⟨h', e⟩ := isTrue_ok he
  exact closed_run hmx (c := c) hf hs e hr w
end
def moreYes (f0 : Nat) : Nat → List V → Heap → OR := fun f as h => match f.beq f0, as with
  | true, [] => .ok (.bool true) h
  | _, _ => .bad
theorem moreYes_ok {P : Program} {f0 : Nat} (hb : hasBody P f0) (hc : ∀ w, Calls P f0 #[] w fun e w' => e = .returned (.bool true) ∧ Kept w w') : MoreOk P (moreYes f0) := by
  intro f as h
  unfold moreYes
  split
  · rename_i hfe
    have hfe : f = f0 := Nat.eq_of_beq_eq_true hfe
    subst hfe
    refine ⟨Nat.le_refl _, fun _ => ⟨hb, fun ι w args g hr => ?_⟩⟩
    have ha : args = #[] := Array.toList_eq_nil_iff.1 hr
    subst ha
    refine (hc w).mono fun e w' ⟨he, hk⟩ => ?_
    subst he
    exact ⟨ι, Chg.same (g.world hk.old hk.size) ⟨fun c hc _ => hk.old c hc, hk.size, hk.tape, hk.os, hk.out⟩ rfl, rfl⟩
  · exact ⟨trivial, fun h => absurd rfl h⟩
end
end Go.Eng
namespace Go.Eng
noncomputable section

/-! ### a law whose arguments are two slices that are only read -/
section
variable {P : Program} {w : World}
structure Arg (w : World) (j : Nat) (v : Value) (a : V) (o : Obj) (B : Option Blk) : Prop where
  rel : ∀ ι : Inj, ι j = B → vrel ι a v
  obj : ∀ (ι : Inj) B', B = some B' → orel ι B' o w
  inH : ∀ B', B = some B' → B'.c < w.heap.size
  fam : ∀ B', B = some B' → B'.fam = j
def inj2 (B0 B1 : Option Blk) : Inj := fun b => if b = 0 then B0 else if b = 1 then B1 else Option.none
def heap2 (o0 o1 : Obj) : Heap := ⟨T.set 0 o0 (T.set 1 o1 T.e), 8, T.e, [], .none⟩
theorem heap2_get (o0 o1 : Obj) (b : Nat) : T.get b (heap2 o0 o1).t = if b = 0 then some o0 else if b = 1 then some o1 else none := by
  show T.get b (T.set 0 o0 (T.set 1 o1 T.e)) = _
  rw [T.get_set (Nat.zero_le _) (Nat.zero_le _), T.get_set (Nat.zero_le _) (Nat.zero_le _), T.get_e]
theorem inj2_lt {B0 B1 : Option Blk} {b : Nat} {B : Blk} (h : inj2 B0 B1 b = some B) : (b = 0 ∧ B0 = some B) ∨ (b = 1 ∧ B1 = some B) := by
  unfold inj2 at h
  by_cases e : b = 0
  · rw [if_pos e] at h; exact .inl ⟨e, h⟩
  · rw [if_neg e] at h
    by_cases e1 : b = 1
    · rw [if_pos e1] at h; exact .inr ⟨e1, h⟩
    · rw [if_neg e1] at h; cases h
theorem good2 {v0 v1 : Value} {a0 a1 : V} {o0 o1 : Obj} {B0 B1 : Option Blk} (h0 : Arg w 0 v0 a0 o0 B0) (h1 : Arg w 1 v1 a1 o1 B1) : Good (inj2 B0 B1) (heap2 o0 o1) w := by
  have fe : ∀ f, T.get f (heap2 o0 o1).fams = none := fun f => T.get_e f
  refine ⟨fun b B o hb ho hn => ?_, fun b B hb => ?_, fun b B b' B' hb hb' _ _ h8 => ?_, fun b B hb _ => ?_, fun b B F o _ _ hF => ?_, fun b B o _ _ _ _ => fe _, fun f F b hF => ?_, Nat.le_refl _, fun b _ hne => ?_, fun b _ => Nat.zero_le _, fun f _ hne => absurd (fe f) hne, fun b B hb _ => ?_⟩
  · rw [heap2_get] at ho
    rcases inj2_lt hb with ⟨rfl, e⟩ | ⟨rfl, e⟩
    · rw [if_pos rfl] at ho; cases ho; exact h0.obj _ B e
    · rw [if_neg (by decide), if_pos rfl] at ho; cases ho; exact h1.obj _ B e
  · rcases inj2_lt hb with ⟨rfl, e⟩ | ⟨rfl, e⟩
    · exact h0.inH B e
    · exact h1.inH B e
  · rcases inj2_lt hb' with ⟨rfl, e⟩ | ⟨rfl, e⟩ <;> omega
  · rw [fe]
    rcases inj2_lt hb with ⟨rfl, e⟩ | ⟨rfl, e⟩
    · exact h0.fam B e
    · exact h1.fam B e
  · rw [fe] at hF; cases hF
  · rw [fe] at hF; cases hF
  · rw [heap2_get] at hne
    show b < 8
    by_cases e : b = 0
    · omega
    · by_cases e1 : b = 1
      · omega
      · rw [if_neg e, if_neg e1] at hne; exact absurd rfl hne
  · show B.fam < 8
    rcases inj2_lt hb with ⟨rfl, e⟩ | ⟨rfl, e⟩
    · rw [h0.fam B e]; decide
    · rw [h1.fam B e]; decide
inductive Sh where
  | nil
  | zero
  | one (a : Bool) (c : Nat)
  | two (a b : Bool) (c : Nat)
  | three (a b d : Bool) (c : Nat)
  | more (a b d e : Bool) (m c : Nat) (l : List V)
theorem cells_of (w : World) {c k : Nat} {x : Value} (h : w.cell? ⟨c, k, none⟩ = some x) : ∃ cs el fr, w.heap[c]? = some (.cells cs el fr) ∧ cs[k]? = some x := by
  simp only [World.cell?, Option.isSome_none, Bool.false_eq_true, if_false] at h
  split at h
  · rename_i cs el fr e; exact ⟨cs, el, fr, e, h⟩
  · cases h
end
end
end Go.Eng
