/- Part of a proof of a law, by an evaluator that the machine follows: rules, contracts of functions, what they come to. No condition of its own. -/
import Derived.Test.YtmcjcbldmoijiaaGreatDoorEngE
set_option linter.unusedVariables false
set_option linter.unusedSimpArgs false
namespace Go.Eng
noncomputable section
/-! ### slices.Grow of a nil slice of texts, by a summary -/
def zerosV (n : Nat) : List V := List.replicate n (.str 0 0)
def growO (h : Heap) (n : Nat) : Obj := .cells 1 h.next 0 (n * 1) (setRowsP 1 n 0 (zerosV n) T.e)
def moreGrow (f0 : Nat) : Nat → List V → Heap → OR := fun f args h => match f.beq f0, args with
  | true, [.slN, .int .i64 (.ofNat 0)] => .ok .slN h
  | true, [.slN, .int .i64 (.ofNat (n + 1))] => if n < 4294967296 then mk h (growO h (n + 1)) (.sl h.next 0 0 none) else .bad
  | _, _ => .bad
theorem zeros_rel {ι : Inj} : ∀ n, vrels ι (zerosV n) (List.replicate n (.string ⟨#[]⟩))
  | 0 => rfl
  | n + 1 => ⟨_, _, rfl, ⟨_, rfl, rfl, rfl⟩, zeros_rel n⟩
theorem moreGrow_ok {P : Program} {f0 : Nat} (hb : hasBody P f0)
    (hc : ∀ (n : Nat) (w : World), 0 < n → n ≤ 4294967296 → Calls P f0 #[.slice none 0 0, .int .i64 n] w fun e w' => ∃ cap el, n ≤ cap ∧ e = .returned (.slice (some ⟨w.heap.size, 0, none⟩) 0 cap) ∧ w' = w.drew.alloc (.cells (List.replicate cap (Value.string ⟨#[]⟩)).toArray el (0, 0)))
    (h0 : ∀ w : World, Calls P f0 #[.slice none 0 0, .int .i64 0] w fun e w' => e = .returned (.slice none 0 0) ∧ w' = w) : MoreOk P (moreGrow f0) := by
  have args2 : ∀ {ι : Inj} {k : Int} {args : Array Value}, vrels ι [.slN, .int .i64 k] args.toList → args = #[.slice none 0 0, .int .i64 k] := by
    intro ι k args hr
    obtain ⟨y1, l1, e1, r1, y2, l2, rfl, r2, r3⟩ := hr
    have r3 : l2 = [] := r3
    subst r3
    have r1 : y1 = .slice none 0 0 := r1
    have r2 : y2 = .int .i64 k := r2
    subst r1; subst r2
    rw [← Array.toArray_toList (xs := args), e1]
  intro f vs h
  unfold moreGrow
  split
  · rename_i hf
    have hf : f = f0 := Nat.eq_of_beq_eq_true hf
    subst hf
    refine ⟨Nat.le_refl _, fun _ => ⟨hb, fun ι w args g _ hr => ?_⟩⟩
    rw [args2 hr]
    refine (h0 w).mono fun e w' he => ?_
    obtain ⟨rfl, rfl⟩ := he
    exact ⟨ι, Chg.refl g, rfl⟩
  · rename_i n hf
    have hf : f = f0 := Nat.eq_of_beq_eq_true hf
    subst hf
    by_cases hn : n < 4294967296
    rotate_left
    · rw [if_neg hn]; exact ⟨trivial, fun h => absurd rfl h⟩
    rw [if_pos hn]
    have hok : okSize (growO h (n + 1)) = true := rfl
    have hmk : mk h (growO h (n + 1)) (.sl h.next 0 0 none) = .ok (.sl h.next 0 0 none) (h.add (growO h (n + 1))) := by
      show (Bool.rec .bad (h.newC (growO h (n + 1)) fun h' => .ok (.sl h.next 0 0 none) h') (okSize (growO h (n + 1))) : OR) = _
      rw [hok]
      show h.newC (growO h (n + 1)) (fun h' => OR.ok (.sl h.next 0 0 none) h') = _
      rw [newC_eq]
    rw [hmk]
    refine ⟨Nat.le_succ _, fun _ => ⟨hb, fun ι w args g hfr hr => ?_⟩⟩
    rw [args2 hr]
    have hfn : ι h.next = none := hfr h.next (Nat.le_refl _) (Nat.lt_succ_self _)
    refine (hc (n + 1) w (Nat.succ_pos _) hn).mono fun e w' he => ?_
    obtain ⟨cap, el, hcap, rfl, rfl⟩ := he
    obtain ⟨ι', hchg, hv⟩ := fresh_chg (el := el) (cap := cap) (vs := zerosV (n + 1)) (cs := List.replicate (n + 1) (.string ⟨#[]⟩)) (more := List.replicate (cap - (n + 1)) (.string ⟨#[]⟩)) g hfn (Nat.zero_le _) hok (by simp [zerosV]) (zeros_rel _) (by intro x hx; rw [List.eq_of_mem_replicate hx]; rfl) hcap (by simp; omega)
    rw [List.replicate_append_replicate, show n + 1 + (cap - (n + 1)) = cap by omega] at hchg
    refine ⟨ι', hchg, ?_⟩
    obtain ⟨B, a, c, hB, e1, e2⟩ := hv
    cases e1
    exact ⟨B, _, _, hB, rfl, e2.1, e2.2.1, e2.2.2.1, Nat.zero_le _, e2.2.2.2.2⟩
  · exact ⟨trivial, fun h => absurd rfl h⟩
end
end Go.Eng
