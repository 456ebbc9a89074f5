/- Part of a proof of a law, by an evaluator that the machine follows: rules, contracts of functions, what they come to. No condition of its own. -/
import Derived.Test.YtjgmahbgfbkhnaaEngC
import Derived.Lib.Bytealg
set_option linter.unusedVariables false
set_option linter.unusedSimpArgs false
namespace Go.Eng
noncomputable section

/-! ### strings.IndexByte, by its contract -/
def idxL (c : Nat) (l : List Nat) : Nat → V := @List.rec Nat (fun _ => Nat → V) (fun _ => .int .i64 (-1)) (fun b _ ih i => Bool.rec (ih (Nat.succ i)) (natV .i64 i) (b.beq c)) l
def moreIdx (f0 : Nat) : Nat → List V → Heap → OR := fun f as h => match f.beq f0, as with
  | true, [.str n x, .int .u8 (.ofNat c)] => Bool.rec .bad ((idxL c (sBytes n x) 0).force fun v => .ok v h) (c.blt 256)
  | _, _ => .bad
theorem idxL_eq (c : Nat) (hc : c < 256) : ∀ (l : List UInt8) (i : Nat), idxL c (l.map (·.toNat)) i = if Lib.indexByte l c.toUInt8 = -1 then .int .i64 (-1) else .int .i64 (i + Lib.indexByte l c.toUInt8)
  | [], i => rfl
  | b :: l, i => by
    show (Bool.rec (idxL c (l.map (·.toNat)) (Nat.succ i)) (natV .i64 i) (b.toNat.beq c) : V) = _
    have hb : (b == c.toUInt8) = (b.toNat.beq c) := by
      have h1 : c.toUInt8.toNat = c := by simp; omega
      rw [nbeq]
      by_cases h : b = c.toUInt8
      · have : b.toNat = c := by rw [h, h1]
        simp [h]; omega
      · have : b.toNat ≠ c := fun e => h (UInt8.toNat_inj.1 (by rw [h1, e]))
        simp [h, this]
    unfold Lib.indexByte
    rw [hb]
    cases b.toNat.beq c with
    | true => simp [natV_eq]
    | false =>
      show idxL c (l.map (·.toNat)) (i + 1) = _
      rw [idxL_eq c hc l (i + 1)]
      have hge := Lib.indexByte_ge l c.toUInt8
      by_cases h : Lib.indexByte l c.toUInt8 = -1
      · simp [h]
      · have h2 : ¬ (Lib.indexByte l c.toUInt8 + 1 = -1) := by omega
        simp [h, h2]; omega
theorem moreIdx_ok {P : Program} {f0 : Nat} (hb : hasBody P f0) (hc : ∀ (s : ByteArray) (c : Int) (w : World), Calls P f0 #[.string s, .int .u8 c] w fun e w' => e = .returned (.int .i64 (Lib.indexByte s.data.toList c.toNat.toUInt8)) ∧ w' = w) : MoreOk P (moreIdx f0) := by
  intro f as h
  unfold moreIdx
  split
  · rename_i n x c hf
    have hf : f = f0 := Nat.eq_of_beq_eq_true hf
    subst hf
    cases hlt : c.blt 256 with
    | false => exact ⟨trivial, fun h => absurd rfl h⟩
    | true =>
      have hlt : c < 256 := by rw [nblt] at hlt; simpa using hlt
      rw [V.force_eq]
      refine ⟨Nat.le_refl _, fun _ => ⟨hb, fun ι w args g hr => ?_⟩⟩
      obtain ⟨y1, l1, e1, r1, r2⟩ := hr
      obtain ⟨y2, l2, e2, r3, r4⟩ := r2
      have r4 : l2 = [] := r4
      subst r4 e2
      obtain ⟨s, rfl, hs⟩ := r1
      have r3 : y2 = .int .u8 (Int.ofNat c) := r3
      subst r3
      have ha : args = #[.string s, .int .u8 (Int.ofNat c)] := by rw [← Array.toArray_toList (xs := args), e1]
      rw [ha]
      refine (hc s (Int.ofNat c) w).mono fun e w' he => ?_
      obtain ⟨rfl, rfl⟩ := he
      refine ⟨ι, Chg.refl g, ?_⟩
      obtain ⟨h1, h2⟩ := hs
      have hsb : sBytes n x = s.data.toList.map (·.toNat) := by rw [← h1, ← h2]; exact sBytes_eq _
      rw [hsb, idxL_eq c hlt]
      have hcn : (Int.ofNat c).toNat.toUInt8 = c.toUInt8 := rfl
      rw [hcn]
      by_cases hm : Lib.indexByte s.data.toList c.toUInt8 = -1
      · rw [if_pos hm, hm]; rfl
      · rw [if_neg hm]
        show (Value.int .i64 _ = Value.int .i64 _)
        congr 1; simp
  · exact ⟨trivial, fun h => absurd rfl h⟩
end
end Go.Eng
namespace Go.Eng
noncomputable section

/-! ### runs in two parts: what is reckoned of the arguments, and the rest -/
/-! ### sameness of environments and heaps, for the kernel -/
end
end Go.Eng
