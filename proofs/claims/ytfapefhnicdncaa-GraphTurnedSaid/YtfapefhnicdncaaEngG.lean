/- Part of a proof of a law, by an evaluator that the machine follows: rules, contracts of functions, what they come to. No condition of its own. -/
import Derived.Test.YtfapefhnicdncaaEngE
import Derived.Maps.RangeRun
set_option linter.unusedVariables false
set_option linter.unusedSimpArgs false
namespace Go.Eng
noncomputable section
open Go.ChangeMaps (setBlock)

/-! ### a function that loops over a map, and tells whether all its keys are true in another -/
def trueIn (d : List Ent) (k : V) : Option Bool := match find (eqKey .str) k d with
  | none => none
  | some none => some false
  | some (some e) => e.val.asBool
def allIn (d : List Ent) (l : List Ent) : Option Bool := List.rec (some true) (fun e _ ih => match trueIn d e.key, ih with
  | some a, some b => some (a && b)
  | _, _ => none) l
def incr (clk : Nat) (l : List Ent) : Nat → Bool := @List.rec Ent (fun _ => Nat → Bool) (fun _ => true) (fun e _ ih lo => lo.ble e.born && (e.born.blt clk && ih (Nat.succ e.born))) l
def rdyIn (ds : List Ent) (h : Heap) (v : V) : OR := match v with
  | .mapN => .ok (.bool true) h
  | .map b => match h.obj b with
    | some (.map ks clk) => match incr clk ks 0, allIn ds ks with
      | true, some r => .ok (.bool r) h
      | _, _ => .bad
    | _ => .bad
  | _ => .bad
def valOf (r : Option (Option Ent)) : Option V := match r with
  | none => none
  | some none => some .mapN
  | some (some e) => some e.val
def rdyAt (n x : Nat) (h : Heap) (a b : Option V) : OR := match a, b with
  | some (.map m), some (.map d) => (match h.obj m, h.obj d with
    | some (.map es _), some (.map ds _) => (match valOf (find (eqKey .str) (.str n x) es) with
      | some v => rdyIn ds h v
      | none => .bad)
    | _, _ => .bad)
  | _, _ => .bad
def moreRdy (f0 : Nat) : Nat → List V → Heap → OR := fun f as h => match f.beq f0, as with
  | true, [.str n x, .ptr b1 o1, .ptr b2 o2] => rdyAt n x h (h.load1 b1 o1) (h.load1 b2 o2)
  | _, _ => .bad

theorem incr_at {clk : Nat} : ∀ {l : List Ent} {lo : Nat}, incr clk l lo = true → (∀ e ∈ l, lo ≤ e.born ∧ e.born < clk) ∧ (l.map (·.born)).Nodup
  | [], _, _ => ⟨fun e h => by simp at h, by simp⟩
  | a :: l, lo, h => by
    have h : (lo.ble a.born && (a.born.blt clk && incr clk l (Nat.succ a.born))) = true := h
    have h1 := Bool.and_of h; have h2 := Bool.and_of h1.2
    obtain ⟨i1, i2⟩ := incr_at h2.2
    have e1 : lo ≤ a.born := Nat.le_of_ble_eq_true h1.1
    have e2 : a.born < clk := by have := h2.1; rw [nblt] at this; simpa using this
    refine ⟨fun e he => ?_, ?_⟩
    · rcases List.mem_cons.1 he with rfl | he
      · exact ⟨e1, e2⟩
      · have := i1 e he; exact ⟨by omega, this.2⟩
    · rw [List.map_cons, List.nodup_cons]
      refine ⟨fun hm => ?_, i2⟩
      obtain ⟨e, he, hb⟩ := List.mem_map.1 hm
      have := (i1 e he).1
      omega
theorem allIn_at {d : List Ent} : ∀ {l : List Ent} {r : Bool}, allIn d l = some r → (∀ e ∈ l, ∃ b, trueIn d e.key = some b ∧ (r = true → b = true)) ∧ ((∀ e ∈ l, trueIn d e.key = some true) → r = true)
  | [], r, h => by cases h; exact ⟨fun e h => by simp at h, fun _ => rfl⟩
  | a :: l, r, h => by
    have h : (match trueIn d a.key, allIn d l with
      | some a, some b => some (a && b)
      | _, _ => none) = some r := h
    cases h1 : trueIn d a.key with
    | none => rw [h1] at h; cases h
    | some x =>
      cases h2 : allIn d l with
      | none => rw [h1, h2] at h; cases h
      | some y =>
        rw [h1, h2] at h
        have h : some (x && y) = some r := h
        cases h
        obtain ⟨i1, i2⟩ := allIn_at h2
        refine ⟨fun e he => ?_, fun hall => ?_⟩
        · rcases List.mem_cons.1 he with rfl | he
          · exact ⟨x, h1, fun hr => (Bool.and_of hr).1⟩
          · obtain ⟨b, hb, hi⟩ := i1 e he
            exact ⟨b, hb, fun hr => hi (Bool.and_of hr).2⟩
        · have e1 := hall a (List.mem_cons_self ..)
          rw [h1] at e1; cases e1
          rw [i2 (fun e he => hall e (List.mem_cons_of_mem _ he))]; rfl
theorem entsRel.born {ι : Inj} : ∀ {l : List Ent} {m : List MapEntry}, entsRel ι l m → m.map (·.born) = l.map (·.born)
  | [], m, e => by simp [entsRel] at e; simp [e]
  | a :: l, m, e => by
    simp only [entsRel] at e; obtain ⟨x, xs, rfl, h1, h2, h3, h4⟩ := e
    simp [h3, h4.born]
theorem entsRel.left {ι : Inj} : ∀ {l : List Ent} {m : List MapEntry}, entsRel ι l m → ∀ e ∈ l, ∃ x ∈ m, vrel ι e.key x.key ∧ x.born = e.born
  | [], m, _, e, he => by simp at he
  | a :: l, m, e, b, hb => by
    simp only [entsRel] at e; obtain ⟨x, xs, rfl, h1, h2, h3, h4⟩ := e
    rcases List.mem_cons.1 hb with rfl | hb
    · exact ⟨x, List.mem_cons_self .., h1, h3⟩
    · obtain ⟨y, hy, k⟩ := h4.left b hb
      exact ⟨y, List.mem_cons_of_mem _ hy, k⟩
theorem entsRel.right {ι : Inj} : ∀ {l : List Ent} {m : List MapEntry}, entsRel ι l m → ∀ x ∈ m, ∃ e ∈ l, vrel ι e.key x.key ∧ x.born = e.born
  | [], m, e, x, hx => by simp [entsRel] at e; subst e; simp at hx
  | a :: l, m, e, y, hy => by
    simp only [entsRel] at e; obtain ⟨x, xs, rfl, h1, h2, h3, h4⟩ := e
    rcases List.mem_cons.1 hy with rfl | hy
    · exact ⟨a, List.mem_cons_self .., h1, h3⟩
    · obtain ⟨b, hb, k⟩ := h4.right y hy
      exact ⟨b, List.mem_cons_of_mem _ hb, k⟩

/-! ### the machine's steps -/
structure OpIs (o : Oper) (d : Nat) (op : Go.Op) : Prop where
  dst : o.dst = some d
  op : o.op = op
  guard : o.guard = none
section
variable {P : Program} {ops : Array Oper} {Q : Exit → Act → World → Prop} {a : Act} {w w' : World} {rest : List Oper} {o : Oper}
theorem wpl_op {d : Nat} {op : Go.Op} {v : Value} (i : OpIs o d op) (hr : (execOp a.eval o).run P w = .ok (.value v) w') (k : wpList P ops Q rest (a.put (some d) v) w') : wpList P ops Q (o :: rest) a w := by
  refine wpList_yes (by simp [Region.wanted, i.guard]) ?_
  unfold Oper.wp
  rw [hr, Oper.upon_value, i.dst]
  exact k
theorem wp_reg {id : Nat} (h : wpList P ops Q ops.toList a w) : (Code.region id ops false).wp P Q a w := by
  refine wp_region ?_
  have hl := wpOps_eq_wpList (P := P) (ops := ops) (Q := Q) ops.toList 0 (fun j => by simp)
  rw [List.range_eq_range']
  simp only [Array.length_toList] at hl
  rw [hl]; exact h
end
/-- the temporaries that matter -/
structure Tm (a : Act) (l : List (Nat × Value)) : Prop where
  size : a.tmps.size = 18
  defers : a.defers = []
  at_ : ∀ p ∈ l, a.tmps.getD p.1 undef = p.2
theorem Tm.put {a : Act} {l : List (Nat × Value)} (t : Tm a l) (d : Nat) (v : Value) (hd : d < 18) : Tm (a.put (some d) v) ((d, v) :: l.filter fun p => p.1 != d) := by
  refine ⟨by simp [Act.put, t.size], t.defers, fun p hp => ?_⟩
  show (a.tmps.setIfInBounds d v).getD p.1 undef = p.2
  rw [getD_put (by rw [t.size]; exact hd)]
  rcases List.mem_cons.1 hp with rfl | hp
  · simp
  · have h := List.mem_filter.1 hp
    have h2 : p.1 ≠ d := by simpa using h.2
    rw [if_neg h2]; exact t.at_ p h.1
theorem Tm.get {a : Act} {l : List (Nat × Value)} (t : Tm a l) (k : Nat) {d : Nat} {v : Value} (h : l[k]? = some (d, v)) : a.eval (.tmp d) = v := t.at_ (d, v) (List.mem_of_getElem? h)

def rdyCode (o0 l1 m1 k1 r1 n2 e2 y3 x3 a3 l4 m4 k4 u4 o5 o6 : Oper) (i0 i1 i2 i3 i4 i5 i6 b0 b1 : Nat) : Code :=
  .seq (.region i0 #[o0] false) (.seq (.seq (.region i1 #[l1, m1, k1, r1] false) (.block b0 (.loop (.seq (.region i2 #[n2, e2] false)
    (.seq (.cond (.tmp 11) .skip (.exit b0)) (.block b1 (.seq (.region i3 #[y3, x3, a3] false) (.seq (.region i4 #[l4, m4, k4, u4] false)
      (.cond (.tmp 17) (.seq (.region i5 #[o5] false) .ret) .skip)))))))))
    (.seq (.region i6 #[o6] false) .ret))

section
variable {P : Program} {ι : Inj} {h : Heap} {w : World} {ρ : Operand → Value} {o : Oper} {v : V}
theorem light_c (g : Good ι h w) {e : OpL} (hok : okL P (fun x a => @decide (vrel ι (A.ev a [] Env.nil) (ρ x)) (Classical.propDecidable _)) o.op e = true) (he : light e (fun a => a.ev [] Env.nil) h = .val v) :
    ∃ v', (execOp ρ o).run P w = .ok (.value v') w ∧ vrel ι v v' := light_val g (fun x a hd => @of_decide_eq_true _ (Classical.propDecidable _) hd) hok he
end
structure RdyT (P : Program) (tt tm ts tb : TypeId) : Prop where
  l1 : aggIs P tt false = true
  l2 : aggIs P tm false = true
  u1 : P.underlying tt = some (.map ts tm)
  u2 : P.underlying tm = some (.map ts tb)
  s : P.underlying ts = some .string
  z1 : zeroIs P tm .mapN = true
  z2 : zeroIs P tb (.bool false) = true
end
end Go.Eng
