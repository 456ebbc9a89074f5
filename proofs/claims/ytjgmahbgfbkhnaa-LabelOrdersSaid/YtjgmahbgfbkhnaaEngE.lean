/- Part of a proof of a law, by an evaluator that the machine follows: rules, contracts of functions, what they come to. No condition of its own. -/
import Derived.Test.YtjgmahbgfbkhnaaEngD
import Derived.Maps.RangeRun
import Derived.RangeFuncNested
import Derived.RangeFuncCalls
import Derived.RangeFuncLeaves
import Derived.RangeFuncBox
import Derived.Maps.OwnIn
import Derived.Deep.Slices
set_option linter.unusedVariables false
set_option linter.unusedSimpArgs false
namespace Go.Eng
noncomputable section

/-! ### two summaries beside one another; the comparison of strings, by its contract -/
def more2 (a b : Nat → List V → Heap → OR) : Nat → List V → Heap → OR := fun f as h => OR.rec (fun v h => .ok v h) (fun v h => .pan v h) (b f as h) (a f as h)
theorem more2_ok {P : Program} {a b : Nat → List V → Heap → OR} (ha : MoreOk P a) (hb : MoreOk P b) : MoreOk P (more2 a b) := by
  intro f as h
  show OR.next h (OR.rec (fun v h => .ok v h) (fun v h => .pan v h) (b f as h) (a f as h) : OR) ∧ ((OR.rec (fun v h => .ok v h) (fun v h => .pan v h) (b f as h) (a f as h) : OR) ≠ .bad → hasBody P f ∧ ∀ ι w (args : Array Value), Good ι h w → vrels ι as args.toList → Calls P f args w (OutP ι h w (OR.rec (fun v h => .ok v h) (fun v h => .pan v h) (b f as h) (a f as h) : OR)))
  have h1 := ha f as h
  cases hr : a f as h with
  | ok v h' => rw [hr] at h1; exact h1
  | pan v h' => rw [hr] at h1; exact h1
  | bad => exact hb f as h
def cmpV (n x m y : Nat) : V := Bool.rec (Bool.rec (.int .i64 1) (.int .i64 (-1)) (sLess (sBytes n x) (sBytes m y))) (.int .i64 0) (sEq n x m y)
def moreCmp (f0 : Nat) : Nat → List V → Heap → OR := fun f as h => match f.beq f0, as with
  | true, [.str n x, .str m y] => (cmpV n x m y).force fun v => .ok v h
  | _, _ => .bad
theorem compare_less : ∀ (a b : List UInt8), Lib.compareBytes a b = if a = b then 0 else if Op.bytesLess a b then -1 else 1
  | [], [] => rfl
  | [], _ :: _ => by simp [Lib.compareBytes, Op.bytesLess]
  | _ :: _, [] => by simp [Lib.compareBytes, Op.bytesLess]
  | x :: a, y :: b => by
    unfold Lib.compareBytes
    rw [compare_less a b]
    by_cases h1 : x < y
    · have : x ≠ y := fun e => by subst e; exact UInt8.lt_irrefl x h1
      simp [h1, this, Op.bytesLess]
    · by_cases h2 : y < x
      · have : x ≠ y := fun e => by subst e; exact UInt8.lt_irrefl x h2
        simp [h1, h2, this, Op.bytesLess]
      · have h3 : x = y := by
          rw [UInt8.lt_iff_toNat_lt] at h1 h2
          exact UInt8.toNat_inj.1 (by omega)
        subst h3
        simp [Op.bytesLess, UInt8.lt_irrefl]
theorem cmpV_eq (s u : ByteArray) : cmpV s.data.toList.length (enc s.data.toList) u.data.toList.length (enc u.data.toList) = .int .i64 (Lib.compareBytes s.data.toList u.data.toList) := by
  unfold cmpV
  rw [strOk_eq ⟨rfl, rfl⟩ ⟨rfl, rfl⟩, sBytes_eq, sBytes_eq, sLess_eq, compare_less]
  by_cases h : s = u
  · subst h; simp
  · have : s.data.toList ≠ u.data.toList := fun e => h (by cases s; cases u; congr; exact Array.ext' e)
    simp only [h, decide_false, if_neg this]
    cases Op.bytesLess s.data.toList u.data.toList <;> rfl
theorem moreCmp_ok {P : Program} {f0 : Nat} (hb : hasBody P f0) (hc : ∀ (a b : ByteArray) (w : World), Calls P f0 #[.string a, .string b] w fun e w' => e = .returned (.int .i64 (Lib.compareBytes a.data.toList b.data.toList)) ∧ w' = w) : MoreOk P (moreCmp f0) := by
  intro f as h
  unfold moreCmp
  split
  · rename_i n x m y hf
    have hf : f = f0 := Nat.eq_of_beq_eq_true hf
    subst hf
    rw [V.force_eq]
    refine ⟨Nat.le_refl _, fun _ => ⟨hb, fun ι w args g hr => ?_⟩⟩
    obtain ⟨y1, l1, e1, r1, r2⟩ := hr
    obtain ⟨y2, l2, e2, r3, r4⟩ := r2
    have r4 : l2 = [] := r4
    subst r4 e2
    obtain ⟨s, rfl, hs⟩ := r1
    obtain ⟨u, rfl, hu⟩ := r3
    have ha : args = #[.string s, .string u] := by rw [← Array.toArray_toList (xs := args), e1]
    rw [ha]
    refine (hc s u w).mono fun e w' he => ?_
    obtain ⟨rfl, rfl⟩ := he
    refine ⟨ι, Chg.refl g, ?_⟩
    obtain ⟨rfl, rfl⟩ := hs
    obtain ⟨rfl, rfl⟩ := hu
    rw [cmpV_eq]; rfl
  · exact ⟨trivial, fun h => absurd rfl h⟩
end
end Go.Eng
namespace Go.Eng
noncomputable section
open Go.ChangeMaps (setBlock)

/-! ### a function that loops over a map, and tells whether all its keys are true in another -/
def trueIn (d : List Ent) (k : V) : Option Bool := match find (eqKey .str) k d with
  | none => none
  | some none => some false
  | some (some e) => e.val.asBool
def allIn (d : List Ent) (l : List Ent) : Option Bool := List.rec (some true) (fun e _ ih => match trueIn d e.key, ih with
  | some a, some b => some (a && b)
  | _, _ => none) l
def incr (clk : Nat) (l : List Ent) : Nat → Bool := @List.rec Ent (fun _ => Nat → Bool) (fun _ => true) (fun e _ ih lo => lo.ble e.born && (e.born.blt clk && ih (Nat.succ e.born))) l
def rdyIn (ds : List Ent) (h : Heap) (v : V) : OR := match v with
  | .mapN => .ok (.bool true) h
  | .map b => match h.obj b with
    | some (.map ks clk) => match incr clk ks 0, allIn ds ks with
      | true, some r => .ok (.bool r) h
      | _, _ => .bad
    | _ => .bad
  | _ => .bad
def valOf (r : Option (Option Ent)) : Option V := match r with
  | none => none
  | some none => some .mapN
  | some (some e) => some e.val
def rdyAt (n x : Nat) (h : Heap) (a b : Option V) : OR := match a, b with
  | some (.map m), some (.map d) => (match h.obj m, h.obj d with
    | some (.map es _), some (.map ds _) => (match valOf (find (eqKey .str) (.str n x) es) with
      | some v => rdyIn ds h v
      | none => .bad)
    | _, _ => .bad)
  | _, _ => .bad
def moreRdy (f0 : Nat) : Nat → List V → Heap → OR := fun f as h => match f.beq f0, as with
  | true, [.str n x, .ptr b1 o1, .ptr b2 o2] => rdyAt n x h (h.load1 b1 o1) (h.load1 b2 o2)
  | _, _ => .bad

theorem incr_at {clk : Nat} : ∀ {l : List Ent} {lo : Nat}, incr clk l lo = true → (∀ e ∈ l, lo ≤ e.born ∧ e.born < clk) ∧ (l.map (·.born)).Nodup
  | [], _, _ => ⟨fun e h => by simp at h, by simp⟩
  | a :: l, lo, h => by
    have h : (lo.ble a.born && (a.born.blt clk && incr clk l (Nat.succ a.born))) = true := h
    have h1 := Bool.and_of h; have h2 := Bool.and_of h1.2
    obtain ⟨i1, i2⟩ := incr_at h2.2
    have e1 : lo ≤ a.born := Nat.le_of_ble_eq_true h1.1
    have e2 : a.born < clk := by have := h2.1; rw [nblt] at this; simpa using this
    refine ⟨fun e he => ?_, ?_⟩
    · rcases List.mem_cons.1 he with rfl | he
      · exact ⟨e1, e2⟩
      · have := i1 e he; exact ⟨by omega, this.2⟩
    · rw [List.map_cons, List.nodup_cons]
      refine ⟨fun hm => ?_, i2⟩
      obtain ⟨e, he, hb⟩ := List.mem_map.1 hm
      have := (i1 e he).1
      omega
theorem allIn_at {d : List Ent} : ∀ {l : List Ent} {r : Bool}, allIn d l = some r → (∀ e ∈ l, ∃ b, trueIn d e.key = some b ∧ (r = true → b = true)) ∧ ((∀ e ∈ l, trueIn d e.key = some true) → r = true)
  | [], r, h => by cases h; exact ⟨fun e h => by simp at h, fun _ => rfl⟩
  | a :: l, r, h => by
    have h : (match trueIn d a.key, allIn d l with
      | some a, some b => some (a && b)
      | _, _ => none) = some r := h
    cases h1 : trueIn d a.key with
    | none => rw [h1] at h; cases h
    | some x =>
      cases h2 : allIn d l with
      | none => rw [h1, h2] at h; cases h
      | some y =>
        rw [h1, h2] at h
        have h : some (x && y) = some r := h
        cases h
        obtain ⟨i1, i2⟩ := allIn_at h2
        refine ⟨fun e he => ?_, fun hall => ?_⟩
        · rcases List.mem_cons.1 he with rfl | he
          · exact ⟨x, h1, fun hr => (Bool.and_of hr).1⟩
          · obtain ⟨b, hb, hi⟩ := i1 e he
            exact ⟨b, hb, fun hr => hi (Bool.and_of hr).2⟩
        · have e1 := hall a (List.mem_cons_self ..)
          rw [h1] at e1; cases e1
          rw [i2 (fun e he => hall e (List.mem_cons_of_mem _ he))]; rfl
theorem entsRel.born {ι : Inj} : ∀ {l : List Ent} {m : List MapEntry}, entsRel ι l m → m.map (·.born) = l.map (·.born)
  | [], m, e => by simp [entsRel] at e; simp [e]
  | a :: l, m, e => by
    simp only [entsRel] at e; obtain ⟨x, xs, rfl, h1, h2, h3, h4⟩ := e
    simp [h3, h4.born]
theorem entsRel.left {ι : Inj} : ∀ {l : List Ent} {m : List MapEntry}, entsRel ι l m → ∀ e ∈ l, ∃ x ∈ m, vrel ι e.key x.key ∧ x.born = e.born
  | [], m, _, e, he => by simp at he
  | a :: l, m, e, b, hb => by
    simp only [entsRel] at e; obtain ⟨x, xs, rfl, h1, h2, h3, h4⟩ := e
    rcases List.mem_cons.1 hb with rfl | hb
    · exact ⟨x, List.mem_cons_self .., h1, h3⟩
    · obtain ⟨y, hy, k⟩ := h4.left b hb
      exact ⟨y, List.mem_cons_of_mem _ hy, k⟩
theorem entsRel.right {ι : Inj} : ∀ {l : List Ent} {m : List MapEntry}, entsRel ι l m → ∀ x ∈ m, ∃ e ∈ l, vrel ι e.key x.key ∧ x.born = e.born
  | [], m, e, x, hx => by simp [entsRel] at e; subst e; simp at hx
  | a :: l, m, e, y, hy => by
    simp only [entsRel] at e; obtain ⟨x, xs, rfl, h1, h2, h3, h4⟩ := e
    rcases List.mem_cons.1 hy with rfl | hy
    · exact ⟨a, List.mem_cons_self .., h1, h3⟩
    · obtain ⟨b, hb, k⟩ := h4.right y hy
      exact ⟨b, List.mem_cons_of_mem _ hb, k⟩

/-! ### the machine's steps -/
structure OpIs (o : Oper) (d : Nat) (op : Go.Op) : Prop where
  dst : o.dst = some d
  op : o.op = op
  guard : o.guard = none
section
variable {P : Program} {ops : Array Oper} {Q : Exit → Act → World → Prop} {a : Act} {w w' : World} {rest : List Oper} {o : Oper}
theorem wpl_op {d : Nat} {op : Go.Op} {v : Value} (i : OpIs o d op) (hr : (execOp a.eval o).run P w = .ok (.value v) w') (k : wpList P ops Q rest (a.put (some d) v) w') : wpList P ops Q (o :: rest) a w := by
  refine wpList_yes (by simp [Region.wanted, i.guard]) ?_
  unfold Oper.wp
  rw [hr, Oper.upon_value, i.dst]
  exact k
theorem wp_reg {id : Nat} (h : wpList P ops Q ops.toList a w) : (Code.region id ops false).wp P Q a w := by
  refine wp_region ?_
  have hl := wpOps_eq_wpList (P := P) (ops := ops) (Q := Q) ops.toList 0 (fun j => by simp)
  rw [List.range_eq_range']
  simp only [Array.length_toList] at hl
  rw [hl]; exact h
end
/-- the temporaries that matter -/
structure Tm (a : Act) (l : List (Nat × Value)) : Prop where
  size : a.tmps.size = 18
  defers : a.defers = []
  at_ : ∀ p ∈ l, a.tmps.getD p.1 undef = p.2
theorem Tm.put {a : Act} {l : List (Nat × Value)} (t : Tm a l) (d : Nat) (v : Value) (hd : d < 18) : Tm (a.put (some d) v) ((d, v) :: l.filter fun p => p.1 != d) := by
  refine ⟨by simp [Act.put, t.size], t.defers, fun p hp => ?_⟩
  show (a.tmps.setIfInBounds d v).getD p.1 undef = p.2
  rw [getD_put (by rw [t.size]; exact hd)]
  rcases List.mem_cons.1 hp with rfl | hp
  · simp
  · have h := List.mem_filter.1 hp
    have h2 : p.1 ≠ d := by simpa using h.2
    rw [if_neg h2]; exact t.at_ p h.1
theorem Tm.get {a : Act} {l : List (Nat × Value)} (t : Tm a l) (k : Nat) {d : Nat} {v : Value} (h : l[k]? = some (d, v)) : a.eval (.tmp d) = v := t.at_ (d, v) (List.mem_of_getElem? h)

def rdyCode (o0 l1 m1 k1 r1 n2 e2 y3 x3 a3 l4 m4 k4 u4 o5 o6 : Oper) (i0 i1 i2 i3 i4 i5 i6 b0 b1 : Nat) : Code :=
  .seq (.region i0 #[o0] false) (.seq (.seq (.region i1 #[l1, m1, k1, r1] false) (.block b0 (.loop (.seq (.region i2 #[n2, e2] false)
    (.seq (.cond (.tmp 11) .skip (.exit b0)) (.block b1 (.seq (.region i3 #[y3, x3, a3] false) (.seq (.region i4 #[l4, m4, k4, u4] false)
      (.cond (.tmp 17) (.seq (.region i5 #[o5] false) .ret) .skip)))))))))
    (.seq (.region i6 #[o6] false) .ret))

section
variable {P : Program} {ι : Inj} {h : Heap} {w : World} {ρ : Operand → Value} {o : Oper} {v : V}
theorem light_c (g : Good ι h w) {e : OpL} (hok : okL P (fun x a => @decide (vrel ι (A.ev a [] Env.nil) (ρ x)) (Classical.propDecidable _)) o.op e = true) (he : light e (fun a => a.ev [] Env.nil) h = .val v) :
    ∃ v', (execOp ρ o).run P w = .ok (.value v') w ∧ vrel ι v v' := light_val g (fun x a hd => @of_decide_eq_true _ (Classical.propDecidable _) hd) hok he
end
structure RdyT (P : Program) (tt tm ts tb : TypeId) : Prop where
  l1 : aggIs P tt false = true
  l2 : aggIs P tm false = true
  u1 : P.underlying tt = some (.map ts tm)
  u2 : P.underlying tm = some (.map ts tb)
  s : P.underlying ts = some .string
  z1 : zeroIs P tm .mapN = true
  z2 : zeroIs P tb (.bool false) = true
end
end Go.Eng
namespace Go.Eng
noncomputable section
open Go.ChangeMaps (setBlock)
section
variable {P : Program} {ι : Inj} {h : Heap}

/-- no block that was there has changed -/
structure Old (w w' : World) : Prop where
  old : ∀ c, c < w.heap.size → w'.heap[c]? = w.heap[c]?
  size : w.heap.size < w'.heap.size
  tape : w'.tape = w.tape
  os : w'.os = w.os
  out : w'.output = w.output
theorem Old.alloc (w : World) (o : Go.Obj) : Old w (w.alloc o) := ⟨alloc_old w o, by simp, rfl, rfl, rfl⟩
theorem Old.set {w w1 : World} (a : Old w w1) {r : Nat} (hr : w.heap.size ≤ r) (o : Go.Obj) : Old w (setBlock w1 r o) :=
  ⟨fun c hc => by
    show (w1.heap.setIfInBounds r o)[c]? = _
    rw [Array.getElem?_setIfInBounds, if_neg (by omega)]; exact a.old c hc, by show w.heap.size < (w1.heap.setIfInBounds r o).size; rw [Array.size_setIfInBounds]; exact a.size, a.tape, a.os, a.out⟩
theorem Old.drew {w w1 : World} (a : Old w w1) : Old w w1.drew := ⟨a.old, a.size, a.tape, a.os, a.out⟩
theorem Old.good {w w1 : World} (a : Old w w1) (g : Good ι h w) : Good ι h w1 := g.world a.old (Nat.le_of_lt a.size)
theorem Old.chg {w w1 : World} (a : Old w w1) (g : Good ι h w) : Chg ι h w ι h w1 := Chg.same (a.good g) ⟨fun c hc _ => a.old c hc, Nat.le_of_lt a.size, a.tape, a.os, a.out⟩ rfl
theorem setBlock_at {w : World} {r : Nat} (hr : r < w.heap.size) (o : Go.Obj) : (setBlock w r o).heap[r]? = some o := by
  show (w.heap.setIfInBounds r o)[r]? = _
  rw [Array.getElem?_setIfInBounds, if_pos rfl, if_pos hr]

variable {tt tm ts tb : TypeId} {o0 l1 m1 k1 r1 n2 e2 y3 x3 a3 l4 m4 k4 u4 o5 o6 : Oper} {i0 i1 i2 i3 i4 i5 i6 b0 b1 : Nat}
/-- what the sixteen operations are -/
structure RdyO (tt tm tb : TypeId) (o0 l1 m1 k1 r1 n2 e2 y3 x3 a3 l4 m4 k4 u4 o5 o6 : Oper) : Prop where
  o0 : OpIs o0 4 (.assign (.const (.bool false)))
  l1 : OpIs l1 6 (.load tt (.tmp 1))
  m1 : OpIs m1 7 (.move (.tmp 0))
  k1 : OpIs k1 8 (.lookup tt (.tmp 6) (.tmp 7) false)
  r1 : OpIs r1 9 (.range tm (.tmp 8))
  n2 : OpIs n2 10 (.next (.tmp 9) false)
  e2 : OpIs e2 11 (.extract (.tmp 10) 0)
  y3 : OpIs y3 12 (.entry (.tmp 9))
  x3 : OpIs x3 13 (.extract (.tmp 12) 0)
  a3 : OpIs a3 5 (.assign (.tmp 13))
  l4 : OpIs l4 14 (.load tm (.tmp 2))
  m4 : OpIs m4 15 (.move (.tmp 5))
  k4 : OpIs k4 16 (.lookup tm (.tmp 14) (.tmp 15) false)
  u4 : OpIs u4 17 (.unOp .not tb (.tmp 16))
  o5 : OpIs o5 4 (.assign (.const (.bool false)))
  o6 : OpIs o6 4 (.assign (.const (.bool true)))

theorem run_load (T : RdyT P tt tm ts tb) {w : World} (g : Good ι h w) {ρ : Operand → Value} {o : Oper} {d t p b q : Nat} {x : V} (ht : aggIs P t false = true) (i : OpIs o d (.load t (.tmp p))) (hp : vrel ι (.ptr b q) (ρ (.tmp p))) (hl : h.load1 b q = some x) :
    ∃ v', (execOp ρ o).run P w = .ok (.value v') w ∧ vrel ι x v' := by
  refine light_c g (e := .load (.c (.ptr b q))) ?_ (by show LR.of (h.load1 b q) = _; rw [hl]; rfl)
  rw [i.op]
  show (aggIs P t false && _) = true
  rw [ht, Bool.true_and]
  exact @decide_eq_true _ (Classical.propDecidable _) hp
theorem run_look {w : World} (g : Good ι h w) {ρ : Operand → Value} {o : Oper} {d t p q kt et : Nat} {m k z x : V} (hu : P.underlying t = some (.map kt et)) (hk : P.underlying kt = some .string) (hz : zeroIs P et z = true) (i : OpIs o d (.lookup t (.tmp p) (.tmp q) false))
    (hm : vrel ι m (ρ (.tmp p))) (hq : vrel ι k (ρ (.tmp q))) (hl : light (.lookup .str z false (.c m) (.c k)) (fun a => a.ev [] Env.nil) h = .val x) :
    ∃ v', (execOp ρ o).run P w = .ok (.value v') w ∧ vrel ι x v' := by
  refine light_c g ?_ hl
  rw [i.op]
  simp only [okL, hu, hk, hz, decide_true, Bool.true_and, Bool.and_true]
  rw [Bool.and_eq_true]
  exact ⟨@decide_eq_true _ (Classical.propDecidable _) hm, @decide_eq_true _ (Classical.propDecidable _) hq⟩

/-- one round's end: what is at hand behind the step -/
theorem rdy_round (T : RdyT P tt tm ts tb) (O : RdyO tt tm tb o0 l1 m1 k1 r1 n2 e2 y3 x3 a3 l4 m4 k4 u4 o5 o6) {w w1 : World} (old : Old w w1) (g : Good ι h w) {Q : Exit → Act → World → Prop} {a : Act} {it p2 kv : Value} {b2 q2 d : Nat} {ds : List Ent} {c : Nat} {k : V} {b : Bool}
    (t : Tm a [(11, .bool true), (2, p2), (9, it)]) {tp : Value} (hy : (execOp a.eval y3).run P w1 = .ok (.value (.tuple #[kv, tp])) w1) (hk : vrel ι k kv)
    (hp2 : vrel ι (.ptr b2 q2) p2) (hd : h.load1 b2 q2 = some (.map d)) (hob : h.obj d = some (.map ds c)) (hb : trueIn ds k = some b)
    (hfalse : b = false → ∀ a', Tm a' [(4, .bool false)] → Q .ret a' w1) (htrue : b = true → ∀ a', Tm a' [(2, p2), (9, it)] → Q .normal a' w1) :
    (Code.block b1 (.seq (.region i3 #[y3, x3, a3] false) (.seq (.region i4 #[l4, m4, k4, u4] false) (.cond (.tmp 17) (.seq (.region i5 #[o5] false) .ret) .skip)))).wp P Q a w1 := by
  have g1 := old.good g
  refine wp_block (wp_seq (wp_reg ?_))
  refine wpl_op O.y3 hy ?_
  have t := t.put 12 (.tuple #[kv, tp]) (by decide)
  have hx : (execOp (a.put (some 12) (.tuple #[kv, tp])).eval x3).run P w1 = .ok (.value kv) w1 := by
    have e := t.get 0 (d := 12) rfl
    simp only [execOp, O.x3.op, e]; rfl
  refine wpl_op O.x3 hx ?_
  have t := t.put 13 kv (by decide)
  refine wpl_op O.a3 (v := kv) (by have e := t.get 0 (d := 13) rfl; simp only [execOp, O.a3.op, e]; rfl) ?_
  have t := t.put 5 kv (by decide)
  generalize ((a.put (some 12) (.tuple #[kv, tp])).put (some 13) kv).put (some 5) kv = a1 at t ⊢
  refine wp_seq (wp_reg ?_)
  have e2 : a1.eval (.tmp 2) = p2 := t.get 4 (d := 2) rfl
  obtain ⟨v4, h4, r4⟩ := run_load T g1 (ρ := a1.eval) T.l2 O.l4 (by rw [e2]; exact hp2) hd
  refine wpl_op O.l4 h4 ?_
  have t := t.put 14 v4 (by decide)
  refine wpl_op O.m4 (v := kv) (by have e := t.get 1 (d := 5) rfl; simp only [execOp, O.m4.op, e]; rfl) ?_
  have t := t.put 15 kv (by decide)
  generalize (a1.put (some 14) v4).put (some 15) kv = a2 at t ⊢
  have hlk : light (.lookup .str (.bool false) false (.c (.map d)) (.c k)) (fun a => a.ev [] Env.nil) h = .val (.bool b) := by
    show Obj.map? .bad (fun es _ => lookup1 .str (.bool false) false k es) (h.obj d) = _
    rw [hob]
    show lookup1 .str (.bool false) false k ds = _
    unfold lookup1
    unfold trueIn at hb
    cases hf : find (eqKey .str) k ds with
    | none => rw [hf] at hb; cases hb
    | some r =>
      rw [hf] at hb
      cases r with
      | none => cases hb; rfl
      | some e =>
        have hb : e.val.asBool = some b := hb
        show LR.val e.val = _
        generalize e.val = ev at hb
        cases ev <;> first | (cases hb; done) | skip
        cases hb; rfl
  obtain ⟨v5, h5, r5⟩ := run_look g1 (ρ := a2.eval) T.u2 T.s T.z2 O.k4 (by rw [t.get 1 (d := 14) rfl]; exact r4) (by rw [t.get 0 (d := 15) rfl]; exact hk) hlk
  have r5 : v5 = .bool b := r5
  subst r5
  refine wpl_op O.k4 h5 ?_
  have t := t.put 16 (.bool b) (by decide)
  refine wpl_op O.u4 (v := .bool (!b)) (by have e := t.get 0 (d := 16) rfl; simp only [execOp, O.u4.op, e]; rfl) ?_
  have t := t.put 17 (.bool (!b)) (by decide)
  generalize (a2.put (some 16) (.bool b)).put (some 17) (.bool (!b)) = a3 at t ⊢
  refine wp_cond (t.get 0 (d := 17) rfl) ?_
  cases b with
  | true =>
    refine wp_skip ?_
    exact htrue rfl a3 ⟨t.size, t.defers, fun p hp => t.at_ p (by simp at hp ⊢; rcases hp with rfl | rfl <;> simp)⟩
  | false =>
    refine wp_seq (wp_reg ?_)
    refine wpl_op O.o5 (v := .bool false) (by simp only [execOp, O.o5.op]; rfl) ?_
    have t := t.put 4 (.bool false) (by decide)
    refine wp_ret ?_
    exact hfalse rfl _ ⟨t.size, t.defers, fun p hp => t.at_ p (by simp at hp ⊢; rcases hp with rfl; simp)⟩
end
end
end Go.Eng
namespace Go.Eng
noncomputable section
open Go.ChangeMaps (setBlock)
section
variable {P : Program} {ι : Inj} {h : Heap}
variable {tt tm ts tb : TypeId} {o0 l1 m1 k1 r1 n2 e2 y3 x3 a3 l4 m4 k4 u4 o5 o6 : Oper} {i0 i1 i2 i3 i4 i5 i6 b0 b1 : Nat}
def rdyBody (n2 e2 y3 x3 a3 l4 m4 k4 u4 o5 : Oper) (i2 i3 i4 i5 b0 b1 : Nat) : Code := .seq (.region i2 #[n2, e2] false) (.seq (.cond (.tmp 11) .skip (.exit b0)) (.block b1 (.seq (.region i3 #[y3, x3, a3] false) (.seq (.region i4 #[l4, m4, k4, u4] false)
      (.cond (.tmp 17) (.seq (.region i5 #[o5] false) .ret) .skip)))))
theorem left_lt {es : Array MapEntry} {seen : Array Nat} {e : MapEntry} (he : e ∈ (leftOf es seen).toList) : (leftOf es (seen.push e.born)).size < (leftOf es seen).size := by
  have hm : e ∈ es.toList ∧ (!seen.contains e.born) = true := by
    unfold leftOf at he; simpa using he
  have h1 : ∀ s, (leftOf es s).size = (es.toList.filter fun e => !s.contains e.born).length := fun s => by
    unfold leftOf; rw [← Array.length_toList, Array.toList_filter]
  rw [h1, h1]
  exact filter_lt _ _ (fun x hx => by simp at hx ⊢; exact hx.1) e hm.2 (by simp) es.toList hm.1
/-- the step of a round that ends the loop, or goes on -/
theorem rdy_loop (T : RdyT P tt tm ts tb) (O : RdyO tt tm tb o0 l1 m1 k1 r1 n2 e2 y3 x3 a3 l4 m4 k4 u4 o5 o6) {w : World} (g : Good ι h w) {bm clk : Nat} {es' : Array MapEntry} {ks ds : List Ent} (hb : w.heap[bm]? = some (.map es' clk)) (hrel : entsRel ι ks es'.toList)
    (hi : incr clk ks 0 = true) {r : Bool} (ha : allIn ds ks = some r) {p2 : Value} {b2 q2 d c : Nat} (hp2 : vrel ι (.ptr b2 q2) p2) (hd : h.load1 b2 q2 = some (.map d)) (hob : h.obj d = some (.map ds c)) {Q : Exit → Act → World → Prop}
    (hfalse : r = false → ∀ a' w1, Old w w1 → Tm a' [(4, .bool false)] → Q .ret a' w1) (htrue : r = true → ∀ a' w1, Old w w1 → Tm a' [] → Q (.exit b0) a' w1) :
    ∀ (m : Nat) (seen : Array Nat) (c0 : Nat) (a : Act) (w1 : World), Old w w1 → w1.heap[w.heap.size]? = some (.mapIter (some bm) clk seen c0) → clk ≤ c0 → (leftOf es' seen).size < m → Tm a [(2, p2), (9, .pointer (some ⟨w.heap.size, 0, none⟩))] →
      (∀ e ∈ ks, seen.contains e.born = true → trueIn ds e.key = some true) → Code.rounds P (rdyBody n2 e2 y3 x3 a3 l4 m4 k4 u4 o5 i2 i3 i4 i5 b0 b1) Q m a w1
  | 0, _, _, _, _, _, _, _, hm, _, _ => by omega
  | m + 1, seen, c0, a, w1, old, hit, hc0, hm, t, hs => by
    have hlt : bm < w.heap.size := (Array.getElem?_eq_some_iff.1 hb).1
    have hb1 : w1.heap[bm]? = some (.map es' clk) := (old.old bm hlt).trans hb
    obtain ⟨hi1, hi2⟩ := incr_at hi
    have hborn : ∀ x ∈ es'.toList, x.born < clk := fun x hx => by
      obtain ⟨e, he, _, hbn⟩ := hrel.right x hx
      rw [hbn]; exact (hi1 e he).2
    have hnd : (es'.toList.map (·.born)).Nodup := by rw [hrel.born]; exact hi2
    rw [rounds_succ]
    refine wp_seq (wp_reg ?_)
    have e9 : a.eval (.tmp 9) = .pointer (some ⟨w.heap.size, 0, none⟩) := t.get 1 (d := 9) rfl
    have hex : ∀ {v : Value} {w2 : World}, (Instr.next (.pointer (some ⟨w.heap.size, 0, none⟩)) false n2.type).run P w1 = .ok v w2 → (execOp a.eval n2).run P w1 = .ok (.value v) w2 := by
      intro v w2 hn
      simp only [execOp, O.n2.op, e9, Sem.run_bind, hn]; rfl
    obtain ⟨ha1, ha2⟩ := allIn_at ha
    rcases run_next_at (P := P) w1 n2.type w.heap.size bm clk c0 seen es' clk hit hb1 hborn hc0 with ⟨h0, hn⟩ | ⟨e, he, w2, hw2, hn⟩
    · refine wpl_op O.n2 (hex hn) ?_
      have t := t.put 10 (.tuple #[.bool false]) (by decide)
      refine wpl_op O.e2 (v := .bool false) (by have e := t.get 0 (d := 10) rfl; simp only [execOp, O.e2.op, e]; rfl) ?_
      have t := t.put 11 (.bool false) (by decide)
      refine wp_seq (wp_cond (t.get 0 (d := 11) rfl) ?_)
      refine wp_exit ?_
      refine htrue (ha2 fun e he => hs e he ?_) _ w1 old ⟨t.size, t.defers, fun p hp => by simp at hp⟩
      obtain ⟨x, hx, _, hbn⟩ := hrel.left e he
      rw [← hbn]
      cases hcn : seen.contains x.born with
      | true => rfl
      | false =>
        exfalso
        have : x ∈ (leftOf es' seen).toList := by unfold leftOf; rw [Array.toList_filter]; exact List.mem_filter.2 ⟨hx, by rw [hcn]; rfl⟩
        rw [List.eq_nil_of_length_eq_zero (l := (leftOf es' seen).toList) (by simpa using h0)] at this
        simp at this
    · refine wpl_op O.n2 (hex hn) ?_
      have t := t.put 10 (.tuple #[.bool true, e.key, e.val]) (by decide)
      refine wpl_op O.e2 (v := .bool true) (by have e := t.get 0 (d := 10) rfl; simp only [execOp, O.e2.op, e]; rfl) ?_
      have t := t.put 11 (.bool true) (by decide)
      refine wp_seq (wp_cond (t.get 0 (d := 11) rfl) ?_)
      refine wp_skip ?_
      have old2 : Old w w2 := hw2.elim (fun e => e ▸ old) (fun e => e ▸ old.drew)
      have old3 := old2.set (Nat.le_refl _) (.mapIter (some bm) clk (seen.push e.born) clk)
      have hit3 : (setBlock w2 w.heap.size (.mapIter (some bm) clk (seen.push e.born) clk)).heap[w.heap.size]? = some (.mapIter (some bm) clk (seen.push e.born) clk) := setBlock_at old2.size _
      have hb3 := (old3.old bm hlt).trans hb
      have hem : e ∈ es'.toList := by unfold leftOf at he; simp at he; simpa using he.1
      obtain ⟨k, hk, hkr, hkb⟩ := hrel.right e hem
      obtain ⟨b, hbt, hbr⟩ := ha1 k hk
      refine rdy_round T O old3 g (it := .pointer (some ⟨w.heap.size, 0, none⟩)) (p2 := p2) (kv := e.key) (tp := e.val) (b := b) (k := k.key) ⟨t.size, t.defers, fun p hp => t.at_ p (by simp at hp ⊢; rcases hp with rfl | rfl | rfl <;> simp)⟩ ?_ hkr hp2 hd hob hbt (fun hbf a' t' => ?_) (fun hbt' a' t' => ?_)
      · have hen := run_entry_at (P := P) _ w.heap.size bm clk seen es' clk e hit3 hb3 hem hnd
        have e9 := t.get 3 (d := 9) rfl
        simp only [execOp, O.y3.op, e9, Sem.run_bind, hen]; rfl
      · subst hbf
        refine hfalse ?_ a' _ old3 t'
        cases r with
        | false => rfl
        | true => have := hbr rfl; cases this
      · subst hbt'
        refine rdy_loop T O g hb hrel hi ha hp2 hd hob hfalse htrue m (seen.push e.born) clk a' _ old3 hit3 (Nat.le_refl _) (by have := left_lt he; omega) t' (fun x hx hcn => ?_)
        by_cases hxb : x.born = k.born
        · have : x = k := by
            have hx' := List.mem_iff_getElem?.1 hx
            have hk' := List.mem_iff_getElem?.1 hk
            obtain ⟨i, hi'⟩ := hx'
            obtain ⟨j, hj'⟩ := hk'
            have hij : i = j := by
              have n1 : (ks.map (·.born))[i]? = some k.born := by rw [List.getElem?_map, hi', ← hxb]; rfl
              have n2 : (ks.map (·.born))[j]? = some k.born := by rw [List.getElem?_map, hj']; rfl
              exact (List.getElem?_inj (by exact (List.getElem?_eq_some_iff.1 n1).1) hi2).1 (n1.trans n2.symm)
            subst hij
            rw [hi'] at hj'; cases hj'; rfl
          subst this; exact hbt
        · refine hs x hx ?_
          rw [Array.contains_push, Bool.or_eq_true] at hcn
          rcases hcn with hcn | hcn
          · exact hcn
          · exfalso
            exact hxb ((by simpa using hcn : x.born = e.born).trans hkb)
end
end
end Go.Eng
namespace Go.Eng
noncomputable section
open Go.ChangeMaps (setBlock)
section
variable {P : Program} {ι : Inj} {h : Heap}
variable {tt tm ts tb : TypeId} {o0 l1 m1 k1 r1 n2 e2 y3 x3 a3 l4 m4 k4 u4 o5 o6 : Oper} {i0 i1 i2 i3 i4 i5 i6 b0 b1 : Nat}
theorem rdy_calls (T : RdyT P tt tm ts tb) (O : RdyO tt tm tb o0 l1 m1 k1 r1 n2 e2 y3 x3 a3 l4 m4 k4 u4 o5 o6) {f0 : Nat} {fn : Func} (hf : P.funcs[f0]? = some fn)
    (hbd : fn.body = some (rdyCode o0 l1 m1 k1 r1 n2 e2 y3 x3 a3 l4 m4 k4 u4 o5 o6 i0 i1 i2 i3 i4 i5 i6 b0 b1)) (hn : fn.ntmps = 18) (hres : fn.results = #[.tmp 4]) {w : World} (g : Good ι h w)
    {n x c1 q1 c2 q2 : Nat} {args : Array Value} (hr : vrels ι [.str n x, .ptr c1 q1, .ptr c2 q2] args.toList) (hne : rdyAt n x h (h.load1 c1 q1) (h.load1 c2 q2) ≠ .bad) :
    Calls P f0 args w (OutP ι h w (rdyAt n x h (h.load1 c1 q1) (h.load1 c2 q2))) := by
  obtain ⟨s, l1', e1, rs, hr⟩ := hr
  obtain ⟨p1, l2', e2', rp1, hr⟩ := hr
  obtain ⟨p2, l3', e3', rp2, hr⟩ := hr
  have hr : l3' = [] := hr
  subst hr e3' e2'
  have ha : args = #[s, p1, p2] := by rw [← Array.toArray_toList (xs := args), e1]
  subst ha
  -- what the summary looks at
  generalize hA : h.load1 c1 q1 = A1 at hne ⊢
  generalize hB : h.load1 c2 q2 = A2 at hne ⊢
  unfold rdyAt at hne ⊢
  split at hne <;> first | exact absurd rfl hne | skip
  rename_i m d
  split at hne <;> first | exact absurd rfl hne | skip
  rename_i es _ ds cd hm hd
  cases hv : valOf (find (eqKey .str) (.str n x) es) with
  | none => rw [hv] at hne; exact absurd rfl hne
  | some v =>
    rw [hv] at hne
    show Calls P f0 #[s, p1, p2] w (OutP ι h w (rdyIn ds h v))
    replace hne : rdyIn ds h v ≠ .bad := hne
    refine calls_of_wp hf hbd ?_
    rw [hn]
    have t : Tm { tmps := #[s, p1, p2] ++ Array.replicate (18 - (#[s, p1, p2] : Array Value).size) undef, defers := [] } [(0, s), (1, p1), (2, p2)] := by
      refine ⟨by simp, rfl, fun p hp => ?_⟩
      simp only [List.mem_cons, List.not_mem_nil, or_false] at hp
      rcases hp with rfl | rfl | rfl <;> simp [Array.getD_eq_getD_getElem?]
    generalize ({ tmps := #[s, p1, p2] ++ Array.replicate (18 - (#[s, p1, p2] : Array Value).size) undef, defers := [] } : Act) = a at t ⊢
    -- what is told at the end
    have hend : ∀ (b : Bool), rdyIn ds h v = .ok (.bool b) h → ∀ a' w1, Old w w1 → Tm a' [(4, .bool b)] → bodyPost P fn (OutP ι h w (rdyIn ds h v)) .ret a' w1 := by
      intro b hb a' w1 old t'
      refine ⟨t'.defers, .bool b, ?_, ?_⟩
      · have e4 : a'.tmps.getD 4 undef = .bool b := t'.get 0 (d := 4) rfl
        rw [results_tmp hres, e4]
      · rw [hb]
        exact ⟨ι, old.chg g, rfl⟩
    refine wp_seq (wp_reg ?_)
    refine wpl_op O.o0 (v := .bool false) (by simp only [execOp, O.o0.op]; rfl) ?_
    have t := t.put 4 (.bool false) (by decide)
    generalize a.put (some 4) (.bool false) = a at t ⊢
    refine wp_seq (wp_seq (wp_reg ?_))
    obtain ⟨v6, h6, r6⟩ := run_load T g (ρ := a.eval) T.l1 O.l1 (by rw [t.get 2 (d := 1) rfl]; exact rp1) hA
    refine wpl_op O.l1 h6 ?_
    have t := t.put 6 v6 (by decide)
    refine wpl_op O.m1 (v := s) (by have e := t.get 2 (d := 0) rfl; simp only [execOp, O.m1.op, e]; rfl) ?_
    have t := t.put 7 s (by decide)
    generalize (a.put (some 6) v6).put (some 7) s = a at t ⊢
    have hlk : light (.lookup .str .mapN false (.c (.map m)) (.c (.str n x))) (fun a => a.ev [] Env.nil) h = .val v := by
      show Obj.map? .bad (fun es _ => lookup1 .str .mapN false (.str n x) es) (h.obj m) = _
      rw [hm]
      show lookup1 .str .mapN false (.str n x) es = _
      unfold lookup1
      cases hfd : find (eqKey .str) (.str n x) es with
      | none => rw [hfd] at hv; cases hv
      | some r =>
        rw [hfd] at hv
        cases r with
        | none => cases hv; rfl
        | some e => cases hv; rfl
    obtain ⟨v8, h8, r8⟩ := run_look g (ρ := a.eval) T.u1 T.s T.z1 O.k1 (by rw [t.get 1 (d := 6) rfl]; exact r6) (by rw [t.get 0 (d := 7) rfl]; exact rs) hlk
    refine wpl_op O.k1 h8 ?_
    have t := t.put 8 v8 (by decide)
    generalize a.put (some 8) v8 = a at t ⊢
    have e8 : a.eval (.tmp 8) = v8 := t.get 0 (d := 8) rfl
    unfold rdyIn at hne
    split at hne
    · -- a nil map
      have r8 : v8 = .map none := r8
      subst r8
      have hrg : (execOp a.eval r1).run P w = .ok (.value (.pointer (some ⟨w.heap.size, 0, none⟩))) (w.alloc (.mapIter none 0 #[] 0)) := by
        simp only [execOp, O.r1.op, e8, Sem.run_bind, run_range_nilMap w tm ts tb T.u2]; rfl
      refine wpl_op O.r1 hrg ?_
      have t := t.put 9 (.pointer (some ⟨w.heap.size, 0, none⟩)) (by decide)
      generalize a.put (some 9) (.pointer (some ⟨w.heap.size, 0, none⟩)) = a at t ⊢
      refine wp_block (wp_loop_rounds 1 ?_)
      rw [rounds_succ]
      refine wp_seq (wp_reg ?_)
      have hnx : (execOp a.eval n2).run P (w.alloc (.mapIter none 0 #[] 0)) = .ok (.value (.tuple #[.bool false])) (w.alloc (.mapIter none 0 #[] 0)) := by
        have e9 := t.get 0 (d := 9) rfl
        simp only [execOp, O.n2.op, e9, Sem.run_bind, run_next_nilMap]; rfl
      refine wpl_op O.n2 hnx ?_
      have t := t.put 10 (.tuple #[.bool false]) (by decide)
      refine wpl_op O.e2 (v := .bool false) (by have e := t.get 0 (d := 10) rfl; simp only [execOp, O.e2.op, e]; rfl) ?_
      have t := t.put 11 (.bool false) (by decide)
      refine wp_seq (wp_cond (t.get 0 (d := 11) rfl) ?_)
      refine wp_exit ?_
      show (if b0 = b0 then _ else _)
      rw [if_pos rfl]
      refine wp_seq (wp_reg ?_)
      refine wpl_op O.o6 (v := .bool true) (by simp only [execOp, O.o6.op]; rfl) ?_
      have t := t.put 4 (.bool true) (by decide)
      refine wp_ret ?_
      exact hend true rfl _ _ (Old.alloc w _) ⟨t.size, t.defers, fun p hp => t.at_ p (by simp at hp ⊢; rcases hp with rfl; simp)⟩
    · rename_i b
      obtain ⟨B, hBB, r8⟩ := r8
      subst r8
      split at hne <;> first | exact absurd rfl hne | skip
      rename_i ks clk hks
      split at hne <;> first | exact absurd rfl hne | skip
      rename_i r hi hall
      have hdone : rdyIn ds h (.map b) = .ok (.bool r) h := by
        show (match h.obj b with
          | some (.map ks clk) => (match incr clk ks 0, allIn ds ks with
            | true, some r => OR.ok (.bool r) h
            | _, _ => .bad)
          | _ => .bad) = _
        rw [hks]
        show (match incr clk ks 0, allIn ds ks with
            | true, some r => OR.ok (.bool r) h
            | _, _ => .bad) = _
        rw [hi, hall]
      obtain ⟨es', hw, hrel⟩ := map_rel g hBB hks
      have hrg : (execOp a.eval r1).run P w = .ok (.value (.pointer (some ⟨w.heap.size, 0, none⟩))) (w.alloc (.mapIter (some B.c) clk #[] clk)) := by
        simp only [execOp, O.r1.op, e8, Sem.run_bind, run_range_map w tm ts tb B.c es' clk T.u2 hw]; rfl
      refine wpl_op O.r1 hrg ?_
      have t := t.put 9 (.pointer (some ⟨w.heap.size, 0, none⟩)) (by decide)
      refine wp_block (wp_loop_rounds (es'.size + 1) ?_)
      refine rdy_loop T O g hw hrel hi hall rp2 hB (c := cd) hd (fun hrf a' w1 old t' => ?_) (fun hrt a' w1 old t' => ?_) (es'.size + 1) #[] clk _ _ (Old.alloc w _) (alloc_new w _) (Nat.le_refl _) ?_ ⟨t.size, t.defers, fun p hp => t.at_ p (by simp at hp ⊢; rcases hp with rfl | rfl <;> simp)⟩ (fun e _ hcn => by simp at hcn)
      · subst hrf
        exact hend false hdone a' w1 old t'
      · subst hrt
        show (if b0 = b0 then _ else _)
        rw [if_pos rfl]
        refine wp_seq (wp_reg ?_)
        refine wpl_op O.o6 (v := .bool true) (by simp only [execOp, O.o6.op]; rfl) ?_
        have t := t'.put 4 (.bool true) (by decide)
        refine wp_ret ?_
        exact hend true hdone _ _ old ⟨t.size, t.defers, fun p hp => t.at_ p (by simp at hp ⊢; rcases hp with rfl; simp)⟩
      · unfold leftOf
        exact Nat.lt_succ_of_le (Array.size_filter_le ..)
    · exact absurd rfl hne
theorem moreRdy_ok (T : RdyT P tt tm ts tb) (O : RdyO tt tm tb o0 l1 m1 k1 r1 n2 e2 y3 x3 a3 l4 m4 k4 u4 o5 o6) {f0 : Nat} {fn : Func} (hf : P.funcs[f0]? = some fn) (hname : (fn.name == "runtime.NumGoroutine") = false)
    (hbd : fn.body = some (rdyCode o0 l1 m1 k1 r1 n2 e2 y3 x3 a3 l4 m4 k4 u4 o5 o6 i0 i1 i2 i3 i4 i5 i6 b0 b1)) (hn : fn.ntmps = 18) (hres : fn.results = #[.tmp 4]) : MoreOk P (moreRdy f0) := by
  intro f as h
  unfold moreRdy
  split
  · rename_i n x c1 q1 c2 q2 hfe
    have hfe : f = f0 := Nat.eq_of_beq_eq_true hfe
    subst hfe
    refine ⟨?_, fun hne => ⟨⟨fn, hf, hname, by rw [hbd]; rfl⟩, fun ι w args g hr => rdy_calls T O hf hbd hn hres g hr hne⟩⟩
    have hin : ∀ ds v, OR.next h (rdyIn ds h v) := fun ds v => by
      unfold rdyIn
      split
      · exact Nat.le_refl _
      · split
        · split
          · exact Nat.le_refl _
          · trivial
        · trivial
      · trivial
    unfold rdyAt
    split
    · split
      · split
        · exact hin _ _
        · trivial
      · trivial
    · trivial
  · exact ⟨trivial, fun h => absurd rfl h⟩
end
/-- the regions of a piece of code, in order -/
def regsOf : Code → List (Array Oper)
  | .region _ ops _ => [ops]
  | .seq a b => regsOf a ++ regsOf b
  | .cond _ a b => regsOf a ++ regsOf b
  | .block _ a => regsOf a
  | .loop a => regsOf a
  | .scope a => regsOf a
  | _ => []
def opOf (c : Code) (i j : Nat) : Oper := (((regsOf c)[i]?).getD #[])[j]?.getD default
def rdyOf (c : Code) : Code := rdyCode (opOf c 0 0) (opOf c 1 0) (opOf c 1 1) (opOf c 1 2) (opOf c 1 3) (opOf c 2 0) (opOf c 2 1) (opOf c 3 0) (opOf c 3 1) (opOf c 3 2) (opOf c 4 0) (opOf c 4 1) (opOf c 4 2) (opOf c 4 3) (opOf c 5 0) (opOf c 6 0) 0 1 2 3 4 5 6 0 1
def RdyP (tt tm tb : TypeId) (c : Code) : Prop := RdyO tt tm tb (opOf c 0 0) (opOf c 1 0) (opOf c 1 1) (opOf c 1 2) (opOf c 1 3) (opOf c 2 0) (opOf c 2 1) (opOf c 3 0) (opOf c 3 1) (opOf c 3 2) (opOf c 4 0) (opOf c 4 1) (opOf c 4 2) (opOf c 4 3) (opOf c 5 0) (opOf c 6 0)
def codeOf (fn : Func) : Code := fn.body.getD .skip
theorem moreRdy_of {P : Program} {tt tm ts tb : TypeId} (T : RdyT P tt tm ts tb) {f0 : Nat} {fn : Func} (hf : P.funcs[f0]? = some fn) (hname : (fn.name == "runtime.NumGoroutine") = false) (hbd : fn.body = some (rdyOf (codeOf fn))) (O : RdyP tt tm tb (codeOf fn)) (hn : fn.ntmps = 18) (hres : fn.results = #[.tmp 4]) : MoreOk P (moreRdy f0) :=
  moreRdy_ok T O hf hname hbd hn hres
end
end Go.Eng
namespace Go.Eng
noncomputable section

/-! ### a range over slices.Backward's function: the machine's steps, within a fence -/
/-- the temporaries that matter -/
structure Tn (N : Nat) (D : List Deferred) (a : Act) (l : List (Nat × Value)) : Prop where
  size : a.tmps.size = N
  defers : a.defers = D
  at_ : ∀ p ∈ l, a.tmps.getD p.1 undef = p.2
theorem Tn.put {N : Nat} {D : List Deferred} {a : Act} {l : List (Nat × Value)} (t : Tn N D a l) (d : Nat) (v : Value) (hd : d < N) : Tn N D (a.put (some d) v) ((d, v) :: l.filter fun p => p.1 != d) := by
  refine ⟨by simp [Act.put, t.size], t.defers, fun p hp => ?_⟩
  show (a.tmps.setIfInBounds d v).getD p.1 undef = p.2
  rw [getD_put (by rw [t.size]; exact hd)]
  rcases List.mem_cons.1 hp with rfl | hp
  · simp
  · have h := List.mem_filter.1 hp
    have h2 : p.1 ≠ d := by simpa using h.2
    rw [if_neg h2]; exact t.at_ p h.1
theorem Tn.get {N : Nat} {D : List Deferred} {a : Act} {l : List (Nat × Value)} (t : Tn N D a l) (k : Nat) {d : Nat} {v : Value} (h : l[k]? = some (d, v)) : a.eval (.tmp d) = v := t.at_ (d, v) (List.mem_of_getElem? h)
theorem Tn.sub {N : Nat} {D : List Deferred} {a : Act} {l m : List (Nat × Value)} (t : Tn N D a l) (h : ∀ p ∈ m, p ∈ l) : Tn N D a m := ⟨t.size, t.defers, fun p hp => t.at_ p (h p hp)⟩

structure OpNo (o : Oper) (op : Go.Op) : Prop where
  dst : o.dst = none
  op : o.op = op
  guard : o.guard = none
section
variable {P : Program} {F : Fence} {n : Nat} {ops : Array Oper} {Q : Exit → Act → World → Prop} {a : Act} {w w' : World} {rest : List Oper} {o : Oper}
theorem wplI_op (hF : ∀ f, F.fn f) {d : Nat} {op : Go.Op} {v : Value} (i : OpIs o d op) (hnd : ∀ c, op ≠ .defer c) (hr : (execOp a.eval o).run P w = .ok (.value v) w') (k : wpListIn F n P ops Q rest (a.put (some d) v) w') :
    wpListIn F n P ops Q (o :: rest) a w := by
  refine wpListIn_plain i.guard fun K hK => ⟨fun f _ => hF f, ?_⟩
  rw [Oper.semAt_eq _ _ _ (by rw [i.op]; exact hnd), hr, Oper.uponIn_value, i.dst]
  exact hK _ _ k
theorem wplI_skip (hF : ∀ f, F.fn f) {op : Go.Op} (i : OpNo o op) (hnd : ∀ c, op ≠ .defer c) (hr : (execOp a.eval o).run P w = .ok .skip w') (k : wpListIn F n P ops Q rest a w') :
    wpListIn F n P ops Q (o :: rest) a w := by
  refine wpListIn_plain i.guard fun K hK => ⟨fun f _ => hF f, ?_⟩
  rw [Oper.semAt_eq _ _ _ (by rw [i.op]; exact hnd), hr, Oper.uponIn_skip, i.dst]
  exact hK _ _ k
end

/-- the kinds of the types -/
structure BackT (P : Program) (ts te tn ti tb : TypeId) : Prop where
  sl : P.underlying ts = some (.slice te)
  s1 : aggIs P ts false = true
  e1 : aggIs P te true = true
  e2 : sizeIs P te 2 = true
section
variable {P : Program} {ι : Inj} {h : Heap} {w : World} {ts te tn ti tb : TypeId}
theorem run_mov {o : Oper} {d p : Nat} {ρ : Operand → Value} (i : OpIs o d (.move (.tmp p))) : (execOp ρ o).run P w = .ok (.value (ρ (.tmp p))) w := by
  simp only [execOp, i.op]; rfl
theorem run_asg {o : Oper} {d p : Nat} {ρ : Operand → Value} (i : OpIs o d (.assign (.tmp p))) : (execOp ρ o).run P w = .ok (.value (ρ (.tmp p))) w := by
  simp only [execOp, i.op]; rfl
theorem run_ld1 {o : Oper} {d p t : Nat} {ρ : Operand → Value} {A : Addr} {x : Value} (ht : aggIs P t false = true) (i : OpIs o d (.load t (.tmp p))) (hp : ρ (.tmp p) = .pointer (some A)) (hc : w.cell? A = some x) :
    (execOp ρ o).run P w = .ok (.value x) w := by
  simp [execOp, i.op, Instr.loadAt, Instr.sureAddr, hp, Result.andThen, loadVar_one w ht hc]
theorem run_ldn {o : Oper} {d p t m : Nat} {ρ : Operand → Value} {c q : Nat} {xs : List Value} (ht : aggIs P t true = true) (hs : sizeIs P t m = true) (i : OpIs o d (.load t (.tmp p))) (hp : ρ (.tmp p) = .pointer (some ⟨c, q, none⟩)) (hl : xs.length = m)
    (hc : ∀ j x, xs[j]? = some x → w.cell? ⟨c, q + j, none⟩ = some x) : (execOp ρ o).run P w = .ok (.value (.agg xs.toArray)) w := by
  simp [execOp, i.op, Instr.loadAt, Instr.sureAddr, hp, Result.andThen, loadVar_agg w ht hs hl hc]
/-- an operation that changes nothing, by the evaluator -/
theorem run_l (g : Good ι h w) {ρ : Operand → Value} {o : Oper} {v : V} {e : OpL} (hok : okL P (fun x a => @decide (vrel ι (A.ev a [] Env.nil) (ρ x)) (Classical.propDecidable _)) o.op e = true) (he : light e (fun a => a.ev [] Env.nil) h = .val v) :
    ∃ v', (execOp ρ o).run P w = .ok (.value v') w ∧ vrel ι v v' := light_c g hok he
theorem dec_v {v : V} {x : Value} (h : vrel ι v x) : @decide (vrel ι v x) (Classical.propDecidable _) = true := @decide_eq_true _ (Classical.propDecidable _) h
theorem run_sub (g : Good ι h w) {ρ : Operand → Value} {o : Oper} {d p : Nat} {m : Int} {t t2 : TypeId} (i : OpIs o d (.binOp .sub t (.tmp p) (.const (.int .i64 1)) t2)) (hp : ρ (.tmp p) = .int .i64 m) (hone : ρ (.const (.int .i64 1)) = .int .i64 1)
    (hm : -9223372036854775807 ≤ m ∧ m < 9223372036854775808) : (execOp ρ o).run P w = .ok (.value (.int .i64 (m - 1))) w := by
  obtain ⟨v', h1, h2⟩ := run_l (P := P) g (ρ := ρ) (o := o) (e := .bin .sub (.c (.int .i64 m)) (.c (.int .i64 1))) (v := wrapV .i64 (isub m 1)) (by
    rw [i.op]; simp only [okL, decide_true, Bool.true_and, Bool.and_eq_true]
    exact ⟨rfl, dec_v (v := .int .i64 m) hp, dec_v (v := .int .i64 1) hone⟩) rfl
  rw [wrapV_eq] at h2
  have h2 : v' = .int .i64 (IntKind.wrap .i64 (isub m 1)) := h2
  have e1 : isub m 1 = m - 1 := isub_eq _ _
  rw [e1] at h2
  have e2 : IntKind.wrap .i64 (m - 1) = m - 1 := by
    simp [IntKind.wrap, IntKind.signed, IntKind.bits]
    omega
  rw [e2] at h2
  rw [h1, h2]
end
end
end Go.Eng
namespace Go.Eng
noncomputable section
open Go.RowKit
section
variable {P : Program} {ι : Inj} {h : Heap} {ts te ti tb : TypeId} {l4 n5 s6 a3 m7 g8 m11 m12 l13 m14 i15 e16 c17 u18 m9 s10 a30 : Oper} {i0 i1 i2 i3 b0 b1 : Nat}
/-- what the operations are -/
structure BackO (ts te ti tb : TypeId) (l4 n5 s6 a3 m7 g8 m11 m12 l13 m14 i15 e16 c17 u18 m9 s10 a30 : Oper) : Prop where
  l4 : OpIs l4 4 (.load ts (.tmp 1))
  n5 : OpIs n5 5 (.call { callee := .builtin .len, args := #[.tmp 4], argTypes := #[ts] })
  s6 : OpIs s6 6 (.binOp .sub ti (.tmp 5) (.const (.int .i64 1)) ti)
  a3 : OpIs a3 3 (.assign (.tmp 6))
  m7 : OpIs m7 7 (.move (.tmp 3))
  g8 : OpIs g8 8 (.binOp .geq ti (.tmp 7) (.const (.int .i64 0)) ti)
  m11 : OpIs m11 11 (.move (.tmp 0))
  m12 : OpIs m12 12 (.move (.tmp 3))
  l13 : OpIs l13 13 (.load ts (.tmp 1))
  m14 : OpIs m14 14 (.move (.tmp 3))
  i15 : OpIs i15 15 (.indexAddr ts (.tmp 13) (.tmp 14))
  e16 : OpIs e16 16 (.load te (.tmp 15))
  c17 : OpIs c17 17 (.call { callee := .value (.tmp 11), args := #[.tmp 12, .tmp 16], argTypes := #[ti, te] })
  u18 : OpIs u18 18 (.unOp .not tb (.tmp 17))
  m9 : OpIs m9 9 (.move (.tmp 3))
  s10 : OpIs s10 10 (.binOp .sub ti (.tmp 9) (.const (.int .i64 1)) ti)
  a30 : OpIs a30 3 (.assign (.tmp 10))
def backCode (l4 n5 s6 a3 m7 g8 m11 m12 l13 m14 i15 e16 c17 u18 m9 s10 a30 : Oper) (i0 i1 i2 i3 b0 b1 : Nat) : Code :=
  .seq (.region i0 #[l4, n5, s6, a3] false) (.block b0 (.loop (.seq (.seq (.region i1 #[m7, g8] false) (.cond (.tmp 8) .skip (.exit b0)))
    (.seq (.block b1 (.seq (.region i3 #[m11, m12, l13, m14, i15, e16, c17, u18] false) (.cond (.tmp 18) .ret .skip))) (.region i2 #[m9, s10, a30] false)))))
/-- what has come when k rounds are over: len - 1, .. -/
def down (len k : Nat) : List Nat := (List.range k).map fun j => len - 1 - j
theorem down_succ (len k : Nat) : down len (k + 1) = down len k ++ [len - 1 - k] := by simp [down, List.range_succ]
theorem down_length (len k : Nat) : (down len k).length = k := by simp [down]

set_option maxHeartbeats 1000000 in
theorem back_in {F : Fence} {m f : Nat} {fn : Func} (hf : P.funcs[f]? = some fn) (hb : fn.body = some (backCode l4 n5 s6 a3 m7 g8 m11 m12 l13 m14 i15 e16 c17 u18 m9 s10 a30 i0 i1 i2 i3 b0 b1)) (hnt : fn.ntmps = 19) (hres : fn.results = #[])
    (T : BackT P ts te ti ti tb) (O : BackO ts te ti tb l4 n5 s6 a3 m7 g8 m11 m12 l13 m14 i15 e16 c17 u18 m9 s10 a30) (hF : ∀ f, F.fn f) (hdep : F.depth = none) (hro : F.round = none)
    {n₀ : Nat} {w1 : World} (g : ∀ W, Below n₀ w1 W → Good ι h W) {A1 : Addr} {slv : Value} {s : V} {len b o : Nat} (hc1 : ∀ W, Below n₀ w1 W → W.cell? A1 = some slv) (hsl : vrel ι s slv) (hlen : len < 1000000)
    (hn : light (.len false (.c s)) (fun a => a.ev [] Env.nil) h = .val (natV .i64 len)) (hi : ∀ i, i < len → light (.iaddr 2 (.c s) (.c (.int .i64 (i : Int)))) (fun a => a.ev [] Env.nil) h = .val (.ptr b (o + i * 2)))
    {Ev : Nat → List Value} (hE2 : ∀ i, (Ev i).length = 2) (hE : ∀ i, i < len → ∀ B, ι b = some B → ∀ W, Below n₀ w1 W → ∀ j x, (Ev i)[j]? = some x → W.cell? ⟨B.c, B.off + (o + i * 2) + j, none⟩ = some x)
    {l : Nat} {J Jx : List Nat → World → Prop} (hY : ∀ pre (i : Nat) W, J pre W → pre.length < len → YieldAt F (m - 1) P l #[.int .i64 (i : Int), .agg (Ev i).toArray] W fun e W' =>
      (e = .returned (.bool true) ∧ J (pre ++ [i]) W' ∧ Below n₀ W W') ∨ (e = .returned (.bool false) ∧ Jx (pre ++ [i]) W'))
    {W : World} (hW : Below n₀ w1 W) (h0 : J [] W) :
    CallsIn F m P f #[.func (.yield l) #[] #[], .pointer (some A1)] W fun e W' => (∃ v, e = .returned v) ∧ (J (down len len) W' ∨ ∃ k, k ≤ len ∧ Jx (down len k) W') := by
  refine callsIn_of_wp hf hb (hF f) ?_ hro
  have hnd : ∀ {op : Go.Op}, (∀ c, op ≠ .defer c) → ∀ c, op ≠ .defer c := fun h => h
  have done : ∀ (a' : Act) (W' : World), a'.defers = [] → (J (down len len) W' ∨ ∃ k, k ≤ len ∧ Jx (down len k) W') →
      bodyPost P fn (fun e W' => (∃ v, e = Ending.returned v) ∧ (J (down len len) W' ∨ ∃ k, k ≤ len ∧ Jx (down len k) W')) .ret a' W' := fun a' W' hd h => ⟨hd, .tuple #[], results_none hres _ _ _, ⟨_, rfl⟩, h⟩
  have t : Tn 19 [] { tmps := #[.func (.yield l) #[] #[], .pointer (some A1)] ++ Array.replicate (fn.ntmps - (#[.func (.yield l) #[] #[], .pointer (some A1)] : Array Value).size) undef, defers := [] }
      [(0, .func (.yield l) #[] #[]), (1, .pointer (some A1))] := by
    refine ⟨by simp [hnt], rfl, fun p hp => ?_⟩
    simp at hp
    rcases hp with rfl | rfl <;> simp [hnt]
  generalize ({ tmps := #[.func (.yield l) #[] #[], .pointer (some A1)] ++ Array.replicate (fn.ntmps - (#[.func (.yield l) #[] #[], .pointer (some A1)] : Array Value).size) undef, defers := [] } : Act) = a at t ⊢
  -- the first region
  refine wpIn_seq (wpIn_region_list ?_)
  refine wplI_op hF O.l4 (by simp) (run_ld1 T.s1 O.l4 (t.get 1 (d := 1) rfl) (hc1 W hW)) ?_
  have t := t.put 4 slv (by decide)
  obtain ⟨v5, r5, q5⟩ := run_l (P := P) (g W hW) (ρ := (a.put (some 4) slv).eval) (o := n5) (e := .len false (.c s)) (by
    rw [O.n5.op]
    simp only [okL]
    have : (P.underlying ts) = some (.slice te) := T.sl
    simp [this]
    have e : (a.put (some 4) slv).eval (.tmp 4) = slv := t.get 0 (d := 4) rfl
    rw [e]; exact hsl) hn
  rw [natV_eq] at q5
  have q5 : v5 = .int .i64 (len : Int) := q5
  subst q5
  refine wplI_op hF O.n5 (by simp) r5 ?_
  have t := t.put 5 (.int .i64 (len : Int)) (by decide)
  refine wplI_op hF O.s6 (by simp) (run_sub (g W hW) O.s6 (t.get 0 (d := 5) rfl) rfl (by omega)) ?_
  have t := t.put 6 (.int .i64 ((len : Int) - 1)) (by decide)
  refine wplI_op hF O.a3 (by simp) (v := .int .i64 ((len : Int) - 1)) (by rw [run_asg O.a3, t.get 0 (d := 6) rfl]) ?_
  have t := t.put 3 (.int .i64 ((len : Int) - 1)) (by decide)
  generalize (((a.put (some 4) slv).put (some 5) (.int .i64 (len : Int))).put (some 6) (.int .i64 ((len : Int) - 1))).put (some 3) (.int .i64 ((len : Int) - 1)) = a at t ⊢
  refine wpListIn_nil (wpIn_block ?_)
  refine wpIn_loop (fun a' W' => ∃ k : Nat, k ≤ len ∧ Tn 19 [] a' [(3, .int .i64 ((len : Int) - 1 - k)), (0, .func (.yield l) #[] #[]), (1, .pointer (some A1))] ∧ J (down len k) W' ∧ Below n₀ w1 W')
    (fun a' _ => match a'.eval (.tmp 3) with | .int _ n => (n + 1).toNat | _ => 0) ⟨0, Nat.zero_le _, by simpa using t.sub (by simp), h0, hW⟩ ?_
  rintro a W ⟨k, hk, t, hJ, hW⟩
  have t0 := t
  refine wpIn_seq (wpIn_seq (wpIn_region_list ?_))
  refine wplI_op hF O.m7 (by simp) (v := .int .i64 ((len : Int) - 1 - k)) (by rw [run_mov O.m7, t.get 0 (d := 3) rfl]) ?_
  have t := t.put 7 (.int .i64 ((len : Int) - 1 - k)) (by decide)
  obtain ⟨v8, r8, q8⟩ := run_l (P := P) (g W hW) (ρ := (a.put (some 7) (.int .i64 ((len : Int) - 1 - k))).eval) (o := g8) (e := .bin .geq (.c (.int .i64 ((len : Int) - 1 - k))) (.c (.int .i64 0))) (v := .bool (bnot (ilt ((len : Int) - 1 - k) 0))) (by
    rw [O.g8.op]; simp only [okL, decide_true, Bool.true_and, Bool.and_eq_true]
    exact ⟨rfl, dec_v (v := .int .i64 ((len : Int) - 1 - k)) (t.get 0 (d := 7) rfl), dec_v (v := .int .i64 0) rfl⟩) rfl
  rw [ilt_eq] at q8
  have q8 : v8 = .bool (bnot (decide ((len : Int) - 1 - k < 0))) := q8
  subst q8
  refine wplI_op hF O.g8 (by simp) r8 ?_
  have t := t.put 8 (.bool (bnot (decide ((len : Int) - 1 - k < 0)))) (by decide)
  refine wpListIn_nil (wpIn_cond (t.get 0 (d := 8) rfl) ?_)
  have t := t.sub (m := [(3, .int .i64 ((len : Int) - 1 - k)), (0, .func (.yield l) #[] #[]), (1, .pointer (some A1))]) (by simp)
  generalize (a.put (some 7) (.int .i64 ((len : Int) - 1 - k))).put (some 8) (.bool (bnot (decide ((len : Int) - 1 - k < 0)))) = a1 at t ⊢
  by_cases hlt : k < len
  · -- a round
    have hd : (bnot (decide ((len : Int) - 1 - k < 0))) = true := by
      rw [show decide ((len : Int) - 1 - k < 0) = false from by simp; omega]; rfl
    rw [hd, if_pos rfl]
    have hik : ((len : Int) - 1 - k) = ((len - 1 - k : Nat) : Int) := by omega
    rw [hik] at t
    refine wpIn_skip (wpIn_seq (wpIn_block (wpIn_seq (wpIn_region_list ?_))))
    refine wplI_op hF O.m11 (by simp) (v := .func (.yield l) #[] #[]) (by rw [run_mov O.m11, t.get 1 (d := 0) rfl]) ?_
    have t := t.put 11 (.func (.yield l) #[] #[]) (by decide)
    refine wplI_op hF O.m12 (by simp) (v := .int .i64 ((len - 1 - k : Nat) : Int)) (by rw [run_mov O.m12, t.get 1 (d := 3) rfl]) ?_
    have t := t.put 12 (.int .i64 ((len - 1 - k : Nat) : Int)) (by decide)
    refine wplI_op hF O.l13 (by simp) (run_ld1 T.s1 O.l13 (t.get 4 (d := 1) rfl) (hc1 W hW)) ?_
    have t := t.put 13 slv (by decide)
    refine wplI_op hF O.m14 (by simp) (v := .int .i64 ((len - 1 - k : Nat) : Int)) (by rw [run_mov O.m14, t.get 3 (d := 3) rfl]) ?_
    have t := t.put 14 (.int .i64 ((len - 1 - k : Nat) : Int)) (by decide)
    have t := t.sub (m := [(14, .int .i64 ((len - 1 - k : Nat) : Int)), (13, slv), (12, .int .i64 ((len - 1 - k : Nat) : Int)), (11, .func (.yield l) #[] #[]), (3, .int .i64 ((len - 1 - k : Nat) : Int)), (0, .func (.yield l) #[] #[]), (1, .pointer (some A1))]) (by simp)
    generalize (((a1.put (some 11) (.func (.yield l) #[] #[])).put (some 12) (.int .i64 ((len - 1 - k : Nat) : Int))).put (some 13) slv).put (some 14) (.int .i64 ((len - 1 - k : Nat) : Int)) = a2 at t ⊢
    have hil : len - 1 - k < len := by omega
    obtain ⟨v15, r15, q15⟩ := run_l (P := P) (g W hW) (ρ := a2.eval) (o := i15) (e := .iaddr 2 (.c s) (.c (.int .i64 ((len - 1 - k : Nat) : Int)))) (by
      rw [O.i15.op]; simp only [okL]
      have : (P.underlying ts) = some (.slice te) := T.sl
      simp only [this, Bool.and_eq_true]
      refine ⟨T.e2, dec_v (v := s) ?_, dec_v (v := .int .i64 ((len - 1 - k : Nat) : Int)) (t.get 0 (d := 14) rfl)⟩
      rw [t.get 1 (d := 13) rfl]; exact hsl) (hi _ hil)
    obtain ⟨B, hB, q15⟩ : ∃ B, ι b = some B ∧ v15 = .pointer (some ⟨B.c, B.off + (o + (len - 1 - k) * 2), none⟩) := q15
    subst q15
    refine wplI_op hF O.i15 (by simp) r15 ?_
    have t := t.put 15 (.pointer (some ⟨B.c, B.off + (o + (len - 1 - k) * 2), none⟩)) (by decide)
    refine wplI_op hF O.e16 (by simp) (run_ldn T.e1 T.e2 O.e16 (t.get 0 (d := 15) rfl) (hE2 _) (hE _ hil B hB W hW)) ?_
    have t := t.put 16 (.agg (Ev (len - 1 - k)).toArray) (by decide)
    generalize (a2.put (some 15) (.pointer (some ⟨B.c, B.off + (o + (len - 1 - k) * 2), none⟩))).put (some 16) (.agg (Ev (len - 1 - k)).toArray) = a3 at t ⊢
    -- yield
    obtain ⟨fn', tmps, assign, body, hy, hR⟩ := hY (down len k) (len - 1 - k) W hJ (by rw [down_length]; exact hlt)
    refine wpListIn_plain O.c17.guard fun K hK => ⟨fun f _ => hF f, ?_⟩
    have hrun : ((c17.semAt F.round a3.eval).run P W) = .ok (.round l fn' tmps assign body) W := by
      rw [Oper.semAt_eq _ _ _ (by rw [O.c17.op]; simp)]
      have e11 : a3.eval (.tmp 11) = .func (.yield l) #[] #[] := t.get 5 (d := 11) rfl
      have e12 : a3.eval (.tmp 12) = .int .i64 ((len - 1 - k : Nat) : Int) := t.get 4 (d := 12) rfl
      have e16 : a3.eval (.tmp 16) = .agg (Ev (len - 1 - k)).toArray := t.get 0 (d := 16) rfl
      simp [execOp, O.c17.op, resolve, e11, e12, e16, Deferred.ofValue, invoke, hy, Result.andThen]
    rw [hrun, Oper.uponIn_round]
    refine ⟨by simp [hdep], hR.mono ?_⟩
    rintro e W' (⟨rfl, hJ', hk'⟩ | ⟨rfl, hJx'⟩)
    · show K (a3.put c17.dst (.bool true)) W'
      rw [O.c17.dst]
      refine hK _ _ ?_
      have t := t.put 17 (.bool true) (by decide)
      refine wplI_op hF O.u18 (by simp) (v := .bool false) (by have e := t.get 0 (d := 17) rfl; simp only [execOp, O.u18.op, e]; rfl) ?_
      have t := t.put 18 (.bool false) (by decide)
      refine wpListIn_nil (wpIn_cond (t.get 0 (d := 18) rfl) ?_)
      have t := t.sub (m := [(3, .int .i64 ((len - 1 - k : Nat) : Int)), (0, .func (.yield l) #[] #[]), (1, .pointer (some A1))]) (by simp)
      generalize (a3.put (some 17) (.bool true)).put (some 18) (.bool false) = a4 at t ⊢
      refine wpIn_skip ?_
      show (Code.region i2 #[m9, s10, a30] false).wpIn F m P _ _ _
      refine wpIn_region_list ?_
      refine wplI_op hF O.m9 (by simp) (v := .int .i64 ((len - 1 - k : Nat) : Int)) (by rw [run_mov O.m9, t.get 0 (d := 3) rfl]) ?_
      have t := t.put 9 (.int .i64 ((len - 1 - k : Nat) : Int)) (by decide)
      refine wplI_op hF O.s10 (by simp) (run_sub (g W' (hW.trans hk')) O.s10 (t.get 0 (d := 9) rfl) rfl (by omega)) ?_
      have t := t.put 10 (.int .i64 (((len - 1 - k : Nat) : Int) - 1)) (by decide)
      refine wplI_op hF O.a30 (by simp) (v := .int .i64 (((len - 1 - k : Nat) : Int) - 1)) (by rw [run_asg O.a30, t.get 0 (d := 10) rfl]) ?_
      have t := t.put 3 (.int .i64 (((len - 1 - k : Nat) : Int) - 1)) (by decide)
      refine wpListIn_nil ⟨⟨k + 1, by omega, ?_, by rw [down_succ]; exact hJ', hW.trans hk'⟩, ?_⟩
      · have e : ((len : Int) - 1 - (k + 1 : Nat)) = (((len - 1 - k : Nat) : Int) - 1) := by omega
        rw [e]
        exact t.sub (by simp)
      · rw [t.get 0 (d := 3) rfl, t0.get 0 (d := 3) rfl]
        show ((((len - 1 - k : Nat) : Int) - 1) + 1).toNat < ((len : Int) - 1 - k + 1).toNat
        omega
    · show K (a3.put c17.dst (.bool false)) W'
      rw [O.c17.dst]
      refine hK _ _ ?_
      have t := t.put 17 (.bool false) (by decide)
      refine wplI_op hF O.u18 (by simp) (v := .bool true) (by have e := t.get 0 (d := 17) rfl; simp only [execOp, O.u18.op, e]; rfl) ?_
      have t := t.put 18 (.bool true) (by decide)
      refine wpListIn_nil (wpIn_cond (t.get 0 (d := 18) rfl) ?_)
      refine wpIn_ret ?_
      exact done _ _ t.defers (.inr ⟨k + 1, by omega, by rw [down_succ]; exact hJx'⟩)
  · -- no more
    have hkl : k = len := by omega
    subst hkl
    have hd : (bnot (decide ((k : Int) - 1 - k < 0))) = false := by
      rw [show decide ((k : Int) - 1 - k < 0) = true from by simp; omega]; rfl
    rw [hd, if_neg (by simp)]
    refine wpIn_exit ?_
    show (if b0 = b0 then _ else _)
    rw [if_pos rfl]
    exact done _ _ t.defers (.inl hJ)
end
end
end Go.Eng
namespace Go.Eng
noncomputable section
open Go.RowKit
section
variable {P : Program} {ι : Inj} {h : Heap} {w : World} {te tn ti : TypeId} {a11 st f32 l33 l34 q35 f36 l37 st6 st7 : Oper} {i5 i6 i7 b1 : Nat}
structure RndO (te tn ti : TypeId) (a11 st f32 l33 l34 q35 f36 l37 st6 st7 : Oper) : Prop where
  a11 : OpIs a11 11 (.alloc te)
  st : OpNo st (.store te (.tmp 11) (.tmp 31))
  f32 : OpIs f32 32 (.fieldAddr te (.tmp 11) 0)
  l33 : OpIs l33 33 (.load tn (.tmp 32))
  l34 : OpIs l34 34 (.load tn (.tmp 5))
  q35 : OpIs q35 35 (.binOp .eql tn (.tmp 33) (.tmp 34) tn)
  f36 : OpIs f36 36 (.fieldAddr te (.tmp 11) 1)
  l37 : OpIs l37 37 (.load ti (.tmp 36))
  st6 : OpNo st6 (.store ti (.tmp 6) (.tmp 37))
  st7 : OpNo st7 (.store ti (.tmp 7) (.const (.int .i64 0)))
structure RndT (P : Program) (te tn ti : TypeId) : Prop where
  z : zerosIs P te [.str 0 0, .int .i64 0] = true
  e2 : sizeIs P te 2 = true
  n1 : aggIs P tn false = true
  i1 : aggIs P ti false = true
  i2 : sizeIs P ti 1 = true
  f0 : okL P (fun _ _ => true) (.fieldAddr te (.tmp 11) 0) (.faddr 0 (.c .bot)) = true
  f1 : okL P (fun _ _ => true) (.fieldAddr te (.tmp 11) 1) (.faddr 1 (.c .bot)) = true
def asgCode (a11 st : Oper) (i5 : Nat) : Code := .region i5 #[a11, st] false
def bodCode (f32 l33 l34 q35 f36 l37 st6 st7 : Oper) (i6 i7 b1 : Nat) : Code :=
  .block b1 (.seq (.region i6 #[f32, l33, l34, q35] false) (.cond (.tmp 35) (.seq (.region i7 #[f36, l37, st6, st7] false) .ret) .skip))

theorem run_faddr {w : World} {ρ : Operand → Value} {o : Oper} {d p k off c q : Nat} {t : TypeId} (hok : okL P (fun _ _ => true) (.fieldAddr t (.tmp p) k) (.faddr off (.c .bot)) = true) (i : OpIs o d (.fieldAddr t (.tmp p) k))
    (hp : ρ (.tmp p) = .pointer (some ⟨c, q, none⟩)) : (execOp ρ o).run P w = .ok (.value (.pointer (some ⟨c, q + off, none⟩))) w := by
  simp only [okL] at hok
  split at hok
  · rename_i fs hu
    split at hok
    · rename_i fl hf
      simp only [Bool.and_eq_true, decide_eq_true_eq] at hok
      obtain ⟨rfl, hs, _⟩ := hok
      cases hi : P.info? fl.type with
      | none => simp [hi] at hs
      | some i' =>
        have hs : i'.size ≠ 0 := by simpa [hi] using hs
        have hz : P.cellsOf fl.type = i'.size := by simp [Program.cellsOf, hi]
        have hf' : fs[k]? = some fl := hf
        simp [execOp, i.op, Instr.fieldAt, run_underlying hu, hf', Instr.sureAddr, hp, fieldPlace, run_sizeOf w hi, hz, hs, addr_add, Result.andThen]
    · cases hok
  · cases hok

/-- a new block that holds two values -/
structure New2 (W W' : World) (x0 x1 : Value) : Prop where
  old : ∀ c, c < W.heap.size → W'.heap[c]? = W.heap[c]?
  size : W'.heap.size = W.heap.size + 1
  os : W'.os = W.os
  tape : W'.tape = W.tape
  out : W'.output = W.output
  c0 : W'.cell? ⟨W.heap.size, 0, none⟩ = some x0
  c1 : W'.cell? ⟨W.heap.size, 1, none⟩ = some x1
theorem New2.below {W W' : World} {x0 x1 : Value} (n : New2 W W' x0 x1) {n₀ : Nat} (h : n₀ ≤ W.heap.size) : Below n₀ W W' := ⟨n.os, n.tape, n.out, by rw [n.size]; omega, fun k hk => n.old k (by omega)⟩

theorem rnd_asg {F : Fence} {m : Nat} (T : RndT P te tn ti) (O : RndO te tn ti a11 st f32 l33 l34 q35 f36 l37 st6 st7) (hF : ∀ f, F.fn f) {a : Act} {W : World} {x0 x1 p5 p6 p7 : Value} {K : Act → World → Prop} {Z : Exit → Act → World → Prop}
    (t : Tn 65 [] a [(31, .agg #[x0, x1]), (5, p5), (6, p6), (7, p7)]) (h0 : x0.oneCell' = true) (h1 : x1.oneCell' = true)
    (k : ∀ a' W', New2 W W' x0 x1 → Tn 65 [] a' [(11, .pointer (some ⟨W.heap.size, 0, none⟩)), (5, p5), (6, p6), (7, p7)] → K a' W') :
    (asgCode a11 st i5).wpIn F m P (Exit.then K Z) a W := by
  refine wpIn_region_list ?_
  obtain ⟨x, hz, hr, hx1, _⟩ := zerosIs_rel (P := P) (w := W) (ι := Inj.none) T.z
  have hsz : x.cells.size = 2 := by have := hr.length; simpa using this
  refine wplI_op hF O.a11 (by simp) (v := .pointer (some ⟨W.heap.size, 0, none⟩)) (w' := W.alloc (.cells x.cells te)) (by
    simp [execOp, O.a11.op, Instr.alloc, hz, newVar, newRow, Result.andThen]) ?_
  have t := t.put 11 (.pointer (some ⟨W.heap.size, 0, none⟩)) (by decide)
  have hb : (W.alloc (.cells x.cells te)).heap[W.heap.size]? = some (.cells x.cells te (0, 0)) := alloc_new _ _
  obtain ⟨cs', e1, e2, e3⟩ := setCells_row [x0, x1] 0 (W.alloc (.cells x.cells te)) x.cells hb (by simp [hsz])
  have hrun : (execOp (a.put (some 11) (.pointer (some ⟨W.heap.size, 0, none⟩))).eval st).run P (W.alloc (.cells x.cells te)) = .ok .skip ((W.alloc (.cells x.cells te)).setCells W.heap.size 0 [x0, x1]) := by
    have hst : (storeVar te ⟨W.heap.size, 0, none⟩ (.agg #[x0, x1])).run P (W.alloc (.cells x.cells te)) = .ok () ((W.alloc (.cells x.cells te)).setCells W.heap.size 0 [x0, x1]) := by
      have := run_storeCells_cells (P := P) W.heap.size 0 [x0, x1] 0 (W.alloc (.cells x.cells te)) (fun j hj => by
        simp only [World.cell?, hb, Option.isSome_none, Bool.false_eq_true, if_false]
        rw [Array.getElem?_eq_getElem (by simp at hj; omega)]; rfl) (fun j hj => by simp only [World.frozen?, hb]; simp) (by simp [h0, h1])
      have hc : (Value.agg #[x0, x1]).cells = #[x0, x1] := rfl
      simp only [storeVar, Sem.run_bind, sizeIs_run _ T.e2, Result.andThen, hc, ne_eq]
      simpa using this
    have e11 := t.get 0 (d := 11) rfl
    have e31 := t.get 1 (d := 31) rfl
    simp [execOp, O.st.op, Instr.storeAt, Instr.sureAddr, e11, e31, hst, Result.andThen]
  refine wplI_skip hF O.st (by simp) hrun ?_
  refine wpListIn_nil (k _ _ ?_ (t.sub (by simp)))
  obtain ⟨s1, s2, s3, s4⟩ := setCells_same W.heap.size [x0, x1] 0 (W.alloc (.cells x.cells te))
  refine ⟨fun c hc => (setCells_far _ _ _ c (by omega)).trans (alloc_old W _ c hc), by rw [s4]; simp, s1, s2, s3, ?_, ?_⟩
  · simp only [World.cell?, e1, Option.isSome_none, Bool.false_eq_true, if_false]; rw [e3]; simp
  · simp only [World.cell?, e1, Option.isSome_none, Bool.false_eq_true, if_false]; rw [e3]; simp

/-- two stores, one behind the other -/
def st2 (h : Heap) (b6 o6 b7 o7 : Nat) (n : Int) : Option Heap := match storeO h b6 o6 1 [.int .i64 n] with
  | some h2 => storeO h2 b7 o7 1 [.int .i64 0]
  | none => none
theorem run_st (g : Good ι h w) {ρ : Operand → Value} {o : Oper} {t : TypeId} {p : Nat} {x : Operand} {b q : Nat} {n : Int} {h' : Heap} (ht : sizeIs P t 1 = true) (i : OpNo o (.store t (.tmp p) x)) (hp : vrel ι (.ptr b q) (ρ (.tmp p))) (hx : ρ x = .int .i64 n)
    (hs : storeO h b q 1 [.int .i64 n] = some h') : ∃ w', (execOp ρ o).run P w = .ok .skip w' ∧ Chg ι h w ι h' w' ∧ h'.next = h.next := by
  obtain ⟨B, hB, h1⟩ := hp
  have hr : vrels ι [.int .i64 n] [Value.int .i64 n] := ⟨_, _, rfl, rfl, rfl⟩
  obtain ⟨w', k1, k2, k3, k4, _⟩ := store_rel (P := P) g hB hs rfl hr (by simp [Value.oneCell'])
  refine ⟨w', ?_, Chg.same k2 k3 k4, k4⟩
  have hst : (storeVar t ⟨B.c, B.off + q, none⟩ (ρ x)).run P w = .ok () w' := by
    have hc : (Value.int .i64 n).cells = #[.int .i64 n] := rfl
    rw [hx]
    simp only [storeVar, Sem.run_bind, sizeIs_run w ht, Result.andThen, hc, ne_eq]
    simpa using k1
  simp [execOp, i.op, Instr.storeAt, Instr.sureAddr, h1, hst, Result.andThen]

theorem rnd_bod {F : Fence} {m : Nat} (T : RndT P te tn ti) (O : RndO te tn ti a11 st f32 l33 l34 q35 f36 l37 st6 st7) (hF : ∀ f, F.fn f) {a : Act} {W : World} {c : Nat} {x0 p5 p6 p7 : Value} {lab : Int} {b5 o5 b6 o6 b7 o7 n x n' x' : Nat} {Q : Exit → Act → World → Prop}
    (t : Tn 65 [] a [(11, .pointer (some ⟨c, 0, none⟩)), (5, p5), (6, p6), (7, p7)]) (g : Good ι h W) (h0 : W.cell? ⟨c, 0, none⟩ = some x0) (h1 : W.cell? ⟨c, 1, none⟩ = some (.int .i64 lab)) (hx : vrel Inj.none (.str n x) x0)
    (r5 : vrel ι (.ptr b5 o5) p5) (l5 : h.load1 b5 o5 = some (.str n' x')) (r6 : vrel ι (.ptr b6 o6) p6) (r7 : vrel ι (.ptr b7 o7) p7)
    (hno : sEq n x n' x' = false → ∀ a', Q .normal a' W)
    (hyes : sEq n x n' x' = true → ∃ h3, st2 h b6 o6 b7 o7 lab = some h3 ∧ ∀ a' W', Chg ι h W ι h3 W' → Q .ret a' W') :
    (bodCode f32 l33 l34 q35 f36 l37 st6 st7 i6 i7 b1).wpIn F m P Q a W := by
  refine wpIn_block (wpIn_seq (wpIn_region_list ?_))
  refine wplI_op hF O.f32 (by simp) (run_faddr T.f0 O.f32 (t.get 0 (d := 11) rfl)) ?_
  have t := t.put 32 (.pointer (some ⟨c, 0 + 0, none⟩)) (by decide)
  refine wplI_op hF O.l33 (by simp) (run_ld1 T.n1 O.l33 (t.get 0 (d := 32) rfl) h0) ?_
  have t := t.put 33 x0 (by decide)
  obtain ⟨v5, B5, q5, e5, k5⟩ : ∃ (v5 : Value) (B : Blk), vrel ι (.str n' x') v5 ∧ p5 = .pointer (some ⟨B.c, B.off + o5, none⟩) ∧ W.cell? ⟨B.c, B.off + o5, none⟩ = some v5 := by
    obtain ⟨B, hB, rfl⟩ := r5
    obtain ⟨v, k1, _, k2⟩ := load1_rel g hB l5
    exact ⟨v, B, k1, rfl, k2⟩
  subst e5
  refine wplI_op hF O.l34 (by simp) (run_ld1 T.n1 O.l34 (t.get 3 (d := 5) rfl) k5) ?_
  have t := t.put 34 v5 (by decide)
  generalize ((a.put (some 32) (.pointer (some ⟨c, 0 + 0, none⟩))).put (some 33) x0).put (some 34) v5 = a1 at t ⊢
  obtain ⟨v35, e35, q35'⟩ := run_l (P := P) (Good.empty W) (ρ := a1.eval) (o := q35) (e := .bins .eql (.c (.str n x)) (.c (.str n' x'))) (v := .bool (sEq n x n' x')) (by
    rw [O.q35.op]; simp only [okL, decide_true, Bool.true_and, Bool.and_eq_true]
    refine ⟨rfl, dec_v (v := .str n x) ?_, dec_v (v := .str n' x') ?_⟩
    · rw [t.get 1 (d := 33) rfl]; exact hx
    · rw [t.get 0 (d := 34) rfl]; exact q5) rfl
  have q35' : v35 = .bool (sEq n x n' x') := q35'
  subst q35'
  refine wplI_op hF O.q35 (by simp) e35 ?_
  have t := t.put 35 (.bool (sEq n x n' x')) (by decide)
  refine wpListIn_nil (wpIn_cond (t.get 0 (d := 35) rfl) ?_)
  generalize a1.put (some 35) (.bool (sEq n x n' x')) = a2 at t ⊢
  cases hq : sEq n x n' x' with
  | false =>
    rw [if_neg (by simp)]
    exact wpIn_skip (hno hq a2)
  | true =>
    rw [if_pos rfl]
    obtain ⟨h3, hs, hk⟩ := hyes hq
    unfold st2 at hs
    cases hs2 : storeO h b6 o6 1 [.int .i64 lab] with
    | none => rw [hs2] at hs; cases hs
    | some h2 =>
      rw [hs2] at hs
      refine wpIn_seq (wpIn_region_list ?_)
      refine wplI_op hF O.f36 (by simp) (run_faddr T.f1 O.f36 (t.get 4 (d := 11) rfl)) ?_
      have t := t.put 36 (.pointer (some ⟨c, 0 + 1, none⟩)) (by decide)
      refine wplI_op hF O.l37 (by simp) (run_ld1 T.i1 O.l37 (t.get 0 (d := 36) rfl) h1) ?_
      have t := t.put 37 (.int .i64 lab) (by decide)
      generalize (a2.put (some 36) (.pointer (some ⟨c, 0 + 1, none⟩))).put (some 37) (.int .i64 lab) = a3 at t ⊢
      obtain ⟨w2, k1, k2, kn⟩ := run_st (P := P) g (ρ := a3.eval) T.i2 O.st6 (by rw [t.get 8 (d := 6) rfl]; exact r6) (t.get 0 (d := 37) rfl) hs2
      refine wplI_skip hF O.st6 (by simp) k1 ?_
      obtain ⟨w3, k3, k4, _⟩ := run_st (P := P) k2.good (ρ := a3.eval) T.i2 O.st7 (by rw [t.get 9 (d := 7) rfl]; exact r7) rfl hs
      refine wplI_skip hF O.st7 (by simp) k3 ?_
      refine wpListIn_nil (wpIn_ret ?_)
      exact hk a3 w3 (k2.trans k4 (fun b hb hl => by omega))
end
end
end Go.Eng
namespace Go.Eng
noncomputable section
open Go.RowKit

/-! ### a function that goes backward through a slice of pairs, and then on: the summary -/
structure VarD where
  F : Fun
  g : Nat
  e0 : C
  e1 : C
  e2 : C
  e4 : C
  er : C
def nx (r : CR) (k : Env → Heap → OR) : OR := @CR.rec (fun _ => OR) (fun x env h => @X.rec (fun _ => OR) (k env h) .bad (fun _ => .bad) (fun _ => .bad) x) .bad r
def lenOf (h : Heap) (s : V) : Option (Nat × Nat × Nat × List V) := match s with
  | .slN => some (0, 0, 0, [])
  | .sl b o n _ => (match h.load b o (n * 2) with | some l => some (n, b, o, l) | none => none)
  | _ => none
def locs : List V → Option (List (Nat × Nat × Int))
  | [] => some []
  | .str n x :: .int .i64 a :: l => (match locs l with | some m => some ((n, x, a) :: m) | none => none)
  | _ => none
def findB (n' x' : Nat) : List (Nat × Nat × Int) → Option Int
  | [] => none
  | e :: l => match findB n' x' l with
    | some a => some a
    | none => bif sEq e.1 e.2.1 n' x' then some e.2.2 else none
def allB (p : Int → Bool) (n' x' : Nat) : List (Nat × Nat × Int) → Bool
  | [] => true
  | e :: l => (bif sEq e.1 e.2.1 n' x' then p e.2.2 else true) && allB p n' x' l
def varE (U : VarD) (call : CallT) (env : Env) (h : Heap) (b6 o6 b7 o7 : Nat) : Option Int → OR
  | none => endCall U.F.results (code U.er call maxRounds env h)
  | some a => match st2 h b6 o6 b7 o7 a with
    | some h3 => finish U.F.results env h3
    | none => .bad
def varT (U : VarD) (call : CallT) (env : Env) (h : Heap) : OR := match Env.get .d1 .d4 env, Env.get .d1 .d1 env, Env.get .d0 .d3 env, Env.get .d0 .d4 env with
  | .fn g [] [.ptr bx ox], .ptr b5 o5, .ptr b6 o6, .ptr b7 o7 => (match g.beq U.g, h.load1 bx ox, h.load1 b5 o5 with
    | true, some s, some (.str n' x') => (match lenOf h s with
      | some (len, _, _, l) => (match locs l with
        | some els => (match (len.blt 1000 && els.length.beq len) && allB (fun a => (st2 h b6 o6 b7 o7 a).isSome) n' x' els with
          | true => varE U call env h b6 o6 b7 o7 (findB n' x' els)
          | false => .bad)
        | none => .bad)
      | none => .bad)
    | _, _, _ => .bad)
  | _, _, _, _ => .bad
def varC (U : VarD) (call : CallT) (env : Env) (h : Heap) : OR := match Env.get .d0 .d5 env with
  | .bool false => nx (code U.e4 call maxRounds env h) fun env h => varT U call env h
  | _ => .bad
def varG (U : VarD) (call : CallT) (as : List V) (h : Heap) : OR := match (lenV as).beq U.F.np with
  | true => nx (code U.e0 call maxRounds (argsP as 0 Env.nil) h) fun env h => nx (code U.e1 call maxRounds env h) fun env h => nx (code U.e2 call maxRounds env h) fun env h => varC U call env h
  | false => .bad

theorem nx_inv {r : CR} {k : Env → Heap → OR} {o : OR} (h : nx r k = o) (ho : o ≠ .bad) : ∃ env h1, r = .ok .nrm env h1 ∧ k env h1 = o := by
  cases r with
  | bad => exact absurd h.symm ho
  | ok x env h1 =>
    cases x with
    | nrm => exact ⟨env, h1, rfl, h⟩
    | ret => exact absurd h.symm ho
    | exit i => exact absurd h.symm ho
    | pan v => exact absurd h.symm ho
theorem varT_inv {U : VarD} {call : CallT} {env : Env} {h : Heap} {o : OR} (e : varT U call env h = o) (ho : o ≠ .bad) : ∃ bx ox s len b q l els b5 o5 b6 o6 b7 o7 n' x', Env.get .d1 .d4 env = .fn U.g [] [.ptr bx ox] ∧ Env.get .d1 .d1 env = .ptr b5 o5 ∧
    Env.get .d0 .d3 env = .ptr b6 o6 ∧ Env.get .d0 .d4 env = .ptr b7 o7 ∧ h.load1 bx ox = some s ∧ h.load1 b5 o5 = some (.str n' x') ∧ lenOf h s = some (len, b, q, l) ∧ locs l = some els ∧ len < 1000 ∧ els.length = len ∧
    allB (fun a => (st2 h b6 o6 b7 o7 a).isSome) n' x' els = true ∧ varE U call env h b6 o6 b7 o7 (findB n' x' els) = o := by
  unfold varT at e
  split at e
  · rename_i g bx ox b5 o5 b6 o6 b7 o7 h1 h2 h3 h4
    split at e
    · rename_i s n' x' hg hs hn
      split at e
      · rename_i len b q l hl
        split at e
        · rename_i els hels
          split at e
          · rename_i hc
            have c := Bool.and_of hc
            have c1 := Bool.and_of c.1
            have hg : g = U.g := Nat.eq_of_beq_eq_true hg
            subst hg
            refine ⟨bx, ox, s, len, b, q, l, els, b5, o5, b6, o6, b7, o7, n', x', h1, h2, h3, h4, hs, hn, hl, hels, ?_, Nat.eq_of_beq_eq_true c1.2, c.2, e⟩
            have := c1.1; rw [nblt] at this; simpa using this
          · exact absurd e.symm ho
        · exact absurd e.symm ho
      · exact absurd e.symm ho
    · exact absurd e.symm ho
  · exact absurd e.symm ho

section
variable {ι ι0 : Inj} {h h0 : Heap} {w w0 w' : World}
theorem Good.off (g : Good ι h w) (e : ∀ b B, ι b = some B → w'.heap[B.c]? = w.heap[B.c]?) (hs : w.heap.size ≤ w'.heap.size) : Good ι h w' :=
  ⟨fun b B o a c d => (g.obj b B o a c d).world (e b B a), fun b B a => Nat.lt_of_lt_of_le (g.inH b B a) hs, g.same, g.fam, g.last, g.solo, g.mem, g.lim, g.dom, g.small, g.fdom, g.famLt⟩
theorem Chg.off (c : Chg ι0 h0 w0 ι h w) (e : ∀ b B, ι b = some B → w'.heap[B.c]? = w.heap[B.c]?) (e2 : ∀ k, k < w0.heap.size → w'.heap[k]? = w.heap[k]?) (hs : w.heap.size ≤ w'.heap.size) (ht : w'.tape = w.tape) (ho : w'.os = w.os) (hu : w'.output = w.output) :
    Chg ι0 h0 w0 ι h w' :=
  ⟨c.good.off e hs, ⟨fun k hk hn => (e2 k hk).trans (c.frame.keep k hk hn), Nat.le_trans c.frame.size hs, ht.trans c.frame.tape, ho.trans c.frame.os, hu.trans c.frame.out⟩, c.ext, c.sep⟩
end
theorem findB_none {n' x' : Nat} : ∀ {l : List (Nat × Nat × Int)}, findB n' x' l = none ↔ ∀ e ∈ l, sEq e.1 e.2.1 n' x' = false
  | [] => by simp [findB]
  | e :: l => by
    unfold findB
    cases hf : findB n' x' l with
    | some a =>
      simp only [reduceCtorEq, false_iff]
      intro hall
      have := (findB_none (l := l)).2 fun e he => hall e (List.mem_cons_of_mem _ he)
      rw [hf] at this; cases this
    | none =>
      have := (findB_none (l := l)).1 hf
      cases hs : sEq e.1 e.2.1 n' x' with
      | true => simp [hs]
      | false => simp [hs]; exact fun a b c hm => this (a, b, c) hm
/-- the last one that fits is found -/
theorem findB_at {n' x' : Nat} : ∀ {l : List (Nat × Nat × Int)} {i : Nat} {e : Nat × Nat × Int}, l[i]? = some e → sEq e.1 e.2.1 n' x' = true → (∀ j e', i < j → l[j]? = some e' → sEq e'.1 e'.2.1 n' x' = false) → findB n' x' l = some e.2.2
  | [], i, e, h, _, _ => by simp at h
  | a :: l, 0, e, h, hs, hr => by
    simp at h; subst h
    unfold findB
    rw [findB_none.2 fun e' he => by
      obtain ⟨j, hj⟩ := List.getElem?_of_mem he
      exact hr (j + 1) e' (by omega) (by simpa using hj)]
    simp [hs]
  | a :: l, i + 1, e, h, hs, hr => by
    unfold findB
    rw [findB_at (l := l) (i := i) (by simpa using h) hs fun j e' hj he => hr (j + 1) e' (by omega) (by simpa using he)]
theorem allB_at {p : Int → Bool} {n' x' : Nat} : ∀ {l : List (Nat × Nat × Int)}, allB p n' x' l = true → ∀ e ∈ l, sEq e.1 e.2.1 n' x' = true → p e.2.2 = true
  | [], _, e, he, _ => by simp at he
  | a :: l, h, e, he, hs => by
    have h := Bool.and_of h
    rcases List.mem_cons.1 he with rfl | he
    · have := h.1; rw [hs] at this; exact this
    · exact allB_at h.2 e he hs
theorem locs_at : ∀ {l : List V} {els : List (Nat × Nat × Int)}, locs l = some els → l.length = els.length * 2 ∧ ∀ i e, els[i]? = some e → l[i * 2]? = some (.str e.1 e.2.1) ∧ l[i * 2 + 1]? = some (.int .i64 e.2.2)
  | l, els, h => by
    unfold locs at h
    split at h
    · cases h; exact ⟨rfl, fun i e he => by simp at he⟩
    · rename_i n x a l'
      split at h
      · rename_i m hm
        cases h
        obtain ⟨i1, i2⟩ := locs_at hm
        refine ⟨by simp [i1]; omega, fun i e he => ?_⟩
        cases i with
        | zero => simp at he; subst he; exact ⟨rfl, rfl⟩
        | succ i =>
          have := i2 i e (by simpa using he)
          rw [show (i + 1) * 2 = i * 2 + 2 by omega, show i * 2 + 2 + 1 = i * 2 + 1 + 2 by omega]
          exact this
      · cases h
    · cases h
end
end Go.Eng
namespace Go.Eng
noncomputable section
open Go.RowKit

theorem storeO_next {h h' : Heap} {b o n : Nat} {vs : List V} (hs : storeO h b o n vs = some h') : h'.next = h.next := by
  unfold storeO at hs
  split at hs
  · cases hs; rfl
  · split at hs
    · cases hs
    · split at hs
      · split at hs <;> cases hs; rfl
      · split at hs
        · split at hs <;> cases hs; rfl
        · cases hs
      · cases hs
theorem st2_next {h h' : Heap} {b6 o6 b7 o7 : Nat} {n : Int} (hs : st2 h b6 o6 b7 o7 n = some h') : h'.next = h.next := by
  unfold st2 at hs
  split at hs
  · rename_i h2 e
    exact (storeO_next hs).trans (storeO_next e)
  · cases hs
section
variable {call : CallT} {U : VarD}
theorem finish_next {rs : List Res} {env : Env} {h h0 : Heap} (hn : h0.next ≤ h.next) : OR.next h0 (finish rs env h) := by
  show OR.next h0 (Option.rec .bad (fun vs => .ok (one vs) h) (results env h rs) : OR)
  cases results env h rs with
  | none => trivial
  | some vs => exact hn
theorem varE_next (hcm : CallMono call) (env : Env) (h : Heap) (b6 o6 b7 o7 : Nat) (x : Option Int) : OR.next h (varE U call env h b6 o6 b7 o7 x) := by
  cases x with
  | none =>
    show OR.next h (endCall U.F.results (code U.er call maxRounds env h))
    have := code_next hcm U.er maxRounds env h
    cases hr : code U.er call maxRounds env h with
    | bad => trivial
    | ok x env' h' =>
      rw [hr] at this
      cases x with
      | nrm => exact finish_next this
      | ret => exact finish_next this
      | exit i => trivial
      | pan v => exact this
  | some a =>
    show OR.next h (match st2 h b6 o6 b7 o7 a with
      | some h3 => finish U.F.results env h3
      | none => .bad)
    cases hs : st2 h b6 o6 b7 o7 a with
    | none => trivial
    | some h3 => exact finish_next (Nat.le_of_eq (st2_next hs).symm)
theorem OR.next.le {h h1 : Heap} {r : OR} (n : OR.next h1 r) (hle : h.next ≤ h1.next) : OR.next h r := by
  cases r with
  | ok v h' => exact Nat.le_trans hle n
  | pan v h' => exact Nat.le_trans hle n
  | bad => trivial
theorem varT_next (hcm : CallMono call) (env : Env) (h : Heap) : OR.next h (varT U call env h) := by
  generalize hr : varT U call env h = r
  cases r with
  | bad => trivial
  | ok v h' =>
    obtain ⟨bx, ox, s, len, b, q, l, els, b5, o5, b6, o6, b7, o7, n', x', _, _, _, _, _, _, _, _, _, _, _, e⟩ := varT_inv hr (by simp)
    rw [← e]; exact varE_next hcm ..
  | pan v h' =>
    obtain ⟨bx, ox, s, len, b, q, l, els, b5, o5, b6, o6, b7, o7, n', x', _, _, _, _, _, _, _, _, _, _, _, e⟩ := varT_inv hr (by simp)
    rw [← e]; exact varE_next hcm ..
theorem nx_next (hcm : CallMono call) {c : C} {env : Env} {h : Heap} {k : Env → Heap → OR} (hk : ∀ env h, OR.next h (k env h)) : OR.next h (nx (code c call maxRounds env h) k) := by
  have := code_next hcm c maxRounds env h
  cases hr : code c call maxRounds env h with
  | bad => trivial
  | ok x env' h' =>
    rw [hr] at this
    cases x with
    | nrm => exact (hk env' h').le this
    | ret => trivial
    | exit i => trivial
    | pan v => trivial
theorem varC_next (hcm : CallMono call) (env : Env) (h : Heap) : OR.next h (varC U call env h) := by
  unfold varC
  split
  · exact nx_next hcm fun env h => varT_next hcm env h
  · trivial
theorem varG_next (hcm : CallMono call) (as : List V) (h : Heap) : OR.next h (varG U call as h) := by
  unfold varG
  split
  · exact nx_next hcm fun env h => nx_next hcm fun env h => nx_next hcm fun env h => varC_next hcm env h
  · trivial
end
theorem finish_ok {rs : List Res} {env : Env} {h : Heap} {r : OR} (e : finish rs env h = r) (hr : r ≠ .bad) : ∃ vs, results env h rs = some vs ∧ r = .ok (one vs) h := by
  have e : (Option.rec .bad (fun vs => .ok (one vs) h) (results env h rs) : OR) = r := e
  cases hv : results env h rs with
  | none => rw [hv] at e; exact absurd e.symm hr
  | some vs => rw [hv] at e; exact ⟨vs, rfl, e.symm⟩
theorem down_mem {len k i : Nat} (h1 : i < len) (h2 : len - 1 - i < k) : i ∈ down len k := by
  unfold down
  rw [List.mem_map]
  exact ⟨len - 1 - i, List.mem_range.2 h2, by omega⟩
/-- what the slice's elements are, and where -/
theorem els_at {ι : Inj} {h : Heap} {w : World} (g : Good ι h w) {s : V} {slv : Value} {len b q : Nat} {l : List V} (hs : vrel ι s slv) (hl : lenOf h s = some (len, b, q, l)) :
    light (.len false (.c s)) (fun a => a.ev [] Env.nil) h = .val (natV .i64 len) ∧ (∀ i, i < len → light (.iaddr 2 (.c s) (.c (.int .i64 (i : Int)))) (fun a => a.ev [] Env.nil) h = .val (.ptr b (q + i * 2))) ∧
    ∃ xs : List Value, xs.length = len * 2 ∧ (∀ y ∈ xs, y.oneCell' = true) ∧ vrels ι l xs ∧ (0 < len → ∀ B, ι b = some B → B.c < w.heap.size ∧ ∀ j x, xs[j]? = some x → w.cell? ⟨B.c, B.off + q + j, none⟩ = some x) := by
  unfold lenOf at hl
  split at hl
  · cases hl
    exact ⟨rfl, fun i hi => by omega, [], rfl, by simp, rfl, fun h => by omega⟩
  · rename_i b' q' n' cap
    split at hl
    · rename_i l' hld
      cases hl
      obtain ⟨B, a, c, hB, _, _⟩ := hs
      obtain ⟨xs, e1, e2, e3, e4⟩ := load_rel g hB hld
      refine ⟨rfl, fun i hi => ?_, xs, e1, e3, e2, fun _ B' hB' => ?_⟩
      · show iaddr1 2 b q len i = _
        unfold iaddr1
        have : i.blt len = true := by rw [nblt]; simpa using hi
        rw [this]
        show force (Nat.add q (Nat.mul i 2)) (fun o => LR.val (.ptr b o)) = _
        rw [force_eq]; rfl
      · rw [hB] at hB'; cases hB'
        exact ⟨g.inH b B hB, e4⟩
    · cases hl
  · cases hl

section
variable {P : Program} {call : CallT} {U : VarD} {ts te tn ti tb : TypeId} {l4 n5 s6 a3 m7 g8 m11 m12 l13 m14 i15 e16 c17 u18 m9 s10 a30 : Oper} {j0 j1 j2 j3 d0 d1 : Nat}
  {a11 st f32 l33 l34 q35 f36 l37 st6 st7 : Oper} {i5 i6 i7 b0 b1 : Nat} {c0 c1 c2 c3 c4 cr : Code}
set_option maxHeartbeats 4000000 in
theorem var_sound (hmx : P.follows .mixedOrders = true) (hcs : CallS P call) (hcm : CallMono call) {f : Nat} {fn gn : Func} (hf : P.funcs[f]? = some fn)
    (hbd : fn.body = some (.seq c0 (.seq c1 (.seq (.seq c2 (.cond (.tmp 18) c3 (.seq c4 (.block b0 (.rangeFunc (.tmp 29) #[30, 31] (asgCode a11 st i5) (bodCode f32 l33 l34 q35 f36 l37 st6 st7 i6 i7 b1)))))) cr))))
    (hnt : fn.ntmps = 65) (h64 : U.F.temps.length ≤ 64) (hnp : U.F.np ≤ U.F.temps.length) (hnp2 : U.F.np ≤ 65) (hid : idOk U.F.temps 0 U.F.np = true)
    (t18 : U.F.temps[5]? = some 18) (t29 : U.F.temps[12]? = some 29) (t5 : U.F.temps[9]? = some 5) (t6 : U.F.temps[3]? = some 6) (t7 : U.F.temps[4]? = some 7)
    (k0 : chkC P U.F.temps 65 c0 U.e0 = true) (k1 : chkC P U.F.temps 65 c1 U.e1 = true) (k2 : chkC P U.F.temps 65 c2 U.e2 = true) (k4 : chkC P U.F.temps 65 c4 U.e4 = true) (kr : chkC P U.F.temps 65 cr U.er = true)
    (krs : chkRs P U.F.temps fn.results.toList U.F.results = true)
    (hg : P.funcs[U.g]? = some gn) (hgb : gn.body = some (backCode l4 n5 s6 a3 m7 g8 m11 m12 l13 m14 i15 e16 c17 u18 m9 s10 a30 j0 j1 j2 j3 d0 d1)) (hgn : gn.ntmps = 19) (hgr : gn.results = #[]) (hgname : (gn.name == "runtime.NumGoroutine") = false)
    (TB : BackT P ts te ti ti tb) (OB : BackO ts te ti tb l4 n5 s6 a3 m7 g8 m11 m12 l13 m14 i15 e16 c17 u18 m9 s10 a30) (TR : RndT P te tn ti) (OR' : RndO te tn ti a11 st f32 l33 l34 q35 f36 l37 st6 st7)
    {as : List V} {h : Heap} (hne : varG U call as h ≠ .bad) : ∀ ι w (args : Array Value), Good ι h w → OR.free ι h (varG U call as h) → vrels ι as args.toList → Calls P f args w (OutP ι h w (varG U call as h)) := by
  intro ι w args g hfree hr
  obtain ⟨r, hrr⟩ : ∃ r, r = varG U call as h := ⟨_, rfl⟩
  rw [← hrr] at hne hfree ⊢
  unfold varG at hrr
  cases hlen : (lenV as).beq U.F.np with
  | false => rw [hlen] at hrr; exact absurd hrr hne
  | true =>
  rw [hlen] at hrr
  have hl : as.length = U.F.np := by rw [lenV_eq] at hlen; exact Nat.eq_of_beq_eq_true hlen
  have hrr : nx (code U.e0 call maxRounds (argsP as 0 Env.nil) h) (fun env h => nx (code U.e1 call maxRounds env h) fun env h => nx (code U.e2 call maxRounds env h) fun env h => varC U call env h) = r := hrr.symm
  obtain ⟨env0, h0, hc0, hrr⟩ := nx_inv hrr hne
  obtain ⟨env1, h1, hc1, hrr⟩ := nx_inv hrr hne
  obtain ⟨env2, h2, hc2, hrr⟩ := nx_inv hrr hne
  obtain ⟨env4, h4, hcond, hc4, hrr⟩ : ∃ env4 h4, Env.get .d0 .d5 env2 = .bool false ∧ code U.e4 call maxRounds env2 h2 = .ok .nrm env4 h4 ∧ varT U call env4 h4 = r := by
    unfold varC at hrr
    split at hrr
    · rename_i hcond
      obtain ⟨env4, h4, hc4, hrr⟩ := nx_inv hrr hne
      exact ⟨env4, h4, hcond, hc4, hrr⟩
    · exact absurd hrr.symm hne
  have hnr := varT_next (U := U) hcm env4 h4
  rw [hrr] at hnr
  obtain ⟨bx, ox, s, len, b, q, l, els, b5, o5, b6, o6, b7, o7, n', x', v29, v5, v6, v7, lx, l5, hlo, hels, hlen', hel, hall, hrr⟩ := varT_inv hrr hne
  have n0 := code_next hcm U.e0 maxRounds (argsP as 0 Env.nil) h
  rw [hc0] at n0
  have n1 := code_next hcm U.e1 maxRounds env0 h0
  rw [hc1] at n1
  have n2 := code_next hcm U.e2 maxRounds env1 h1
  rw [hc2] at n2
  have n4 := code_next hcm U.e4 maxRounds env2 h2
  rw [hc4] at n4
  have n0 : h.next ≤ h0.next := n0
  have n1 : h0.next ≤ h1.next := n1
  have n2 : h1.next ≤ h2.next := n2
  have n4 : h2.next ≤ h4.next := n4
  have hmax : ∀ hk : Heap, hk.next ≤ h4.next → FreeIn ι h hk := fun hk hle => by
    cases r with
    | ok v h' => exact FreeIn.left (h2 := h') hfree (Nat.le_trans hle hnr)
    | pan v h' => exact FreeIn.left (h2 := h') hfree (Nat.le_trans hle hnr)
    | bad => exact absurd rfl hne
  refine callsIn_wide.1 (callsIn_of_wp_marks (n := 9) hf hbd trivial ?_ rfl)
  have hact := start_act (N := 65) h64 hnp hnp2 hid hl hr
  rw [hnt]
  refine wpIn_seq (wpIn_wide.2 (wp_code hmx hcs hcm c0 U.e0 k0 maxRounds hc0 hact g (hmax h0 (by omega)) fun ι0 a0 w0 ch0 r0 => ?_))
  show (Code.seq c1 _).wpIn _ _ _ _ _ _
  refine wpIn_seq (wpIn_wide.2 (wp_code hmx hcs hcm c1 U.e1 k1 maxRounds hc1 r0 ch0.good ((hmax h1 (by omega)).right ch0.ext) fun ι1 a1 w1 ch1 r1 => ?_))
  show (Code.seq _ cr).wpIn _ _ _ _ _ _
  have ch1 := ch0.trans ch1 (hmax h0 (by omega))
  refine wpIn_seq (wpIn_seq (wpIn_wide.2 (wp_code hmx hcs hcm c2 U.e2 k2 maxRounds hc2 r1 ch1.good ((hmax h2 (by omega)).right ch1.ext) fun ι2 a2 w2 ch2 r2 => ?_)))
  show (Code.cond _ _ _).wpIn _ _ _ _ _ _
  have ch2 := ch1.trans ch2 (hmax h1 (by omega))
  have e18 : a2.eval (.tmp 18) = .bool false := by
    have : vrel ι2 (Env.get .d0 .d5 env2) (a2.eval (.tmp 18)) := r2.tmps 5 18 t18
    rw [hcond] at this; exact this
  refine wpIn_cond_false e18 (wpIn_seq (wpIn_wide.2 (wp_code hmx hcs hcm c4 U.e4 k4 maxRounds hc4 r2 ch2.good ((hmax h4 (by omega)).right ch2.ext) fun ι4 a4 w4 ch4 r4 => ?_)))
  show (Code.block b0 _).wpIn _ _ _ _ _ _
  have ch4 := ch2.trans ch4 (hmax h2 (by omega))
  have hfr4 := hmax h4 (Nat.le_refl _)
  refine wpIn_block ?_
  -- what is known where the loop begins
  obtain ⟨ys, e29, hys⟩ : ∃ ys, a4.eval (.tmp 29) = .func (.func U.g) #[] ys ∧ vrels ι4 [.ptr bx ox] ys.toList := by
    have : vrel ι4 (Env.get .d1 .d4 env4) (a4.eval (.tmp 29)) := r4.tmps 12 29 t29
    rw [v29] at this
    obtain ⟨xs, ys, e, e1, e2⟩ := this
    have : xs = #[] := Array.toList_eq_nil_iff.1 e1
    subst this
    exact ⟨ys, e, e2⟩
  obtain ⟨Bx, hBx, hys⟩ : ∃ Bx, ι4 bx = some Bx ∧ ys = #[.pointer (some ⟨Bx.c, Bx.off + ox, none⟩)] := by
    obtain ⟨y, ys', e, ⟨B, hB, e1⟩, e2⟩ := hys
    have e2 : ys' = [] := e2
    subst e1 e2
    exact ⟨B, hB, by rw [← Array.toArray_toList (xs := ys), e]⟩
  subst hys
  obtain ⟨slv, hsl, _, hcx⟩ := load1_rel ch4.good hBx lx
  have r5 : vrel ι4 (.ptr b5 o5) (a4.eval (.tmp 5)) := by have : vrel ι4 (Env.get .d1 .d1 env4) (a4.eval (.tmp 5)) := r4.tmps 9 5 t5; rwa [v5] at this
  have r6 : vrel ι4 (.ptr b6 o6) (a4.eval (.tmp 6)) := by have : vrel ι4 (Env.get .d0 .d3 env4) (a4.eval (.tmp 6)) := r4.tmps 3 6 t6; rwa [v6] at this
  have r7 : vrel ι4 (.ptr b7 o7) (a4.eval (.tmp 7)) := by have : vrel ι4 (Env.get .d0 .d4 env4) (a4.eval (.tmp 7)) := r4.tmps 4 7 t7; rwa [v7] at this
  have hB4 : ∀ W, Below w4.heap.size w4 W → Good ι4 h4 W := fun W hW => ch4.good.off (fun b B hB => hW.block _ (ch4.good.inH b B hB)) hW.size
  have hC4 : ∀ W, Below w4.heap.size w4 W → Chg ι4 h4 w4 ι4 h4 W := fun W hW => Chg.same (hB4 W hW) ⟨fun c hc _ => hW.block c hc, hW.size, hW.tape, hW.os, hW.output⟩ rfl
  have hc1 : ∀ W, Below w4.heap.size w4 W → W.cell? ⟨Bx.c, Bx.off + ox, none⟩ = some slv := fun W hW => (World.cell?_of_block (a := ⟨Bx.c, Bx.off + ox, none⟩) (hW.block _ (ch4.good.inH bx Bx hBx))).trans hcx
  obtain ⟨hn, hi, xs, hxl, hx1, hxr, hxc⟩ := els_at ch4.good hsl hlo
  obtain ⟨hll, hle⟩ := locs_at hels
  let x0 : Nat → Value := fun i => (xs[min i (len - 1) * 2]?).getD (.int .i64 0)
  let x1 : Nat → Value := fun i => (xs[min i (len - 1) * 2 + 1]?).getD (.int .i64 0)
  have one : ∀ k : Nat, ((xs[k]?).getD (Value.int .i64 0)).oneCell' = true := fun k => by
    cases hk : xs[k]? with
    | none => rfl
    | some y => exact hx1 y (List.mem_of_getElem? hk)
  have hE : ∀ i, i < len → ∀ B, ι4 b = some B → ∀ W, Below w4.heap.size w4 W → ∀ (j : Nat) x, [x0 i, x1 i][j]? = some x → W.cell? ⟨B.c, B.off + (q + i * 2) + j, none⟩ = some x := by
    intro i hi B hB W hW j x hj
    obtain ⟨c1, c2⟩ := hxc (by omega) B hB
    have hmin : min i (len - 1) = i := by omega
    have key : ∀ k : Nat, k < len * 2 → W.cell? ⟨B.c, B.off + q + k, none⟩ = some ((xs[k]?).getD (Value.int .i64 0)) := fun k hk => by
      have : xs[k]? = some xs[k] := List.getElem?_eq_getElem (by omega)
      rw [this]
      exact (World.cell?_of_block (a := ⟨B.c, B.off + q + k, none⟩) (hW.block _ c1)).trans (c2 k _ this)
    match j, hj with
    | 0, hj =>
      have hj : x0 i = x := by simpa using hj
      rw [← hj]
      show W.cell? ⟨B.c, B.off + (q + i * 2) + 0, none⟩ = some ((xs[min i (len - 1) * 2]?).getD (Value.int .i64 0))
      rw [hmin, ← key (i * 2) (by omega), show B.off + (q + i * 2) + 0 = B.off + q + i * 2 by omega]
    | 1, hj =>
      have hj : x1 i = x := by simpa using hj
      rw [← hj]
      show W.cell? ⟨B.c, B.off + (q + i * 2) + 1, none⟩ = some ((xs[min i (len - 1) * 2 + 1]?).getD (Value.int .i64 0))
      rw [hmin, ← key (i * 2 + 1) (by omega), show B.off + (q + i * 2) + 1 = B.off + q + (i * 2 + 1) by omega]
    | j + 2, hj => simp at hj
  have hseq : SeqStopsK Fence.wide (9 - 1) P U.g #[.pointer (some ⟨Bx.c, Bx.off + ox, none⟩)] (fun i : Nat => #[Value.int .i64 (i : Int), .agg #[x0 i, x1 i]]) (Below w4.heap.size) (fun ys => ys = down len len) (fun pre => ∃ k, k ≤ len ∧ pre = down len k) len w4 := by
    intro l' J Jx W hW _ _ hY hJ
    refine (back_in (F := Fence.wide) (m := 9 - 1) hg hgb hgn hgr TB OB (fun _ => trivial) rfl rfl hB4 hc1 hsl (by omega) hn hi (Ev := fun i => [x0 i, x1 i]) (fun _ => rfl) hE (l := l') (J := J) (Jx := Jx) (fun pre i W hJ hlt => hY pre i W hJ hlt) hW hJ).mono ?_
    rintro e W' ⟨hv, hh⟩
    refine ⟨hv, ?_⟩
    rcases hh with hh | ⟨k, hk, hh⟩
    · exact .inl ⟨_, rfl, hh⟩
    · exact .inr ⟨_, ⟨k, hk, rfl⟩, hh⟩
  -- the end of the call
  have fin : ∀ (ι5 : Inj) (env5 : Env) (h5 : Heap) (a5 : Act) (w5 : World) (D : Nat), Chg ι4 h4 w4 ι5 h5 w5 → ActR [] ι5 U.F.temps 65 env5 { a5 with defers := [] } → a5.defers = [{ target := .collected D, args := #[] }] → w4.heap.size ≤ D →
      w5.heap[D]? = some (.deferred (some [])) → (∀ b B, ι5 b = some B → B.c ≠ D) → finish U.F.results env5 h5 = r → LeavesInM Fence.wide 9 P fn a5.tmps (OutP ι h w r) a5.defers .returning w5 := by
    intro ι5 env5 h5 a5 w5 D ch ra hd hD hK him hfin
    rw [hd]
    refine ⟨by simp, .inl ⟨D, _, rfl, run_takeDeferred hK, ?_⟩⟩
    have ch6 : Chg ι4 h4 w4 ι5 h5 (w5.putObj D (.deferred none)) := ch.off (fun b B hB => World.putObj_heap_other (him b B hB)) (fun k hk => World.putObj_heap_other (by omega)) (by simp [World.putObj]) rfl rfl rfl
    obtain ⟨vs, hvs, hro⟩ := finish_ok hfin hne
    obtain ⟨vs', m1, m2⟩ := results_rel (P := P) ch6.good ra fn.results.toList U.F.results krs vs hvs
    refine ⟨(if h : vs'.toArray.size = 1 then vs'.toArray[0] else .tuple vs'.toArray), ?_, ?_⟩
    · unfold Go.results
      rw [Array.mapM_eq_mapM_toList]
      simp only [Sem.run_bind, Sem.run_map]
      erw [m1]
      rfl
    · rw [hro]
      exact ⟨ι5, ch4.trans ch6 hfr4, vrels.one_ (by simpa using m2)⟩
  let mat : Nat → Bool := fun i => match els[min i (len - 1)]? with | some e => sEq e.1 e.2.1 n' x' | none => false
  have hel' : ∀ i, 0 < len → ∃ e, els[min i (len - 1)]? = some e := fun i h0 => ⟨_, List.getElem?_eq_getElem (by omega)⟩
  let I : List Nat → World → Prop := fun pre W => Below w4.heap.size w4 W ∧ ∀ i ∈ pre, mat i = false
  let Ix : Code → List Nat → World → Prop := fun c xs W => c = .ret ∧ ∃ pr i e h3, xs = pr ++ [i] ∧ (∀ j ∈ pr, mat j = false) ∧ els[min i (len - 1)]? = some e ∧ sEq e.1 e.2.1 n' x' = true ∧ st2 h4 b6 o6 b7 o7 e.2.2 = some h3 ∧ Chg ι4 h4 w4 ι4 h3 W
  let Ax : Nat → Act → World → Prop := fun i a' W => ∃ c, Tn 65 [] a' [(11, .pointer (some ⟨c, 0, none⟩)), (5, a4.eval (.tmp 5)), (6, a4.eval (.tmp 6)), (7, a4.eval (.tmp 7))] ∧ W.cell? ⟨c, 0, none⟩ = some (x0 i) ∧ W.cell? ⟨c, 1, none⟩ = some (x1 i)
  have eg : ∀ args w, (callFunc U.g args).run P w = .ok (.enter U.g args) w := fun args w => callFunc_run ⟨gn, hg, hgname, by rw [hgb]; rfl⟩ args
  refine wpIn_rangeFunc_ownH (F := Fence.wide) (n := 9) rfl (by decide) (gf := U.g) (lb := #[.pointer (some ⟨Bx.c, Bx.off + ox, none⟩)]) e29 trivial eg hseq belowK_t (belowK_b (Nat.le_refl _)) (Below.refl _ _) (fun _ => rfl) I Ix ?hI ?hIx ?h0 Ax ?hAx ?assign ?body ?done ?stop
  case hI =>
    intro s A B row hs hg hr
    exact ⟨hs.1.grown hg hs.1.size (fun k e => (hr k e).1), hs.2⟩
  case hIx =>
    rintro c s A B row ⟨hc, pr, i, e, h3, k1, k2, k3, k4, k5, ch⟩ hg hr
    refine ⟨hc, pr, i, e, h3, k1, k2, k3, k4, k5, ch.off (fun b B hB => hg.block _ (ch.good.inH b B hB) (fun e => ?_)) (fun k hk => hg.block _ (Nat.lt_of_lt_of_le hk ch.frame.size) (fun e => ?_)) hg.size hg.tape hg.os hg.output⟩
    · have := (hr _ e.symm).1
      have := ch4.good.inH b B hB
      omega
    · have := (hr _ e.symm).1
      omega
  case h0 => exact ⟨Below.refl _ _, by simp⟩
  case hAx =>
    rintro x a' s A B row ⟨c, t, k1, k2⟩ hg hr
    exact ⟨c, t, cell_kept k1 hg (fun r e => (hr r e).2), cell_kept k2 hg (fun r e => (hr r e).2)⟩
  case assign =>
    intro l' pre x W K hi' hK
    refine rnd_asg TR OR' (fun _ => trivial) (x0 := x0 x) (x1 := x1 x) (p5 := a4.eval (.tmp 5)) (p6 := a4.eval (.tmp 6)) (p7 := a4.eval (.tmp 7)) ?_ (one _) (one _) fun a' W' hn ht => ?_
    · refine ⟨by simp [r4.size], rfl, fun p hp => ?_⟩
      have e0 : ((#[30, 31].zip #[Value.int .i64 (x : Int), .agg #[x0 x, x1 x]]).foldl (fun t (p, v) => t.setIfInBounds p v) a4.tmps) = (a4.tmps.setIfInBounds 30 (.int .i64 (x : Int))).setIfInBounds 31 (.agg #[x0 x, x1 x]) := by simp
      show (((#[30, 31].zip #[Value.int .i64 (x : Int), .agg #[x0 x, x1 x]]).foldl (fun t (p, v) => t.setIfInBounds p v) a4.tmps)).getD p.1 undef = p.2
      rw [e0, getD_put (by rw [Array.size_setIfInBounds, r4.size]; decide), getD_put (by rw [r4.size]; decide)]
      simp at hp
      rcases hp with rfl | rfl | rfl | rfl <;> rfl
    · exact hK a' W' ⟨by rw [hn.size]; omega, fun k o _ hk _ => (hn.old k (Array.getElem?_eq_some_iff.1 hk).1).trans hk⟩ (hn.below hi'.1.size) ⟨hi'.1.trans (hn.below hi'.1.size), hi'.2⟩ ⟨_, ht, hn.c0, hn.c1⟩
  case body =>
    rintro l' pre x a' W hl' hrec hi' ⟨c, t, k1, k2⟩ hlt
    obtain ⟨e, he⟩ := hel' x (by omega)
    obtain ⟨m1, m2⟩ := hle _ _ he
    obtain ⟨y0, hy0, hv0⟩ := hxr.get m1
    obtain ⟨y1, hy1, hv1⟩ := hxr.get m2
    have hv1 : y1 = .int .i64 e.2.2 := hv1
    have ex0 : x0 x = y0 := by show (xs[min x (len - 1) * 2]?).getD _ = _; rw [hy0]; rfl
    have ex1 : x1 x = .int .i64 e.2.2 := by show (xs[min x (len - 1) * 2 + 1]?).getD _ = _; rw [hy1, hv1]; rfl
    rw [ex0] at k1
    rw [ex1] at k2
    refine rnd_bod TR OR' (fun _ => trivial) t (hB4 W hi'.1) k1 k2 hv0 r5 l5 r6 r7 (fun hs a' => ?_) (fun hs => ?_)
    · refine ⟨KeepsFrom.refl _ _, Below.refl _ _, hi'.1, fun i hi2 => ?_⟩
      rcases List.mem_append.1 hi2 with hi2 | hi2
      · exact hi'.2 i hi2
      · have : i = x := by simpa using hi2
        subst this
        show (match els[min i (len - 1)]? with | some e => sEq e.1 e.2.1 n' x' | none => false) = false
        rw [he]; exact hs
    · have := allB_at hall e (List.mem_of_getElem? he) hs
      obtain ⟨h3, hst⟩ := Option.isSome_iff_exists.1 this
      refine ⟨h3, hst, fun a' W' ch => ⟨⟨ch.frame.size, fun k o hk ho _ => (ch.frame.keep k (Array.getElem?_eq_some_iff.1 ho).1 fun b B hB _ _ e => ?_).trans ho⟩, rfl, pre, x, e, h3, rfl, hi'.2, he, hs, hst, (hC4 W hi'.1).trans ch (fun b hb hl => by omega)⟩⟩
      have := ch4.good.inH b B hB
      omega
  case done =>
    rintro D ys W hD rfl ⟨hbel, hno⟩ hK
    show Code.wpIn _ _ _ cr _ _ _
    have hnone : findB n' x' els = none := findB_none.2 fun e he => by
      obtain ⟨i, hi'⟩ := List.getElem?_of_mem he
      have hil : i < len := by rw [← hel]; exact (List.getElem?_eq_some_iff.1 hi').1
      have := hno i (down_mem hil (by omega))
      have hm : (match els[min i (len - 1)]? with | some e => sEq e.1 e.2.1 n' x' | none => false) = false := this
      rw [show min i (len - 1) = i by omega, hi'] at hm
      exact hm
    rw [hnone] at hrr
    have hrr : endCall U.F.results (code U.er call maxRounds env4 h4) = r := hrr
    have hDW : D < W.heap.size := (Array.getElem?_eq_some_iff.1 hK).1
    have imD : ∀ (ι5 : Inj), ι4.le ι5 → Sep ι4 h4 W ι5 → ∀ b B, ι5 b = some B → B.c ≠ D := fun ι5 hle hsep b B hB e => by
      cases h4b : ι4 b with
      | some B' =>
        have := hle b B' h4b
        rw [hB] at this; cases this
        have := ch4.good.inH b B h4b
        omega
      | none =>
        rcases hsep b B h4b hB with h1 | ⟨b0, B0, _, k1, k2, k3⟩
        · omega
        · have := ch4.good.inH b0 B0 k2
          omega
    cases hcode : code U.er call maxRounds env4 h4 with
    | bad => rw [hcode] at hrr; exact absurd hrr.symm hne
    | ok x env5 h5 =>
      rw [hcode] at hrr
      have hr4 : ActR [{ target := .collected D, args := #[] }] ι4 U.F.temps 65 env4 { a4 with defers := { target := .collected D, args := #[] } :: a4.defers } := ⟨r4.size, by simp [r4.defers], r4.tmps⟩
      have hf5 : OR.next h5 r → FreeIn ι4 h4 h5 := fun hle => by
        cases r with
        | ok v h' => exact (FreeIn.right (h2 := h') hfree ch4.ext).left hle
        | pan v h' => exact (FreeIn.right (h2 := h') hfree ch4.ext).left hle
        | bad => exact absurd rfl hne
      have hfin5 : finish U.F.results env5 h5 = r → OR.next h5 r := fun hf => by
        obtain ⟨vs, _, e⟩ := finish_ok hf hne
        rw [e]
        exact (Nat.le_refl _ : h5.next ≤ h5.next)
      cases x with
      | exit i => exact absurd hrr.symm hne
      | nrm =>
        have hrr : finish U.F.results env5 h5 = r := hrr
        refine wpIn_wide.2 (wp_code hmx hcs hcm cr U.er kr maxRounds hcode hr4 (hB4 W hbel) (hf5 (hfin5 hrr)) fun ι5 a5 w5 ch5 r5 => ?_)
        refine fin ι5 env5 h5 a5 w5 D ((hC4 W hbel).trans ch5 (fun b hb hl => by omega)) ⟨r5.size, rfl, r5.tmps⟩ r5.defers hD ((ch5.frame.keep D hDW fun b B hB _ _ e => ?_).trans hK) (imD ι5 ch5.ext.1 ch5.sep) hrr
        have := ch4.good.inH b B hB
        omega
      | ret =>
        have hrr : finish U.F.results env5 h5 = r := hrr
        refine wpIn_wide.2 (wp_code hmx hcs hcm cr U.er kr maxRounds hcode hr4 (hB4 W hbel) (hf5 (hfin5 hrr)) fun ι5 a5 w5 ch5 r5 => ?_)
        refine fin ι5 env5 h5 a5 w5 D ((hC4 W hbel).trans ch5 (fun b hb hl => by omega)) ⟨r5.size, rfl, r5.tmps⟩ r5.defers hD ((ch5.frame.keep D hDW fun b B hB _ _ e => ?_).trans hK) (imD ι5 ch5.ext.1 ch5.sep) hrr
        have := ch4.good.inH b B hB
        omega
      | pan v =>
        have hrr : OR.pan v h5 = r := hrr
        refine wpIn_wide.2 (wp_code hmx hcs hcm cr U.er kr maxRounds hcode hr4 (hB4 W hbel) (hf5 (by rw [← hrr]; exact (Nat.le_refl _ : h5.next ≤ h5.next))) fun ι5 a5 w5 ch5 v' hv' hd5 => ?_)
        have hk5 : w5.heap[D]? = some (.deferred (some [])) := (ch5.frame.keep D hDW fun b B hB _ _ e => by
          have := ch4.good.inH b B hB
          omega).trans hK
        have ch := (hC4 W hbel).trans ch5 (fun b hb hl => by omega)
        have ch6 : Chg ι4 h4 w4 ι5 h5 (w5.putObj D (.deferred none)) := ch.off (fun b B hB => World.putObj_heap_other (imD ι5 ch5.ext.1 ch5.sep b B hB)) (fun k hk => World.putObj_heap_other (by omega)) (by simp [World.putObj]) rfl rfl rfl
        show LeavesInM Fence.wide 9 P fn a5.tmps (OutP ι h w r) a5.defers _ w5
        rw [hd5]
        refine ⟨by simp, .inl ⟨D, _, rfl, run_takeDeferred hk5, ?_⟩⟩
        show OutP ι h w r (.panicked _) _
        rw [← hrr]
        exact ⟨v', ι5, rfl, ch4.trans ch6 hfr4, hv'⟩
  case stop =>
    rintro D c pre W hD ⟨k, hk, hpre⟩ ⟨hc, pr, i, e, h3, e1, hno, he, hs, hst, ch⟩ hK
    subst hc
    refine wpIn_ret ?_
    show LeavesInM Fence.wide 9 P fn a4.tmps (OutP ι h w r) _ .returning W
    have hk0 : k ≠ 0 := by
      intro e0
      subst e0
      rw [hpre] at e1
      have := congrArg List.length e1
      simp [down] at this
    obtain ⟨k, rfl⟩ := Nat.exists_eq_succ_of_ne_zero hk0
    rw [hpre, Nat.succ_eq_add_one, down_succ] at e1
    have e2 := List.append_inj' e1 rfl
    have hpr : pr = down len k := e2.1.symm
    have hik : i = len - 1 - k := by have := e2.2; simp at this; exact this.symm
    have hil : i < len := by omega
    have hmin : min i (len - 1) = i := by omega
    rw [hmin] at he
    have hfound : findB n' x' els = some e.2.2 := findB_at he hs fun j e' hj hj' => by
      have hjl : j < len := by rw [← hel]; exact (List.getElem?_eq_some_iff.1 hj').1
      have := hno j (by rw [hpr]; exact down_mem hjl (by omega))
      have hm : (match els[min j (len - 1)]? with | some e => sEq e.1 e.2.1 n' x' | none => false) = false := this
      rw [show min j (len - 1) = j by omega, hj'] at hm
      exact hm
    rw [hfound] at hrr
    have hrr : (match st2 h4 b6 o6 b7 o7 e.2.2 with | some h3 => finish U.F.results env4 h3 | none => .bad) = r := hrr
    rw [hst] at hrr
    have hrr : finish U.F.results env4 h3 = r := hrr
    refine fin ι4 env4 h3 { a4 with defers := { target := .collected D, args := #[] } :: a4.defers } W D ch ⟨r4.size, rfl, r4.tmps⟩ (by simp [r4.defers]) hD hK (fun b B hB e => ?_) hrr
    have := ch4.good.inH b B hB
    omega
end
end
end Go.Eng
namespace Go.Eng
noncomputable section

/-! ### a context with such a function -/
/-- where its module is named, as it stands; where not, by the summary -/
def varS (U : VarD) (call : CallT) (as : List V) (h : Heap) : OR := match as with
  | [_, .str n _, _] => bif n.beq 0 then varG U call as h else runFun U.F call as h
  | _ => .bad
def Ctx.withV (c : Ctx) (f0 : Nat) (U : VarD) : Ctx := ⟨c.funs, fun call f as h => bif f.beq f0 then varS U call as h else c.sums call f as h⟩
section
variable {P : Program} {U : VarD}
/-- the summary is sound -/
def VarOk (P : Program) (f0 : Nat) (U : VarD) : Prop := hasBody P f0 ∧ ∀ call, CallS P call → CallMono call → ∀ as h, varG U call as h ≠ .bad →
  ∀ ι w (args : Array Value), Good ι h w → OR.free ι h (varG U call as h) → vrels ι as args.toList → Calls P f0 args w (OutP ι h w (varG U call as h))
theorem withV_ok (hmx : P.follows .mixedOrders = true) {c : Ctx} {f0 : Nat} (hs : SumsOk P c) (hv : VarOk P f0 U) (hf : chkF P f0 U.F = true) : SumsOk P (c.withV f0 U) := by
  intro call hcs hcm f as h hn
  show OR.next h (bif f.beq f0 then varS U call as h else c.sums call f as h) ∧ ((bif f.beq f0 then varS U call as h else c.sums call f as h) ≠ .bad → hasBody P f ∧ ∀ ι w (args : Array Value), Good ι h w → OR.free ι h (bif f.beq f0 then varS U call as h else c.sums call f as h) →
    vrels ι as args.toList → Calls P f args w (OutP ι h w (bif f.beq f0 then varS U call as h else c.sums call f as h)))
  cases hb : f.beq f0 with
  | false => exact hs call hcs hcm f as h hn
  | true =>
    have hff : f = f0 := Nat.eq_of_beq_eq_true hb
    subst hff
    simp only [cond_true]
    unfold varS
    split
    · rename_i a n x b
      cases n.beq 0 with
      | true => exact ⟨varG_next hcm _ h, fun hne => ⟨hv.1, hv.2 call hcs hcm _ h hne⟩⟩
      | false => exact ⟨runFun_next hcm U.F maxRounds _ h, fun hne => fun_sound hmx hcs hcm hf hne⟩
    · exact ⟨trivial, fun h => absurd rfl h⟩
/-- **A law, at given values.** -/
theorem law_runC (hmx : P.follows .mixedOrders = true) {c : Ctx} (hf : allT (chkF P) c.funs = true) (hs : SumsOk P c)
    {n f : Nat} {as : List V} (he : isTrue (lev c n f as .none Heap.empty).1 = true) {args : Array Value} (hr : vrels Inj.none as args.toList) (w : World) :
    Calls P f args w fun e w' => e = .returned (.bool true) ∧ Kept w w' := by
  obtain ⟨h', e⟩ := isTrue_ok he
  exact closed_run hmx (c := c) hf hs e hr w
end
/-- a function of no arguments that comes to true and leaves all as it was: told once -/
def moreYes (f0 : Nat) : Nat → List V → Heap → OR := fun f as h => match f.beq f0, as with
  | true, [] => .ok (.bool true) h
  | _, _ => .bad
theorem moreYes_ok {P : Program} {f0 : Nat} (hb : hasBody P f0) (hc : ∀ w, Calls P f0 #[] w fun e w' => e = .returned (.bool true) ∧ Kept w w') : MoreOk P (moreYes f0) := by
  intro f as h
  unfold moreYes
  split
  · rename_i hfe
    have hfe : f = f0 := Nat.eq_of_beq_eq_true hfe
    subst hfe
    refine ⟨Nat.le_refl _, fun _ => ⟨hb, fun ι w args g hr => ?_⟩⟩
    have ha : args = #[] := Array.toList_eq_nil_iff.1 hr
    subst ha
    refine (hc w).mono fun e w' ⟨he, hk⟩ => ?_
    subst he
    exact ⟨ι, Chg.same (g.world hk.old hk.size) ⟨fun c hc _ => hk.old c hc, hk.size, hk.tape, hk.os, hk.out⟩ rfl, rfl⟩
  · exact ⟨trivial, fun h => absurd rfl h⟩
/-- what the three functions are: their operations read off the program -/
def nth (c : Code) : Nat → Code
  | 0 => match c with | .seq a _ => a | c => c
  | n + 1 => match c with | .seq _ b => nth b n | c => c
def rest (c : Code) : Nat → Code
  | 0 => c
  | n + 1 => match c with | .seq _ b => rest b n | c => c
def condA (c : Code) : Code := match c with | .cond _ a _ => a | c => c
def condB (c : Code) : Code := match c with | .cond _ _ b => b | c => c
def blkC (c : Code) : Code := match c with | .block _ a => a | c => c
def rfA (c : Code) : Code := match c with | .rangeFunc _ _ a _ => a | c => c
def rfB (c : Code) : Code := match c with | .rangeFunc _ _ _ b => b | c => c
end
end Go.Eng
namespace Go.Eng
noncomputable section

/-! ### a law whose arguments are two slices that are only read -/
section
variable {P : Program} {w : World}
theorem law_runA (hmx : P.follows .mixedOrders = true) {c : Ctx} (hf : allT (chkF P) c.funs = true) (hs : SumsOk P c) {n f : Nat} {as : List V} {h0 : Heap} {ι0 : Inj} (hn : h0.next = 8) (hι : ∀ b B, ι0 b = some B → b < 8)
    (g : Good ι0 h0 w) (he : isTrue (lev c n f as .none h0).1 = true) {args : Array Value} (hr : vrels ι0 as args.toList) : Calls P f args w fun e w' => e = .returned (.bool true) ∧ Kept w w' := by
  obtain ⟨h', he⟩ := isTrue_ok he
  have h1 := ((lev_sound hmx c hf hs maxRounds n).1 f as h0 (by show (lev c n f as .none h0).1 ≠ .bad; rw [he]; simp)).2 ι0 w args g (OR.free_none (fun b hb => by
    cases hb2 : ι0 b with
    | none => rfl
    | some B => have := hι b B hb2; omega) (by show (lev c n f as .none h0).1 ≠ .bad; rw [he]; simp)) hr
  have he' : (levR c maxRounds n f as .none h0).1 = .ok (.bool true) h' := he
  rw [he'] at h1
  refine h1.mono fun e w' ho => ?_
  cases e with
  | returned v' =>
    obtain ⟨ι', cg, hv⟩ := ho
    have hv : v' = .bool true := hv
    subst hv
    exact ⟨rfl, fun k hk => cg.frame.keep k hk fun b B hb h8 => (by have := hι b B hb; omega), cg.frame.size, cg.frame.tape, cg.frame.os, cg.frame.out⟩
  | panicked ch => exact ho.elim
  | outgrown => exact ho.elim
/-- what a slice of bools is for us -/
structure Arg (w : World) (j : Nat) (v : Value) (a : V) (o : Obj) (B : Option Blk) : Prop where
  rel : ∀ ι : Inj, ι j = B → vrel ι a v
  obj : ∀ (ι : Inj) B', B = some B' → orel ι B' o w
  inH : ∀ B', B = some B' → B'.c < w.heap.size
  fam : ∀ B', B = some B' → B'.fam = j
def inj2 (B0 B1 : Option Blk) : Inj := fun b => if b = 0 then B0 else if b = 1 then B1 else Option.none
def heap2 (o0 o1 : Obj) : Heap := ⟨T.set 0 o0 (T.set 1 o1 T.e), 8, T.e, [], .none⟩
theorem heap2_get (o0 o1 : Obj) (b : Nat) : T.get b (heap2 o0 o1).t = if b = 0 then some o0 else if b = 1 then some o1 else none := by
  show T.get b (T.set 0 o0 (T.set 1 o1 T.e)) = _
  rw [T.get_set (Nat.zero_le _) (Nat.zero_le _), T.get_set (Nat.zero_le _) (Nat.zero_le _), T.get_e]
theorem inj2_lt {B0 B1 : Option Blk} {b : Nat} {B : Blk} (h : inj2 B0 B1 b = some B) : (b = 0 ∧ B0 = some B) ∨ (b = 1 ∧ B1 = some B) := by
  unfold inj2 at h
  by_cases e : b = 0
  · rw [if_pos e] at h; exact .inl ⟨e, h⟩
  · rw [if_neg e] at h
    by_cases e1 : b = 1
    · rw [if_pos e1] at h; exact .inr ⟨e1, h⟩
    · rw [if_neg e1] at h; cases h
theorem good2 {v0 v1 : Value} {a0 a1 : V} {o0 o1 : Obj} {B0 B1 : Option Blk} (h0 : Arg w 0 v0 a0 o0 B0) (h1 : Arg w 1 v1 a1 o1 B1) : Good (inj2 B0 B1) (heap2 o0 o1) w := by
  have fe : ∀ f, T.get f (heap2 o0 o1).fams = none := fun f => T.get_e f
  refine ⟨fun b B o hb ho hn => ?_, fun b B hb => ?_, fun b B b' B' hb hb' _ _ h8 => ?_, fun b B hb _ => ?_, fun b B F o _ _ hF => ?_, fun b B o _ _ _ _ => fe _, fun f F b hF => ?_, Nat.le_refl _, fun b _ hne => ?_, fun b _ => Nat.zero_le _, fun f _ hne => absurd (fe f) hne, fun b B hb _ => ?_⟩
  · rw [heap2_get] at ho
    rcases inj2_lt hb with ⟨rfl, e⟩ | ⟨rfl, e⟩
    · rw [if_pos rfl] at ho; cases ho; exact h0.obj _ B e
    · rw [if_neg (by decide), if_pos rfl] at ho; cases ho; exact h1.obj _ B e
  · rcases inj2_lt hb with ⟨rfl, e⟩ | ⟨rfl, e⟩
    · exact h0.inH B e
    · exact h1.inH B e
  · rcases inj2_lt hb' with ⟨rfl, e⟩ | ⟨rfl, e⟩ <;> omega
  · rw [fe]
    rcases inj2_lt hb with ⟨rfl, e⟩ | ⟨rfl, e⟩
    · exact h0.fam B e
    · exact h1.fam B e
  · rw [fe] at hF; cases hF
  · rw [fe] at hF; cases hF
  · rw [heap2_get] at hne
    show b < 8
    by_cases e : b = 0
    · omega
    · by_cases e1 : b = 1
      · omega
      · rw [if_neg e, if_neg e1] at hne; exact absurd rfl hne
  · show B.fam < 8
    rcases inj2_lt hb with ⟨rfl, e⟩ | ⟨rfl, e⟩
    · rw [h0.fam B e]; decide
    · rw [h1.fam B e]; decide
/-- a row of bools, as a list -/
inductive Sh where
  | nil
  | zero
  | one (a : Bool) (c : Nat)
  | two (a b : Bool) (c : Nat)
  | three (a b d : Bool) (c : Nat)
  | more (a b d e : Bool) (m c : Nat) (l : List V)
def Sh.a (j : Nat) : Sh → V
  | .nil => .slN
  | .zero => .sl j 0 0 none
  | .one _ c => .sl j 0 1 (some c)
  | .two _ _ c => .sl j 0 2 (some c)
  | .three _ _ _ c => .sl j 0 3 (some c)
  | .more _ _ _ _ m c _ => .sl j 0 (m + 4) (some c)
def Sh.o : Sh → Obj
  | .nil => .dead
  | .zero => .dead
  | .one a _ => .box [.bool a]
  | .two a b _ => .box [.bool a, .bool b]
  | .three a b d _ => .box [.bool a, .bool b, .bool d]
  | .more a b d e _ _ l => .box (.bool a :: .bool b :: .bool d :: .bool e :: l)
/-- a slice of bools in memory, none of its cells frozen -/
def Bools (w : World) (v : Value) : Prop := v = .slice none 0 0 ∨ ∃ (a : Addr) (len cap : Nat), v = .slice (some a) len cap ∧ len ≤ cap ∧ (0 < cap → a.spot = none ∧ a.block < w.heap.size) ∧
  ∀ i, i < len → ∃ b : Bool, w.cell? ⟨a.block, a.off + i, none⟩ = some (.bool b) ∧ w.frozen? ⟨a.block, a.off + i, none⟩ = false
theorem cells_of (w : World) {c k : Nat} {x : Value} (h : w.cell? ⟨c, k, none⟩ = some x) : ∃ cs el fr, w.heap[c]? = some (.cells cs el fr) ∧ cs[k]? = some x := by
  simp only [World.cell?, Option.isSome_none, Bool.false_eq_true, if_false] at h
  split at h
  · rename_i cs el fr e; exact ⟨cs, el, fr, e, h⟩
  · cases h
theorem arg_of (hw : 0 < w.heap.size) (j : Nat) {v : Value} (hv : Bools w v) : ∃ (s : Sh) (B : Option Blk), Arg w j v (s.a j) s.o B := by
  rcases hv with rfl | ⟨a, len, cap, rfl, hle, hspot, hc⟩
  · exact ⟨.nil, none, fun ι _ => rfl, fun _ B' e => (by cases e), fun B' e => (by cases e), fun B' e => (by cases e)⟩
  by_cases h0 : len = 0
  · subst h0
    by_cases hcap : cap = 0
    · subst hcap
      refine ⟨.zero, some ⟨0, 0, 0, 1, 0, j, 0⟩, fun ι e => ⟨_, _, _, e, rfl, ?_⟩, fun _ B' e => trivial, fun B' e => ?_, fun B' e => ?_⟩
      · exact ⟨by simp, by simp, Nat.one_pos, Nat.le_refl _, .inr rfl⟩
      · cases e; exact hw
      · cases e; rfl
    · obtain ⟨hs, hb⟩ := hspot (by omega)
      refine ⟨.zero, some ⟨a.block, a.off, 0, 1, cap, j, 0⟩, fun ι e => ⟨_, _, _, e, rfl, ?_⟩, fun _ B' e => trivial, fun B' e => ?_, fun B' e => ?_⟩
      · refine ⟨by simp, by simp, Nat.one_pos, Nat.zero_le _, .inl ?_⟩
        obtain ⟨x, y, z⟩ := a
        cases hs; rfl
      · cases e; exact hb
      · cases e; rfl
  obtain ⟨hs, hb⟩ := hspot (by omega)
  obtain ⟨f, hf⟩ := Go.Deep.choose_lt (α := Bool) hc
  have ha : (⟨a.block, a.off, none⟩ : Addr) = a := by obtain ⟨x, y, z⟩ := a; cases hs; rfl
  -- the box
  have key : ∀ (row : List V), row.length = len → (∀ i, i < len → row[i]? = some (.bool (f i))) → ∀ ι, orel ι ⟨a.block, a.off, len, 0, 0, j, 0⟩ (.box row) w := by
    intro row hl hrow ι
    obtain ⟨cs, el, fr, e1, e2⟩ := cells_of w (hf 0 (by omega)).1
    have hat : ∀ i, i < len → cs[a.off + i]? = some (.bool (f i)) := fun i hi => by
      obtain ⟨cs', el', fr', e1', e2'⟩ := cells_of w (hf i hi).1
      rw [e1] at e1'; cases e1'; exact e2'
    refine ⟨cs, el, fr, e1, ?_, hl.symm, ?_, trivial, fun i v hi => ?_⟩
    · show (if isBox (.box row) then _ else _)
      rw [if_pos (show isBox (.box row) = true from rfl)]
      intro k k1 k2 k3
      have k2 : k < a.off + row.length := k2
      have k1 : a.off ≤ k := k1
      have hz := (hf (k - a.off) (by omega)).2
      simp only [World.frozen?, e1] at hz
      rw [show a.off + (k - a.off) = k by omega] at hz
      simp at hz
      have := hz k3.1
      omega
    · show a.off + row.length ≤ cs.size
      have := (Array.getElem?_eq_some_iff.1 (hat (len - 1) (by omega))).1
      omega
    · have hi' : i < len := by have := (List.getElem?_eq_some_iff.1 (show row[i]? = some v from hi)).1; omega
      have : row[i]? = some v := hi
      rw [hrow i hi'] at this
      cases this
      exact ⟨.bool (f i), hat i hi', rfl, rfl⟩
  have mk : ∀ (row : List V) (s : Sh), s.a j = .sl j 0 len (some cap) → s.o = .box row → row.length = len → (∀ i, i < len → row[i]? = some (.bool (f i))) → ∃ (s : Sh) (B : Option Blk), Arg w j (.slice (some a) len cap) (s.a j) s.o B := by
    intro row s e1 e2 hl hrow
    refine ⟨s, some ⟨a.block, a.off, len, 0, 0, j, 0⟩, fun ι e => ?_, fun ι B' e => ?_, fun B' e => ?_, fun B' e => ?_⟩
    · rw [e1]
      exact ⟨_, _, _, e, rfl, rfl, ha.symm, hle⟩
    · cases e; rw [e2]; exact key row hl hrow ι
    · cases e; exact hb
    · cases e; rfl
  by_cases h1 : len = 1
  · subst h1; exact mk [.bool (f 0)] (.one (f 0) cap) rfl rfl rfl (fun i hi => by rcases (by omega : i = 0) with rfl; rfl)
  by_cases h2 : len = 2
  · subst h2; exact mk [.bool (f 0), .bool (f 1)] (.two (f 0) (f 1) cap) rfl rfl rfl (fun i hi => by rcases (by omega : i = 0 ∨ i = 1) with rfl | rfl <;> rfl)
  by_cases h3 : len = 3
  · subst h3; exact mk [.bool (f 0), .bool (f 1), .bool (f 2)] (.three (f 0) (f 1) (f 2) cap) rfl rfl rfl (fun i hi => by rcases (by omega : i = 0 ∨ i = 1 ∨ i = 2) with rfl | rfl | rfl <;> rfl)
  obtain ⟨m, rfl⟩ : ∃ m, len = m + 4 := ⟨len - 4, by omega⟩
  refine mk (.bool (f 0) :: .bool (f 1) :: .bool (f 2) :: .bool (f 3) :: (List.range m).map fun i => .bool (f (i + 4))) (.more (f 0) (f 1) (f 2) (f 3) m cap ((List.range m).map fun i => .bool (f (i + 4)))) rfl rfl (by simp) (fun i hi => ?_)
  match i, hi with
  | 0, _ => rfl
  | 1, _ => rfl
  | 2, _ => rfl
  | 3, _ => rfl
  | i + 4, hi =>
    have : i < m := by omega
    simp [this]
end
end
end Go.Eng
