/- Part of a proof of a law, by an evaluator that the machine follows: rules, contracts of functions, what they come to. No condition of its own. -/
import Derived.Test.YtmcjcbldmoijiaaGreatDoorEngD
import Derived.Deep.Slices
set_option linter.unusedVariables false
set_option linter.unusedSimpArgs false
namespace Go.Eng
noncomputable section

/-! ### two summaries beside one another; the comparison of strings, by its contract -/
def more2 (a b : Nat → List V → Heap → OR) : Nat → List V → Heap → OR := fun f as h => OR.rec (fun v h => .ok v h) (fun v h => .pan v h) (b f as h) (a f as h)
theorem more2_ok {P : Program} {a b : Nat → List V → Heap → OR} (ha : MoreOk P a) (hb : MoreOk P b) : MoreOk P (more2 a b) := by
  intro f as h
  show OR.next h (OR.rec (fun v h => .ok v h) (fun v h => .pan v h) (b f as h) (a f as h) : OR) ∧ ((OR.rec (fun v h => .ok v h) (fun v h => .pan v h) (b f as h) (a f as h) : OR) ≠ .bad → hasBody P f ∧ ∀ ι w (args : Array Value), Good ι h w → OR.free ι h (OR.rec (fun v h => .ok v h) (fun v h => .pan v h) (b f as h) (a f as h) : OR) → vrels ι as args.toList → Calls P f args w (OutP ι h w (OR.rec (fun v h => .ok v h) (fun v h => .pan v h) (b f as h) (a f as h) : OR)))
  have h1 := ha f as h
  cases hr : a f as h with
  | ok v h' => rw [hr] at h1; exact h1
  | pan v h' => rw [hr] at h1; exact h1
  | bad => exact hb f as h
def cmpV (n x m y : Nat) : V := Bool.rec (Bool.rec (.int .i64 1) (.int .i64 (-1)) (sLess (sBytes n x) (sBytes m y))) (.int .i64 0) (sEq n x m y)
def moreCmp (f0 : Nat) : Nat → List V → Heap → OR := fun f as h => match f.beq f0, as with
  | true, [.str n x, .str m y] => (cmpV n x m y).force fun v => .ok v h
  | _, _ => .bad
theorem compare_less : ∀ (a b : List UInt8), Lib.compareBytes a b = if a = b then 0 else if Op.bytesLess a b then -1 else 1
  | [], [] => rfl
  | [], _ :: _ => by simp [Lib.compareBytes, Op.bytesLess]
  | _ :: _, [] => by simp [Lib.compareBytes, Op.bytesLess]
  | x :: a, y :: b => by
    unfold Lib.compareBytes
    rw [compare_less a b]
    by_cases h1 : x < y
    · have : x ≠ y := fun e => by subst e; exact UInt8.lt_irrefl x h1
      simp [h1, this, Op.bytesLess]
    · by_cases h2 : y < x
      · have : x ≠ y := fun e => by subst e; exact UInt8.lt_irrefl x h2
        simp [h1, h2, this, Op.bytesLess]
      · have h3 : x = y := by
          rw [UInt8.lt_iff_toNat_lt] at h1 h2
          exact UInt8.toNat_inj.1 (by omega)
        subst h3
        simp [Op.bytesLess, UInt8.lt_irrefl]
theorem cmpV_eq (s u : ByteArray) : cmpV s.data.toList.length (enc s.data.toList) u.data.toList.length (enc u.data.toList) = .int .i64 (Lib.compareBytes s.data.toList u.data.toList) := by
  unfold cmpV
  rw [strOk_eq ⟨rfl, rfl⟩ ⟨rfl, rfl⟩, sBytes_eq, sBytes_eq, sLess_eq, compare_less]
  by_cases h : s = u
  · subst h; simp
  · have : s.data.toList ≠ u.data.toList := fun e => h (by cases s; cases u; congr; exact Array.ext' e)
    simp only [h, decide_false, if_neg this]
    cases Op.bytesLess s.data.toList u.data.toList <;> rfl
theorem moreCmp_ok {P : Program} {f0 : Nat} (hb : hasBody P f0) (hc : ∀ (a b : ByteArray) (w : World), Calls P f0 #[.string a, .string b] w fun e w' => e = .returned (.int .i64 (Lib.compareBytes a.data.toList b.data.toList)) ∧ w' = w) : MoreOk P (moreCmp f0) := by
  intro f as h
  unfold moreCmp
  split
  · rename_i n x m y hf
    have hf : f = f0 := Nat.eq_of_beq_eq_true hf
    subst hf
    rw [V.force_eq]
    refine ⟨Nat.le_refl _, fun _ => ⟨hb, fun ι w args g _ hr => ?_⟩⟩
    obtain ⟨y1, l1, e1, r1, r2⟩ := hr
    obtain ⟨y2, l2, e2, r3, r4⟩ := r2
    have r4 : l2 = [] := r4
    subst r4 e2
    obtain ⟨s, rfl, hs⟩ := r1
    obtain ⟨u, rfl, hu⟩ := r3
    have ha : args = #[.string s, .string u] := by rw [← Array.toArray_toList (xs := args), e1]
    rw [ha]
    refine (hc s u w).mono fun e w' he => ?_
    obtain ⟨rfl, rfl⟩ := he
    refine ⟨ι, Chg.refl g, ?_⟩
    obtain ⟨rfl, rfl⟩ := hs
    obtain ⟨rfl, rfl⟩ := hu
    rw [cmpV_eq]; rfl
  · exact ⟨trivial, fun h => absurd rfl h⟩
end
end Go.Eng
namespace Go.Eng
noncomputable section

/-! ### a law at given values; what is told once -/
section
variable {P : Program}
/-- **A law, at given values.** -/
theorem law_runC (hmx : P.follows .mixedOrders = true) {c : Ctx} (hf : allT (chkF P) c.funs = true) (hs : SumsOk P c)
    {n f : Nat} {as : List V} (he : isTrue (lev c n f as .none Heap.empty).1 = true) {args : Array Value} (hr : vrels Inj.none as args.toList) (w : World) :
    Calls P f args w fun e w' => e = .returned (.bool true) ∧ Kept w w' := by
  obtain ⟨h', e⟩ := isTrue_ok he
  exact closed_run hmx (c := c) hf hs e hr w
end
/-- a function of no arguments that comes to true and leaves all as it was: told once -/
def moreYes (f0 : Nat) : Nat → List V → Heap → OR := fun f as h => match f.beq f0, as with
  | true, [] => .ok (.bool true) h
  | _, _ => .bad
theorem moreYes_ok {P : Program} {f0 : Nat} (hb : hasBody P f0) (hc : ∀ w, Calls P f0 #[] w fun e w' => e = .returned (.bool true) ∧ Kept w w') : MoreOk P (moreYes f0) := by
  intro f as h
  unfold moreYes
  split
  · rename_i hfe
    have hfe : f = f0 := Nat.eq_of_beq_eq_true hfe
    subst hfe
    refine ⟨Nat.le_refl _, fun _ => ⟨hb, fun ι w args g _ hr => ?_⟩⟩
    have ha : args = #[] := Array.toList_eq_nil_iff.1 hr
    subst ha
    refine (hc w).mono fun e w' ⟨he, hk⟩ => ?_
    subst he
    exact ⟨ι, Chg.same (g.world hk.old hk.size) ⟨fun c hc _ => hk.old c hc, hk.size, hk.tape, hk.os, hk.out⟩ rfl, rfl⟩
  · exact ⟨trivial, fun h => absurd rfl h⟩
end
end Go.Eng
namespace Go.Eng
noncomputable section

/-! ### a law whose arguments are two slices that are only read -/
section
variable {P : Program} {w : World}
theorem law_runA (hmx : P.follows .mixedOrders = true) {c : Ctx} (hf : allT (chkF P) c.funs = true) (hs : SumsOk P c) {n f : Nat} {as : List V} {h0 : Heap} {ι0 : Inj} (hn : h0.next = 8) (hι : ∀ b B, ι0 b = some B → b < 8)
    (g : Good ι0 h0 w) (he : isTrue (lev c n f as .none h0).1 = true) {args : Array Value} (hr : vrels ι0 as args.toList) : Calls P f args w fun e w' => e = .returned (.bool true) ∧ Kept w w' := by
  obtain ⟨h', he⟩ := isTrue_ok he
  have h1 := ((lev_sound hmx c hf hs maxRounds n).1 f as h0 (by show (lev c n f as .none h0).1 ≠ .bad; rw [he]; simp)).2 ι0 w args g (OR.free_none (fun b hb => by
    cases hb2 : ι0 b with
    | none => rfl
    | some B => have := hι b B hb2; omega) (by show (lev c n f as .none h0).1 ≠ .bad; rw [he]; simp)) hr
  have he' : (levR c maxRounds n f as .none h0).1 = .ok (.bool true) h' := he
  rw [he'] at h1
  refine h1.mono fun e w' ho => ?_
  cases e with
  | returned v' =>
    obtain ⟨ι', cg, hv⟩ := ho
    have hv : v' = .bool true := hv
    subst hv
    exact ⟨rfl, fun k hk => cg.frame.keep k hk fun b B hb h8 => (by have := hι b B hb; omega), cg.frame.size, cg.frame.tape, cg.frame.os, cg.frame.out⟩
  | panicked ch => exact ho.elim
  | outgrown => exact ho.elim
/-- what a slice of bools is for us -/
structure Arg (w : World) (j : Nat) (v : Value) (a : V) (o : Obj) (B : Option Blk) : Prop where
  rel : ∀ ι : Inj, ι j = B → vrel ι a v
  obj : ∀ (ι : Inj) B', B = some B' → orel ι B' o w
  inH : ∀ B', B = some B' → B'.c < w.heap.size
  fam : ∀ B', B = some B' → B'.fam = j
def inj2 (B0 B1 : Option Blk) : Inj := fun b => if b = 0 then B0 else if b = 1 then B1 else Option.none
def heap2 (o0 o1 : Obj) : Heap := ⟨T.set 0 o0 (T.set 1 o1 T.e), 8, T.e, [], .none⟩
theorem heap2_get (o0 o1 : Obj) (b : Nat) : T.get b (heap2 o0 o1).t = if b = 0 then some o0 else if b = 1 then some o1 else none := by
  show T.get b (T.set 0 o0 (T.set 1 o1 T.e)) = _
  rw [T.get_set (Nat.zero_le _) (Nat.zero_le _), T.get_set (Nat.zero_le _) (Nat.zero_le _), T.get_e]
theorem inj2_lt {B0 B1 : Option Blk} {b : Nat} {B : Blk} (h : inj2 B0 B1 b = some B) : (b = 0 ∧ B0 = some B) ∨ (b = 1 ∧ B1 = some B) := by
  unfold inj2 at h
  by_cases e : b = 0
  · rw [if_pos e] at h; exact .inl ⟨e, h⟩
  · rw [if_neg e] at h
    by_cases e1 : b = 1
    · rw [if_pos e1] at h; exact .inr ⟨e1, h⟩
    · rw [if_neg e1] at h; cases h
theorem good2 {v0 v1 : Value} {a0 a1 : V} {o0 o1 : Obj} {B0 B1 : Option Blk} (h0 : Arg w 0 v0 a0 o0 B0) (h1 : Arg w 1 v1 a1 o1 B1) : Good (inj2 B0 B1) (heap2 o0 o1) w := by
  have fe : ∀ f, T.get f (heap2 o0 o1).fams = none := fun f => T.get_e f
  refine ⟨fun b B o hb ho hn => ?_, fun b B hb => ?_, fun b B b' B' hb hb' _ _ h8 => ?_, fun b B hb _ => ?_, fun b B F o _ _ hF => ?_, fun b B o _ _ _ _ => fe _, fun f F b hF => ?_, Nat.le_refl _, fun b _ hne => ?_, fun b _ => Nat.zero_le _, fun f _ hne => absurd (fe f) hne, fun b B hb _ => ?_⟩
  · rw [heap2_get] at ho
    rcases inj2_lt hb with ⟨rfl, e⟩ | ⟨rfl, e⟩
    · rw [if_pos rfl] at ho; cases ho; exact h0.obj _ B e
    · rw [if_neg (by decide), if_pos rfl] at ho; cases ho; exact h1.obj _ B e
  · rcases inj2_lt hb with ⟨rfl, e⟩ | ⟨rfl, e⟩
    · exact h0.inH B e
    · exact h1.inH B e
  · rcases inj2_lt hb' with ⟨rfl, e⟩ | ⟨rfl, e⟩ <;> omega
  · rw [fe]
    rcases inj2_lt hb with ⟨rfl, e⟩ | ⟨rfl, e⟩
    · exact h0.fam B e
    · exact h1.fam B e
  · rw [fe] at hF; cases hF
  · rw [fe] at hF; cases hF
  · rw [heap2_get] at hne
    show b < 8
    by_cases e : b = 0
    · omega
    · by_cases e1 : b = 1
      · omega
      · rw [if_neg e, if_neg e1] at hne; exact absurd rfl hne
  · show B.fam < 8
    rcases inj2_lt hb with ⟨rfl, e⟩ | ⟨rfl, e⟩
    · rw [h0.fam B e]; decide
    · rw [h1.fam B e]; decide
/-- a row of bools, as a list -/
inductive Sh where
  | nil
  | zero
  | one (a : Bool) (c : Nat)
  | two (a b : Bool) (c : Nat)
  | three (a b d : Bool) (c : Nat)
  | more (a b d e : Bool) (m c : Nat) (l : List V)
def Sh.a (j : Nat) : Sh → V
  | .nil => .slN
  | .zero => .sl j 0 0 none
  | .one _ c => .sl j 0 1 (some c)
  | .two _ _ c => .sl j 0 2 (some c)
  | .three _ _ _ c => .sl j 0 3 (some c)
  | .more _ _ _ _ m c _ => .sl j 0 (m + 4) (some c)
def Sh.o : Sh → Obj
  | .nil => .dead
  | .zero => .dead
  | .one a _ => .box [.bool a]
  | .two a b _ => .box [.bool a, .bool b]
  | .three a b d _ => .box [.bool a, .bool b, .bool d]
  | .more a b d e _ _ l => .box (.bool a :: .bool b :: .bool d :: .bool e :: l)
/-- a slice of bools in memory, none of its cells frozen -/
def Bools (w : World) (v : Value) : Prop := v = .slice none 0 0 ∨ ∃ (a : Addr) (len cap : Nat), v = .slice (some a) len cap ∧ len ≤ cap ∧ (0 < cap → a.spot = none ∧ a.block < w.heap.size) ∧
  ∀ i, i < len → ∃ b : Bool, w.cell? ⟨a.block, a.off + i, none⟩ = some (.bool b) ∧ w.frozen? ⟨a.block, a.off + i, none⟩ = false
theorem cells_of (w : World) {c k : Nat} {x : Value} (h : w.cell? ⟨c, k, none⟩ = some x) : ∃ cs el fr, w.heap[c]? = some (.cells cs el fr) ∧ cs[k]? = some x := by
  simp only [World.cell?, Option.isSome_none, Bool.false_eq_true, if_false] at h
  split at h
  · rename_i cs el fr e; exact ⟨cs, el, fr, e, h⟩
  · cases h
theorem arg_of (hw : 0 < w.heap.size) (j : Nat) {v : Value} (hv : Bools w v) : ∃ (s : Sh) (B : Option Blk), Arg w j v (s.a j) s.o B := by
  rcases hv with rfl | ⟨a, len, cap, rfl, hle, hspot, hc⟩
  · exact ⟨.nil, none, fun ι _ => rfl, fun _ B' e => (by cases e), fun B' e => (by cases e), fun B' e => (by cases e)⟩
  by_cases h0 : len = 0
  · subst h0
    by_cases hcap : cap = 0
    · subst hcap
      refine ⟨.zero, some ⟨0, 0, 0, 1, 0, j, 0⟩, fun ι e => ⟨_, _, _, e, rfl, ?_⟩, fun _ B' e => trivial, fun B' e => ?_, fun B' e => ?_⟩
      · exact ⟨by simp, by simp, Nat.one_pos, Nat.le_refl _, .inr rfl⟩
      · cases e; exact hw
      · cases e; rfl
    · obtain ⟨hs, hb⟩ := hspot (by omega)
      refine ⟨.zero, some ⟨a.block, a.off, 0, 1, cap, j, 0⟩, fun ι e => ⟨_, _, _, e, rfl, ?_⟩, fun _ B' e => trivial, fun B' e => ?_, fun B' e => ?_⟩
      · refine ⟨by simp, by simp, Nat.one_pos, Nat.zero_le _, .inl ?_⟩
        obtain ⟨x, y, z⟩ := a
        cases hs; rfl
      · cases e; exact hb
      · cases e; rfl
  obtain ⟨hs, hb⟩ := hspot (by omega)
  obtain ⟨f, hf⟩ := Go.Deep.choose_lt (α := Bool) hc
  have ha : (⟨a.block, a.off, none⟩ : Addr) = a := by obtain ⟨x, y, z⟩ := a; cases hs; rfl
  -- the box
  have key : ∀ (row : List V), row.length = len → (∀ i, i < len → row[i]? = some (.bool (f i))) → ∀ ι, orel ι ⟨a.block, a.off, len, 0, 0, j, 0⟩ (.box row) w := by
    intro row hl hrow ι
    obtain ⟨cs, el, fr, e1, e2⟩ := cells_of w (hf 0 (by omega)).1
    have hat : ∀ i, i < len → cs[a.off + i]? = some (.bool (f i)) := fun i hi => by
      obtain ⟨cs', el', fr', e1', e2'⟩ := cells_of w (hf i hi).1
      rw [e1] at e1'; cases e1'; exact e2'
    refine ⟨cs, el, fr, e1, ?_, hl.symm, ?_, trivial, fun i v hi => ?_⟩
    · show (if isBox (.box row) then _ else _)
      rw [if_pos (show isBox (.box row) = true from rfl)]
      intro k k1 k2 k3
      have k2 : k < a.off + row.length := k2
      have k1 : a.off ≤ k := k1
      have hz := (hf (k - a.off) (by omega)).2
      simp only [World.frozen?, e1] at hz
      rw [show a.off + (k - a.off) = k by omega] at hz
      simp at hz
      have := hz k3.1
      omega
    · show a.off + row.length ≤ cs.size
      have := (Array.getElem?_eq_some_iff.1 (hat (len - 1) (by omega))).1
      omega
    · have hi' : i < len := by have := (List.getElem?_eq_some_iff.1 (show row[i]? = some v from hi)).1; omega
      have : row[i]? = some v := hi
      rw [hrow i hi'] at this
      cases this
      exact ⟨.bool (f i), hat i hi', rfl, rfl⟩
  have mk : ∀ (row : List V) (s : Sh), s.a j = .sl j 0 len (some cap) → s.o = .box row → row.length = len → (∀ i, i < len → row[i]? = some (.bool (f i))) → ∃ (s : Sh) (B : Option Blk), Arg w j (.slice (some a) len cap) (s.a j) s.o B := by
    intro row s e1 e2 hl hrow
    refine ⟨s, some ⟨a.block, a.off, len, 0, 0, j, 0⟩, fun ι e => ?_, fun ι B' e => ?_, fun B' e => ?_, fun B' e => ?_⟩
    · rw [e1]
      exact ⟨_, _, _, e, rfl, rfl, ha.symm, hle⟩
    · cases e; rw [e2]; exact key row hl hrow ι
    · cases e; exact hb
    · cases e; rfl
  by_cases h1 : len = 1
  · subst h1; exact mk [.bool (f 0)] (.one (f 0) cap) rfl rfl rfl (fun i hi => by rcases (by omega : i = 0) with rfl; rfl)
  by_cases h2 : len = 2
  · subst h2; exact mk [.bool (f 0), .bool (f 1)] (.two (f 0) (f 1) cap) rfl rfl rfl (fun i hi => by rcases (by omega : i = 0 ∨ i = 1) with rfl | rfl <;> rfl)
  by_cases h3 : len = 3
  · subst h3; exact mk [.bool (f 0), .bool (f 1), .bool (f 2)] (.three (f 0) (f 1) (f 2) cap) rfl rfl rfl (fun i hi => by rcases (by omega : i = 0 ∨ i = 1 ∨ i = 2) with rfl | rfl | rfl <;> rfl)
  obtain ⟨m, rfl⟩ : ∃ m, len = m + 4 := ⟨len - 4, by omega⟩
  refine mk (.bool (f 0) :: .bool (f 1) :: .bool (f 2) :: .bool (f 3) :: (List.range m).map fun i => .bool (f (i + 4))) (.more (f 0) (f 1) (f 2) (f 3) m cap ((List.range m).map fun i => .bool (f (i + 4)))) rfl rfl (by simp) (fun i hi => ?_)
  match i, hi with
  | 0, _ => rfl
  | 1, _ => rfl
  | 2, _ => rfl
  | 3, _ => rfl
  | i + 4, hi =>
    have : i < m := by omega
    simp [this]
end
end
end Go.Eng
