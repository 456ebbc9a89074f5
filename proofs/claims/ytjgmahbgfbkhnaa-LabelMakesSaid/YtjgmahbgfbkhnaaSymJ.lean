/- Part of a proof of a law, by an evaluator that the machine follows: rules, contracts of functions, what they come to. No condition of its own. -/
import Derived.Test.YtjgmahbgfbkhnaaSymG
set_option linter.unusedVariables false
set_option linter.unusedSimpArgs false
namespace Go.Eng
noncomputable section
/-! ### a law with an argument that is a slice of rows of cells, only read -/
inductive FArg (j : Nat) : List (List V) → V → Obj → Prop where
  | nil : FArg j [] .slN .dead
  | zero : FArg j [] (.sl j 0 0 none) .dead
  | some {l : List (List V)} (h : l ≠ []) (cap : Nat) : FArg j l (.sl j 0 l.length (some cap)) (.box l.flatten)
theorem flat_at {r : Nat} {l : List (List V)} (hl : ∀ row ∈ l, row.length = r) {i k : Nat} {row : List V} (hi : l[i]? = some row) (hk : k < r) : l.flatten[i * r + k]? = row[k]? := by
  have := congrArg (fun x : List V => x[k]?) (flatten_row i hl hi)
  simp only [List.getElem?_take, List.getElem?_drop, if_pos hk] at this
  exact this
/-- a slice of such rows in memory, none of its cells frozen -/
def Flat {α : Type} (r : Nat) (val : α → List Value) (w : World) (v : Value) : Prop := v = .slice none 0 0 ∨ ∃ (a : Addr) (len cap : Nat), v = .slice (some a) len cap ∧ len ≤ cap ∧ (0 < cap → a.spot = none ∧ a.block < w.heap.size) ∧
  ∀ i, i < len → ∃ x : α, ∀ k, k < r → ∃ y, (val x)[k]? = some y ∧ w.cell? ⟨a.block, a.off + (i * r + k), none⟩ = some y ∧ w.frozen? ⟨a.block, a.off + (i * r + k), none⟩ = false
structure FEnc {α : Type} (r : Nat) (en : α → List V) (val : α → List Value) : Prop where
  pos : 0 < r
  len : ∀ x, (en x).length = r
  rel : ∀ (x : α) (k : Nat) (u : V) (y : Value), (en x)[k]? = some u → (val x)[k]? = some y → (∀ ι, vrel ι u y) ∧ y.oneCell' = true
theorem flat_arg {α : Type} {r : Nat} {en : α → List V} {val : α → List Value} (he : FEnc r en val) {w : World} (hw : 0 < w.heap.size) (j : Nat) {v : Value} (hv : Flat r val w v) : ∃ (l : List α) (a : V) (o : Obj) (B : Option Blk), FArg j (l.map en) a o ∧ Arg w j v a o B := by
  rcases hv with rfl | ⟨a, len, cap, rfl, hle, hspot, hc⟩
  · exact ⟨[], .slN, .dead, none, .nil, fun ι _ => rfl, fun _ B' e => (by cases e), fun B' e => (by cases e), fun B' e => (by cases e)⟩
  by_cases h0 : len = 0
  · subst h0
    by_cases hcap : cap = 0
    · subst hcap
      refine ⟨[], _, _, some ⟨0, 0, 0, 1, 0, j, 0⟩, .zero, fun ι e => ⟨_, _, _, e, rfl, ?_⟩, fun _ B' e => trivial, fun B' e => ?_, fun B' e => ?_⟩
      · exact ⟨by simp, by simp, Nat.one_pos, Nat.le_refl _, .inr rfl⟩
      · cases e; exact hw
      · cases e; rfl
    · obtain ⟨hs, hb⟩ := hspot (by omega)
      refine ⟨[], _, _, some ⟨a.block, a.off, 0, 1, cap, j, 0⟩, .zero, fun ι e => ⟨_, _, _, e, rfl, ?_⟩, fun _ B' e => trivial, fun B' e => ?_, fun B' e => ?_⟩
      · refine ⟨by simp, by simp, Nat.one_pos, Nat.zero_le _, .inl ?_⟩
        obtain ⟨x, y, z⟩ := a
        cases hs; rfl
      · cases e; exact hb
      · cases e; rfl
  obtain ⟨hs, hb⟩ := hspot (by omega)
  obtain ⟨x0, _⟩ := hc 0 (by omega)
  haveI : Inhabited α := ⟨x0⟩
  obtain ⟨f, hf⟩ := Go.Deep.choose_lt (α := α) hc
  have ha : (⟨a.block, a.off, none⟩ : Addr) = a := by obtain ⟨x, y, z⟩ := a; cases hs; rfl
  have hpos := he.pos
  have hat : ∃ cs el fr, w.heap[a.block]? = some (.cells cs el fr) ∧ ∀ i k, i < len → k < r → ∃ y, (val (f i))[k]? = some y ∧ cs[a.off + (i * r + k)]? = some y := by
    obtain ⟨y0, _, e0, _⟩ := hf 0 (by omega) 0 hpos
    obtain ⟨cs, el, fr, e1, _⟩ := cells_of w e0
    refine ⟨cs, el, fr, e1, fun i k hi hk => ?_⟩
    obtain ⟨y, ey, e2, _⟩ := hf i hi k hk
    obtain ⟨cs', el', fr', e1', e2'⟩ := cells_of w e2
    rw [e1] at e1'; cases e1'
    exact ⟨y, ey, e2'⟩
  obtain ⟨cs, el, fr, e1, hat⟩ := hat
  let l := (List.range len).map f
  have hl : (l.map en).length = len := by simp [l]
  have hrow : ∀ row ∈ l.map en, row.length = r := fun row hm => by obtain ⟨x, _, rfl⟩ := List.mem_map.1 hm; exact he.len x
  have hflen : (l.map en).flatten.length = len * r := by rw [flatten_len hrow, hl]
  have hfl : ∀ i k, i < len → k < r → (l.map en).flatten[i * r + k]? = (en (f i))[k]? := fun i k hi hk => flat_at hrow (by simp [l, hi]) hk
  have hlt : ∀ m, m < len * r → m / r < len ∧ m % r < r ∧ m = m / r * r + m % r := fun m hm => ⟨(Nat.div_lt_iff_lt_mul hpos).2 hm, Nat.mod_lt _ hpos, (Nat.div_add_mod' m r).symm⟩
  refine ⟨l, .sl j 0 (l.map en).length (some cap), .box (l.map en).flatten, some ⟨a.block, a.off, len * r, 0, 0, j, 0⟩, .some (fun e => by rw [e] at hl; simp at hl; omega) cap, fun ι e => ?_, fun ι B' e => ?_, fun B' e => ?_, fun B' e => ?_⟩
  · rw [hl]; exact ⟨_, _, _, e, rfl, rfl, ha.symm, hle⟩
  · cases e
    refine ⟨cs, el, fr, e1, ?_, hflen.symm, ?_, trivial, fun i v hi => ?_⟩
    · show (if isBox (.box _) then _ else _)
      rw [if_pos (show isBox (.box _) = true from rfl)]
      intro k k1 k2 k3
      have k2 : k < a.off + (l.map en).flatten.length := k2
      rw [hflen] at k2
      have k1 : a.off ≤ k := k1
      obtain ⟨m1, m2, m3⟩ := hlt (k - a.off) (by omega)
      obtain ⟨y, _, _, hz⟩ := hf _ m1 _ m2
      rw [← m3, show a.off + (k - a.off) = k by omega] at hz
      simp only [World.frozen?, e1] at hz
      simp at hz
      have := hz k3.1
      omega
    · show a.off + (l.map en).flatten.length ≤ cs.size
      rw [hflen]
      obtain ⟨m1, m2, m3⟩ := hlt (len * r - 1) (by have := Nat.mul_pos (show 0 < len by omega) hpos; omega)
      obtain ⟨y, _, hy⟩ := hat _ _ m1 m2
      rw [← m3] at hy
      have := (Array.getElem?_eq_some_iff.1 hy).1
      have := Nat.mul_pos (show 0 < len by omega) hpos
      omega
    · have hi2 : (l.map en).flatten[i]? = some v := hi
      have hi' : i < len * r := by have := (List.getElem?_eq_some_iff.1 hi2).1; omega
      obtain ⟨m1, m2, m3⟩ := hlt i hi'
      obtain ⟨y, ey, hy⟩ := hat _ _ m1 m2
      rw [m3, hfl _ _ m1 m2] at hi2
      obtain ⟨k1, k2⟩ := he.rel _ _ _ _ hi2 ey
      refine ⟨y, ?_, k2, k1 ι⟩
      rw [m3]; exact hy
  · cases e; exact hb
  · cases e; rfl
theorem law_runsF {α : Type} {r : Nat} {en : α → List V} {val : α → List Value} (hec : FEnc r en val) {P : Program} {w : World} (hmx : P.follows .mixedOrders = true) {funs : T Fun} {dfuns : T FunD} {more : Nat → List V → Heap → OR} (hf : allT (chkF P) funs = true) (hd : allT (chkFD P) dfuns = true) (hm : MoreOk P more)
    {f : Nat} (he : ∀ (l : List α) (a : V) (o : Obj), FArg 0 (l.map en) a o → RunP (Ctx.of funs dfuns more) f [a] (heap1 o) fun v _ => v = .bool true) (hw : 0 < w.heap.size) {v : Value} (hv : Flat r val w v) :
    Calls P f #[v] w fun e w' => e = .returned (.bool true) ∧ Kept w w' := by
  obtain ⟨l, a, o, B, hb, ha⟩ := flat_arg hec hw 0 hv
  exact law_runsA hmx hf hd hm inj1_lt (good1 ha) (he l a o hb) ⟨v, [], rfl, ha.rel _ rfl, rfl⟩
/-! ### names, labels, places -/
def pval (p : Prm) : List Value := [.string ⟨p.1.toArray⟩, .string ⟨p.2.1.toArray⟩, .int .i64 p.2.2]
theorem str_rel (ι : Inj) (s : List UInt8) : vrel ι (L.str s) (.string ⟨s.toArray⟩) := ⟨_, rfl, by show s.toArray.toList.length = _; simp, by show enc s.toArray.toList = _; simp⟩
theorem penc : FEnc 3 prow pval := ⟨by decide, fun _ => rfl, fun x k u y hu hy => by
  match k with
  | 0 => cases hu; cases hy; exact ⟨fun ι => str_rel ι _, rfl⟩
  | 1 => cases hu; cases hy; exact ⟨fun ι => str_rel ι _, rfl⟩
  | 2 => cases hu; cases hy; exact ⟨fun ι => rfl, rfl⟩
  | k + 3 => simp [prow] at hu⟩
theorem PRows.arg {ps : List Prm} {a : V} {o : Obj} (hb : FArg 0 (ps.map prow) a o) {h : Heap} (ho : T.get 0 h.t = some o) : PRows h a ps := by
  generalize hl : ps.map prow = l at hb
  cases hb with
  | nil => exact .inl ⟨rfl, by simpa using hl⟩
  | zero =>
    obtain rfl : ps = [] := by simpa using hl
    exact .inr ⟨0, 0, none, rfl, fun i p hp => by simp at hp⟩
  | some hne cap =>
    have hlen : l.length = ps.length := by rw [← hl, List.length_map]
    rw [hlen]
    have hrow : ∀ row ∈ l, row.length = 3 := fun row hm => by rw [← hl] at hm; obtain ⟨x, _, rfl⟩ := List.mem_map.1 hm; rfl
    refine .inr ⟨0, 0, some cap, rfl, fun i p hp => ?_⟩
    have hi : l[i]? = some (prow p) := by rw [← hl, List.getElem?_map, hp]; rfl
    have hil := (List.getElem?_eq_some_iff.1 hi).1
    have hfl := flatten_len hrow
    rw [Nat.zero_add]
    refine ⟨L.load_box ho rfl (by rw [lenV_eq, hfl]; exact Nat.ble_eq_true_of_le (by show i * 3 + 3 ≤ _; omega)) (by rw [dropV_eq, takeV_eq]; exact flatten_row i hrow hi), fun j x hj => L.load1_box ho ?_⟩
    have hj3 : j < 3 := by have := (List.getElem?_eq_some_iff.1 hj).1; simpa [prow] using this
    rw [hd_eq, dropV_eq, List.head?_drop, flat_at hrow hi hj3]; exact hj
end
end Go.Eng
