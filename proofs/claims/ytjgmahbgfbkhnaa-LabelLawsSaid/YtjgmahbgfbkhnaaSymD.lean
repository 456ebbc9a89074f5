/- Part of a proof of a law, by an evaluator that the machine follows: rules, contracts of functions, what they come to. No condition of its own. -/
import Derived.Test.YtjgmahbgfbkhnaaSymC
import Derived.Test.YtjgmahbgfbkhnaaEngE
set_option linter.unusedVariables false
set_option linter.unusedSimpArgs false
namespace Go.Eng
noncomputable section

/-! ### a law with an argument that is a slice of bytes, only read -/
theorem law_runsA {P : Program} {w : World} (hmx : P.follows .mixedOrders = true) {funs : T Fun} {dfuns : T FunD} {more : Nat → List V → Heap → OR} (hf : allT (chkF P) funs = true) (hd : allT (chkFD P) dfuns = true) (hm : MoreOk P more)
    {f : Nat} {as : List V} {h0 : Heap} {ι0 : Inj} (hι : ∀ b B, ι0 b = some B → b < 8) (g : Good ι0 h0 w)
    (he : RunP (Ctx.of funs dfuns more) f as h0 fun v _ => v = .bool true) {args : Array Value} (hr : vrels ι0 as args.toList) :
    Calls P f args w fun e w' => e = .returned (.bool true) ∧ Kept w w' := by
  obtain ⟨v, h1, ⟨N, e⟩, rfl⟩ := he
  have e := e N (Nat.le_refl _) N (Nat.le_refl _)
  have h1 := ((lev_sound hmx (Ctx.of funs dfuns more) hf (sums_ok hmx hd hm) N N).1 f as h0 (by rw [e]; simp)).2 ι0 w args g (OR.free_none (fun b hb => by
    cases hb2 : ι0 b with
    | none => rfl
    | some B => have := hι b B hb2; have hb3 : h0.next ≤ b := hb; have := g.lim; omega) (by rw [e]; simp)) hr
  rw [e] at h1
  refine h1.mono fun e w' ho => ?_
  cases e with
  | returned v' =>
    obtain ⟨ι', cg, hv⟩ := ho
    have hv : v' = .bool true := hv
    subst hv
    exact ⟨rfl, fun k hk => cg.frame.keep k hk fun b B hb h8 => (by have := hι b B hb; omega), cg.frame.size, cg.frame.tape, cg.frame.os, cg.frame.out⟩
  | panicked ch => exact ho.elim
  | outgrown => exact ho.elim
def Bytes (w : World) (v : Value) : Prop := v = .slice none 0 0 ∨ ∃ (a : Addr) (len cap : Nat), v = .slice (some a) len cap ∧ len ≤ cap ∧ (0 < cap → a.spot = none ∧ a.block < w.heap.size) ∧
  ∀ i, i < len → ∃ b : UInt8, w.cell? ⟨a.block, a.off + i, none⟩ = some (.int .u8 (b.toNat : Int)) ∧ w.frozen? ⟨a.block, a.off + i, none⟩ = false
def byV (b : UInt8) : V := .int .u8 (b.toNat : Int)
inductive BArg (j : Nat) : List UInt8 → V → Obj → Prop where
  | nil : BArg j [] .slN .dead
  | zero : BArg j [] (.sl j 0 0 none) .dead
  | some {l : List UInt8} (h : l ≠ []) (cap : Nat) : BArg j l (.sl j 0 l.length (some cap)) (.box (l.map byV))
theorem bytes_arg {w : World} (hw : 0 < w.heap.size) (j : Nat) {v : Value} (hv : Bytes w v) : ∃ (l : List UInt8) (a : V) (o : Obj) (B : Option Blk), BArg j l a o ∧ Arg w j v a o B := by
  rcases hv with rfl | ⟨a, len, cap, rfl, hle, hspot, hc⟩
  · exact ⟨[], .slN, .dead, none, .nil, fun ι _ => rfl, fun _ B' e => (by cases e), fun B' e => (by cases e), fun B' e => (by cases e)⟩
  by_cases h0 : len = 0
  · subst h0
    by_cases hcap : cap = 0
    · subst hcap
      refine ⟨[], _, _, some ⟨0, 0, 0, 1, 0, j, 0⟩, .zero, fun ι e => ⟨_, _, _, e, rfl, ?_⟩, fun _ B' e => trivial, fun B' e => ?_, fun B' e => ?_⟩
      · exact ⟨by simp, by simp, Nat.one_pos, Nat.le_refl _, .inr rfl⟩
      · cases e; exact hw
      · cases e; rfl
    · obtain ⟨hs, hb⟩ := hspot (by omega)
      refine ⟨[], _, _, some ⟨a.block, a.off, 0, 1, cap, j, 0⟩, .zero, fun ι e => ⟨_, _, _, e, rfl, ?_⟩, fun _ B' e => trivial, fun B' e => ?_, fun B' e => ?_⟩
      · refine ⟨by simp, by simp, Nat.one_pos, Nat.zero_le _, .inl ?_⟩
        obtain ⟨x, y, z⟩ := a
        cases hs; rfl
      · cases e; exact hb
      · cases e; rfl
  obtain ⟨hs, hb⟩ := hspot (by omega)
  obtain ⟨f, hf⟩ := Go.Deep.choose_lt (α := UInt8) hc
  have ha : (⟨a.block, a.off, none⟩ : Addr) = a := by obtain ⟨x, y, z⟩ := a; cases hs; rfl
  have hat : ∃ cs el fr, w.heap[a.block]? = some (.cells cs el fr) ∧ ∀ i, i < len → cs[a.off + i]? = some (.int .u8 ((f i).toNat : Int)) := by
    obtain ⟨cs, el, fr, e1, _⟩ := cells_of w (hf 0 (by omega)).1
    refine ⟨cs, el, fr, e1, fun i hi => ?_⟩
    obtain ⟨cs', el', fr', e1', e2'⟩ := cells_of w (hf i hi).1
    rw [e1] at e1'; cases e1'; exact e2'
  obtain ⟨cs, el, fr, e1, hat⟩ := hat
  have hl : ((List.range len).map f).length = len := by simp
  refine ⟨(List.range len).map f, .sl j 0 ((List.range len).map f).length (some cap), .box (((List.range len).map f).map byV), some ⟨a.block, a.off, len, 0, 0, j, 0⟩, .some (fun e => by rw [e] at hl; simp at hl; omega) cap, fun ι e => ?_, fun ι B' e => ?_, fun B' e => ?_, fun B' e => ?_⟩
  · rw [hl]; exact ⟨_, _, _, e, rfl, rfl, ha.symm, hle⟩
  · cases e
    refine ⟨cs, el, fr, e1, ?_, (by show len = (((List.range len).map f).map byV).length; simp), ?_, trivial, fun i v hi => ?_⟩
    · show (if isBox (.box _) then _ else _)
      rw [if_pos (show isBox (.box _) = true from rfl)]
      intro k k1 k2 k3
      have k2 : k < a.off + (((List.range len).map f).map byV).length := k2
      simp at k2
      have k1 : a.off ≤ k := k1
      have hz := (hf (k - a.off) (by omega)).2
      simp only [World.frozen?, e1] at hz
      rw [show a.off + (k - a.off) = k by omega] at hz
      simp at hz
      have := hz k3.1
      omega
    · show a.off + (((List.range len).map f).map byV).length ≤ cs.size
      have := (Array.getElem?_eq_some_iff.1 (hat (len - 1) (by omega))).1
      simp
      omega
    · have hi2 : (((List.range len).map f).map byV)[i]? = some v := hi
      have hi' : i < len := by have := (List.getElem?_eq_some_iff.1 hi2).1; simpa using this
      rw [show (((List.range len).map f).map byV)[i]? = some (byV (f i)) by simp [hi']] at hi2
      cases hi2
      exact ⟨.int .u8 ((f i).toNat : Int), hat i hi', rfl, rfl⟩
  · cases e; exact hb
  · cases e; rfl
def heap1 (o : Obj) : Heap := heap2 o .dead
theorem none_arg (w : World) : Arg w 1 (.slice none 0 0) .slN .dead none := ⟨fun ι _ => rfl, fun _ B' e => (by cases e), fun B' e => (by cases e), fun B' e => (by cases e)⟩
theorem good1 {w : World} {v : Value} {a : V} {o : Obj} {B : Option Blk} (h : Arg w 0 v a o B) : Good (inj2 B none) (heap1 o) w := good2 h (none_arg w)
theorem inj1_lt {B0 B1 : Option Blk} : ∀ b B, inj2 B0 B1 b = some B → b < 8 := fun b B h => by
  rcases inj2_lt h with ⟨rfl, _⟩ | ⟨rfl, _⟩ <;> decide
theorem Wf.heap1 (o : Obj) : Wf (heap1 o) := ⟨fun b hb => by
  have e : T.get b (Go.Eng.heap1 o).t = _ := heap2_get o .dead b
  rw [e] at hb
  show b < 8
  by_cases e0 : b = 0
  · omega
  by_cases e1 : b = 1
  · omega
  rw [if_neg e0, if_neg e1] at hb; exact absurd rfl hb, fun b hb => absurd (T.get_e b) hb, Nat.le_refl _⟩
theorem St.heap1 (o : Obj) : St [.stb fun h => T.get 0 h.t = some o] (heap1 o) := by
  refine ⟨fun b => b = 0, Wf.heap1 o, fun b hb => ?_, fun b hb => by simp [owns, Fact.own] at hb, by simp [owns, Fact.own], by simp [fams, Fact.fam], fun b hb => by simp [owns, Fact.own] at hb, fun x hx => ?_⟩
  · subst hb
    have e : T.get 0 (Go.Eng.heap1 o).t = _ := heap2_get o .dead 0
    rw [e]; simp
  · obtain rfl : x = _ := by simpa using hx
    intro h' hh
    rw [hh 0 rfl]
    exact heap2_get o .dead 0
theorem barg_load {l : List UInt8} {h : Heap} {i : Nat} {b : UInt8} (hb : T.get 0 h.t = some (.box (l.map byV))) (hi : l[i]? = some b) : h.load1 0 i = some (byV b) := by
  refine L.load1_box hb ?_
  rw [hd_eq, dropV_eq, List.head?_drop]
  simp [hi]
end
end Go.Eng
namespace Go.Eng
noncomputable section
namespace L
variable {ev : Ev} {h : Heap} {x y : A}
theorem bstr1 {b : Nat} {c : UInt8} {cap : Option Nat} (hx : ev x = .sl b 0 1 cap) (hr : Rows 1 h (.sl b 0 1 cap) [[.int .u8 (c.toNat : Int)]]) : light (.bstr x) ev h = .val (L.str [c]) := by
  show lBstr x ev h = _
  unfold lBstr
  rw [hx]
  have hl : h.load b 0 1 = some [.int .u8 (c.toNat : Int)] := hr.loadAll
  show (Option.rec .bad (fun l => Option.rec .bad (fun x => .val (strV x.1 x.2)) (bytesOf l)) (h.load b 0 1) : LR) = _
  rw [hl]
  have hb : bytesOf [V.int .u8 (c.toNat : Int)] = some (1, c.toNat) := by
    have hlt : c.toNat.blt 256 = true := by rw [nblt]; simpa using c.toNat_lt
    show (bif c.toNat.blt 256 then some (1, Nat.add c.toNat (Nat.mul 256 0)) else none) = _
    rw [hlt]; rfl
  show (Option.rec .bad (fun x => .val (strV x.1 x.2)) (bytesOf [V.int .u8 (c.toNat : Int)]) : LR) = _
  rw [hb]
  show LR.val (strV 1 c.toNat) = _
  unfold strV
  rw [force_eq, force_eq]
  rfl
theorem bstrK {b k : Nat} {cap : Option Nat} (hx : ev x = .sl b 0 1 cap) (hk : k < 256) (hr : Rows 1 h (.sl b 0 1 cap) [[.int .u8 (k : Int)]]) : light (.bstr x) ev h = .val (L.str [UInt8.ofNat k]) := by
  refine bstr1 hx ?_
  rw [show (UInt8.ofNat k).toNat = k by simp; omega]; exact hr
end L
end
end Go.Eng
namespace Go.Eng
noncomputable section
/-! ### behind a slice literal that is full: a new accumulator -/
theorem append1_lit {h : Heap} {r bytes b n m : Nat} {old new : List V} (hb : 8 ≤ b) (hl : h.load b 0 (Nat.mul n r) = some old) (hm : 0 < m) (hfit : (n + m) * bytes ≤ 1099511627776) :
    appendTo h r bytes (.sl b 0 n (some n)) new m = appendTo h r bytes .slN (old ++ new) (n + m) := by
  have hb0 : Nat.beq m 0 = false := by
    cases m with
    | zero => omega
    | succ m => rfl
  have hb1 : Nat.beq (n + m) 0 = false := by
    cases e : Nat.beq (n + m) 0 with
    | false => rfl
    | true => have := Nat.eq_of_beq_eq_true e; omega
  have h1 : (Nat.mul (n + m) bytes).ble 1099511627776 = true := by rw [nble]; simpa using hfit
  have h2 : Nat.ble 8 b = true := by rw [nble]; simpa using hb
  have h3 : (n + m).ble n = false := by rw [nble]; simp; omega
  show (bif m.beq 0 then OR.ok (.sl b 0 n (some n)) h else append1 h r bytes b 0 n (some n) new m) = _
  rw [hb0]
  show append1 h r bytes b 0 n (some n) new m = _
  unfold append1
  rw [force_eq, force_eq]
  show (bif (Nat.mul (n + m) bytes).ble 1099511627776 && Nat.ble 8 b then
      (bif (n + m).ble n then h.storeC b (Nat.add 0 (Nat.mul n r)) (Nat.mul m r) new .bad fun h => .ok (.sl b 0 (n + m) (some n)) h
        else (Option.rec .bad (fun old => setRows r (n + m) 0 (appV old new) T.e fun t => mk h (.cells r h.next 0 (Nat.mul (n + m) r) t) (.sl h.next 0 (n + m) none)) (h.load b 0 (Nat.mul n r)) : OR)) else .bad) = _
  rw [h1, h2, h3, hl]
  show setRows r (n + m) 0 (appV old new) T.e (fun t => mk h (.cells r h.next 0 (Nat.mul (n + m) r) t) (.sl h.next 0 (n + m) none)) = _
  unfold appendTo
  simp only [hb1, cond_false, h1, cond_true, force_eq, appV_eq]
end
end Go.Eng
