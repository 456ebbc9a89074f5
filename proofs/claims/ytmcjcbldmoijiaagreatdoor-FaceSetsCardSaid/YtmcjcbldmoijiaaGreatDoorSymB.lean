/- Part of a proof of a law, by an evaluator that the machine follows: rules, contracts of functions, what they come to. No condition of its own. -/
import Derived.Test.YtmcjcbldmoijiaaGreatDoorSymA
import Derived.Test.YtmcjcbldmoijiaaGreatDoorEngE
set_option linter.unusedVariables false
set_option linter.unusedSimpArgs false
namespace Go.Eng
noncomputable section

/-! ### a law with an argument that is a slice of bytes, only read -/
theorem law_runsA {P : Program} {w : World} (hmx : P.follows .mixedOrders = true) {funs : T Fun} {dfuns : T FunD} {more : Nat → List V → Heap → OR} (hf : allT (chkF P) funs = true) (hd : allT (chkFD P) dfuns = true) (hm : MoreOk P more)
    {f : Nat} {as : List V} {h0 : Heap} {ι0 : Inj} (hι : ∀ b B, ι0 b = some B → b < 8) (g : Good ι0 h0 w)
    (he : RunP (Ctx.of funs dfuns more) f as h0 fun v _ => v = .bool true) {args : Array Value} (hr : vrels ι0 as args.toList) :
    Calls P f args w fun e w' => e = .returned (.bool true) ∧ Kept w w' := by
  obtain ⟨v, h1, ⟨N, e⟩, rfl⟩ := he
  have e := e N (Nat.le_refl _) N (Nat.le_refl _)
  have h1 := ((lev_sound hmx (Ctx.of funs dfuns more) hf (sums_ok hmx hd hm) N N).1 f as h0 (by rw [e]; simp)).2 ι0 w args g (OR.free_none (fun b hb => by
    cases hb2 : ι0 b with
    | none => rfl
    | some B => have := hι b B hb2; have hb3 : h0.next ≤ b := hb; have := g.lim; omega) (by rw [e]; simp)) hr
  rw [e] at h1
  refine h1.mono fun e w' ho => ?_
  cases e with
  | returned v' =>
    obtain ⟨ι', cg, hv⟩ := ho
    have hv : v' = .bool true := hv
    subst hv
    exact ⟨rfl, fun k hk => cg.frame.keep k hk fun b B hb h8 => (by have := hι b B hb; omega), cg.frame.size, cg.frame.tape, cg.frame.os, cg.frame.out⟩
  | panicked ch => exact ho.elim
  | outgrown => exact ho.elim
/-- a slice of bytes in memory, none of its cells frozen -/
def Bytes (w : World) (v : Value) : Prop := v = .slice none 0 0 ∨ ∃ (a : Addr) (len cap : Nat), v = .slice (some a) len cap ∧ len ≤ cap ∧ (0 < cap → a.spot = none ∧ a.block < w.heap.size) ∧
  ∀ i, i < len → ∃ b : UInt8, w.cell? ⟨a.block, a.off + i, none⟩ = some (.int .u8 (b.toNat : Int)) ∧ w.frozen? ⟨a.block, a.off + i, none⟩ = false
def byV (b : UInt8) : V := .int .u8 (b.toNat : Int)
/-- the same for us: the slice, and the object of block j -/
inductive BArg (j : Nat) : List UInt8 → V → Obj → Prop where
  | nil : BArg j [] .slN .dead
  | zero : BArg j [] (.sl j 0 0 none) .dead
  | some {l : List UInt8} (h : l ≠ []) (cap : Nat) : BArg j l (.sl j 0 l.length (some cap)) (.box (l.map byV))
theorem bytes_arg {w : World} (hw : 0 < w.heap.size) (j : Nat) {v : Value} (hv : Bytes w v) : ∃ (l : List UInt8) (a : V) (o : Obj) (B : Option Blk), BArg j l a o ∧ Arg w j v a o B := by
  rcases hv with rfl | ⟨a, len, cap, rfl, hle, hspot, hc⟩
  · exact ⟨[], .slN, .dead, none, .nil, fun ι _ => rfl, fun _ B' e => (by cases e), fun B' e => (by cases e), fun B' e => (by cases e)⟩
  by_cases h0 : len = 0
  · subst h0
    by_cases hcap : cap = 0
    · subst hcap
      refine ⟨[], _, _, some ⟨0, 0, 0, 1, 0, j, 0⟩, .zero, fun ι e => ⟨_, _, _, e, rfl, ?_⟩, fun _ B' e => trivial, fun B' e => ?_, fun B' e => ?_⟩
      · exact ⟨by simp, by simp, Nat.one_pos, Nat.le_refl _, .inr rfl⟩
      · cases e; exact hw
      · cases e; rfl
    · obtain ⟨hs, hb⟩ := hspot (by omega)
      refine ⟨[], _, _, some ⟨a.block, a.off, 0, 1, cap, j, 0⟩, .zero, fun ι e => ⟨_, _, _, e, rfl, ?_⟩, fun _ B' e => trivial, fun B' e => ?_, fun B' e => ?_⟩
      · refine ⟨by simp, by simp, Nat.one_pos, Nat.zero_le _, .inl ?_⟩
        obtain ⟨x, y, z⟩ := a
        cases hs; rfl
      · cases e; exact hb
      · cases e; rfl
  obtain ⟨hs, hb⟩ := hspot (by omega)
  obtain ⟨f, hf⟩ := Go.Deep.choose_lt (α := UInt8) hc
  have ha : (⟨a.block, a.off, none⟩ : Addr) = a := by obtain ⟨x, y, z⟩ := a; cases hs; rfl
  have hat : ∃ cs el fr, w.heap[a.block]? = some (.cells cs el fr) ∧ ∀ i, i < len → cs[a.off + i]? = some (.int .u8 ((f i).toNat : Int)) := by
    obtain ⟨cs, el, fr, e1, _⟩ := cells_of w (hf 0 (by omega)).1
    refine ⟨cs, el, fr, e1, fun i hi => ?_⟩
    obtain ⟨cs', el', fr', e1', e2'⟩ := cells_of w (hf i hi).1
    rw [e1] at e1'; cases e1'; exact e2'
  obtain ⟨cs, el, fr, e1, hat⟩ := hat
  have hl : ((List.range len).map f).length = len := by simp
  refine ⟨(List.range len).map f, .sl j 0 ((List.range len).map f).length (some cap), .box (((List.range len).map f).map byV), some ⟨a.block, a.off, len, 0, 0, j, 0⟩, .some (fun e => by rw [e] at hl; simp at hl; omega) cap, fun ι e => ?_, fun ι B' e => ?_, fun B' e => ?_, fun B' e => ?_⟩
  · rw [hl]; exact ⟨_, _, _, e, rfl, rfl, ha.symm, hle⟩
  · cases e
    refine ⟨cs, el, fr, e1, ?_, (by show len = (((List.range len).map f).map byV).length; simp), ?_, trivial, fun i v hi => ?_⟩
    · show (if isBox (.box _) then _ else _)
      rw [if_pos (show isBox (.box _) = true from rfl)]
      intro k k1 k2 k3
      have k2 : k < a.off + (((List.range len).map f).map byV).length := k2
      simp at k2
      have k1 : a.off ≤ k := k1
      have hz := (hf (k - a.off) (by omega)).2
      simp only [World.frozen?, e1] at hz
      rw [show a.off + (k - a.off) = k by omega] at hz
      simp at hz
      have := hz k3.1
      omega
    · show a.off + (((List.range len).map f).map byV).length ≤ cs.size
      have := (Array.getElem?_eq_some_iff.1 (hat (len - 1) (by omega))).1
      simp
      omega
    · have hi2 : (((List.range len).map f).map byV)[i]? = some v := hi
      have hi' : i < len := by have := (List.getElem?_eq_some_iff.1 hi2).1; simpa using this
      rw [show (((List.range len).map f).map byV)[i]? = some (byV (f i)) by simp [hi']] at hi2
      cases hi2
      exact ⟨.int .u8 ((f i).toNat : Int), hat i hi', rfl, rfl⟩
  · cases e; exact hb
  · cases e; rfl
/-- the first memory of a law with one such argument: block 0 -/
def heap1 (o : Obj) : Heap := heap2 o .dead
theorem none_arg (w : World) : Arg w 1 (.slice none 0 0) .slN .dead none := ⟨fun ι _ => rfl, fun _ B' e => (by cases e), fun B' e => (by cases e), fun B' e => (by cases e)⟩
theorem good1 {w : World} {v : Value} {a : V} {o : Obj} {B : Option Blk} (h : Arg w 0 v a o B) : Good (inj2 B none) (heap1 o) w := good2 h (none_arg w)
theorem inj1_lt {B0 B1 : Option Blk} : ∀ b B, inj2 B0 B1 b = some B → b < 8 := fun b B h => by
  rcases inj2_lt h with ⟨rfl, _⟩ | ⟨rfl, _⟩ <;> decide
theorem Wf.heap1 (o : Obj) : Wf (heap1 o) := ⟨fun b hb => by
  have e : T.get b (Go.Eng.heap1 o).t = _ := heap2_get o .dead b
  rw [e] at hb
  show b < 8
  by_cases e0 : b = 0
  · omega
  by_cases e1 : b = 1
  · omega
  rw [if_neg e0, if_neg e1] at hb; exact absurd rfl hb, fun b hb => absurd (T.get_e b) hb, Nat.le_refl _⟩
/-- what block 0 holds stays -/
theorem St.heap1 (o : Obj) : St [.stb fun h => T.get 0 h.t = some o] (heap1 o) := by
  refine ⟨fun b => b = 0, Wf.heap1 o, fun b hb => ?_, fun b hb => by simp [owns, Fact.own] at hb, by simp [owns, Fact.own], by simp [fams, Fact.fam], fun b hb => by simp [owns, Fact.own] at hb, fun x hx => ?_⟩
  · subst hb
    have e : T.get 0 (Go.Eng.heap1 o).t = _ := heap2_get o .dead 0
    rw [e]; simp
  · obtain rfl : x = _ := by simpa using hx
    intro h' hh
    rw [hh 0 rfl]
    exact heap2_get o .dead 0
theorem law_runsB {P : Program} {w : World} (hmx : P.follows .mixedOrders = true) {funs : T Fun} {dfuns : T FunD} {more : Nat → List V → Heap → OR} (hf : allT (chkF P) funs = true) (hd : allT (chkFD P) dfuns = true) (hm : MoreOk P more)
    {f : Nat} (he : ∀ l a o, BArg 0 l a o → RunP (Ctx.of funs dfuns more) f [a] (heap1 o) fun v _ => v = .bool true) (hw : 0 < w.heap.size) {v : Value} (hv : Bytes w v) :
    Calls P f #[v] w fun e w' => e = .returned (.bool true) ∧ Kept w w' := by
  obtain ⟨l, a, o, B, hb, ha⟩ := bytes_arg hw 0 hv
  exact law_runsA hmx hf hd hm inj1_lt (good1 ha) (he l a o hb) ⟨v, [], rfl, ha.rel _ rfl, rfl⟩
/-- a byte of it -/
theorem barg_load {l : List UInt8} {h : Heap} {i : Nat} {b : UInt8} (hb : T.get 0 h.t = some (.box (l.map byV))) (hi : l[i]? = some b) : h.load1 0 i = some (byV b) := by
  refine L.load1_box hb ?_
  rw [hd_eq, dropV_eq, List.head?_drop]
  simp [hi]
end
end Go.Eng
namespace Go.Eng
noncomputable section
namespace L
variable {ev : Ev} {h : Heap} {x y : A}
theorem wrapU64 {n : Nat} (hn : n < 18446744073709551616) : IntKind.wrap .u64 (n : Int) = (n : Int) := by
  have e : IntKind.wrap .u64 (n : Int) = (n : Int) % 18446744073709551616 := by unfold IntKind.wrap; simp [IntKind.bits, IntKind.signed]
  rw [e]; omega
theorem convU64 {k : IntKind} {a : Nat} (hx : ev x = .int k (a : Int)) (hn : a < 18446744073709551616) : light (.conv .u64 x) ev h = .val (.int .u64 (a : Int)) := by
  show (ev x).onInt (fun _ a => .val (wrapV .u64 a)) = _
  rw [hx]
  show LR.val (wrapV .u64 (a : Int)) = _
  rw [wrapV_eq, wrapU64 hn]
theorem addU64 {a b n : Nat} (hx : ev x = .int .u64 (a : Int)) (hy : ev y = .int .u64 (b : Int)) (hc : a + b = n) (hn : n < 18446744073709551616) : light (.bin .add x y) ev h = .val (.int .u64 (n : Int)) := by
  show (ev x).onInt (fun k a => (ev y).onInt fun j b => bin1 .add k a j b) = _
  rw [hx, hy]
  show LR.of (some (wrapV .u64 (iadd (a : Int) (b : Int)))) = _
  rw [wrapV_eq, iadd_eq, show (a : Int) + (b : Int) = (n : Int) by omega, wrapU64 hn]; rfl
theorem quoU64 {a b n : Nat} (hx : ev x = .int .u64 (a : Int)) (hy : ev y = .int .u64 (b : Int)) (hc : a / b = n) (hb : b ≠ 0) (hn : n < 18446744073709551616) : light (.bin .quo x y) ev h = .val (.int .u64 (n : Int)) := by
  show (ev x).onInt (fun k a => (ev y).onInt fun j b => bin1 .quo k a j b) = _
  rw [hx, hy]
  show (Bool.rec .bad (.of (iQuo .u64 (a : Int) (b : Int))) (kEq .u64 .u64) : LR) = _
  show LR.of (iQuo .u64 (a : Int) (b : Int)) = _
  unfold iQuo
  have h2 : ieq (b : Int) 0 = false := by
    show b.beq 0 = false
    cases b with
    | zero => exact absurd rfl hb
    | succ n => rfl
  rw [h2]
  show LR.of (some (wrapV .u64 ((a : Int).tdiv (b : Int)))) = _
  rw [show (a : Int).tdiv (b : Int) = ((a / b : Nat) : Int) from rfl, hc, wrapV_eq, wrapU64 hn]; rfl
/-- a text of one byte -/
theorem bstr1 {b : Nat} {c : UInt8} {cap : Option Nat} (hx : ev x = .sl b 0 1 cap) (hr : Rows 1 h (.sl b 0 1 cap) [[.int .u8 (c.toNat : Int)]]) : light (.bstr x) ev h = .val (L.str [c]) := by
  show lBstr x ev h = _
  unfold lBstr
  rw [hx]
  have hl : h.load b 0 1 = some [.int .u8 (c.toNat : Int)] := hr.loadAll
  show (Option.rec .bad (fun l => Option.rec .bad (fun x => .val (strV x.1 x.2)) (bytesOf l)) (h.load b 0 1) : LR) = _
  rw [hl]
  have hb : bytesOf [V.int .u8 (c.toNat : Int)] = some (1, c.toNat) := by
    have hlt : c.toNat.blt 256 = true := by rw [nblt]; simpa using c.toNat_lt
    show (bif c.toNat.blt 256 then some (1, Nat.add c.toNat (Nat.mul 256 0)) else none) = _
    rw [hlt]; rfl
  show (Option.rec .bad (fun x => .val (strV x.1 x.2)) (bytesOf [V.int .u8 (c.toNat : Int)]) : LR) = _
  rw [hb]
  show LR.val (strV 1 c.toNat) = _
  unfold strV
  rw [force_eq, force_eq]
  rfl
theorem bstrK {b k : Nat} {cap : Option Nat} (hx : ev x = .sl b 0 1 cap) (hk : k < 256) (hr : Rows 1 h (.sl b 0 1 cap) [[.int .u8 (k : Int)]]) : light (.bstr x) ev h = .val (L.str [UInt8.ofNat k]) := by
  refine bstr1 hx ?_
  rw [show (UInt8.ofNat k).toNat = k by simp; omega]; exact hr
end L
end
end Go.Eng
namespace Go.Eng
noncomputable section
/-! ### behind a slice literal that is full: a new accumulator -/
theorem append1_lit {h : Heap} {r bytes b n m : Nat} {old new : List V} (hb : 8 ≤ b) (hl : h.load b 0 (Nat.mul n r) = some old) (hm : 0 < m) (hfit : (n + m) * bytes ≤ 1099511627776) :
    appendTo h r bytes (.sl b 0 n (some n)) new m = appendTo h r bytes .slN (old ++ new) (n + m) := by
  have hb0 : Nat.beq m 0 = false := by
    cases m with
    | zero => omega
    | succ m => rfl
  have hb1 : Nat.beq (n + m) 0 = false := by
    cases e : Nat.beq (n + m) 0 with
    | false => rfl
    | true => have := Nat.eq_of_beq_eq_true e; omega
  have h1 : (Nat.mul (n + m) bytes).ble 1099511627776 = true := by rw [nble]; simpa using hfit
  have h2 : Nat.ble 8 b = true := by rw [nble]; simpa using hb
  have h3 : (n + m).ble n = false := by rw [nble]; simp; omega
  show (bif m.beq 0 then OR.ok (.sl b 0 n (some n)) h else append1 h r bytes b 0 n (some n) new m) = _
  rw [hb0]
  show append1 h r bytes b 0 n (some n) new m = _
  unfold append1
  rw [force_eq, force_eq]
  show (bif (Nat.mul (n + m) bytes).ble 1099511627776 && Nat.ble 8 b then
      (bif (n + m).ble n then h.storeC b (Nat.add 0 (Nat.mul n r)) (Nat.mul m r) new .bad fun h => .ok (.sl b 0 (n + m) (some n)) h
        else (Option.rec .bad (fun old => setRows r (n + m) 0 (appV old new) T.e fun t => mk h (.cells r h.next 0 (Nat.mul (n + m) r) t) (.sl h.next 0 (n + m) none)) (h.load b 0 (Nat.mul n r)) : OR)) else .bad) = _
  rw [h1, h2, h3, hl]
  show setRows r (n + m) 0 (appV old new) T.e (fun t => mk h (.cells r h.next 0 (Nat.mul (n + m) r) t) (.sl h.next 0 (n + m) none)) = _
  unfold appendTo
  simp only [hb1, cond_false, h1, cond_true, force_eq, appV_eq]
theorem St.appendL {fs : List Fact} {h : Heap} {r bytes b : Nat} {rows new : List (List V)} (s : St fs h) (hb : 8 ≤ b) (hold : Rows r h (.sl b 0 rows.length (some rows.length)) rows) (hr : 0 < r) (hlo : ∀ row ∈ rows, row.length = r) (hln : ∀ row ∈ new, row.length = r) (hne : 0 < new.length) (hfit : (rows.length + new.length) * bytes ≤ 1099511627776) :
    ∃ f' v' h', appendTo h r bytes (.sl b 0 rows.length (some rows.length)) new.flatten new.length = .ok v' h' ∧ St (.acc f' r v' (rows ++ new) :: fs) h' := by
  obtain ⟨f', v', h', e, s'⟩ := (s.acc0 r).appendA (bytes := bytes) (new := rows ++ new) hr (fun row hm => by
    rcases List.mem_append.1 hm with hm | hm
    · exact hlo row hm
    · exact hln row hm) (by simpa using hfit)
  refine ⟨f', v', h', ?_, by simpa using s'⟩
  rw [append1_lit hb hold.loadAll hne hfit, ← e, List.flatten_append, List.length_append]
section
variable {c : Ctx} {Q : QT} {env : Env} {h : Heap} {fs : List Fact} {l : List Opr} {vs : List V} {i j : D8}
/-- a slice literal, of which it is told that it is no block of the law's arguments -/
theorem WO.bslLS {r n : Nat} {zero : List V} {ps : List (Nat × Nat × A)} {rows : List (List V)} (st : St fs h) (hf : fill ps (fun a => a.ev vs env) (rep n zero) = some rows.flatten) (hr : 0 < r) (hn : rows.length = n) (hl : ∀ row ∈ rows, row.length = r)
    (K : ∀ b h1, 8 ≤ b → St (.stb (fun h => Rows r h (.sl b 0 n (some n)) rows) :: fs) h1 → WO c l Q (.sl b 0 n (some n) :: vs) (Env.set i j (.sl b 0 n (some n)) env) h1) : WO c (.s i j (.L (.bsl r n zero ps)) :: l) Q vs env h :=
  WO.newS (L.bsl hf) (okSize_cl hr) (K _ _ st.wf.lim (st.frozen _ fun h' hg => rows_new hr hn hl hg))
theorem WO.appLS {r bytes b n : Nat} {s x : A} {xv : V} {rows new : List (List V)} (st : St fs h) (hs : s.ev vs env = .sl b 0 n (some n)) (hb : 8 ≤ b) (hnr : rows.length = n) (hold : Rows r h (.sl b 0 n (some n)) rows) (hx : x.ev vs env = xv) (hn : Rows r h xv new) (hr : 0 < r) (hne : 0 < new.length) (hfit : (rows.length + new.length) * bytes ≤ 1099511627776)
    (K : ∀ f' v' h1, St (.acc f' r v' (rows ++ new) :: fs) h1 → WO c l Q (v' :: vs) (Env.set i j v' env) h1) : WO c (.s i j (.H (.append r bytes s x)) :: l) Q vs env h := by
  have hl : ∀ {v : V} {rs : List (List V)}, Rows r h v rs → ∀ row ∈ rs, row.length = r := by
    intro v rs hn
    cases hn with
    | nil => intro row hm; simp at hm
    | row _ _ _ _ _ hlen => exact hlen
  subst hnr
  obtain ⟨f', v', h', e, s'⟩ := st.appendL (bytes := bytes) hb hold hr (hl hold) (hl hn) hne hfit
  exact WO.actS (fun _ => L.append (ev := fun a => a.ev vs env) hs hx hn e) (K _ _ _ s')
end
/-- an accumulator, or a full literal that is not yet appended to -/
def LAF (F : Fact) (r : Nat) (v : V) (rows : List (List V)) : Prop := (F = .stb (fun h => Rows r h v rows) ∧ ∃ lb, v = .sl lb 0 rows.length (some rows.length) ∧ 8 ≤ lb) ∨ ∃ f, F = .acc f r v rows
theorem LAF.sl {F : Fact} {r : Nat} {v : V} {rows : List (List V)} {fs : List Fact} {h : Heap} (hF : LAF F r v rows) (st : St (F :: fs) h) (hn : rows ≠ []) : ∃ b cap, v = .sl b 0 rows.length cap := by
  rcases hF with ⟨_, lb, rfl, _⟩ | ⟨f, rfl⟩
  · exact ⟨_, _, rfl⟩
  · obtain ⟨b, rfl⟩ := (st.acc_at 0 rfl).ne hn
    exact ⟨_, _, rfl⟩
theorem LAF.shut {F : Fact} {r : Nat} {v : V} {rows : List (List V)} {fs : List Fact} {h : Heap} (hF : LAF F r v rows) (st : St (F :: fs) h) (hr : 0 < r) : St (.stb (fun h => Rows r h v rows) :: fs) h := by
  rcases hF with ⟨rfl, _⟩ | ⟨f, rfl⟩
  · exact st
  · exact st.shut hr
section
variable {c : Ctx} {Q : QT} {env : Env} {h : Heap} {fs : List Fact} {l : List Opr} {vs : List V} {i j : D8}
theorem WO.appLAS {F : Fact} {r bytes : Nat} {s x : A} {v xv : V} {rows new : List (List V)} (hF : LAF F r v rows) (st : St (F :: fs) h) (hs : s.ev vs env = v) (hx : x.ev vs env = xv) (hn : Rows r h xv new) (hr : 0 < r) (hne : 0 < new.length) (hfit : (rows.length + new.length) * bytes ≤ 1099511627776)
    (K : ∀ f' v' h1, St (.acc f' r v' (rows ++ new) :: fs) h1 → WO c l Q (v' :: vs) (Env.set i j v' env) h1) : WO c (.s i j (.H (.append r bytes s x)) :: l) Q vs env h := by
  rcases hF with ⟨rfl, lb, rfl, hlb⟩ | ⟨f, rfl⟩
  · exact WO.appLS st hs hlb rfl (st.stb_at 0 rfl) hx hn hr hne hfit fun f' v' h1 s' => K f' v' h1 (s'.sub (List.Sublist.cons_cons _ (List.sublist_cons_self _ _)))
  · exact WO.appFS st 0 rfl hs hx hn hr hfit fun f' v' h1 s' => K f' v' h1 s'
end
end
end Go.Eng
