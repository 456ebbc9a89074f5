/- Part of a proof of a law, by an evaluator that the machine follows: rules, contracts of functions, what they come to. No condition of its own. -/
import Derived.Test.YtmcjcbldmoijiaaGreatDoorEngC
import Derived.Lib.Bytealg
set_option linter.unusedVariables false
set_option linter.unusedSimpArgs false
namespace Go.Eng
noncomputable section

/-! ### strings.IndexByte, by its contract -/
def idxL (c : Nat) (l : List Nat) : Nat → V := @List.rec Nat (fun _ => Nat → V) (fun _ => .int .i64 (-1)) (fun b _ ih i => Bool.rec (ih (Nat.succ i)) (natV .i64 i) (b.beq c)) l
def moreIdx (f0 : Nat) : Nat → List V → Heap → OR := fun f as h => match f.beq f0, as with
  | true, [.str n x, .int .u8 (.ofNat c)] => Bool.rec .bad ((idxL c (sBytes n x) 0).force fun v => .ok v h) (c.blt 256)
  | _, _ => .bad
theorem idxL_eq (c : Nat) (hc : c < 256) : ∀ (l : List UInt8) (i : Nat), idxL c (l.map (·.toNat)) i = if Lib.indexByte l c.toUInt8 = -1 then .int .i64 (-1) else .int .i64 (i + Lib.indexByte l c.toUInt8)
  | [], i => rfl
  | b :: l, i => by
    show (Bool.rec (idxL c (l.map (·.toNat)) (Nat.succ i)) (natV .i64 i) (b.toNat.beq c) : V) = _
    have hb : (b == c.toUInt8) = (b.toNat.beq c) := by
      have h1 : c.toUInt8.toNat = c := by simp; omega
      rw [nbeq]
      by_cases h : b = c.toUInt8
      · have : b.toNat = c := by rw [h, h1]
        simp [h]; omega
      · have : b.toNat ≠ c := fun e => h (UInt8.toNat_inj.1 (by rw [h1, e]))
        simp [h, this]
    unfold Lib.indexByte
    rw [hb]
    cases b.toNat.beq c with
    | true => simp [natV_eq]
    | false =>
      show idxL c (l.map (·.toNat)) (i + 1) = _
      rw [idxL_eq c hc l (i + 1)]
      have hge := Lib.indexByte_ge l c.toUInt8
      by_cases h : Lib.indexByte l c.toUInt8 = -1
      · simp [h]
      · have h2 : ¬ (Lib.indexByte l c.toUInt8 + 1 = -1) := by omega
        simp [h, h2]; omega
theorem moreIdx_ok {P : Program} {f0 : Nat} (hb : hasBody P f0) (hc : ∀ (s : ByteArray) (c : Int) (w : World), Calls P f0 #[.string s, .int .u8 c] w fun e w' => e = .returned (.int .i64 (Lib.indexByte s.data.toList c.toNat.toUInt8)) ∧ w' = w) : MoreOk P (moreIdx f0) := by
  intro f as h
  unfold moreIdx
  split
  · rename_i n x c hf
    have hf : f = f0 := Nat.eq_of_beq_eq_true hf
    subst hf
    cases hlt : c.blt 256 with
    | false => exact ⟨trivial, fun h => absurd rfl h⟩
    | true =>
      have hlt : c < 256 := by rw [nblt] at hlt; simpa using hlt
      rw [V.force_eq]
      refine ⟨Nat.le_refl _, fun _ => ⟨hb, fun ι w args g _ hr => ?_⟩⟩
      obtain ⟨y1, l1, e1, r1, r2⟩ := hr
      obtain ⟨y2, l2, e2, r3, r4⟩ := r2
      have r4 : l2 = [] := r4
      subst r4 e2
      obtain ⟨s, rfl, hs⟩ := r1
      have r3 : y2 = .int .u8 (Int.ofNat c) := r3
      subst r3
      have ha : args = #[.string s, .int .u8 (Int.ofNat c)] := by rw [← Array.toArray_toList (xs := args), e1]
      rw [ha]
      refine (hc s (Int.ofNat c) w).mono fun e w' he => ?_
      obtain ⟨rfl, rfl⟩ := he
      refine ⟨ι, Chg.refl g, ?_⟩
      obtain ⟨h1, h2⟩ := hs
      have hsb : sBytes n x = s.data.toList.map (·.toNat) := by rw [← h1, ← h2]; exact sBytes_eq _
      rw [hsb, idxL_eq c hlt]
      have hcn : (Int.ofNat c).toNat.toUInt8 = c.toUInt8 := rfl
      rw [hcn]
      by_cases hm : Lib.indexByte s.data.toList c.toUInt8 = -1
      · rw [if_pos hm, hm]; rfl
      · rw [if_neg hm]
        show (Value.int .i64 _ = Value.int .i64 _)
        congr 1; simp
  · exact ⟨trivial, fun h => absurd rfl h⟩
end
end Go.Eng
namespace Go.Eng
noncomputable section

/-! ### runs in two parts: what is reckoned of the arguments, and the rest -/
def seqs : List C → C → C
  | [], r => r
  | c :: l, r => .seq c (seqs l r)
def envOf (r : CR) : Env := CR.rec (fun _ e _ => e) Env.nil r
def heapOf (r : CR) : Heap := CR.rec (fun _ _ h => h) Heap.empty r
def isNrm (r : CR) : Bool := CR.rec (fun x _ _ => X.rec true false (fun _ => false) (fun _ => false) x) false r
theorem isNrm_ok {r : CR} (h : isNrm r = true) : r = .ok .nrm (envOf r) (heapOf r) := by
  cases r with
  | bad => cases h
  | ok x e hp => cases x <;> first | rfl | cases h
theorem code_seqs (call : CallT) (n : Nat) (r : C) : ∀ (p : List C) (env : Env) (h : Heap), isNrm (code (seqs p .skip) call n env h) = true →
    code (seqs p r) call n env h = code r call n (envOf (code (seqs p .skip) call n env h)) (heapOf (code (seqs p .skip) call n env h))
  | [], env, h, _ => rfl
  | c :: l, env, h, hn => by
    have e1 : ∀ b, code (.seq c b) call n env h = (CR.rec (fun x env h => X.rec (code b call n env h) (.ok .ret env h) (fun i => .ok (.exit i) env h) (fun v => .ok (.pan v) env h) x) .bad (code c call n env h) : CR) := fun b => rfl
    have hn : isNrm (code (.seq c (seqs l .skip)) call n env h) = true := hn
    show code (.seq c (seqs l r)) call n env h = code r call n (envOf (code (.seq c (seqs l .skip)) call n env h)) (heapOf (code (.seq c (seqs l .skip)) call n env h))
    rw [e1] at hn
    rw [e1, e1]
    cases hc : code c call n env h with
    | bad => rw [hc] at hn; cases hn
    | ok x env1 h1 =>
      rw [hc] at hn
      cases x with
      | nrm => exact code_seqs call n r l env1 h1 hn
      | ret => cases hn
      | exit i => cases hn
      | pan v => cases hn
theorem runFun_split {fn : Fun} {call : CallT} {p : List C} {r : C} {as : List V} {h : Heap} (hb : fn.body = seqs p r) (hl : (lenV as).beq fn.np = true) (hn : isNrm (code (seqs p .skip) call maxRounds (argsP as 0 Env.nil) h) = true) :
    runFun fn call as h = endCall fn.results (code r call maxRounds (envOf (code (seqs p .skip) call maxRounds (argsP as 0 Env.nil) h)) (heapOf (code (seqs p .skip) call maxRounds (argsP as 0 Env.nil) h))) := by
  unfold runFun runFunR
  rw [hl, args_eq, hb]
  show endCall fn.results (code (seqs p r) call maxRounds (argsP as 0 Env.nil) h) = _
  rw [code_seqs call maxRounds r p _ _ hn]

/-! ### sameness of environments and heaps, for the kernel -/
def Row.same (s t : Row) : Bool := V.same s.a t.a && (V.same s.b t.b && (V.same s.c t.c && (V.same s.d t.d && (V.same s.e t.e && (V.same s.f t.f && (V.same s.g t.g && V.same s.h t.h))))))
def Env.same (s t : Env) : Bool := Row.same s.a t.a && (Row.same s.b t.b && (Row.same s.c t.c && (Row.same s.d t.d && (Row.same s.e t.e && (Row.same s.f t.f && (Row.same s.g t.g && Row.same s.h t.h))))))
def optSame {α : Type} (p : α → α → Bool) : Option α → Option α → Bool
  | none, none => true
  | some a, some b => p a b
  | _, _ => false
def T.sameBy {α : Type} (p : α → α → Bool) (s t : T α) : Bool :=
  R8.same (R8.same (R8.same (optSame p))) s.x t.x && (s.y.isNone && (t.y.isNone && (s.z.empty && t.z.empty)))
def natsSame : List Nat → List Nat → Bool
  | [], [] => true
  | a :: l, b :: m => a.beq b && natsSame l m
  | _, _ => false
def Fam.same (a b : Fam) : Bool := a.last.beq b.last && natsSame a.mem b.mem
def Heap.same (a b : Heap) : Bool := T.sameBy Obj.same a.t b.t && (a.next.beq b.next && (T.sameBy Fam.same a.fams b.fams && (a.ds.isEmpty && (b.ds.isEmpty && ((match a.pc with | .none => true | _ => false) && (match b.pc with | .none => true | _ => false))))))
theorem Row.same_eq {s t : Row} (h : Row.same s t = true) : s = t := by
  have h1 := Bool.and_of h; have h2 := Bool.and_of h1.2; have h3 := Bool.and_of h2.2; have h4 := Bool.and_of h3.2
  have h5 := Bool.and_of h4.2; have h6 := Bool.and_of h5.2; have h7 := Bool.and_of h6.2
  cases s; cases t
  simp only [Row.mk.injEq]
  exact ⟨V.same_eq _ _ h1.1, V.same_eq _ _ h2.1, V.same_eq _ _ h3.1, V.same_eq _ _ h4.1, V.same_eq _ _ h5.1, V.same_eq _ _ h6.1, V.same_eq _ _ h7.1, V.same_eq _ _ h7.2⟩
theorem Env.same_eq {s t : Env} (h : Env.same s t = true) : s = t := by
  have h1 := Bool.and_of h; have h2 := Bool.and_of h1.2; have h3 := Bool.and_of h2.2; have h4 := Bool.and_of h3.2
  have h5 := Bool.and_of h4.2; have h6 := Bool.and_of h5.2; have h7 := Bool.and_of h6.2
  cases s; cases t
  simp only [Env.mk.injEq]
  exact ⟨Row.same_eq h1.1, Row.same_eq h2.1, Row.same_eq h3.1, Row.same_eq h4.1, Row.same_eq h5.1, Row.same_eq h6.1, Row.same_eq h7.1, Row.same_eq h7.2⟩
theorem optSame_eq {α : Type} {p : α → α → Bool} (hp : ∀ a b, p a b = true → a = b) (a b : Option α) (h : optSame p a b = true) : a = b := by
  cases a <;> cases b <;> simp [optSame] at h
  · rfl
  · rw [hp _ _ h]
theorem T.sameBy_eq {α : Type} {p : α → α → Bool} (hp : ∀ a b, p a b = true → a = b) (s t : T α) (h : T.sameBy p s t = true) : s = t := by
  have h1 := Bool.and_of h; have h2 := Bool.and_of h1.2; have h3 := Bool.and_of h2.2; have h4 := Bool.and_of h3.2
  have e1 := R8.same_eq (R8.same_eq (R8.same_eq (optSame_eq hp))) _ _ h1.1
  have e3 := B.empty_eq h4.1; have e4 := B.empty_eq h4.2
  have e5 : s.y = none := by simpa using h2.1
  have e6 : t.y = none := by simpa using h3.1
  cases s; cases t
  simp only [T.mk.injEq]
  exact ⟨e1, e5.trans e6.symm, e3.trans e4.symm⟩
theorem natsSame_eq : ∀ (a b : List Nat), natsSame a b = true → a = b
  | [], [], _ => rfl
  | a :: l, b :: m, h => by have h := Bool.and_of h; rw [Nat.eq_of_beq_eq_true h.1, natsSame_eq l m h.2]
theorem Fam.same_eq (a b : Fam) (h : Fam.same a b = true) : a = b := by
  have h := Bool.and_of h
  cases a; cases b
  simp only [Fam.mk.injEq]
  exact ⟨Nat.eq_of_beq_eq_true h.1, natsSame_eq _ _ h.2⟩
theorem Heap.same_eq {a b : Heap} (h : Heap.same a b = true) : a = b := by
  have h1 := Bool.and_of h; have h2 := Bool.and_of h1.2; have h3 := Bool.and_of h2.2; have h4 := Bool.and_of h3.2; have h5 := Bool.and_of h4.2; have h6 := Bool.and_of h5.2
  obtain ⟨at1, an, af, ad, ap⟩ := a
  obtain ⟨bt, bn, bf, bd, bp⟩ := b
  have e1 : at1 = bt := T.sameBy_eq Obj.same_eq _ _ h1.1
  have e2 : an = bn := Nat.eq_of_beq_eq_true h2.1
  have e3 : af = bf := T.sameBy_eq Fam.same_eq _ _ h3.1
  have e4 : ad = [] := by have := h4.1; simpa using this
  have e5 : bd = [] := by have := h5.1; simpa using this
  have e6 : ap = .none := by have := h6.1; revert this; cases ap <;> simp
  have e7 : bp = .none := by have := h6.2; revert this; cases bp <;> simp
  rw [e1, e2, e3, e4, e5, e6, e7]
/-- below n, all -/
def allBelow (p : Nat → Bool) (n : Nat) : Bool := Nat.rec true (fun k ih => Bool.rec false ih (p k)) n
theorem allBelow_at {p : Nat → Bool} : ∀ {n : Nat}, allBelow p n = true → ∀ k, k < n → p k = true
  | 0, _, k, hk => by omega
  | n + 1, h, k, hk => by
    have h : (Bool.rec false (allBelow p n) (p n) : Bool) = true := h
    cases hp : p n with
    | false => rw [hp] at h; cases h
    | true =>
      rw [hp] at h
      by_cases e : k = n
      · rw [e]; exact hp
      · exact allBelow_at h k (by omega)
end
end Go.Eng
