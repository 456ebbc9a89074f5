/- Part of a proof of a law, by an evaluator that the machine follows: rules, contracts of functions, what they come to. No condition of its own. -/
import Derived.Test.YtjobofnpmmjeoaaDoorTwo
import Derived.RangeFuncNested
import Derived.RangeFuncCalls
import Derived.RangeFuncLeaves
import Derived.RangeFuncBox
import Derived.Maps.OwnIn
set_option linter.unusedVariables false
set_option linter.unusedSimpArgs false
namespace Go.Eng
noncomputable section

/-! ### a range over slices.Backward's function: the machine's steps, within a fence -/
/-- the temporaries that matter -/
structure Tn (N : Nat) (D : List Deferred) (a : Act) (l : List (Nat × Value)) : Prop where
  size : a.tmps.size = N
  defers : a.defers = D
  at_ : ∀ p ∈ l, a.tmps.getD p.1 undef = p.2
theorem Tn.put {N : Nat} {D : List Deferred} {a : Act} {l : List (Nat × Value)} (t : Tn N D a l) (d : Nat) (v : Value) (hd : d < N) : Tn N D (a.put (some d) v) ((d, v) :: l.filter fun p => p.1 != d) := by
  refine ⟨by simp [Act.put, t.size], t.defers, fun p hp => ?_⟩
  show (a.tmps.setIfInBounds d v).getD p.1 undef = p.2
  rw [getD_put (by rw [t.size]; exact hd)]
  rcases List.mem_cons.1 hp with rfl | hp
  · simp
  · have h := List.mem_filter.1 hp
    have h2 : p.1 ≠ d := by simpa using h.2
    rw [if_neg h2]; exact t.at_ p h.1
theorem Tn.get {N : Nat} {D : List Deferred} {a : Act} {l : List (Nat × Value)} (t : Tn N D a l) (k : Nat) {d : Nat} {v : Value} (h : l[k]? = some (d, v)) : a.eval (.tmp d) = v := t.at_ (d, v) (List.mem_of_getElem? h)
theorem Tn.sub {N : Nat} {D : List Deferred} {a : Act} {l m : List (Nat × Value)} (t : Tn N D a l) (h : ∀ p ∈ m, p ∈ l) : Tn N D a m := ⟨t.size, t.defers, fun p hp => t.at_ p (h p hp)⟩

structure OpNo (o : Oper) (op : Go.Op) : Prop where
  dst : o.dst = none
  op : o.op = op
  guard : o.guard = none
section
variable {P : Program} {F : Fence} {n : Nat} {ops : Array Oper} {Q : Exit → Act → World → Prop} {a : Act} {w w' : World} {rest : List Oper} {o : Oper}
theorem wplI_op (hF : ∀ f, F.fn f) {d : Nat} {op : Go.Op} {v : Value} (i : OpIs o d op) (hnd : ∀ c, op ≠ .defer c) (hr : (execOp a.eval o).run P w = .ok (.value v) w') (k : wpListIn F n P ops Q rest (a.put (some d) v) w') :
    wpListIn F n P ops Q (o :: rest) a w := by
  refine wpListIn_plain i.guard fun K hK => ⟨fun f _ => hF f, ?_⟩
  rw [Oper.semAt_eq _ _ _ (by rw [i.op]; exact hnd), hr, Oper.uponIn_value, i.dst]
  exact hK _ _ k
theorem wplI_skip (hF : ∀ f, F.fn f) {op : Go.Op} (i : OpNo o op) (hnd : ∀ c, op ≠ .defer c) (hr : (execOp a.eval o).run P w = .ok .skip w') (k : wpListIn F n P ops Q rest a w') :
    wpListIn F n P ops Q (o :: rest) a w := by
  refine wpListIn_plain i.guard fun K hK => ⟨fun f _ => hF f, ?_⟩
  rw [Oper.semAt_eq _ _ _ (by rw [i.op]; exact hnd), hr, Oper.uponIn_skip, i.dst]
  exact hK _ _ k
end

/-- the kinds of the types -/
structure BackT (P : Program) (ts te tn ti tb : TypeId) : Prop where
  sl : P.underlying ts = some (.slice te)
  s1 : aggIs P ts false = true
  e1 : aggIs P te true = true
  e2 : sizeIs P te 2 = true
section
variable {P : Program} {ι : Inj} {h : Heap} {w : World} {ts te tn ti tb : TypeId}
theorem run_mov {o : Oper} {d p : Nat} {ρ : Operand → Value} (i : OpIs o d (.move (.tmp p))) : (execOp ρ o).run P w = .ok (.value (ρ (.tmp p))) w := by
  simp only [execOp, i.op]; rfl
theorem run_asg {o : Oper} {d p : Nat} {ρ : Operand → Value} (i : OpIs o d (.assign (.tmp p))) : (execOp ρ o).run P w = .ok (.value (ρ (.tmp p))) w := by
  simp only [execOp, i.op]; rfl
theorem run_ld1 {o : Oper} {d p t : Nat} {ρ : Operand → Value} {A : Addr} {x : Value} (ht : aggIs P t false = true) (i : OpIs o d (.load t (.tmp p))) (hp : ρ (.tmp p) = .pointer (some A)) (hc : w.cell? A = some x) :
    (execOp ρ o).run P w = .ok (.value x) w := by
  simp [execOp, i.op, Instr.loadAt, Instr.sureAddr, hp, Result.andThen, loadVar_one w ht hc]
theorem run_ldn {o : Oper} {d p t m : Nat} {ρ : Operand → Value} {c q : Nat} {xs : List Value} (ht : aggIs P t true = true) (hs : sizeIs P t m = true) (i : OpIs o d (.load t (.tmp p))) (hp : ρ (.tmp p) = .pointer (some ⟨c, q, none⟩)) (hl : xs.length = m)
    (hc : ∀ j x, xs[j]? = some x → w.cell? ⟨c, q + j, none⟩ = some x) : (execOp ρ o).run P w = .ok (.value (.agg xs.toArray)) w := by
  simp [execOp, i.op, Instr.loadAt, Instr.sureAddr, hp, Result.andThen, loadVar_agg w ht hs hl hc]
/-- an operation that changes nothing, by the evaluator -/
theorem run_l (g : Good ι h w) {ρ : Operand → Value} {o : Oper} {v : V} {e : OpL} (hok : okL P (fun x a => @decide (vrel ι (A.ev a [] Env.nil) (ρ x)) (Classical.propDecidable _)) o.op e = true) (he : light e (fun a => a.ev [] Env.nil) h = .val v) :
    ∃ v', (execOp ρ o).run P w = .ok (.value v') w ∧ vrel ι v v' := light_c g hok he
theorem dec_v {v : V} {x : Value} (h : vrel ι v x) : @decide (vrel ι v x) (Classical.propDecidable _) = true := @decide_eq_true _ (Classical.propDecidable _) h
theorem run_sub (g : Good ι h w) {ρ : Operand → Value} {o : Oper} {d p : Nat} {m : Int} {t t2 : TypeId} (i : OpIs o d (.binOp .sub t (.tmp p) (.const (.int .i64 1)) t2)) (hp : ρ (.tmp p) = .int .i64 m) (hone : ρ (.const (.int .i64 1)) = .int .i64 1)
    (hm : -9223372036854775807 ≤ m ∧ m < 9223372036854775808) : (execOp ρ o).run P w = .ok (.value (.int .i64 (m - 1))) w := by
  obtain ⟨v', h1, h2⟩ := run_l (P := P) g (ρ := ρ) (o := o) (e := .bin .sub (.c (.int .i64 m)) (.c (.int .i64 1))) (v := wrapV .i64 (isub m 1)) (by
    rw [i.op]; simp only [okL, decide_true, Bool.true_and, Bool.and_eq_true]
    exact ⟨rfl, dec_v (v := .int .i64 m) hp, dec_v (v := .int .i64 1) hone⟩) rfl
  rw [wrapV_eq] at h2
  have h2 : v' = .int .i64 (IntKind.wrap .i64 (isub m 1)) := h2
  have e1 : isub m 1 = m - 1 := isub_eq _ _
  rw [e1] at h2
  have e2 : IntKind.wrap .i64 (m - 1) = m - 1 := by
    simp [IntKind.wrap, IntKind.signed, IntKind.bits]
    omega
  rw [e2] at h2
  rw [h1, h2]
end
end
end Go.Eng
namespace Go.Eng
noncomputable section
open Go.RowKit
section
variable {P : Program} {ι : Inj} {h : Heap} {ts te ti tb : TypeId} {l4 n5 s6 a3 m7 g8 m11 m12 l13 m14 i15 e16 c17 u18 m9 s10 a30 : Oper} {i0 i1 i2 i3 b0 b1 : Nat}
/-- what the operations are -/
structure BackO (ts te ti tb : TypeId) (l4 n5 s6 a3 m7 g8 m11 m12 l13 m14 i15 e16 c17 u18 m9 s10 a30 : Oper) : Prop where
  l4 : OpIs l4 4 (.load ts (.tmp 1))
  n5 : OpIs n5 5 (.call { callee := .builtin .len, args := #[.tmp 4], argTypes := #[ts] })
  s6 : OpIs s6 6 (.binOp .sub ti (.tmp 5) (.const (.int .i64 1)) ti)
  a3 : OpIs a3 3 (.assign (.tmp 6))
  m7 : OpIs m7 7 (.move (.tmp 3))
  g8 : OpIs g8 8 (.binOp .geq ti (.tmp 7) (.const (.int .i64 0)) ti)
  m11 : OpIs m11 11 (.move (.tmp 0))
  m12 : OpIs m12 12 (.move (.tmp 3))
  l13 : OpIs l13 13 (.load ts (.tmp 1))
  m14 : OpIs m14 14 (.move (.tmp 3))
  i15 : OpIs i15 15 (.indexAddr ts (.tmp 13) (.tmp 14))
  e16 : OpIs e16 16 (.load te (.tmp 15))
  c17 : OpIs c17 17 (.call { callee := .value (.tmp 11), args := #[.tmp 12, .tmp 16], argTypes := #[ti, te] })
  u18 : OpIs u18 18 (.unOp .not tb (.tmp 17))
  m9 : OpIs m9 9 (.move (.tmp 3))
  s10 : OpIs s10 10 (.binOp .sub ti (.tmp 9) (.const (.int .i64 1)) ti)
  a30 : OpIs a30 3 (.assign (.tmp 10))
def backCode (l4 n5 s6 a3 m7 g8 m11 m12 l13 m14 i15 e16 c17 u18 m9 s10 a30 : Oper) (i0 i1 i2 i3 b0 b1 : Nat) : Code :=
  .seq (.region i0 #[l4, n5, s6, a3] false) (.block b0 (.loop (.seq (.seq (.region i1 #[m7, g8] false) (.cond (.tmp 8) .skip (.exit b0)))
    (.seq (.block b1 (.seq (.region i3 #[m11, m12, l13, m14, i15, e16, c17, u18] false) (.cond (.tmp 18) .ret .skip))) (.region i2 #[m9, s10, a30] false)))))
/-- what has come when k rounds are over: len - 1, .. -/
def down (len k : Nat) : List Nat := (List.range k).map fun j => len - 1 - j
theorem down_succ (len k : Nat) : down len (k + 1) = down len k ++ [len - 1 - k] := by simp [down, List.range_succ]
theorem down_length (len k : Nat) : (down len k).length = k := by simp [down]

set_option maxHeartbeats 1000000 in
theorem back_in {F : Fence} {m f : Nat} {fn : Func} (hf : P.funcs[f]? = some fn) (hb : fn.body = some (backCode l4 n5 s6 a3 m7 g8 m11 m12 l13 m14 i15 e16 c17 u18 m9 s10 a30 i0 i1 i2 i3 b0 b1)) (hnt : fn.ntmps = 19) (hres : fn.results = #[])
    (T : BackT P ts te ti ti tb) (O : BackO ts te ti tb l4 n5 s6 a3 m7 g8 m11 m12 l13 m14 i15 e16 c17 u18 m9 s10 a30) (hF : ∀ f, F.fn f) (hdep : F.depth = none) (hro : F.round = none)
    {n₀ : Nat} {w1 : World} (g : ∀ W, Below n₀ w1 W → Good ι h W) {A1 : Addr} {slv : Value} {s : V} {len b o : Nat} (hc1 : ∀ W, Below n₀ w1 W → W.cell? A1 = some slv) (hsl : vrel ι s slv) (hlen : len < 1000000)
    (hn : light (.len false (.c s)) (fun a => a.ev [] Env.nil) h = .val (natV .i64 len)) (hi : ∀ i, i < len → light (.iaddr 2 (.c s) (.c (.int .i64 (i : Int)))) (fun a => a.ev [] Env.nil) h = .val (.ptr b (o + i * 2)))
    {Ev : Nat → List Value} (hE2 : ∀ i, (Ev i).length = 2) (hE : ∀ i, i < len → ∀ B, ι b = some B → ∀ W, Below n₀ w1 W → ∀ j x, (Ev i)[j]? = some x → W.cell? ⟨B.c, B.off + (o + i * 2) + j, none⟩ = some x)
    {l : Nat} {J Jx : List Nat → World → Prop} (hY : ∀ pre (i : Nat) W, J pre W → pre.length < len → YieldAt F (m - 1) P l #[.int .i64 (i : Int), .agg (Ev i).toArray] W fun e W' =>
      (e = .returned (.bool true) ∧ J (pre ++ [i]) W' ∧ Below n₀ W W') ∨ (e = .returned (.bool false) ∧ Jx (pre ++ [i]) W'))
    {W : World} (hW : Below n₀ w1 W) (h0 : J [] W) :
    CallsIn F m P f #[.func (.yield l) #[] #[], .pointer (some A1)] W fun e W' => (∃ v, e = .returned v) ∧ (J (down len len) W' ∨ ∃ k, k ≤ len ∧ Jx (down len k) W') := by
  refine callsIn_of_wp hf hb (hF f) ?_ hro
  have hnd : ∀ {op : Go.Op}, (∀ c, op ≠ .defer c) → ∀ c, op ≠ .defer c := fun h => h
  have done : ∀ (a' : Act) (W' : World), a'.defers = [] → (J (down len len) W' ∨ ∃ k, k ≤ len ∧ Jx (down len k) W') →
      bodyPost P fn (fun e W' => (∃ v, e = Ending.returned v) ∧ (J (down len len) W' ∨ ∃ k, k ≤ len ∧ Jx (down len k) W')) .ret a' W' := fun a' W' hd h => ⟨hd, .tuple #[], results_none hres _ _ _, ⟨_, rfl⟩, h⟩
  have t : Tn 19 [] { tmps := #[.func (.yield l) #[] #[], .pointer (some A1)] ++ Array.replicate (fn.ntmps - (#[.func (.yield l) #[] #[], .pointer (some A1)] : Array Value).size) undef, defers := [] }
      [(0, .func (.yield l) #[] #[]), (1, .pointer (some A1))] := by
    refine ⟨by simp [hnt], rfl, fun p hp => ?_⟩
    simp at hp
    rcases hp with rfl | rfl <;> simp [hnt]
  generalize ({ tmps := #[.func (.yield l) #[] #[], .pointer (some A1)] ++ Array.replicate (fn.ntmps - (#[.func (.yield l) #[] #[], .pointer (some A1)] : Array Value).size) undef, defers := [] } : Act) = a at t ⊢
  -- the first region
  refine wpIn_seq (wpIn_region_list ?_)
  refine wplI_op hF O.l4 (by simp) (run_ld1 T.s1 O.l4 (t.get 1 (d := 1) rfl) (hc1 W hW)) ?_
  have t := t.put 4 slv (by decide)
  obtain ⟨v5, r5, q5⟩ := run_l (P := P) (g W hW) (ρ := (a.put (some 4) slv).eval) (o := n5) (e := .len false (.c s)) (by
    rw [O.n5.op]
    simp only [okL]
    have : (P.underlying ts) = some (.slice te) := T.sl
    simp [this]
    have e : (a.put (some 4) slv).eval (.tmp 4) = slv := t.get 0 (d := 4) rfl
    rw [e]; exact hsl) hn
  rw [natV_eq] at q5
  have q5 : v5 = .int .i64 (len : Int) := q5
  subst q5
  refine wplI_op hF O.n5 (by simp) r5 ?_
  have t := t.put 5 (.int .i64 (len : Int)) (by decide)
  refine wplI_op hF O.s6 (by simp) (run_sub (g W hW) O.s6 (t.get 0 (d := 5) rfl) rfl (by omega)) ?_
  have t := t.put 6 (.int .i64 ((len : Int) - 1)) (by decide)
  refine wplI_op hF O.a3 (by simp) (v := .int .i64 ((len : Int) - 1)) (by rw [run_asg O.a3, t.get 0 (d := 6) rfl]) ?_
  have t := t.put 3 (.int .i64 ((len : Int) - 1)) (by decide)
  generalize (((a.put (some 4) slv).put (some 5) (.int .i64 (len : Int))).put (some 6) (.int .i64 ((len : Int) - 1))).put (some 3) (.int .i64 ((len : Int) - 1)) = a at t ⊢
  refine wpListIn_nil (wpIn_block ?_)
  refine wpIn_loop (fun a' W' => ∃ k : Nat, k ≤ len ∧ Tn 19 [] a' [(3, .int .i64 ((len : Int) - 1 - k)), (0, .func (.yield l) #[] #[]), (1, .pointer (some A1))] ∧ J (down len k) W' ∧ Below n₀ w1 W')
    (fun a' _ => match a'.eval (.tmp 3) with | .int _ n => (n + 1).toNat | _ => 0) ⟨0, Nat.zero_le _, by simpa using t.sub (by simp), h0, hW⟩ ?_
  rintro a W ⟨k, hk, t, hJ, hW⟩
  have t0 := t
  refine wpIn_seq (wpIn_seq (wpIn_region_list ?_))
  refine wplI_op hF O.m7 (by simp) (v := .int .i64 ((len : Int) - 1 - k)) (by rw [run_mov O.m7, t.get 0 (d := 3) rfl]) ?_
  have t := t.put 7 (.int .i64 ((len : Int) - 1 - k)) (by decide)
  obtain ⟨v8, r8, q8⟩ := run_l (P := P) (g W hW) (ρ := (a.put (some 7) (.int .i64 ((len : Int) - 1 - k))).eval) (o := g8) (e := .bin .geq (.c (.int .i64 ((len : Int) - 1 - k))) (.c (.int .i64 0))) (v := .bool (bnot (ilt ((len : Int) - 1 - k) 0))) (by
    rw [O.g8.op]; simp only [okL, decide_true, Bool.true_and, Bool.and_eq_true]
    exact ⟨rfl, dec_v (v := .int .i64 ((len : Int) - 1 - k)) (t.get 0 (d := 7) rfl), dec_v (v := .int .i64 0) rfl⟩) rfl
  rw [ilt_eq] at q8
  have q8 : v8 = .bool (bnot (decide ((len : Int) - 1 - k < 0))) := q8
  subst q8
  refine wplI_op hF O.g8 (by simp) r8 ?_
  have t := t.put 8 (.bool (bnot (decide ((len : Int) - 1 - k < 0)))) (by decide)
  refine wpListIn_nil (wpIn_cond (t.get 0 (d := 8) rfl) ?_)
  have t := t.sub (m := [(3, .int .i64 ((len : Int) - 1 - k)), (0, .func (.yield l) #[] #[]), (1, .pointer (some A1))]) (by simp)
  generalize (a.put (some 7) (.int .i64 ((len : Int) - 1 - k))).put (some 8) (.bool (bnot (decide ((len : Int) - 1 - k < 0)))) = a1 at t ⊢
  by_cases hlt : k < len
  · -- a round
    have hd : (bnot (decide ((len : Int) - 1 - k < 0))) = true := by
      rw [show decide ((len : Int) - 1 - k < 0) = false from by simp; omega]; rfl
    rw [hd, if_pos rfl]
    have hik : ((len : Int) - 1 - k) = ((len - 1 - k : Nat) : Int) := by omega
    rw [hik] at t
    refine wpIn_skip (wpIn_seq (wpIn_block (wpIn_seq (wpIn_region_list ?_))))
    refine wplI_op hF O.m11 (by simp) (v := .func (.yield l) #[] #[]) (by rw [run_mov O.m11, t.get 1 (d := 0) rfl]) ?_
    have t := t.put 11 (.func (.yield l) #[] #[]) (by decide)
    refine wplI_op hF O.m12 (by simp) (v := .int .i64 ((len - 1 - k : Nat) : Int)) (by rw [run_mov O.m12, t.get 1 (d := 3) rfl]) ?_
    have t := t.put 12 (.int .i64 ((len - 1 - k : Nat) : Int)) (by decide)
    refine wplI_op hF O.l13 (by simp) (run_ld1 T.s1 O.l13 (t.get 4 (d := 1) rfl) (hc1 W hW)) ?_
    have t := t.put 13 slv (by decide)
    refine wplI_op hF O.m14 (by simp) (v := .int .i64 ((len - 1 - k : Nat) : Int)) (by rw [run_mov O.m14, t.get 3 (d := 3) rfl]) ?_
    have t := t.put 14 (.int .i64 ((len - 1 - k : Nat) : Int)) (by decide)
    have t := t.sub (m := [(14, .int .i64 ((len - 1 - k : Nat) : Int)), (13, slv), (12, .int .i64 ((len - 1 - k : Nat) : Int)), (11, .func (.yield l) #[] #[]), (3, .int .i64 ((len - 1 - k : Nat) : Int)), (0, .func (.yield l) #[] #[]), (1, .pointer (some A1))]) (by simp)
    generalize (((a1.put (some 11) (.func (.yield l) #[] #[])).put (some 12) (.int .i64 ((len - 1 - k : Nat) : Int))).put (some 13) slv).put (some 14) (.int .i64 ((len - 1 - k : Nat) : Int)) = a2 at t ⊢
    have hil : len - 1 - k < len := by omega
    obtain ⟨v15, r15, q15⟩ := run_l (P := P) (g W hW) (ρ := a2.eval) (o := i15) (e := .iaddr 2 (.c s) (.c (.int .i64 ((len - 1 - k : Nat) : Int)))) (by
      rw [O.i15.op]; simp only [okL]
      have : (P.underlying ts) = some (.slice te) := T.sl
      simp only [this, Bool.and_eq_true]
      refine ⟨T.e2, dec_v (v := s) ?_, dec_v (v := .int .i64 ((len - 1 - k : Nat) : Int)) (t.get 0 (d := 14) rfl)⟩
      rw [t.get 1 (d := 13) rfl]; exact hsl) (hi _ hil)
    obtain ⟨B, hB, q15⟩ : ∃ B, ι b = some B ∧ v15 = .pointer (some ⟨B.c, B.off + (o + (len - 1 - k) * 2), none⟩) := q15
    subst q15
    refine wplI_op hF O.i15 (by simp) r15 ?_
    have t := t.put 15 (.pointer (some ⟨B.c, B.off + (o + (len - 1 - k) * 2), none⟩)) (by decide)
    refine wplI_op hF O.e16 (by simp) (run_ldn T.e1 T.e2 O.e16 (t.get 0 (d := 15) rfl) (hE2 _) (hE _ hil B hB W hW)) ?_
    have t := t.put 16 (.agg (Ev (len - 1 - k)).toArray) (by decide)
    generalize (a2.put (some 15) (.pointer (some ⟨B.c, B.off + (o + (len - 1 - k) * 2), none⟩))).put (some 16) (.agg (Ev (len - 1 - k)).toArray) = a3 at t ⊢
    -- yield
    obtain ⟨fn', tmps, assign, body, hy, hR⟩ := hY (down len k) (len - 1 - k) W hJ (by rw [down_length]; exact hlt)
    refine wpListIn_plain O.c17.guard fun K hK => ⟨fun f _ => hF f, ?_⟩
    have hrun : ((c17.semAt F.round a3.eval).run P W) = .ok (.round l fn' tmps assign body) W := by
      rw [Oper.semAt_eq _ _ _ (by rw [O.c17.op]; simp)]
      have e11 : a3.eval (.tmp 11) = .func (.yield l) #[] #[] := t.get 5 (d := 11) rfl
      have e12 : a3.eval (.tmp 12) = .int .i64 ((len - 1 - k : Nat) : Int) := t.get 4 (d := 12) rfl
      have e16 : a3.eval (.tmp 16) = .agg (Ev (len - 1 - k)).toArray := t.get 0 (d := 16) rfl
      simp [execOp, O.c17.op, resolve, e11, e12, e16, Deferred.ofValue, invoke, hy, Result.andThen]
    rw [hrun, Oper.uponIn_round]
    refine ⟨by simp [hdep], hR.mono ?_⟩
    rintro e W' (⟨rfl, hJ', hk'⟩ | ⟨rfl, hJx'⟩)
    · show K (a3.put c17.dst (.bool true)) W'
      rw [O.c17.dst]
      refine hK _ _ ?_
      have t := t.put 17 (.bool true) (by decide)
      refine wplI_op hF O.u18 (by simp) (v := .bool false) (by have e := t.get 0 (d := 17) rfl; simp only [execOp, O.u18.op, e]; rfl) ?_
      have t := t.put 18 (.bool false) (by decide)
      refine wpListIn_nil (wpIn_cond (t.get 0 (d := 18) rfl) ?_)
      have t := t.sub (m := [(3, .int .i64 ((len - 1 - k : Nat) : Int)), (0, .func (.yield l) #[] #[]), (1, .pointer (some A1))]) (by simp)
      generalize (a3.put (some 17) (.bool true)).put (some 18) (.bool false) = a4 at t ⊢
      refine wpIn_skip ?_
      show (Code.region i2 #[m9, s10, a30] false).wpIn F m P _ _ _
      refine wpIn_region_list ?_
      refine wplI_op hF O.m9 (by simp) (v := .int .i64 ((len - 1 - k : Nat) : Int)) (by rw [run_mov O.m9, t.get 0 (d := 3) rfl]) ?_
      have t := t.put 9 (.int .i64 ((len - 1 - k : Nat) : Int)) (by decide)
      refine wplI_op hF O.s10 (by simp) (run_sub (g W' (hW.trans hk')) O.s10 (t.get 0 (d := 9) rfl) rfl (by omega)) ?_
      have t := t.put 10 (.int .i64 (((len - 1 - k : Nat) : Int) - 1)) (by decide)
      refine wplI_op hF O.a30 (by simp) (v := .int .i64 (((len - 1 - k : Nat) : Int) - 1)) (by rw [run_asg O.a30, t.get 0 (d := 10) rfl]) ?_
      have t := t.put 3 (.int .i64 (((len - 1 - k : Nat) : Int) - 1)) (by decide)
      refine wpListIn_nil ⟨⟨k + 1, by omega, ?_, by rw [down_succ]; exact hJ', hW.trans hk'⟩, ?_⟩
      · have e : ((len : Int) - 1 - (k + 1 : Nat)) = (((len - 1 - k : Nat) : Int) - 1) := by omega
        rw [e]
        exact t.sub (by simp)
      · rw [t.get 0 (d := 3) rfl, t0.get 0 (d := 3) rfl]
        show ((((len - 1 - k : Nat) : Int) - 1) + 1).toNat < ((len : Int) - 1 - k + 1).toNat
        omega
    · show K (a3.put c17.dst (.bool false)) W'
      rw [O.c17.dst]
      refine hK _ _ ?_
      have t := t.put 17 (.bool false) (by decide)
      refine wplI_op hF O.u18 (by simp) (v := .bool true) (by have e := t.get 0 (d := 17) rfl; simp only [execOp, O.u18.op, e]; rfl) ?_
      have t := t.put 18 (.bool true) (by decide)
      refine wpListIn_nil (wpIn_cond (t.get 0 (d := 18) rfl) ?_)
      refine wpIn_ret ?_
      exact done _ _ t.defers (.inr ⟨k + 1, by omega, by rw [down_succ]; exact hJx'⟩)
  · -- no more
    have hkl : k = len := by omega
    subst hkl
    have hd : (bnot (decide ((k : Int) - 1 - k < 0))) = false := by
      rw [show decide ((k : Int) - 1 - k < 0) = true from by simp; omega]; rfl
    rw [hd, if_neg (by simp)]
    refine wpIn_exit ?_
    show (if b0 = b0 then _ else _)
    rw [if_pos rfl]
    exact done _ _ t.defers (.inl hJ)
end
end
end Go.Eng
namespace Go.Eng
noncomputable section
open Go.RowKit
section
variable {P : Program} {ι : Inj} {h : Heap} {w : World} {te tn ti : TypeId} {a11 st f32 l33 l34 q35 f36 l37 st6 st7 : Oper} {i5 i6 i7 b1 : Nat}
structure RndO (te tn ti : TypeId) (a11 st f32 l33 l34 q35 f36 l37 st6 st7 : Oper) : Prop where
  a11 : OpIs a11 11 (.alloc te)
  st : OpNo st (.store te (.tmp 11) (.tmp 31))
  f32 : OpIs f32 32 (.fieldAddr te (.tmp 11) 0)
  l33 : OpIs l33 33 (.load tn (.tmp 32))
  l34 : OpIs l34 34 (.load tn (.tmp 5))
  q35 : OpIs q35 35 (.binOp .eql tn (.tmp 33) (.tmp 34) tn)
  f36 : OpIs f36 36 (.fieldAddr te (.tmp 11) 1)
  l37 : OpIs l37 37 (.load ti (.tmp 36))
  st6 : OpNo st6 (.store ti (.tmp 6) (.tmp 37))
  st7 : OpNo st7 (.store ti (.tmp 7) (.const (.int .i64 0)))
structure RndT (P : Program) (te tn ti : TypeId) : Prop where
  z : zerosIs P te [.str 0 0, .int .i64 0] = true
  e2 : sizeIs P te 2 = true
  n1 : aggIs P tn false = true
  i1 : aggIs P ti false = true
  i2 : sizeIs P ti 1 = true
  f0 : okL P (fun _ _ => true) (.fieldAddr te (.tmp 11) 0) (.faddr 0 (.c .bot)) = true
  f1 : okL P (fun _ _ => true) (.fieldAddr te (.tmp 11) 1) (.faddr 1 (.c .bot)) = true
def asgCode (a11 st : Oper) (i5 : Nat) : Code := .region i5 #[a11, st] false
def bodCode (f32 l33 l34 q35 f36 l37 st6 st7 : Oper) (i6 i7 b1 : Nat) : Code :=
  .block b1 (.seq (.region i6 #[f32, l33, l34, q35] false) (.cond (.tmp 35) (.seq (.region i7 #[f36, l37, st6, st7] false) .ret) .skip))

theorem run_faddr {w : World} {ρ : Operand → Value} {o : Oper} {d p k off c q : Nat} {t : TypeId} (hok : okL P (fun _ _ => true) (.fieldAddr t (.tmp p) k) (.faddr off (.c .bot)) = true) (i : OpIs o d (.fieldAddr t (.tmp p) k))
    (hp : ρ (.tmp p) = .pointer (some ⟨c, q, none⟩)) : (execOp ρ o).run P w = .ok (.value (.pointer (some ⟨c, q + off, none⟩))) w := by
  simp only [okL] at hok
  split at hok
  · rename_i fs hu
    split at hok
    · rename_i fl hf
      simp only [Bool.and_eq_true, decide_eq_true_eq] at hok
      obtain ⟨rfl, hs, _⟩ := hok
      cases hi : P.info? fl.type with
      | none => simp [hi] at hs
      | some i' =>
        have hs : i'.size ≠ 0 := by simpa [hi] using hs
        have hz : P.cellsOf fl.type = i'.size := by simp [Program.cellsOf, hi]
        have hf' : fs[k]? = some fl := hf
        simp [execOp, i.op, Instr.fieldAt, run_underlying hu, hf', Instr.sureAddr, hp, fieldPlace, run_sizeOf w hi, hz, hs, addr_add, Result.andThen]
    · cases hok
  · cases hok

/-- a new block that holds two values -/
structure New2 (W W' : World) (x0 x1 : Value) : Prop where
  old : ∀ c, c < W.heap.size → W'.heap[c]? = W.heap[c]?
  size : W'.heap.size = W.heap.size + 1
  os : W'.os = W.os
  tape : W'.tape = W.tape
  out : W'.output = W.output
  c0 : W'.cell? ⟨W.heap.size, 0, none⟩ = some x0
  c1 : W'.cell? ⟨W.heap.size, 1, none⟩ = some x1
theorem New2.below {W W' : World} {x0 x1 : Value} (n : New2 W W' x0 x1) {n₀ : Nat} (h : n₀ ≤ W.heap.size) : Below n₀ W W' := ⟨n.os, n.tape, n.out, by rw [n.size]; omega, fun k hk => n.old k (by omega)⟩

theorem rnd_asg {F : Fence} {m : Nat} (T : RndT P te tn ti) (O : RndO te tn ti a11 st f32 l33 l34 q35 f36 l37 st6 st7) (hF : ∀ f, F.fn f) {a : Act} {W : World} {x0 x1 p5 p6 p7 : Value} {K : Act → World → Prop} {Z : Exit → Act → World → Prop}
    (t : Tn 65 [] a [(31, .agg #[x0, x1]), (5, p5), (6, p6), (7, p7)]) (h0 : x0.oneCell' = true) (h1 : x1.oneCell' = true)
    (k : ∀ a' W', New2 W W' x0 x1 → Tn 65 [] a' [(11, .pointer (some ⟨W.heap.size, 0, none⟩)), (5, p5), (6, p6), (7, p7)] → K a' W') :
    (asgCode a11 st i5).wpIn F m P (Exit.then K Z) a W := by
  refine wpIn_region_list ?_
  obtain ⟨x, hz, hr, hx1, _⟩ := zerosIs_rel (P := P) (w := W) (ι := Inj.none) T.z
  have hsz : x.cells.size = 2 := by have := hr.length; simpa using this
  refine wplI_op hF O.a11 (by simp) (v := .pointer (some ⟨W.heap.size, 0, none⟩)) (w' := W.alloc (.cells x.cells te)) (by
    simp [execOp, O.a11.op, Instr.alloc, hz, newVar, newRow, Result.andThen]) ?_
  have t := t.put 11 (.pointer (some ⟨W.heap.size, 0, none⟩)) (by decide)
  have hb : (W.alloc (.cells x.cells te)).heap[W.heap.size]? = some (.cells x.cells te (0, 0)) := alloc_new _ _
  obtain ⟨cs', e1, e2, e3⟩ := setCells_row [x0, x1] 0 (W.alloc (.cells x.cells te)) x.cells hb (by simp [hsz])
  have hrun : (execOp (a.put (some 11) (.pointer (some ⟨W.heap.size, 0, none⟩))).eval st).run P (W.alloc (.cells x.cells te)) = .ok .skip ((W.alloc (.cells x.cells te)).setCells W.heap.size 0 [x0, x1]) := by
    have hst : (storeVar te ⟨W.heap.size, 0, none⟩ (.agg #[x0, x1])).run P (W.alloc (.cells x.cells te)) = .ok () ((W.alloc (.cells x.cells te)).setCells W.heap.size 0 [x0, x1]) := by
      have := run_storeCells_cells (P := P) W.heap.size 0 [x0, x1] 0 (W.alloc (.cells x.cells te)) (fun j hj => by
        simp only [World.cell?, hb, Option.isSome_none, Bool.false_eq_true, if_false]
        rw [Array.getElem?_eq_getElem (by simp at hj; omega)]; rfl) (fun j hj => by simp only [World.frozen?, hb]; simp) (by simp [h0, h1])
      have hc : (Value.agg #[x0, x1]).cells = #[x0, x1] := rfl
      simp only [storeVar, Sem.run_bind, sizeIs_run _ T.e2, Result.andThen, hc, ne_eq]
      simpa using this
    have e11 := t.get 0 (d := 11) rfl
    have e31 := t.get 1 (d := 31) rfl
    simp [execOp, O.st.op, Instr.storeAt, Instr.sureAddr, e11, e31, hst, Result.andThen]
  refine wplI_skip hF O.st (by simp) hrun ?_
  refine wpListIn_nil (k _ _ ?_ (t.sub (by simp)))
  obtain ⟨s1, s2, s3, s4⟩ := setCells_same W.heap.size [x0, x1] 0 (W.alloc (.cells x.cells te))
  refine ⟨fun c hc => (setCells_far _ _ _ c (by omega)).trans (alloc_old W _ c hc), by rw [s4]; simp, s1, s2, s3, ?_, ?_⟩
  · simp only [World.cell?, e1, Option.isSome_none, Bool.false_eq_true, if_false]; rw [e3]; simp
  · simp only [World.cell?, e1, Option.isSome_none, Bool.false_eq_true, if_false]; rw [e3]; simp

/-- two stores, one behind the other -/
def st2 (h : Heap) (b6 o6 b7 o7 : Nat) (n : Int) : Option Heap := match storeO h b6 o6 1 [.int .i64 n] with
  | some h2 => storeO h2 b7 o7 1 [.int .i64 0]
  | none => none
theorem run_st (g : Good ι h w) {ρ : Operand → Value} {o : Oper} {t : TypeId} {p : Nat} {x : Operand} {b q : Nat} {n : Int} {h' : Heap} (ht : sizeIs P t 1 = true) (i : OpNo o (.store t (.tmp p) x)) (hp : vrel ι (.ptr b q) (ρ (.tmp p))) (hx : ρ x = .int .i64 n)
    (hs : storeO h b q 1 [.int .i64 n] = some h') : ∃ w', (execOp ρ o).run P w = .ok .skip w' ∧ Chg ι h w ι h' w' ∧ h'.next = h.next := by
  obtain ⟨B, hB, h1⟩ := hp
  have hr : vrels ι [.int .i64 n] [Value.int .i64 n] := ⟨_, _, rfl, rfl, rfl⟩
  obtain ⟨w', k1, k2, k3, k4, _⟩ := store_rel (P := P) g hB hs rfl hr (by simp [Value.oneCell'])
  refine ⟨w', ?_, Chg.same k2 k3 k4, k4⟩
  have hst : (storeVar t ⟨B.c, B.off + q, none⟩ (ρ x)).run P w = .ok () w' := by
    have hc : (Value.int .i64 n).cells = #[.int .i64 n] := rfl
    rw [hx]
    simp only [storeVar, Sem.run_bind, sizeIs_run w ht, Result.andThen, hc, ne_eq]
    simpa using k1
  simp [execOp, i.op, Instr.storeAt, Instr.sureAddr, h1, hst, Result.andThen]

theorem rnd_bod {F : Fence} {m : Nat} (T : RndT P te tn ti) (O : RndO te tn ti a11 st f32 l33 l34 q35 f36 l37 st6 st7) (hF : ∀ f, F.fn f) {a : Act} {W : World} {c : Nat} {x0 p5 p6 p7 : Value} {lab : Int} {b5 o5 b6 o6 b7 o7 n x n' x' : Nat} {Q : Exit → Act → World → Prop}
    (t : Tn 65 [] a [(11, .pointer (some ⟨c, 0, none⟩)), (5, p5), (6, p6), (7, p7)]) (g : Good ι h W) (h0 : W.cell? ⟨c, 0, none⟩ = some x0) (h1 : W.cell? ⟨c, 1, none⟩ = some (.int .i64 lab)) (hx : vrel Inj.none (.str n x) x0)
    (r5 : vrel ι (.ptr b5 o5) p5) (l5 : h.load1 b5 o5 = some (.str n' x')) (r6 : vrel ι (.ptr b6 o6) p6) (r7 : vrel ι (.ptr b7 o7) p7)
    (hno : sEq n x n' x' = false → ∀ a', Q .normal a' W)
    (hyes : sEq n x n' x' = true → ∃ h3, st2 h b6 o6 b7 o7 lab = some h3 ∧ ∀ a' W', Chg ι h W ι h3 W' → Q .ret a' W') :
    (bodCode f32 l33 l34 q35 f36 l37 st6 st7 i6 i7 b1).wpIn F m P Q a W := by
  refine wpIn_block (wpIn_seq (wpIn_region_list ?_))
  refine wplI_op hF O.f32 (by simp) (run_faddr T.f0 O.f32 (t.get 0 (d := 11) rfl)) ?_
  have t := t.put 32 (.pointer (some ⟨c, 0 + 0, none⟩)) (by decide)
  refine wplI_op hF O.l33 (by simp) (run_ld1 T.n1 O.l33 (t.get 0 (d := 32) rfl) h0) ?_
  have t := t.put 33 x0 (by decide)
  obtain ⟨v5, B5, q5, e5, k5⟩ : ∃ (v5 : Value) (B : Blk), vrel ι (.str n' x') v5 ∧ p5 = .pointer (some ⟨B.c, B.off + o5, none⟩) ∧ W.cell? ⟨B.c, B.off + o5, none⟩ = some v5 := by
    obtain ⟨B, hB, rfl⟩ := r5
    obtain ⟨v, k1, _, k2⟩ := load1_rel g hB l5
    exact ⟨v, B, k1, rfl, k2⟩
  subst e5
  refine wplI_op hF O.l34 (by simp) (run_ld1 T.n1 O.l34 (t.get 3 (d := 5) rfl) k5) ?_
  have t := t.put 34 v5 (by decide)
  generalize ((a.put (some 32) (.pointer (some ⟨c, 0 + 0, none⟩))).put (some 33) x0).put (some 34) v5 = a1 at t ⊢
  obtain ⟨v35, e35, q35'⟩ := run_l (P := P) (Good.empty W) (ρ := a1.eval) (o := q35) (e := .bins .eql (.c (.str n x)) (.c (.str n' x'))) (v := .bool (sEq n x n' x')) (by
    rw [O.q35.op]; simp only [okL, decide_true, Bool.true_and, Bool.and_eq_true]
    refine ⟨rfl, dec_v (v := .str n x) ?_, dec_v (v := .str n' x') ?_⟩
    · rw [t.get 1 (d := 33) rfl]; exact hx
    · rw [t.get 0 (d := 34) rfl]; exact q5) rfl
  have q35' : v35 = .bool (sEq n x n' x') := q35'
  subst q35'
  refine wplI_op hF O.q35 (by simp) e35 ?_
  have t := t.put 35 (.bool (sEq n x n' x')) (by decide)
  refine wpListIn_nil (wpIn_cond (t.get 0 (d := 35) rfl) ?_)
  generalize a1.put (some 35) (.bool (sEq n x n' x')) = a2 at t ⊢
  cases hq : sEq n x n' x' with
  | false =>
    rw [if_neg (by simp)]
    exact wpIn_skip (hno hq a2)
  | true =>
    rw [if_pos rfl]
    obtain ⟨h3, hs, hk⟩ := hyes hq
    unfold st2 at hs
    cases hs2 : storeO h b6 o6 1 [.int .i64 lab] with
    | none => rw [hs2] at hs; cases hs
    | some h2 =>
      rw [hs2] at hs
      refine wpIn_seq (wpIn_region_list ?_)
      refine wplI_op hF O.f36 (by simp) (run_faddr T.f1 O.f36 (t.get 4 (d := 11) rfl)) ?_
      have t := t.put 36 (.pointer (some ⟨c, 0 + 1, none⟩)) (by decide)
      refine wplI_op hF O.l37 (by simp) (run_ld1 T.i1 O.l37 (t.get 0 (d := 36) rfl) h1) ?_
      have t := t.put 37 (.int .i64 lab) (by decide)
      generalize (a2.put (some 36) (.pointer (some ⟨c, 0 + 1, none⟩))).put (some 37) (.int .i64 lab) = a3 at t ⊢
      obtain ⟨w2, k1, k2, kn⟩ := run_st (P := P) g (ρ := a3.eval) T.i2 O.st6 (by rw [t.get 8 (d := 6) rfl]; exact r6) (t.get 0 (d := 37) rfl) hs2
      refine wplI_skip hF O.st6 (by simp) k1 ?_
      obtain ⟨w3, k3, k4, _⟩ := run_st (P := P) k2.good (ρ := a3.eval) T.i2 O.st7 (by rw [t.get 9 (d := 7) rfl]; exact r7) rfl hs
      refine wplI_skip hF O.st7 (by simp) k3 ?_
      refine wpListIn_nil (wpIn_ret ?_)
      exact hk a3 w3 (k2.trans k4 (fun b hb hl => by omega))
end
end
end Go.Eng
namespace Go.Eng
noncomputable section
open Go.RowKit

/-! ### a function that goes backward through a slice of pairs, and then on: the summary -/
structure VarD where
  F : Fun
  g : Nat
  e0 : C
  e1 : C
  e2 : C
  e4 : C
  er : C
def nx (r : CR) (k : Env → Heap → OR) : OR := @CR.rec (fun _ => OR) (fun x env h => @X.rec (fun _ => OR) (k env h) .bad (fun _ => .bad) (fun _ => .bad) x) .bad r
def lenOf (h : Heap) (s : V) : Option (Nat × Nat × Nat × List V) := match s with
  | .slN => some (0, 0, 0, [])
  | .sl b o n _ => (match h.load b o (n * 2) with | some l => some (n, b, o, l) | none => none)
  | _ => none
def locs : List V → Option (List (Nat × Nat × Int))
  | [] => some []
  | .str n x :: .int .i64 a :: l => (match locs l with | some m => some ((n, x, a) :: m) | none => none)
  | _ => none
def findB (n' x' : Nat) : List (Nat × Nat × Int) → Option Int
  | [] => none
  | e :: l => match findB n' x' l with
    | some a => some a
    | none => bif sEq e.1 e.2.1 n' x' then some e.2.2 else none
def allB (p : Int → Bool) (n' x' : Nat) : List (Nat × Nat × Int) → Bool
  | [] => true
  | e :: l => (bif sEq e.1 e.2.1 n' x' then p e.2.2 else true) && allB p n' x' l
def varE (U : VarD) (call : CallT) (env : Env) (h : Heap) (b6 o6 b7 o7 : Nat) : Option Int → OR
  | none => endCall U.F.results (code U.er call maxRounds env h)
  | some a => match st2 h b6 o6 b7 o7 a with
    | some h3 => finish U.F.results env h3
    | none => .bad
def varT (U : VarD) (call : CallT) (env : Env) (h : Heap) : OR := match Env.get .d1 .d4 env, Env.get .d1 .d1 env, Env.get .d0 .d3 env, Env.get .d0 .d4 env with
  | .fn g [] [.ptr bx ox], .ptr b5 o5, .ptr b6 o6, .ptr b7 o7 => (match g.beq U.g, h.load1 bx ox, h.load1 b5 o5 with
    | true, some s, some (.str n' x') => (match lenOf h s with
      | some (len, _, _, l) => (match locs l with
        | some els => (match (len.blt 1000 && els.length.beq len) && allB (fun a => (st2 h b6 o6 b7 o7 a).isSome) n' x' els with
          | true => varE U call env h b6 o6 b7 o7 (findB n' x' els)
          | false => .bad)
        | none => .bad)
      | none => .bad)
    | _, _, _ => .bad)
  | _, _, _, _ => .bad
def varC (U : VarD) (call : CallT) (env : Env) (h : Heap) : OR := match Env.get .d0 .d5 env with
  | .bool false => nx (code U.e4 call maxRounds env h) fun env h => varT U call env h
  | _ => .bad
def varG (U : VarD) (call : CallT) (as : List V) (h : Heap) : OR := match (lenV as).beq U.F.np with
  | true => nx (code U.e0 call maxRounds (argsP as 0 Env.nil) h) fun env h => nx (code U.e1 call maxRounds env h) fun env h => nx (code U.e2 call maxRounds env h) fun env h => varC U call env h
  | false => .bad

theorem nx_inv {r : CR} {k : Env → Heap → OR} {o : OR} (h : nx r k = o) (ho : o ≠ .bad) : ∃ env h1, r = .ok .nrm env h1 ∧ k env h1 = o := by
  cases r with
  | bad => exact absurd h.symm ho
  | ok x env h1 =>
    cases x with
    | nrm => exact ⟨env, h1, rfl, h⟩
    | ret => exact absurd h.symm ho
    | exit i => exact absurd h.symm ho
    | pan v => exact absurd h.symm ho
theorem varT_inv {U : VarD} {call : CallT} {env : Env} {h : Heap} {o : OR} (e : varT U call env h = o) (ho : o ≠ .bad) : ∃ bx ox s len b q l els b5 o5 b6 o6 b7 o7 n' x', Env.get .d1 .d4 env = .fn U.g [] [.ptr bx ox] ∧ Env.get .d1 .d1 env = .ptr b5 o5 ∧
    Env.get .d0 .d3 env = .ptr b6 o6 ∧ Env.get .d0 .d4 env = .ptr b7 o7 ∧ h.load1 bx ox = some s ∧ h.load1 b5 o5 = some (.str n' x') ∧ lenOf h s = some (len, b, q, l) ∧ locs l = some els ∧ len < 1000 ∧ els.length = len ∧
    allB (fun a => (st2 h b6 o6 b7 o7 a).isSome) n' x' els = true ∧ varE U call env h b6 o6 b7 o7 (findB n' x' els) = o := by
  unfold varT at e
  split at e
  · rename_i g bx ox b5 o5 b6 o6 b7 o7 h1 h2 h3 h4
    split at e
    · rename_i s n' x' hg hs hn
      split at e
      · rename_i len b q l hl
        split at e
        · rename_i els hels
          split at e
          · rename_i hc
            have c := Bool.and_of hc
            have c1 := Bool.and_of c.1
            have hg : g = U.g := Nat.eq_of_beq_eq_true hg
            subst hg
            refine ⟨bx, ox, s, len, b, q, l, els, b5, o5, b6, o6, b7, o7, n', x', h1, h2, h3, h4, hs, hn, hl, hels, ?_, Nat.eq_of_beq_eq_true c1.2, c.2, e⟩
            have := c1.1; rw [nblt] at this; simpa using this
          · exact absurd e.symm ho
        · exact absurd e.symm ho
      · exact absurd e.symm ho
    · exact absurd e.symm ho
  · exact absurd e.symm ho

section
variable {ι ι0 : Inj} {h h0 : Heap} {w w0 w' : World}
theorem Good.off (g : Good ι h w) (e : ∀ b B, ι b = some B → w'.heap[B.c]? = w.heap[B.c]?) (hs : w.heap.size ≤ w'.heap.size) : Good ι h w' :=
  ⟨fun b B o a c d => (g.obj b B o a c d).world (e b B a), fun b B a => Nat.lt_of_lt_of_le (g.inH b B a) hs, g.same, g.fam, g.last, g.solo, g.mem, g.lim, g.dom, g.small, g.fdom, g.famLt⟩
theorem Chg.off (c : Chg ι0 h0 w0 ι h w) (e : ∀ b B, ι b = some B → w'.heap[B.c]? = w.heap[B.c]?) (e2 : ∀ k, k < w0.heap.size → w'.heap[k]? = w.heap[k]?) (hs : w.heap.size ≤ w'.heap.size) (ht : w'.tape = w.tape) (ho : w'.os = w.os) (hu : w'.output = w.output) :
    Chg ι0 h0 w0 ι h w' :=
  ⟨c.good.off e hs, ⟨fun k hk hn => (e2 k hk).trans (c.frame.keep k hk hn), Nat.le_trans c.frame.size hs, ht.trans c.frame.tape, ho.trans c.frame.os, hu.trans c.frame.out⟩, c.ext, c.sep⟩
end
theorem findB_none {n' x' : Nat} : ∀ {l : List (Nat × Nat × Int)}, findB n' x' l = none ↔ ∀ e ∈ l, sEq e.1 e.2.1 n' x' = false
  | [] => by simp [findB]
  | e :: l => by
    unfold findB
    cases hf : findB n' x' l with
    | some a =>
      simp only [reduceCtorEq, false_iff]
      intro hall
      have := (findB_none (l := l)).2 fun e he => hall e (List.mem_cons_of_mem _ he)
      rw [hf] at this; cases this
    | none =>
      have := (findB_none (l := l)).1 hf
      cases hs : sEq e.1 e.2.1 n' x' with
      | true => simp [hs]
      | false => simp [hs]; exact fun a b c hm => this (a, b, c) hm
/-- the last one that fits is found -/
theorem findB_at {n' x' : Nat} : ∀ {l : List (Nat × Nat × Int)} {i : Nat} {e : Nat × Nat × Int}, l[i]? = some e → sEq e.1 e.2.1 n' x' = true → (∀ j e', i < j → l[j]? = some e' → sEq e'.1 e'.2.1 n' x' = false) → findB n' x' l = some e.2.2
  | [], i, e, h, _, _ => by simp at h
  | a :: l, 0, e, h, hs, hr => by
    simp at h; subst h
    unfold findB
    rw [findB_none.2 fun e' he => by
      obtain ⟨j, hj⟩ := List.getElem?_of_mem he
      exact hr (j + 1) e' (by omega) (by simpa using hj)]
    simp [hs]
  | a :: l, i + 1, e, h, hs, hr => by
    unfold findB
    rw [findB_at (l := l) (i := i) (by simpa using h) hs fun j e' hj he => hr (j + 1) e' (by omega) (by simpa using he)]
theorem allB_at {p : Int → Bool} {n' x' : Nat} : ∀ {l : List (Nat × Nat × Int)}, allB p n' x' l = true → ∀ e ∈ l, sEq e.1 e.2.1 n' x' = true → p e.2.2 = true
  | [], _, e, he, _ => by simp at he
  | a :: l, h, e, he, hs => by
    have h := Bool.and_of h
    rcases List.mem_cons.1 he with rfl | he
    · have := h.1; rw [hs] at this; exact this
    · exact allB_at h.2 e he hs
theorem locs_at : ∀ {l : List V} {els : List (Nat × Nat × Int)}, locs l = some els → l.length = els.length * 2 ∧ ∀ i e, els[i]? = some e → l[i * 2]? = some (.str e.1 e.2.1) ∧ l[i * 2 + 1]? = some (.int .i64 e.2.2)
  | l, els, h => by
    unfold locs at h
    split at h
    · cases h; exact ⟨rfl, fun i e he => by simp at he⟩
    · rename_i n x a l'
      split at h
      · rename_i m hm
        cases h
        obtain ⟨i1, i2⟩ := locs_at hm
        refine ⟨by simp [i1]; omega, fun i e he => ?_⟩
        cases i with
        | zero => simp at he; subst he; exact ⟨rfl, rfl⟩
        | succ i =>
          have := i2 i e (by simpa using he)
          rw [show (i + 1) * 2 = i * 2 + 2 by omega, show i * 2 + 2 + 1 = i * 2 + 1 + 2 by omega]
          exact this
      · cases h
    · cases h
end
end Go.Eng
namespace Go.Eng
noncomputable section
open Go.RowKit

theorem storeO_next {h h' : Heap} {b o n : Nat} {vs : List V} (hs : storeO h b o n vs = some h') : h'.next = h.next := by
  unfold storeO at hs
  split at hs
  · cases hs; rfl
  · split at hs
    · cases hs
    · split at hs
      · split at hs <;> cases hs; rfl
      · split at hs
        · split at hs <;> cases hs; rfl
        · cases hs
      · cases hs
theorem st2_next {h h' : Heap} {b6 o6 b7 o7 : Nat} {n : Int} (hs : st2 h b6 o6 b7 o7 n = some h') : h'.next = h.next := by
  unfold st2 at hs
  split at hs
  · rename_i h2 e
    exact (storeO_next hs).trans (storeO_next e)
  · cases hs
section
variable {call : CallT} {U : VarD}
theorem finish_next {rs : List Res} {env : Env} {h h0 : Heap} (hn : h0.next ≤ h.next) : OR.next h0 (finish rs env h) := by
  show OR.next h0 (Option.rec .bad (fun vs => .ok (one vs) h) (results env h rs) : OR)
  cases results env h rs with
  | none => trivial
  | some vs => exact hn
theorem varE_next (hcm : CallMono call) (env : Env) (h : Heap) (b6 o6 b7 o7 : Nat) (x : Option Int) : OR.next h (varE U call env h b6 o6 b7 o7 x) := by
  cases x with
  | none =>
    show OR.next h (endCall U.F.results (code U.er call maxRounds env h))
    have := code_next hcm U.er maxRounds env h
    cases hr : code U.er call maxRounds env h with
    | bad => trivial
    | ok x env' h' =>
      rw [hr] at this
      cases x with
      | nrm => exact finish_next this
      | ret => exact finish_next this
      | exit i => trivial
      | pan v => exact this
  | some a =>
    show OR.next h (match st2 h b6 o6 b7 o7 a with
      | some h3 => finish U.F.results env h3
      | none => .bad)
    cases hs : st2 h b6 o6 b7 o7 a with
    | none => trivial
    | some h3 => exact finish_next (Nat.le_of_eq (st2_next hs).symm)
theorem OR.next.le {h h1 : Heap} {r : OR} (n : OR.next h1 r) (hle : h.next ≤ h1.next) : OR.next h r := by
  cases r with
  | ok v h' => exact Nat.le_trans hle n
  | pan v h' => exact Nat.le_trans hle n
  | bad => trivial
theorem varT_next (hcm : CallMono call) (env : Env) (h : Heap) : OR.next h (varT U call env h) := by
  generalize hr : varT U call env h = r
  cases r with
  | bad => trivial
  | ok v h' =>
    obtain ⟨bx, ox, s, len, b, q, l, els, b5, o5, b6, o6, b7, o7, n', x', _, _, _, _, _, _, _, _, _, _, _, e⟩ := varT_inv hr (by simp)
    rw [← e]; exact varE_next hcm ..
  | pan v h' =>
    obtain ⟨bx, ox, s, len, b, q, l, els, b5, o5, b6, o6, b7, o7, n', x', _, _, _, _, _, _, _, _, _, _, _, e⟩ := varT_inv hr (by simp)
    rw [← e]; exact varE_next hcm ..
theorem nx_next (hcm : CallMono call) {c : C} {env : Env} {h : Heap} {k : Env → Heap → OR} (hk : ∀ env h, OR.next h (k env h)) : OR.next h (nx (code c call maxRounds env h) k) := by
  have := code_next hcm c maxRounds env h
  cases hr : code c call maxRounds env h with
  | bad => trivial
  | ok x env' h' =>
    rw [hr] at this
    cases x with
    | nrm => exact (hk env' h').le this
    | ret => trivial
    | exit i => trivial
    | pan v => trivial
theorem varC_next (hcm : CallMono call) (env : Env) (h : Heap) : OR.next h (varC U call env h) := by
  unfold varC
  split
  · exact nx_next hcm fun env h => varT_next hcm env h
  · trivial
theorem varG_next (hcm : CallMono call) (as : List V) (h : Heap) : OR.next h (varG U call as h) := by
  unfold varG
  split
  · exact nx_next hcm fun env h => nx_next hcm fun env h => nx_next hcm fun env h => varC_next hcm env h
  · trivial
end
theorem finish_ok {rs : List Res} {env : Env} {h : Heap} {r : OR} (e : finish rs env h = r) (hr : r ≠ .bad) : ∃ vs, results env h rs = some vs ∧ r = .ok (one vs) h := by
  have e : (Option.rec .bad (fun vs => .ok (one vs) h) (results env h rs) : OR) = r := e
  cases hv : results env h rs with
  | none => rw [hv] at e; exact absurd e.symm hr
  | some vs => rw [hv] at e; exact ⟨vs, rfl, e.symm⟩
theorem down_mem {len k i : Nat} (h1 : i < len) (h2 : len - 1 - i < k) : i ∈ down len k := by
  unfold down
  rw [List.mem_map]
  exact ⟨len - 1 - i, List.mem_range.2 h2, by omega⟩
/-- what the slice's elements are, and where -/
theorem els_at {ι : Inj} {h : Heap} {w : World} (g : Good ι h w) {s : V} {slv : Value} {len b q : Nat} {l : List V} (hs : vrel ι s slv) (hl : lenOf h s = some (len, b, q, l)) :
    light (.len false (.c s)) (fun a => a.ev [] Env.nil) h = .val (natV .i64 len) ∧ (∀ i, i < len → light (.iaddr 2 (.c s) (.c (.int .i64 (i : Int)))) (fun a => a.ev [] Env.nil) h = .val (.ptr b (q + i * 2))) ∧
    ∃ xs : List Value, xs.length = len * 2 ∧ (∀ y ∈ xs, y.oneCell' = true) ∧ vrels ι l xs ∧ (0 < len → ∀ B, ι b = some B → B.c < w.heap.size ∧ ∀ j x, xs[j]? = some x → w.cell? ⟨B.c, B.off + q + j, none⟩ = some x) := by
  unfold lenOf at hl
  split at hl
  · cases hl
    exact ⟨rfl, fun i hi => by omega, [], rfl, by simp, rfl, fun h => by omega⟩
  · rename_i b' q' n' cap
    split at hl
    · rename_i l' hld
      cases hl
      obtain ⟨B, a, c, hB, _, _⟩ := hs
      obtain ⟨xs, e1, e2, e3, e4⟩ := load_rel g hB hld
      refine ⟨rfl, fun i hi => ?_, xs, e1, e3, e2, fun _ B' hB' => ?_⟩
      · show iaddr1 2 b q len i = _
        unfold iaddr1
        have : i.blt len = true := by rw [nblt]; simpa using hi
        rw [this]
        show force (Nat.add q (Nat.mul i 2)) (fun o => LR.val (.ptr b o)) = _
        rw [force_eq]; rfl
      · rw [hB] at hB'; cases hB'
        exact ⟨g.inH b B hB, e4⟩
    · cases hl
  · cases hl

section
variable {P : Program} {call : CallT} {U : VarD} {ts te tn ti tb : TypeId} {l4 n5 s6 a3 m7 g8 m11 m12 l13 m14 i15 e16 c17 u18 m9 s10 a30 : Oper} {j0 j1 j2 j3 d0 d1 : Nat}
  {a11 st f32 l33 l34 q35 f36 l37 st6 st7 : Oper} {i5 i6 i7 b0 b1 : Nat} {c0 c1 c2 c3 c4 cr : Code}
set_option maxHeartbeats 4000000 in
theorem var_sound (hmx : P.follows .mixedOrders = true) (hcs : CallS P call) (hcm : CallMono call) {f : Nat} {fn gn : Func} (hf : P.funcs[f]? = some fn)
    (hbd : fn.body = some (.seq c0 (.seq c1 (.seq (.seq c2 (.cond (.tmp 18) c3 (.seq c4 (.block b0 (.rangeFunc (.tmp 29) #[30, 31] (asgCode a11 st i5) (bodCode f32 l33 l34 q35 f36 l37 st6 st7 i6 i7 b1)))))) cr))))
    (hnt : fn.ntmps = 65) (h64 : U.F.temps.length ≤ 64) (hnp : U.F.np ≤ U.F.temps.length) (hnp2 : U.F.np ≤ 65) (hid : idOk U.F.temps 0 U.F.np = true)
    (t18 : U.F.temps[5]? = some 18) (t29 : U.F.temps[12]? = some 29) (t5 : U.F.temps[9]? = some 5) (t6 : U.F.temps[3]? = some 6) (t7 : U.F.temps[4]? = some 7)
    (k0 : chkC P U.F.temps 65 c0 U.e0 = true) (k1 : chkC P U.F.temps 65 c1 U.e1 = true) (k2 : chkC P U.F.temps 65 c2 U.e2 = true) (k4 : chkC P U.F.temps 65 c4 U.e4 = true) (kr : chkC P U.F.temps 65 cr U.er = true)
    (krs : chkRs P U.F.temps fn.results.toList U.F.results = true)
    (hg : P.funcs[U.g]? = some gn) (hgb : gn.body = some (backCode l4 n5 s6 a3 m7 g8 m11 m12 l13 m14 i15 e16 c17 u18 m9 s10 a30 j0 j1 j2 j3 d0 d1)) (hgn : gn.ntmps = 19) (hgr : gn.results = #[]) (hgname : (gn.name == "runtime.NumGoroutine") = false)
    (TB : BackT P ts te ti ti tb) (OB : BackO ts te ti tb l4 n5 s6 a3 m7 g8 m11 m12 l13 m14 i15 e16 c17 u18 m9 s10 a30) (TR : RndT P te tn ti) (OR' : RndO te tn ti a11 st f32 l33 l34 q35 f36 l37 st6 st7)
    {as : List V} {h : Heap} (hne : varG U call as h ≠ .bad) : ∀ ι w (args : Array Value), Good ι h w → OR.free ι h (varG U call as h) → vrels ι as args.toList → Calls P f args w (OutP ι h w (varG U call as h)) := by
  intro ι w args g hfree hr
  obtain ⟨r, hrr⟩ : ∃ r, r = varG U call as h := ⟨_, rfl⟩
  rw [← hrr] at hne hfree ⊢
  unfold varG at hrr
  cases hlen : (lenV as).beq U.F.np with
  | false => rw [hlen] at hrr; exact absurd hrr hne
  | true =>
  rw [hlen] at hrr
  have hl : as.length = U.F.np := by rw [lenV_eq] at hlen; exact Nat.eq_of_beq_eq_true hlen
  have hrr : nx (code U.e0 call maxRounds (argsP as 0 Env.nil) h) (fun env h => nx (code U.e1 call maxRounds env h) fun env h => nx (code U.e2 call maxRounds env h) fun env h => varC U call env h) = r := hrr.symm
  obtain ⟨env0, h0, hc0, hrr⟩ := nx_inv hrr hne
  obtain ⟨env1, h1, hc1, hrr⟩ := nx_inv hrr hne
  obtain ⟨env2, h2, hc2, hrr⟩ := nx_inv hrr hne
  obtain ⟨env4, h4, hcond, hc4, hrr⟩ : ∃ env4 h4, Env.get .d0 .d5 env2 = .bool false ∧ code U.e4 call maxRounds env2 h2 = .ok .nrm env4 h4 ∧ varT U call env4 h4 = r := by
    unfold varC at hrr
    split at hrr
    · rename_i hcond
      obtain ⟨env4, h4, hc4, hrr⟩ := nx_inv hrr hne
      exact ⟨env4, h4, hcond, hc4, hrr⟩
    · exact absurd hrr.symm hne
  have hnr := varT_next (U := U) hcm env4 h4
  rw [hrr] at hnr
  obtain ⟨bx, ox, s, len, b, q, l, els, b5, o5, b6, o6, b7, o7, n', x', v29, v5, v6, v7, lx, l5, hlo, hels, hlen', hel, hall, hrr⟩ := varT_inv hrr hne
  have n0 := code_next hcm U.e0 maxRounds (argsP as 0 Env.nil) h
  rw [hc0] at n0
  have n1 := code_next hcm U.e1 maxRounds env0 h0
  rw [hc1] at n1
  have n2 := code_next hcm U.e2 maxRounds env1 h1
  rw [hc2] at n2
  have n4 := code_next hcm U.e4 maxRounds env2 h2
  rw [hc4] at n4
  have n0 : h.next ≤ h0.next := n0
  have n1 : h0.next ≤ h1.next := n1
  have n2 : h1.next ≤ h2.next := n2
  have n4 : h2.next ≤ h4.next := n4
  have hmax : ∀ hk : Heap, hk.next ≤ h4.next → FreeIn ι h hk := fun hk hle => by
    cases r with
    | ok v h' => exact FreeIn.left (h2 := h') hfree (Nat.le_trans hle hnr)
    | pan v h' => exact FreeIn.left (h2 := h') hfree (Nat.le_trans hle hnr)
    | bad => exact absurd rfl hne
  refine callsIn_wide.1 (callsIn_of_wp_marks (n := 9) hf hbd trivial ?_ rfl)
  have hact := start_act (N := 65) h64 hnp hnp2 hid hl hr
  rw [hnt]
  refine wpIn_seq (wpIn_wide.2 (wp_code hmx hcs hcm c0 U.e0 k0 maxRounds hc0 hact g (hmax h0 (by omega)) fun ι0 a0 w0 ch0 r0 => ?_))
  show (Code.seq c1 _).wpIn _ _ _ _ _ _
  refine wpIn_seq (wpIn_wide.2 (wp_code hmx hcs hcm c1 U.e1 k1 maxRounds hc1 r0 ch0.good ((hmax h1 (by omega)).right ch0.ext) fun ι1 a1 w1 ch1 r1 => ?_))
  show (Code.seq _ cr).wpIn _ _ _ _ _ _
  have ch1 := ch0.trans ch1 (hmax h0 (by omega))
  refine wpIn_seq (wpIn_seq (wpIn_wide.2 (wp_code hmx hcs hcm c2 U.e2 k2 maxRounds hc2 r1 ch1.good ((hmax h2 (by omega)).right ch1.ext) fun ι2 a2 w2 ch2 r2 => ?_)))
  show (Code.cond _ _ _).wpIn _ _ _ _ _ _
  have ch2 := ch1.trans ch2 (hmax h1 (by omega))
  have e18 : a2.eval (.tmp 18) = .bool false := by
    have : vrel ι2 (Env.get .d0 .d5 env2) (a2.eval (.tmp 18)) := r2.tmps 5 18 t18
    rw [hcond] at this; exact this
  refine wpIn_cond_false e18 (wpIn_seq (wpIn_wide.2 (wp_code hmx hcs hcm c4 U.e4 k4 maxRounds hc4 r2 ch2.good ((hmax h4 (by omega)).right ch2.ext) fun ι4 a4 w4 ch4 r4 => ?_)))
  show (Code.block b0 _).wpIn _ _ _ _ _ _
  have ch4 := ch2.trans ch4 (hmax h2 (by omega))
  have hfr4 := hmax h4 (Nat.le_refl _)
  refine wpIn_block ?_
  -- what is known where the loop begins
  obtain ⟨ys, e29, hys⟩ : ∃ ys, a4.eval (.tmp 29) = .func (.func U.g) #[] ys ∧ vrels ι4 [.ptr bx ox] ys.toList := by
    have : vrel ι4 (Env.get .d1 .d4 env4) (a4.eval (.tmp 29)) := r4.tmps 12 29 t29
    rw [v29] at this
    obtain ⟨xs, ys, e, e1, e2⟩ := this
    have : xs = #[] := Array.toList_eq_nil_iff.1 e1
    subst this
    exact ⟨ys, e, e2⟩
  obtain ⟨Bx, hBx, hys⟩ : ∃ Bx, ι4 bx = some Bx ∧ ys = #[.pointer (some ⟨Bx.c, Bx.off + ox, none⟩)] := by
    obtain ⟨y, ys', e, ⟨B, hB, e1⟩, e2⟩ := hys
    have e2 : ys' = [] := e2
    subst e1 e2
    exact ⟨B, hB, by rw [← Array.toArray_toList (xs := ys), e]⟩
  subst hys
  obtain ⟨slv, hsl, _, hcx⟩ := load1_rel ch4.good hBx lx
  have r5 : vrel ι4 (.ptr b5 o5) (a4.eval (.tmp 5)) := by have : vrel ι4 (Env.get .d1 .d1 env4) (a4.eval (.tmp 5)) := r4.tmps 9 5 t5; rwa [v5] at this
  have r6 : vrel ι4 (.ptr b6 o6) (a4.eval (.tmp 6)) := by have : vrel ι4 (Env.get .d0 .d3 env4) (a4.eval (.tmp 6)) := r4.tmps 3 6 t6; rwa [v6] at this
  have r7 : vrel ι4 (.ptr b7 o7) (a4.eval (.tmp 7)) := by have : vrel ι4 (Env.get .d0 .d4 env4) (a4.eval (.tmp 7)) := r4.tmps 4 7 t7; rwa [v7] at this
  have hB4 : ∀ W, Below w4.heap.size w4 W → Good ι4 h4 W := fun W hW => ch4.good.off (fun b B hB => hW.block _ (ch4.good.inH b B hB)) hW.size
  have hC4 : ∀ W, Below w4.heap.size w4 W → Chg ι4 h4 w4 ι4 h4 W := fun W hW => Chg.same (hB4 W hW) ⟨fun c hc _ => hW.block c hc, hW.size, hW.tape, hW.os, hW.output⟩ rfl
  have hc1 : ∀ W, Below w4.heap.size w4 W → W.cell? ⟨Bx.c, Bx.off + ox, none⟩ = some slv := fun W hW => (World.cell?_of_block (a := ⟨Bx.c, Bx.off + ox, none⟩) (hW.block _ (ch4.good.inH bx Bx hBx))).trans hcx
  obtain ⟨hn, hi, xs, hxl, hx1, hxr, hxc⟩ := els_at ch4.good hsl hlo
  obtain ⟨hll, hle⟩ := locs_at hels
  let x0 : Nat → Value := fun i => (xs[min i (len - 1) * 2]?).getD (.int .i64 0)
  let x1 : Nat → Value := fun i => (xs[min i (len - 1) * 2 + 1]?).getD (.int .i64 0)
  have one : ∀ k : Nat, ((xs[k]?).getD (Value.int .i64 0)).oneCell' = true := fun k => by
    cases hk : xs[k]? with
    | none => rfl
    | some y => exact hx1 y (List.mem_of_getElem? hk)
  have hE : ∀ i, i < len → ∀ B, ι4 b = some B → ∀ W, Below w4.heap.size w4 W → ∀ (j : Nat) x, [x0 i, x1 i][j]? = some x → W.cell? ⟨B.c, B.off + (q + i * 2) + j, none⟩ = some x := by
    intro i hi B hB W hW j x hj
    obtain ⟨c1, c2⟩ := hxc (by omega) B hB
    have hmin : min i (len - 1) = i := by omega
    have key : ∀ k : Nat, k < len * 2 → W.cell? ⟨B.c, B.off + q + k, none⟩ = some ((xs[k]?).getD (Value.int .i64 0)) := fun k hk => by
      have : xs[k]? = some xs[k] := List.getElem?_eq_getElem (by omega)
      rw [this]
      exact (World.cell?_of_block (a := ⟨B.c, B.off + q + k, none⟩) (hW.block _ c1)).trans (c2 k _ this)
    match j, hj with
    | 0, hj =>
      have hj : x0 i = x := by simpa using hj
      rw [← hj]
      show W.cell? ⟨B.c, B.off + (q + i * 2) + 0, none⟩ = some ((xs[min i (len - 1) * 2]?).getD (Value.int .i64 0))
      rw [hmin, ← key (i * 2) (by omega), show B.off + (q + i * 2) + 0 = B.off + q + i * 2 by omega]
    | 1, hj =>
      have hj : x1 i = x := by simpa using hj
      rw [← hj]
      show W.cell? ⟨B.c, B.off + (q + i * 2) + 1, none⟩ = some ((xs[min i (len - 1) * 2 + 1]?).getD (Value.int .i64 0))
      rw [hmin, ← key (i * 2 + 1) (by omega), show B.off + (q + i * 2) + 1 = B.off + q + (i * 2 + 1) by omega]
    | j + 2, hj => simp at hj
  have hseq : SeqStopsK Fence.wide (9 - 1) P U.g #[.pointer (some ⟨Bx.c, Bx.off + ox, none⟩)] (fun i : Nat => #[Value.int .i64 (i : Int), .agg #[x0 i, x1 i]]) (Below w4.heap.size) (fun ys => ys = down len len) (fun pre => ∃ k, k ≤ len ∧ pre = down len k) len w4 := by
    intro l' J Jx W hW _ _ hY hJ
    refine (back_in (F := Fence.wide) (m := 9 - 1) hg hgb hgn hgr TB OB (fun _ => trivial) rfl rfl hB4 hc1 hsl (by omega) hn hi (Ev := fun i => [x0 i, x1 i]) (fun _ => rfl) hE (l := l') (J := J) (Jx := Jx) (fun pre i W hJ hlt => hY pre i W hJ hlt) hW hJ).mono ?_
    rintro e W' ⟨hv, hh⟩
    refine ⟨hv, ?_⟩
    rcases hh with hh | ⟨k, hk, hh⟩
    · exact .inl ⟨_, rfl, hh⟩
    · exact .inr ⟨_, ⟨k, hk, rfl⟩, hh⟩
  -- the end of the call
  have fin : ∀ (ι5 : Inj) (env5 : Env) (h5 : Heap) (a5 : Act) (w5 : World) (D : Nat), Chg ι4 h4 w4 ι5 h5 w5 → ActR [] ι5 U.F.temps 65 env5 { a5 with defers := [] } → a5.defers = [{ target := .collected D, args := #[] }] → w4.heap.size ≤ D →
      w5.heap[D]? = some (.deferred (some [])) → (∀ b B, ι5 b = some B → B.c ≠ D) → finish U.F.results env5 h5 = r → LeavesInM Fence.wide 9 P fn a5.tmps (OutP ι h w r) a5.defers .returning w5 := by
    intro ι5 env5 h5 a5 w5 D ch ra hd hD hK him hfin
    rw [hd]
    refine ⟨by simp, .inl ⟨D, _, rfl, run_takeDeferred hK, ?_⟩⟩
    have ch6 : Chg ι4 h4 w4 ι5 h5 (w5.putObj D (.deferred none)) := ch.off (fun b B hB => World.putObj_heap_other (him b B hB)) (fun k hk => World.putObj_heap_other (by omega)) (by simp [World.putObj]) rfl rfl rfl
    obtain ⟨vs, hvs, hro⟩ := finish_ok hfin hne
    obtain ⟨vs', m1, m2⟩ := results_rel (P := P) ch6.good ra fn.results.toList U.F.results krs vs hvs
    refine ⟨(if h : vs'.toArray.size = 1 then vs'.toArray[0] else .tuple vs'.toArray), ?_, ?_⟩
    · unfold Go.results
      rw [Array.mapM_eq_mapM_toList]
      simp only [Sem.run_bind, Sem.run_map]
      erw [m1]
      rfl
    · rw [hro]
      exact ⟨ι5, ch4.trans ch6 hfr4, vrels.one_ (by simpa using m2)⟩
  let mat : Nat → Bool := fun i => match els[min i (len - 1)]? with | some e => sEq e.1 e.2.1 n' x' | none => false
  have hel' : ∀ i, 0 < len → ∃ e, els[min i (len - 1)]? = some e := fun i h0 => ⟨_, List.getElem?_eq_getElem (by omega)⟩
  let I : List Nat → World → Prop := fun pre W => Below w4.heap.size w4 W ∧ ∀ i ∈ pre, mat i = false
  let Ix : Code → List Nat → World → Prop := fun c xs W => c = .ret ∧ ∃ pr i e h3, xs = pr ++ [i] ∧ (∀ j ∈ pr, mat j = false) ∧ els[min i (len - 1)]? = some e ∧ sEq e.1 e.2.1 n' x' = true ∧ st2 h4 b6 o6 b7 o7 e.2.2 = some h3 ∧ Chg ι4 h4 w4 ι4 h3 W
  let Ax : Nat → Act → World → Prop := fun i a' W => ∃ c, Tn 65 [] a' [(11, .pointer (some ⟨c, 0, none⟩)), (5, a4.eval (.tmp 5)), (6, a4.eval (.tmp 6)), (7, a4.eval (.tmp 7))] ∧ W.cell? ⟨c, 0, none⟩ = some (x0 i) ∧ W.cell? ⟨c, 1, none⟩ = some (x1 i)
  have eg : ∀ args w, (callFunc U.g args).run P w = .ok (.enter U.g args) w := fun args w => callFunc_run ⟨gn, hg, hgname, by rw [hgb]; rfl⟩ args
  refine wpIn_rangeFunc_ownH (F := Fence.wide) (n := 9) rfl (by decide) (gf := U.g) (lb := #[.pointer (some ⟨Bx.c, Bx.off + ox, none⟩)]) e29 trivial eg hseq belowK_t (belowK_b (Nat.le_refl _)) (Below.refl _ _) (fun _ => rfl) I Ix ?hI ?hIx ?h0 Ax ?hAx ?assign ?body ?done ?stop
  case hI =>
    intro s A B row hs hg hr
    exact ⟨hs.1.grown hg hs.1.size (fun k e => (hr k e).1), hs.2⟩
  case hIx =>
    rintro c s A B row ⟨hc, pr, i, e, h3, k1, k2, k3, k4, k5, ch⟩ hg hr
    refine ⟨hc, pr, i, e, h3, k1, k2, k3, k4, k5, ch.off (fun b B hB => hg.block _ (ch.good.inH b B hB) (fun e => ?_)) (fun k hk => hg.block _ (Nat.lt_of_lt_of_le hk ch.frame.size) (fun e => ?_)) hg.size hg.tape hg.os hg.output⟩
    · have := (hr _ e.symm).1
      have := ch4.good.inH b B hB
      omega
    · have := (hr _ e.symm).1
      omega
  case h0 => exact ⟨Below.refl _ _, by simp⟩
  case hAx =>
    rintro x a' s A B row ⟨c, t, k1, k2⟩ hg hr
    exact ⟨c, t, cell_kept k1 hg (fun r e => (hr r e).2), cell_kept k2 hg (fun r e => (hr r e).2)⟩
  case assign =>
    intro l' pre x W K hi' hK
    refine rnd_asg TR OR' (fun _ => trivial) (x0 := x0 x) (x1 := x1 x) (p5 := a4.eval (.tmp 5)) (p6 := a4.eval (.tmp 6)) (p7 := a4.eval (.tmp 7)) ?_ (one _) (one _) fun a' W' hn ht => ?_
    · refine ⟨by simp [r4.size], rfl, fun p hp => ?_⟩
      have e0 : ((#[30, 31].zip #[Value.int .i64 (x : Int), .agg #[x0 x, x1 x]]).foldl (fun t (p, v) => t.setIfInBounds p v) a4.tmps) = (a4.tmps.setIfInBounds 30 (.int .i64 (x : Int))).setIfInBounds 31 (.agg #[x0 x, x1 x]) := by simp
      show (((#[30, 31].zip #[Value.int .i64 (x : Int), .agg #[x0 x, x1 x]]).foldl (fun t (p, v) => t.setIfInBounds p v) a4.tmps)).getD p.1 undef = p.2
      rw [e0, getD_put (by rw [Array.size_setIfInBounds, r4.size]; decide), getD_put (by rw [r4.size]; decide)]
      simp at hp
      rcases hp with rfl | rfl | rfl | rfl <;> rfl
    · exact hK a' W' ⟨by rw [hn.size]; omega, fun k o _ hk _ => (hn.old k (Array.getElem?_eq_some_iff.1 hk).1).trans hk⟩ (hn.below hi'.1.size) ⟨hi'.1.trans (hn.below hi'.1.size), hi'.2⟩ ⟨_, ht, hn.c0, hn.c1⟩
  case body =>
    rintro l' pre x a' W hl' hrec hi' ⟨c, t, k1, k2⟩ hlt
    obtain ⟨e, he⟩ := hel' x (by omega)
    obtain ⟨m1, m2⟩ := hle _ _ he
    obtain ⟨y0, hy0, hv0⟩ := hxr.get m1
    obtain ⟨y1, hy1, hv1⟩ := hxr.get m2
    have hv1 : y1 = .int .i64 e.2.2 := hv1
    have ex0 : x0 x = y0 := by show (xs[min x (len - 1) * 2]?).getD _ = _; rw [hy0]; rfl
    have ex1 : x1 x = .int .i64 e.2.2 := by show (xs[min x (len - 1) * 2 + 1]?).getD _ = _; rw [hy1, hv1]; rfl
    rw [ex0] at k1
    rw [ex1] at k2
    refine rnd_bod TR OR' (fun _ => trivial) t (hB4 W hi'.1) k1 k2 hv0 r5 l5 r6 r7 (fun hs a' => ?_) (fun hs => ?_)
    · refine ⟨KeepsFrom.refl _ _, Below.refl _ _, hi'.1, fun i hi2 => ?_⟩
      rcases List.mem_append.1 hi2 with hi2 | hi2
      · exact hi'.2 i hi2
      · have : i = x := by simpa using hi2
        subst this
        show (match els[min i (len - 1)]? with | some e => sEq e.1 e.2.1 n' x' | none => false) = false
        rw [he]; exact hs
    · have := allB_at hall e (List.mem_of_getElem? he) hs
      obtain ⟨h3, hst⟩ := Option.isSome_iff_exists.1 this
      refine ⟨h3, hst, fun a' W' ch => ⟨⟨ch.frame.size, fun k o hk ho _ => (ch.frame.keep k (Array.getElem?_eq_some_iff.1 ho).1 fun b B hB _ _ e => ?_).trans ho⟩, rfl, pre, x, e, h3, rfl, hi'.2, he, hs, hst, (hC4 W hi'.1).trans ch (fun b hb hl => by omega)⟩⟩
      have := ch4.good.inH b B hB
      omega
  case done =>
    rintro D ys W hD rfl ⟨hbel, hno⟩ hK
    show Code.wpIn _ _ _ cr _ _ _
    have hnone : findB n' x' els = none := findB_none.2 fun e he => by
      obtain ⟨i, hi'⟩ := List.getElem?_of_mem he
      have hil : i < len := by rw [← hel]; exact (List.getElem?_eq_some_iff.1 hi').1
      have := hno i (down_mem hil (by omega))
      have hm : (match els[min i (len - 1)]? with | some e => sEq e.1 e.2.1 n' x' | none => false) = false := this
      rw [show min i (len - 1) = i by omega, hi'] at hm
      exact hm
    rw [hnone] at hrr
    have hrr : endCall U.F.results (code U.er call maxRounds env4 h4) = r := hrr
    have hDW : D < W.heap.size := (Array.getElem?_eq_some_iff.1 hK).1
    have imD : ∀ (ι5 : Inj), ι4.le ι5 → Sep ι4 h4 W ι5 → ∀ b B, ι5 b = some B → B.c ≠ D := fun ι5 hle hsep b B hB e => by
      cases h4b : ι4 b with
      | some B' =>
        have := hle b B' h4b
        rw [hB] at this; cases this
        have := ch4.good.inH b B h4b
        omega
      | none =>
        rcases hsep b B h4b hB with h1 | ⟨b0, B0, _, k1, k2, k3⟩
        · omega
        · have := ch4.good.inH b0 B0 k2
          omega
    cases hcode : code U.er call maxRounds env4 h4 with
    | bad => rw [hcode] at hrr; exact absurd hrr.symm hne
    | ok x env5 h5 =>
      rw [hcode] at hrr
      have hr4 : ActR [{ target := .collected D, args := #[] }] ι4 U.F.temps 65 env4 { a4 with defers := { target := .collected D, args := #[] } :: a4.defers } := ⟨r4.size, by simp [r4.defers], r4.tmps⟩
      have hf5 : OR.next h5 r → FreeIn ι4 h4 h5 := fun hle => by
        cases r with
        | ok v h' => exact (FreeIn.right (h2 := h') hfree ch4.ext).left hle
        | pan v h' => exact (FreeIn.right (h2 := h') hfree ch4.ext).left hle
        | bad => exact absurd rfl hne
      have hfin5 : finish U.F.results env5 h5 = r → OR.next h5 r := fun hf => by
        obtain ⟨vs, _, e⟩ := finish_ok hf hne
        rw [e]
        exact (Nat.le_refl _ : h5.next ≤ h5.next)
      cases x with
      | exit i => exact absurd hrr.symm hne
      | nrm =>
        have hrr : finish U.F.results env5 h5 = r := hrr
        refine wpIn_wide.2 (wp_code hmx hcs hcm cr U.er kr maxRounds hcode hr4 (hB4 W hbel) (hf5 (hfin5 hrr)) fun ι5 a5 w5 ch5 r5 => ?_)
        refine fin ι5 env5 h5 a5 w5 D ((hC4 W hbel).trans ch5 (fun b hb hl => by omega)) ⟨r5.size, rfl, r5.tmps⟩ r5.defers hD ((ch5.frame.keep D hDW fun b B hB _ _ e => ?_).trans hK) (imD ι5 ch5.ext.1 ch5.sep) hrr
        have := ch4.good.inH b B hB
        omega
      | ret =>
        have hrr : finish U.F.results env5 h5 = r := hrr
        refine wpIn_wide.2 (wp_code hmx hcs hcm cr U.er kr maxRounds hcode hr4 (hB4 W hbel) (hf5 (hfin5 hrr)) fun ι5 a5 w5 ch5 r5 => ?_)
        refine fin ι5 env5 h5 a5 w5 D ((hC4 W hbel).trans ch5 (fun b hb hl => by omega)) ⟨r5.size, rfl, r5.tmps⟩ r5.defers hD ((ch5.frame.keep D hDW fun b B hB _ _ e => ?_).trans hK) (imD ι5 ch5.ext.1 ch5.sep) hrr
        have := ch4.good.inH b B hB
        omega
      | pan v =>
        have hrr : OR.pan v h5 = r := hrr
        refine wpIn_wide.2 (wp_code hmx hcs hcm cr U.er kr maxRounds hcode hr4 (hB4 W hbel) (hf5 (by rw [← hrr]; exact (Nat.le_refl _ : h5.next ≤ h5.next))) fun ι5 a5 w5 ch5 v' hv' hd5 => ?_)
        have hk5 : w5.heap[D]? = some (.deferred (some [])) := (ch5.frame.keep D hDW fun b B hB _ _ e => by
          have := ch4.good.inH b B hB
          omega).trans hK
        have ch := (hC4 W hbel).trans ch5 (fun b hb hl => by omega)
        have ch6 : Chg ι4 h4 w4 ι5 h5 (w5.putObj D (.deferred none)) := ch.off (fun b B hB => World.putObj_heap_other (imD ι5 ch5.ext.1 ch5.sep b B hB)) (fun k hk => World.putObj_heap_other (by omega)) (by simp [World.putObj]) rfl rfl rfl
        show LeavesInM Fence.wide 9 P fn a5.tmps (OutP ι h w r) a5.defers _ w5
        rw [hd5]
        refine ⟨by simp, .inl ⟨D, _, rfl, run_takeDeferred hk5, ?_⟩⟩
        show OutP ι h w r (.panicked _) _
        rw [← hrr]
        exact ⟨v', ι5, rfl, ch4.trans ch6 hfr4, hv'⟩
  case stop =>
    rintro D c pre W hD ⟨k, hk, hpre⟩ ⟨hc, pr, i, e, h3, e1, hno, he, hs, hst, ch⟩ hK
    subst hc
    refine wpIn_ret ?_
    show LeavesInM Fence.wide 9 P fn a4.tmps (OutP ι h w r) _ .returning W
    have hk0 : k ≠ 0 := by
      intro e0
      subst e0
      rw [hpre] at e1
      have := congrArg List.length e1
      simp [down] at this
    obtain ⟨k, rfl⟩ := Nat.exists_eq_succ_of_ne_zero hk0
    rw [hpre, Nat.succ_eq_add_one, down_succ] at e1
    have e2 := List.append_inj' e1 rfl
    have hpr : pr = down len k := e2.1.symm
    have hik : i = len - 1 - k := by have := e2.2; simp at this; exact this.symm
    have hil : i < len := by omega
    have hmin : min i (len - 1) = i := by omega
    rw [hmin] at he
    have hfound : findB n' x' els = some e.2.2 := findB_at he hs fun j e' hj hj' => by
      have hjl : j < len := by rw [← hel]; exact (List.getElem?_eq_some_iff.1 hj').1
      have := hno j (by rw [hpr]; exact down_mem hjl (by omega))
      have hm : (match els[min j (len - 1)]? with | some e => sEq e.1 e.2.1 n' x' | none => false) = false := this
      rw [show min j (len - 1) = j by omega, hj'] at hm
      exact hm
    rw [hfound] at hrr
    have hrr : (match st2 h4 b6 o6 b7 o7 e.2.2 with | some h3 => finish U.F.results env4 h3 | none => .bad) = r := hrr
    rw [hst] at hrr
    have hrr : finish U.F.results env4 h3 = r := hrr
    refine fin ι4 env4 h3 { a4 with defers := { target := .collected D, args := #[] } :: a4.defers } W D ch ⟨r4.size, rfl, r4.tmps⟩ (by simp [r4.defers]) hD hK (fun b B hB e => ?_) hrr
    have := ch4.good.inH b B hB
    omega
end
end
end Go.Eng
namespace Go.Eng
noncomputable section

/-! ### a context with such a function -/
/-- where its module is named, as it stands; where not, by the summary -/
def varS (U : VarD) (call : CallT) (as : List V) (h : Heap) : OR := match as with
  | [_, .str n _, _] => bif n.beq 0 then varG U call as h else runFun U.F call as h
  | _ => .bad
def Ctx.withV (c : Ctx) (f0 : Nat) (U : VarD) : Ctx := ⟨c.funs, fun call f as h => bif f.beq f0 then varS U call as h else c.sums call f as h⟩
section
variable {P : Program} {U : VarD}
/-- the summary is sound -/
def VarOk (P : Program) (f0 : Nat) (U : VarD) : Prop := hasBody P f0 ∧ ∀ call, CallS P call → CallMono call → ∀ as h, varG U call as h ≠ .bad →
  ∀ ι w (args : Array Value), Good ι h w → OR.free ι h (varG U call as h) → vrels ι as args.toList → Calls P f0 args w (OutP ι h w (varG U call as h))
theorem withV_ok (hmx : P.follows .mixedOrders = true) {c : Ctx} {f0 : Nat} (hs : SumsOk P c) (hv : VarOk P f0 U) (hf : chkF P f0 U.F = true) : SumsOk P (c.withV f0 U) := by
  intro call hcs hcm f as h hn
  show OR.next h (bif f.beq f0 then varS U call as h else c.sums call f as h) ∧ ((bif f.beq f0 then varS U call as h else c.sums call f as h) ≠ .bad → hasBody P f ∧ ∀ ι w (args : Array Value), Good ι h w → OR.free ι h (bif f.beq f0 then varS U call as h else c.sums call f as h) →
    vrels ι as args.toList → Calls P f args w (OutP ι h w (bif f.beq f0 then varS U call as h else c.sums call f as h)))
  cases hb : f.beq f0 with
  | false => exact hs call hcs hcm f as h hn
  | true =>
    have hff : f = f0 := Nat.eq_of_beq_eq_true hb
    subst hff
    simp only [cond_true]
    unfold varS
    split
    · rename_i a n x b
      cases n.beq 0 with
      | true => exact ⟨varG_next hcm _ h, fun hne => ⟨hv.1, hv.2 call hcs hcm _ h hne⟩⟩
      | false => exact ⟨runFun_next hcm U.F maxRounds _ h, fun hne => fun_sound hmx hcs hcm hf hne⟩
    · exact ⟨trivial, fun h => absurd rfl h⟩
/-- **A law, at given values.** -/
theorem law_runC (hmx : P.follows .mixedOrders = true) {c : Ctx} (hf : allT (chkF P) c.funs = true) (hs : SumsOk P c)
    {n f : Nat} {as : List V} (he : isTrue (lev c n f as .none Heap.empty).1 = true) {args : Array Value} (hr : vrels Inj.none as args.toList) (w : World) :
    Calls P f args w fun e w' => e = .returned (.bool true) ∧ Kept w w' := by
  obtain ⟨h', e⟩ := isTrue_ok he
  exact closed_run hmx (c := c) hf hs e hr w
end
/-- a function of no arguments that comes to true and leaves all as it was: told once -/
def moreYes (f0 : Nat) : Nat → List V → Heap → OR := fun f as h => match f.beq f0, as with
  | true, [] => .ok (.bool true) h
  | _, _ => .bad
theorem moreYes_ok {P : Program} {f0 : Nat} (hb : hasBody P f0) (hc : ∀ w, Calls P f0 #[] w fun e w' => e = .returned (.bool true) ∧ Kept w w') : MoreOk P (moreYes f0) := by
  intro f as h
  unfold moreYes
  split
  · rename_i hfe
    have hfe : f = f0 := Nat.eq_of_beq_eq_true hfe
    subst hfe
    refine ⟨Nat.le_refl _, fun _ => ⟨hb, fun ι w args g hr => ?_⟩⟩
    have ha : args = #[] := Array.toList_eq_nil_iff.1 hr
    subst ha
    refine (hc w).mono fun e w' ⟨he, hk⟩ => ?_
    subst he
    exact ⟨ι, Chg.same (g.world hk.old hk.size) ⟨fun c hc _ => hk.old c hc, hk.size, hk.tape, hk.os, hk.out⟩ rfl, rfl⟩
  · exact ⟨trivial, fun h => absurd rfl h⟩
/-- what the three functions are: their operations read off the program -/
def nth (c : Code) : Nat → Code
  | 0 => match c with | .seq a _ => a | c => c
  | n + 1 => match c with | .seq _ b => nth b n | c => c
def rest (c : Code) : Nat → Code
  | 0 => c
  | n + 1 => match c with | .seq _ b => rest b n | c => c
def condA (c : Code) : Code := match c with | .cond _ a _ => a | c => c
def condB (c : Code) : Code := match c with | .cond _ _ b => b | c => c
def blkC (c : Code) : Code := match c with | .block _ a => a | c => c
def rfA (c : Code) : Code := match c with | .rangeFunc _ _ a _ => a | c => c
def rfB (c : Code) : Code := match c with | .rangeFunc _ _ _ b => b | c => c
end
end Go.Eng
