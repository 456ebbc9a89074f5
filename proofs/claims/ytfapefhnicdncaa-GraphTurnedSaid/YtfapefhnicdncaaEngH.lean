/- Part of a proof of a law, by an evaluator that the machine follows: rules, contracts of functions, what they come to. No condition of its own. -/
import Derived.Test.YtfapefhnicdncaaEngG
set_option linter.unusedVariables false
set_option linter.unusedSimpArgs false
namespace Go.Eng
noncomputable section
open Go.ChangeMaps (setBlock)
section
variable {P : Program} {ι : Inj} {h : Heap}

/-- no block that was there has changed -/
structure Old (w w' : World) : Prop where
  old : ∀ c, c < w.heap.size → w'.heap[c]? = w.heap[c]?
  size : w.heap.size < w'.heap.size
  tape : w'.tape = w.tape
  os : w'.os = w.os
  out : w'.output = w.output
theorem Old.alloc (w : World) (o : Go.Obj) : Old w (w.alloc o) := ⟨alloc_old w o, by simp, rfl, rfl, rfl⟩
theorem Old.set {w w1 : World} (a : Old w w1) {r : Nat} (hr : w.heap.size ≤ r) (o : Go.Obj) : Old w (setBlock w1 r o) :=
  ⟨fun c hc => by
    show (w1.heap.setIfInBounds r o)[c]? = _
    rw [Array.getElem?_setIfInBounds, if_neg (by omega)]; exact a.old c hc, by show w.heap.size < (w1.heap.setIfInBounds r o).size; rw [Array.size_setIfInBounds]; exact a.size, a.tape, a.os, a.out⟩
theorem Old.drew {w w1 : World} (a : Old w w1) : Old w w1.drew := ⟨a.old, a.size, a.tape, a.os, a.out⟩
theorem Old.good {w w1 : World} (a : Old w w1) (g : Good ι h w) : Good ι h w1 := g.world a.old (Nat.le_of_lt a.size)
theorem Old.chg {w w1 : World} (a : Old w w1) (g : Good ι h w) : Chg ι h w ι h w1 := Chg.same (a.good g) ⟨fun c hc _ => a.old c hc, Nat.le_of_lt a.size, a.tape, a.os, a.out⟩ rfl
theorem setBlock_at {w : World} {r : Nat} (hr : r < w.heap.size) (o : Go.Obj) : (setBlock w r o).heap[r]? = some o := by
  show (w.heap.setIfInBounds r o)[r]? = _
  rw [Array.getElem?_setIfInBounds, if_pos rfl, if_pos hr]

variable {tt tm ts tb : TypeId} {o0 l1 m1 k1 r1 n2 e2 y3 x3 a3 l4 m4 k4 u4 o5 o6 : Oper} {i0 i1 i2 i3 i4 i5 i6 b0 b1 : Nat}
/-- what the sixteen operations are -/
structure RdyO (tt tm tb : TypeId) (o0 l1 m1 k1 r1 n2 e2 y3 x3 a3 l4 m4 k4 u4 o5 o6 : Oper) : Prop where
  o0 : OpIs o0 4 (.assign (.const (.bool false)))
  l1 : OpIs l1 6 (.load tt (.tmp 1))
  m1 : OpIs m1 7 (.move (.tmp 0))
  k1 : OpIs k1 8 (.lookup tt (.tmp 6) (.tmp 7) false)
  r1 : OpIs r1 9 (.range tm (.tmp 8))
  n2 : OpIs n2 10 (.next (.tmp 9) false)
  e2 : OpIs e2 11 (.extract (.tmp 10) 0)
  y3 : OpIs y3 12 (.entry (.tmp 9))
  x3 : OpIs x3 13 (.extract (.tmp 12) 0)
  a3 : OpIs a3 5 (.assign (.tmp 13))
  l4 : OpIs l4 14 (.load tm (.tmp 2))
  m4 : OpIs m4 15 (.move (.tmp 5))
  k4 : OpIs k4 16 (.lookup tm (.tmp 14) (.tmp 15) false)
  u4 : OpIs u4 17 (.unOp .not tb (.tmp 16))
  o5 : OpIs o5 4 (.assign (.const (.bool false)))
  o6 : OpIs o6 4 (.assign (.const (.bool true)))

theorem run_load (T : RdyT P tt tm ts tb) {w : World} (g : Good ι h w) {ρ : Operand → Value} {o : Oper} {d t p b q : Nat} {x : V} (ht : aggIs P t false = true) (i : OpIs o d (.load t (.tmp p))) (hp : vrel ι (.ptr b q) (ρ (.tmp p))) (hl : h.load1 b q = some x) :
    ∃ v', (execOp ρ o).run P w = .ok (.value v') w ∧ vrel ι x v' := by
  refine light_c g (e := .load (.c (.ptr b q))) ?_ (by show LR.of (h.load1 b q) = _; rw [hl]; rfl)
  rw [i.op]
  show (aggIs P t false && _) = true
  rw [ht, Bool.true_and]
  exact @decide_eq_true _ (Classical.propDecidable _) hp
theorem run_look {w : World} (g : Good ι h w) {ρ : Operand → Value} {o : Oper} {d t p q kt et : Nat} {m k z x : V} (hu : P.underlying t = some (.map kt et)) (hk : P.underlying kt = some .string) (hz : zeroIs P et z = true) (i : OpIs o d (.lookup t (.tmp p) (.tmp q) false))
    (hm : vrel ι m (ρ (.tmp p))) (hq : vrel ι k (ρ (.tmp q))) (hl : light (.lookup .str z false (.c m) (.c k)) (fun a => a.ev [] Env.nil) h = .val x) :
    ∃ v', (execOp ρ o).run P w = .ok (.value v') w ∧ vrel ι x v' := by
  refine light_c g ?_ hl
  rw [i.op]
  simp only [okL, hu, hk, hz, decide_true, Bool.true_and, Bool.and_true]
  rw [Bool.and_eq_true]
  exact ⟨@decide_eq_true _ (Classical.propDecidable _) hm, @decide_eq_true _ (Classical.propDecidable _) hq⟩

/-- one round's end: what is at hand behind the step -/
theorem rdy_round (T : RdyT P tt tm ts tb) (O : RdyO tt tm tb o0 l1 m1 k1 r1 n2 e2 y3 x3 a3 l4 m4 k4 u4 o5 o6) {w w1 : World} (old : Old w w1) (g : Good ι h w) {Q : Exit → Act → World → Prop} {a : Act} {it p2 kv : Value} {b2 q2 d : Nat} {ds : List Ent} {c : Nat} {k : V} {b : Bool}
    (t : Tm a [(11, .bool true), (2, p2), (9, it)]) {tp : Value} (hy : (execOp a.eval y3).run P w1 = .ok (.value (.tuple #[kv, tp])) w1) (hk : vrel ι k kv)
    (hp2 : vrel ι (.ptr b2 q2) p2) (hd : h.load1 b2 q2 = some (.map d)) (hob : h.obj d = some (.map ds c)) (hb : trueIn ds k = some b)
    (hfalse : b = false → ∀ a', Tm a' [(4, .bool false)] → Q .ret a' w1) (htrue : b = true → ∀ a', Tm a' [(2, p2), (9, it)] → Q .normal a' w1) :
    (Code.block b1 (.seq (.region i3 #[y3, x3, a3] false) (.seq (.region i4 #[l4, m4, k4, u4] false) (.cond (.tmp 17) (.seq (.region i5 #[o5] false) .ret) .skip)))).wp P Q a w1 := by
  have g1 := old.good g
  refine wp_block (wp_seq (wp_reg ?_))
  refine wpl_op O.y3 hy ?_
  have t := t.put 12 (.tuple #[kv, tp]) (by decide)
  have hx : (execOp (a.put (some 12) (.tuple #[kv, tp])).eval x3).run P w1 = .ok (.value kv) w1 := by
    have e := t.get 0 (d := 12) rfl
    simp only [execOp, O.x3.op, e]; rfl
  refine wpl_op O.x3 hx ?_
  have t := t.put 13 kv (by decide)
  refine wpl_op O.a3 (v := kv) (by have e := t.get 0 (d := 13) rfl; simp only [execOp, O.a3.op, e]; rfl) ?_
  have t := t.put 5 kv (by decide)
  generalize ((a.put (some 12) (.tuple #[kv, tp])).put (some 13) kv).put (some 5) kv = a1 at t ⊢
  refine wp_seq (wp_reg ?_)
  have e2 : a1.eval (.tmp 2) = p2 := t.get 4 (d := 2) rfl
  obtain ⟨v4, h4, r4⟩ := run_load T g1 (ρ := a1.eval) T.l2 O.l4 (by rw [e2]; exact hp2) hd
  refine wpl_op O.l4 h4 ?_
  have t := t.put 14 v4 (by decide)
  refine wpl_op O.m4 (v := kv) (by have e := t.get 1 (d := 5) rfl; simp only [execOp, O.m4.op, e]; rfl) ?_
  have t := t.put 15 kv (by decide)
  generalize (a1.put (some 14) v4).put (some 15) kv = a2 at t ⊢
  have hlk : light (.lookup .str (.bool false) false (.c (.map d)) (.c k)) (fun a => a.ev [] Env.nil) h = .val (.bool b) := by
    show Obj.map? .bad (fun es _ => lookup1 .str (.bool false) false k es) (h.obj d) = _
    rw [hob]
    show lookup1 .str (.bool false) false k ds = _
    unfold lookup1
    unfold trueIn at hb
    cases hf : find (eqKey .str) k ds with
    | none => rw [hf] at hb; cases hb
    | some r =>
      rw [hf] at hb
      cases r with
      | none => cases hb; rfl
      | some e =>
        have hb : e.val.asBool = some b := hb
        show LR.val e.val = _
        generalize e.val = ev at hb
        cases ev <;> first | (cases hb; done) | skip
        cases hb; rfl
  obtain ⟨v5, h5, r5⟩ := run_look g1 (ρ := a2.eval) T.u2 T.s T.z2 O.k4 (by rw [t.get 1 (d := 14) rfl]; exact r4) (by rw [t.get 0 (d := 15) rfl]; exact hk) hlk
  have r5 : v5 = .bool b := r5
  subst r5
  refine wpl_op O.k4 h5 ?_
  have t := t.put 16 (.bool b) (by decide)
  refine wpl_op O.u4 (v := .bool (!b)) (by have e := t.get 0 (d := 16) rfl; simp only [execOp, O.u4.op, e]; rfl) ?_
  have t := t.put 17 (.bool (!b)) (by decide)
  generalize (a2.put (some 16) (.bool b)).put (some 17) (.bool (!b)) = a3 at t ⊢
  refine wp_cond (t.get 0 (d := 17) rfl) ?_
  cases b with
  | true =>
    refine wp_skip ?_
    exact htrue rfl a3 ⟨t.size, t.defers, fun p hp => t.at_ p (by simp at hp ⊢; rcases hp with rfl | rfl <;> simp)⟩
  | false =>
    refine wp_seq (wp_reg ?_)
    refine wpl_op O.o5 (v := .bool false) (by simp only [execOp, O.o5.op]; rfl) ?_
    have t := t.put 4 (.bool false) (by decide)
    refine wp_ret ?_
    exact hfalse rfl _ ⟨t.size, t.defers, fun p hp => t.at_ p (by simp at hp ⊢; rcases hp with rfl; simp)⟩
end
end
end Go.Eng
namespace Go.Eng
noncomputable section
open Go.ChangeMaps (setBlock)
section
variable {P : Program} {ι : Inj} {h : Heap}
variable {tt tm ts tb : TypeId} {o0 l1 m1 k1 r1 n2 e2 y3 x3 a3 l4 m4 k4 u4 o5 o6 : Oper} {i0 i1 i2 i3 i4 i5 i6 b0 b1 : Nat}
def rdyBody (n2 e2 y3 x3 a3 l4 m4 k4 u4 o5 : Oper) (i2 i3 i4 i5 b0 b1 : Nat) : Code := .seq (.region i2 #[n2, e2] false) (.seq (.cond (.tmp 11) .skip (.exit b0)) (.block b1 (.seq (.region i3 #[y3, x3, a3] false) (.seq (.region i4 #[l4, m4, k4, u4] false)
      (.cond (.tmp 17) (.seq (.region i5 #[o5] false) .ret) .skip)))))
theorem left_lt {es : Array MapEntry} {seen : Array Nat} {e : MapEntry} (he : e ∈ (leftOf es seen).toList) : (leftOf es (seen.push e.born)).size < (leftOf es seen).size := by
  have hm : e ∈ es.toList ∧ (!seen.contains e.born) = true := by
    unfold leftOf at he; simpa using he
  have h1 : ∀ s, (leftOf es s).size = (es.toList.filter fun e => !s.contains e.born).length := fun s => by
    unfold leftOf; rw [← Array.length_toList, Array.toList_filter]
  rw [h1, h1]
  exact filter_lt _ _ (fun x hx => by simp at hx ⊢; exact hx.1) e hm.2 (by simp) es.toList hm.1
/-- the step of a round that ends the loop, or goes on -/
theorem rdy_loop (T : RdyT P tt tm ts tb) (O : RdyO tt tm tb o0 l1 m1 k1 r1 n2 e2 y3 x3 a3 l4 m4 k4 u4 o5 o6) {w : World} (g : Good ι h w) {bm clk : Nat} {es' : Array MapEntry} {ks ds : List Ent} (hb : w.heap[bm]? = some (.map es' clk)) (hrel : entsRel ι ks es'.toList)
    (hi : incr clk ks 0 = true) {r : Bool} (ha : allIn ds ks = some r) {p2 : Value} {b2 q2 d c : Nat} (hp2 : vrel ι (.ptr b2 q2) p2) (hd : h.load1 b2 q2 = some (.map d)) (hob : h.obj d = some (.map ds c)) {Q : Exit → Act → World → Prop}
    (hfalse : r = false → ∀ a' w1, Old w w1 → Tm a' [(4, .bool false)] → Q .ret a' w1) (htrue : r = true → ∀ a' w1, Old w w1 → Tm a' [] → Q (.exit b0) a' w1) :
    ∀ (m : Nat) (seen : Array Nat) (c0 : Nat) (a : Act) (w1 : World), Old w w1 → w1.heap[w.heap.size]? = some (.mapIter (some bm) clk seen c0) → clk ≤ c0 → (leftOf es' seen).size < m → Tm a [(2, p2), (9, .pointer (some ⟨w.heap.size, 0, none⟩))] →
      (∀ e ∈ ks, seen.contains e.born = true → trueIn ds e.key = some true) → Code.rounds P (rdyBody n2 e2 y3 x3 a3 l4 m4 k4 u4 o5 i2 i3 i4 i5 b0 b1) Q m a w1
  | 0, _, _, _, _, _, _, _, hm, _, _ => by omega
  | m + 1, seen, c0, a, w1, old, hit, hc0, hm, t, hs => by
    have hlt : bm < w.heap.size := (Array.getElem?_eq_some_iff.1 hb).1
    have hb1 : w1.heap[bm]? = some (.map es' clk) := (old.old bm hlt).trans hb
    obtain ⟨hi1, hi2⟩ := incr_at hi
    have hborn : ∀ x ∈ es'.toList, x.born < clk := fun x hx => by
      obtain ⟨e, he, _, hbn⟩ := hrel.right x hx
      rw [hbn]; exact (hi1 e he).2
    have hnd : (es'.toList.map (·.born)).Nodup := by rw [hrel.born]; exact hi2
    rw [rounds_succ]
    refine wp_seq (wp_reg ?_)
    have e9 : a.eval (.tmp 9) = .pointer (some ⟨w.heap.size, 0, none⟩) := t.get 1 (d := 9) rfl
    have hex : ∀ {v : Value} {w2 : World}, (Instr.next (.pointer (some ⟨w.heap.size, 0, none⟩)) false n2.type).run P w1 = .ok v w2 → (execOp a.eval n2).run P w1 = .ok (.value v) w2 := by
      intro v w2 hn
      simp only [execOp, O.n2.op, e9, Sem.run_bind, hn]; rfl
    obtain ⟨ha1, ha2⟩ := allIn_at ha
    rcases run_next_at (P := P) w1 n2.type w.heap.size bm clk c0 seen es' clk hit hb1 hborn hc0 with ⟨h0, hn⟩ | ⟨e, he, w2, hw2, hn⟩
    · refine wpl_op O.n2 (hex hn) ?_
      have t := t.put 10 (.tuple #[.bool false]) (by decide)
      refine wpl_op O.e2 (v := .bool false) (by have e := t.get 0 (d := 10) rfl; simp only [execOp, O.e2.op, e]; rfl) ?_
      have t := t.put 11 (.bool false) (by decide)
      refine wp_seq (wp_cond (t.get 0 (d := 11) rfl) ?_)
      refine wp_exit ?_
      refine htrue (ha2 fun e he => hs e he ?_) _ w1 old ⟨t.size, t.defers, fun p hp => by simp at hp⟩
      obtain ⟨x, hx, _, hbn⟩ := hrel.left e he
      rw [← hbn]
      cases hcn : seen.contains x.born with
      | true => rfl
      | false =>
        exfalso
        have : x ∈ (leftOf es' seen).toList := by unfold leftOf; rw [Array.toList_filter]; exact List.mem_filter.2 ⟨hx, by rw [hcn]; rfl⟩
        rw [List.eq_nil_of_length_eq_zero (l := (leftOf es' seen).toList) (by simpa using h0)] at this
        simp at this
    · refine wpl_op O.n2 (hex hn) ?_
      have t := t.put 10 (.tuple #[.bool true, e.key, e.val]) (by decide)
      refine wpl_op O.e2 (v := .bool true) (by have e := t.get 0 (d := 10) rfl; simp only [execOp, O.e2.op, e]; rfl) ?_
      have t := t.put 11 (.bool true) (by decide)
      refine wp_seq (wp_cond (t.get 0 (d := 11) rfl) ?_)
      refine wp_skip ?_
      have old2 : Old w w2 := hw2.elim (fun e => e ▸ old) (fun e => e ▸ old.drew)
      have old3 := old2.set (Nat.le_refl _) (.mapIter (some bm) clk (seen.push e.born) clk)
      have hit3 : (setBlock w2 w.heap.size (.mapIter (some bm) clk (seen.push e.born) clk)).heap[w.heap.size]? = some (.mapIter (some bm) clk (seen.push e.born) clk) := setBlock_at old2.size _
      have hb3 := (old3.old bm hlt).trans hb
      have hem : e ∈ es'.toList := by unfold leftOf at he; simp at he; simpa using he.1
      obtain ⟨k, hk, hkr, hkb⟩ := hrel.right e hem
      obtain ⟨b, hbt, hbr⟩ := ha1 k hk
      refine rdy_round T O old3 g (it := .pointer (some ⟨w.heap.size, 0, none⟩)) (p2 := p2) (kv := e.key) (tp := e.val) (b := b) (k := k.key) ⟨t.size, t.defers, fun p hp => t.at_ p (by simp at hp ⊢; rcases hp with rfl | rfl | rfl <;> simp)⟩ ?_ hkr hp2 hd hob hbt (fun hbf a' t' => ?_) (fun hbt' a' t' => ?_)
      · have hen := run_entry_at (P := P) _ w.heap.size bm clk seen es' clk e hit3 hb3 hem hnd
        have e9 := t.get 3 (d := 9) rfl
        simp only [execOp, O.y3.op, e9, Sem.run_bind, hen]; rfl
      · subst hbf
        refine hfalse ?_ a' _ old3 t'
        cases r with
        | false => rfl
        | true => have := hbr rfl; cases this
      · subst hbt'
        refine rdy_loop T O g hb hrel hi ha hp2 hd hob hfalse htrue m (seen.push e.born) clk a' _ old3 hit3 (Nat.le_refl _) (by have := left_lt he; omega) t' (fun x hx hcn => ?_)
        by_cases hxb : x.born = k.born
        · have : x = k := by
            have hx' := List.mem_iff_getElem?.1 hx
            have hk' := List.mem_iff_getElem?.1 hk
            obtain ⟨i, hi'⟩ := hx'
            obtain ⟨j, hj'⟩ := hk'
            have hij : i = j := by
              have n1 : (ks.map (·.born))[i]? = some k.born := by rw [List.getElem?_map, hi', ← hxb]; rfl
              have n2 : (ks.map (·.born))[j]? = some k.born := by rw [List.getElem?_map, hj']; rfl
              exact (List.getElem?_inj (by exact (List.getElem?_eq_some_iff.1 n1).1) hi2).1 (n1.trans n2.symm)
            subst hij
            rw [hi'] at hj'; cases hj'; rfl
          subst this; exact hbt
        · refine hs x hx ?_
          rw [Array.contains_push, Bool.or_eq_true] at hcn
          rcases hcn with hcn | hcn
          · exact hcn
          · exfalso
            exact hxb ((by simpa using hcn : x.born = e.born).trans hkb)
end
end
end Go.Eng
namespace Go.Eng
noncomputable section
open Go.ChangeMaps (setBlock)
section
variable {P : Program} {ι : Inj} {h : Heap}
variable {tt tm ts tb : TypeId} {o0 l1 m1 k1 r1 n2 e2 y3 x3 a3 l4 m4 k4 u4 o5 o6 : Oper} {i0 i1 i2 i3 i4 i5 i6 b0 b1 : Nat}
theorem rdy_calls (T : RdyT P tt tm ts tb) (O : RdyO tt tm tb o0 l1 m1 k1 r1 n2 e2 y3 x3 a3 l4 m4 k4 u4 o5 o6) {f0 : Nat} {fn : Func} (hf : P.funcs[f0]? = some fn)
    (hbd : fn.body = some (rdyCode o0 l1 m1 k1 r1 n2 e2 y3 x3 a3 l4 m4 k4 u4 o5 o6 i0 i1 i2 i3 i4 i5 i6 b0 b1)) (hn : fn.ntmps = 18) (hres : fn.results = #[.tmp 4]) {w : World} (g : Good ι h w)
    {n x c1 q1 c2 q2 : Nat} {args : Array Value} (hr : vrels ι [.str n x, .ptr c1 q1, .ptr c2 q2] args.toList) (hne : rdyAt n x h (h.load1 c1 q1) (h.load1 c2 q2) ≠ .bad) :
    Calls P f0 args w (OutP ι h w (rdyAt n x h (h.load1 c1 q1) (h.load1 c2 q2))) := by
  obtain ⟨s, l1', e1, rs, hr⟩ := hr
  obtain ⟨p1, l2', e2', rp1, hr⟩ := hr
  obtain ⟨p2, l3', e3', rp2, hr⟩ := hr
  have hr : l3' = [] := hr
  subst hr e3' e2'
  have ha : args = #[s, p1, p2] := by rw [← Array.toArray_toList (xs := args), e1]
  subst ha
  -- what the summary looks at
  generalize hA : h.load1 c1 q1 = A1 at hne ⊢
  generalize hB : h.load1 c2 q2 = A2 at hne ⊢
  unfold rdyAt at hne ⊢
  split at hne <;> first | exact absurd rfl hne | skip
  rename_i m d
  split at hne <;> first | exact absurd rfl hne | skip
  rename_i es _ ds cd hm hd
  cases hv : valOf (find (eqKey .str) (.str n x) es) with
  | none => rw [hv] at hne; exact absurd rfl hne
  | some v =>
    rw [hv] at hne
    show Calls P f0 #[s, p1, p2] w (OutP ι h w (rdyIn ds h v))
    replace hne : rdyIn ds h v ≠ .bad := hne
    refine calls_of_wp hf hbd ?_
    rw [hn]
    have t : Tm { tmps := #[s, p1, p2] ++ Array.replicate (18 - (#[s, p1, p2] : Array Value).size) undef, defers := [] } [(0, s), (1, p1), (2, p2)] := by
      refine ⟨by simp, rfl, fun p hp => ?_⟩
      simp only [List.mem_cons, List.not_mem_nil, or_false] at hp
      rcases hp with rfl | rfl | rfl <;> simp [Array.getD_eq_getD_getElem?]
    generalize ({ tmps := #[s, p1, p2] ++ Array.replicate (18 - (#[s, p1, p2] : Array Value).size) undef, defers := [] } : Act) = a at t ⊢
    -- what is told at the end
    have hend : ∀ (b : Bool), rdyIn ds h v = .ok (.bool b) h → ∀ a' w1, Old w w1 → Tm a' [(4, .bool b)] → bodyPost P fn (OutP ι h w (rdyIn ds h v)) .ret a' w1 := by
      intro b hb a' w1 old t'
      refine ⟨t'.defers, .bool b, ?_, ?_⟩
      · have e4 : a'.tmps.getD 4 undef = .bool b := t'.get 0 (d := 4) rfl
        rw [results_tmp hres, e4]
      · rw [hb]
        exact ⟨ι, old.chg g, rfl⟩
    refine wp_seq (wp_reg ?_)
    refine wpl_op O.o0 (v := .bool false) (by simp only [execOp, O.o0.op]; rfl) ?_
    have t := t.put 4 (.bool false) (by decide)
    generalize a.put (some 4) (.bool false) = a at t ⊢
    refine wp_seq (wp_seq (wp_reg ?_))
    obtain ⟨v6, h6, r6⟩ := run_load T g (ρ := a.eval) T.l1 O.l1 (by rw [t.get 2 (d := 1) rfl]; exact rp1) hA
    refine wpl_op O.l1 h6 ?_
    have t := t.put 6 v6 (by decide)
    refine wpl_op O.m1 (v := s) (by have e := t.get 2 (d := 0) rfl; simp only [execOp, O.m1.op, e]; rfl) ?_
    have t := t.put 7 s (by decide)
    generalize (a.put (some 6) v6).put (some 7) s = a at t ⊢
    have hlk : light (.lookup .str .mapN false (.c (.map m)) (.c (.str n x))) (fun a => a.ev [] Env.nil) h = .val v := by
      show Obj.map? .bad (fun es _ => lookup1 .str .mapN false (.str n x) es) (h.obj m) = _
      rw [hm]
      show lookup1 .str .mapN false (.str n x) es = _
      unfold lookup1
      cases hfd : find (eqKey .str) (.str n x) es with
      | none => rw [hfd] at hv; cases hv
      | some r =>
        rw [hfd] at hv
        cases r with
        | none => cases hv; rfl
        | some e => cases hv; rfl
    obtain ⟨v8, h8, r8⟩ := run_look g (ρ := a.eval) T.u1 T.s T.z1 O.k1 (by rw [t.get 1 (d := 6) rfl]; exact r6) (by rw [t.get 0 (d := 7) rfl]; exact rs) hlk
    refine wpl_op O.k1 h8 ?_
    have t := t.put 8 v8 (by decide)
    generalize a.put (some 8) v8 = a at t ⊢
    have e8 : a.eval (.tmp 8) = v8 := t.get 0 (d := 8) rfl
    unfold rdyIn at hne
    split at hne
    · -- a nil map
      have r8 : v8 = .map none := r8
      subst r8
      have hrg : (execOp a.eval r1).run P w = .ok (.value (.pointer (some ⟨w.heap.size, 0, none⟩))) (w.alloc (.mapIter none 0 #[] 0)) := by
        simp only [execOp, O.r1.op, e8, Sem.run_bind, run_range_nilMap w tm ts tb T.u2]; rfl
      refine wpl_op O.r1 hrg ?_
      have t := t.put 9 (.pointer (some ⟨w.heap.size, 0, none⟩)) (by decide)
      generalize a.put (some 9) (.pointer (some ⟨w.heap.size, 0, none⟩)) = a at t ⊢
      refine wp_block (wp_loop_rounds 1 ?_)
      rw [rounds_succ]
      refine wp_seq (wp_reg ?_)
      have hnx : (execOp a.eval n2).run P (w.alloc (.mapIter none 0 #[] 0)) = .ok (.value (.tuple #[.bool false])) (w.alloc (.mapIter none 0 #[] 0)) := by
        have e9 := t.get 0 (d := 9) rfl
        simp only [execOp, O.n2.op, e9, Sem.run_bind, run_next_nilMap]; rfl
      refine wpl_op O.n2 hnx ?_
      have t := t.put 10 (.tuple #[.bool false]) (by decide)
      refine wpl_op O.e2 (v := .bool false) (by have e := t.get 0 (d := 10) rfl; simp only [execOp, O.e2.op, e]; rfl) ?_
      have t := t.put 11 (.bool false) (by decide)
      refine wp_seq (wp_cond (t.get 0 (d := 11) rfl) ?_)
      refine wp_exit ?_
      show (if b0 = b0 then _ else _)
      rw [if_pos rfl]
      refine wp_seq (wp_reg ?_)
      refine wpl_op O.o6 (v := .bool true) (by simp only [execOp, O.o6.op]; rfl) ?_
      have t := t.put 4 (.bool true) (by decide)
      refine wp_ret ?_
      exact hend true rfl _ _ (Old.alloc w _) ⟨t.size, t.defers, fun p hp => t.at_ p (by simp at hp ⊢; rcases hp with rfl; simp)⟩
    · rename_i b
      obtain ⟨B, hBB, r8⟩ := r8
      subst r8
      split at hne <;> first | exact absurd rfl hne | skip
      rename_i ks clk hks
      split at hne <;> first | exact absurd rfl hne | skip
      rename_i r hi hall
      have hdone : rdyIn ds h (.map b) = .ok (.bool r) h := by
        show (match h.obj b with
          | some (.map ks clk) => (match incr clk ks 0, allIn ds ks with
            | true, some r => OR.ok (.bool r) h
            | _, _ => .bad)
          | _ => .bad) = _
        rw [hks]
        show (match incr clk ks 0, allIn ds ks with
            | true, some r => OR.ok (.bool r) h
            | _, _ => .bad) = _
        rw [hi, hall]
      obtain ⟨es', hw, hrel⟩ := map_rel g hBB hks
      have hrg : (execOp a.eval r1).run P w = .ok (.value (.pointer (some ⟨w.heap.size, 0, none⟩))) (w.alloc (.mapIter (some B.c) clk #[] clk)) := by
        simp only [execOp, O.r1.op, e8, Sem.run_bind, run_range_map w tm ts tb B.c es' clk T.u2 hw]; rfl
      refine wpl_op O.r1 hrg ?_
      have t := t.put 9 (.pointer (some ⟨w.heap.size, 0, none⟩)) (by decide)
      refine wp_block (wp_loop_rounds (es'.size + 1) ?_)
      refine rdy_loop T O g hw hrel hi hall rp2 hB (c := cd) hd (fun hrf a' w1 old t' => ?_) (fun hrt a' w1 old t' => ?_) (es'.size + 1) #[] clk _ _ (Old.alloc w _) (alloc_new w _) (Nat.le_refl _) ?_ ⟨t.size, t.defers, fun p hp => t.at_ p (by simp at hp ⊢; rcases hp with rfl | rfl <;> simp)⟩ (fun e _ hcn => by simp at hcn)
      · subst hrf
        exact hend false hdone a' w1 old t'
      · subst hrt
        show (if b0 = b0 then _ else _)
        rw [if_pos rfl]
        refine wp_seq (wp_reg ?_)
        refine wpl_op O.o6 (v := .bool true) (by simp only [execOp, O.o6.op]; rfl) ?_
        have t := t'.put 4 (.bool true) (by decide)
        refine wp_ret ?_
        exact hend true hdone _ _ old ⟨t.size, t.defers, fun p hp => t.at_ p (by simp at hp ⊢; rcases hp with rfl; simp)⟩
      · unfold leftOf
        exact Nat.lt_succ_of_le (Array.size_filter_le ..)
    · exact absurd rfl hne
theorem moreRdy_ok (T : RdyT P tt tm ts tb) (O : RdyO tt tm tb o0 l1 m1 k1 r1 n2 e2 y3 x3 a3 l4 m4 k4 u4 o5 o6) {f0 : Nat} {fn : Func} (hf : P.funcs[f0]? = some fn) (hname : (fn.name == "runtime.NumGoroutine") = false)
    (hbd : fn.body = some (rdyCode o0 l1 m1 k1 r1 n2 e2 y3 x3 a3 l4 m4 k4 u4 o5 o6 i0 i1 i2 i3 i4 i5 i6 b0 b1)) (hn : fn.ntmps = 18) (hres : fn.results = #[.tmp 4]) : MoreOk P (moreRdy f0) := by
  intro f as h
  unfold moreRdy
  split
  · rename_i n x c1 q1 c2 q2 hfe
    have hfe : f = f0 := Nat.eq_of_beq_eq_true hfe
    subst hfe
    refine ⟨?_, fun hne => ⟨⟨fn, hf, hname, by rw [hbd]; rfl⟩, fun ι w args g hr => rdy_calls T O hf hbd hn hres g hr hne⟩⟩
    have hin : ∀ ds v, OR.next h (rdyIn ds h v) := fun ds v => by
      unfold rdyIn
      split
      · exact Nat.le_refl _
      · split
        · split
          · exact Nat.le_refl _
          · trivial
        · trivial
      · trivial
    unfold rdyAt
    split
    · split
      · split
        · exact hin _ _
        · trivial
      · trivial
    · trivial
  · exact ⟨trivial, fun h => absurd rfl h⟩
end
/-- the regions of a piece of code, in order -/
def regsOf : Code → List (Array Oper)
  | .region _ ops _ => [ops]
  | .seq a b => regsOf a ++ regsOf b
  | .cond _ a b => regsOf a ++ regsOf b
  | .block _ a => regsOf a
  | .loop a => regsOf a
  | .scope a => regsOf a
  | _ => []
def opOf (c : Code) (i j : Nat) : Oper := (((regsOf c)[i]?).getD #[])[j]?.getD default
def rdyOf (c : Code) : Code := rdyCode (opOf c 0 0) (opOf c 1 0) (opOf c 1 1) (opOf c 1 2) (opOf c 1 3) (opOf c 2 0) (opOf c 2 1) (opOf c 3 0) (opOf c 3 1) (opOf c 3 2) (opOf c 4 0) (opOf c 4 1) (opOf c 4 2) (opOf c 4 3) (opOf c 5 0) (opOf c 6 0) 0 1 2 3 4 5 6 0 1
def RdyP (tt tm tb : TypeId) (c : Code) : Prop := RdyO tt tm tb (opOf c 0 0) (opOf c 1 0) (opOf c 1 1) (opOf c 1 2) (opOf c 1 3) (opOf c 2 0) (opOf c 2 1) (opOf c 3 0) (opOf c 3 1) (opOf c 3 2) (opOf c 4 0) (opOf c 4 1) (opOf c 4 2) (opOf c 4 3) (opOf c 5 0) (opOf c 6 0)
def codeOf (fn : Func) : Code := fn.body.getD .skip
theorem moreRdy_of {P : Program} {tt tm ts tb : TypeId} (T : RdyT P tt tm ts tb) {f0 : Nat} {fn : Func} (hf : P.funcs[f0]? = some fn) (hname : (fn.name == "runtime.NumGoroutine") = false) (hbd : fn.body = some (rdyOf (codeOf fn))) (O : RdyP tt tm tb (codeOf fn)) (hn : fn.ntmps = 18) (hres : fn.results = #[.tmp 4]) : MoreOk P (moreRdy f0) :=
  moreRdy_ok T O hf hname hbd hn hres
end
end Go.Eng
