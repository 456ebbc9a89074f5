/- Part of a proof of a law, by an evaluator that the machine follows: rules, contracts of functions, what they come to. No condition of its own. -/
import Derived.Test.YtbokieoaabpjfaaGreatDoorEng2
import Derived.KernelRfl
import Derived.Lib.Bytealg
namespace Go.Eng
noncomputable section
section
variable {P : Program} {call : CallT} {F : FunD}
theorem fin_next (hcm : CallMono call) (cv : List V) (envr : Env) (h : Heap) (v : V) : OR.next h (F.fin call cv envr h v) := by
 unfold FunD.fin
 rw [args_eq, Env.setC_eq]
 generalize Env.set (slotOf F.gk).1 (slotOf F.gk).2 v (argsP cv 0 Env.nil) = e0
 have := code_next hcm F.gbody maxRounds e0 h
 cases hr : code F.gbody call maxRounds e0 h with
 | bad => trivial
 | ok x env3 h3 =>
  rw [hr] at this
  have fin : OR.next h (finish F.results envr h3) := by
   show OR.next h (Option.rec .bad (fun vs => .ok (one vs) h3) (results envr h3 F.results) : OR)
   cases results envr h3 F.results with
   | none => trivial
   | some vs => exact this
  cases x with
  | nrm => exact fin
  | ret => exact fin
  | exit i => trivial
  | pan v => trivial
theorem OR.next_le {h h1 : Heap} {r : OR} (hn : h.next ≤ h1.next) (hr : OR.next h1 r) : OR.next h r := by
 cases r with
 | ok v h' => exact Nat.le_trans hn hr
 | pan v h' => exact Nat.le_trans hn hr
 | bad => trivial
theorem go_next (hcm : CallMono call) (env1 : Env) (h1 : Heap) : OR.next h1 (F.go call env1 h1) := by
 unfold FunD.go
 have := opsN_next hcm F.ops [] env1 h1
 cases hr : opsN F.ops call [] env1 h1 with
 | bad => trivial
 | ok x env2 h2 =>
  rw [hr] at this
  cases x with
  | nrm => exact OR.next_le this (fin_next hcm _ _ _ _)
  | ret => trivial
  | exit i => trivial
  | pan v => exact OR.next_le this (fin_next hcm _ _ _ _)
theorem runD_next (hcm : CallMono call) (as : List V) (h : Heap) : OR.next h (runD F call as h) := by
 unfold runD
 cases (lenV as).beq F.np with
 | false => trivial
 | true =>
  show OR.next h (CR.rec (fun x env1 h1 => X.rec (F.go call env1 h1) .bad (fun _ => .bad) (fun _ => .bad) x) .bad (args as 0 Env.nil fun env => code F.pre call maxRounds env h) : OR)
  rw [args_eq]
  have := code_next hcm F.pre maxRounds (argsP as 0 Env.nil) h
  cases hr : code F.pre call maxRounds (argsP as 0 Env.nil) h with
  | bad => trivial
  | ok x env1 h1 =>
   rw [hr] at this
   cases x with
   | nrm => exact OR.next_le this (go_next hcm env1 h1)
   | ret => trivial
   | exit i => trivial
   | pan v => trivial
theorem start_act {ι : Inj} {temps : List Nat} {np N : Nat} {as : List V} {args : Array Value} (h64 : temps.length ≤ 64) (hnp : np ≤ temps.length) (hnt : np ≤ N) (hid : idOk temps 0 np = true) (hl : as.length = np) (hr : vrels ι as args.toList) :
  ActR ι temps N (argsP as 0 Env.nil) { tmps := args ++ Array.replicate (N - args.size) undef, defers := [] } := by
 have hal : args.size = as.length := by have := hr.length; simpa using this
 refine ⟨by simp; omega, rfl, fun k t hk => ?_⟩
 have hk64 : k < 64 := by have := (List.getElem?_eq_some_iff.1 hk).1; omega
 rw [argsP_get as 0 Env.nil k hk64 (by omega)]
 by_cases hlt : k < as.length
 ·rw [if_pos ⟨Nat.zero_le _, by omega⟩]
  have := idOk_at _ _ _ hid k (by omega)
  rw [hk] at this
  have ht : t = 0 + k := Option.some.inj this
  rw [Nat.zero_add] at ht
  subst ht
  obtain ⟨v, hv⟩ : ∃ v, as[t]? = some v := ⟨as[t], List.getElem?_eq_getElem hlt⟩
  obtain ⟨y, hy, hvy⟩ := hr.get hv
  have hget : (args ++ Array.replicate (N - args.size) undef).getD t undef = y := by
   have : (args ++ Array.replicate (N - args.size) undef)[t]? = some y := by
    rw [Array.getElem?_append_left (by omega)]; simpa using hy
   simp [Array.getD_eq_getD_getElem?, this]
  rw [show t - 0 = t from rfl, hv]
  show vrel ι v ((args ++ Array.replicate (N - args.size) undef).getD t undef)
  rw [hget]; exact hvy
 ·rw [if_neg (by omega), Env.get_nil]; trivial
theorem clo_sound (hmx : P.follows .mixedOrders = true) (hcs : CallS P call) (hcm : CallMono call) (hc : chkClo P F = true) {cv : List V} (hlen : cv.length = F.caps.length) {envr : Env} {h : Heap} {v : V} (hne : F.fin call cv envr h v ≠ .bad)
  {ι : Inj} {w : World} (g : Good ι h w) (hfree : OR.free ι h (F.fin call cv envr h v)) {caps : Array Value} (hr : vrels ι cv caps.toList) {v' : Value} (hv : vrel ι v v') {u u' : FrameMode}
  (hrec : ∀ (c₀ : Frame) (cs : List Frame), c₀.mode = u → (recoverD (c₀ :: cs) = some (v', { c₀ with mode := u' } :: cs)) ∨ (recoverD (c₀ :: cs) = none ∧ v' = .nilIface ∧ u' = u))
  {R : Ending → FrameMode → World → Prop}
  (hR : ∀ vs h3 ι' w', F.fin call cv envr h v = .ok (one vs) h3 → results envr h3 F.results = some vs → Chg ι h w ι' h3 w' → R (.returned (.tuple #[])) u' w') :
  (∃ gn, P.funcs[F.clo]? = some gn ∧ gn.body.isSome = true ∧ (gn.name == "runtime.NumGoroutine") = false) ∧ CallsD P F.clo caps u w R := by
 unfold chkClo at hc
 cases hf : P.funcs[F.clo]? with
 | none => rw [hf] at hc; cases hc
 | some gn =>
  rw [hf] at hc
  have hc := Bool.and_of hc
  have hname : (gn.name == "runtime.NumGoroutine") = false := by simpa using hc.1
  have hc := hc.2
  split at hc
  ·rename_i i0 ops0 c3 hbody
   split at hc
   ·rename_i rc hops
    split at hc
    ·rename_i cargs ctys tr hop hdst hgd
     have b0 := Bool.and_of hc; have b1 := Bool.and_of b0.1; have b2 := Bool.and_of b1.2; have b3 := Bool.and_of b0.2; have b4 := Bool.and_of b3.1; have b5 := Bool.and_of b4.2; have b6 := Bool.and_of b5.2
     have b7 := Bool.and_of b3.2; have b8 := Bool.and_of b7.2
     have htr : F.gtemps[F.gk]? = some tr := by simpa using b1.1
     have htrN : tr < gn.ntmps := by simpa using b2.1
     have h64 : F.gtemps.length ≤ 64 := by simpa using b4.1
     have hcg : F.caps.length ≤ F.gk := by simpa using b5.1
     have hgk : F.gk < F.gtemps.length := by simpa using b6.1
     have hcN : F.caps.length ≤ gn.ntmps := by simpa using b7.1
     refine ⟨⟨gn, rfl, by rw [hbody]; rfl, hname⟩, callsD_of_wpS hf hbody fun c₀ cs hu => ?_⟩
     have hact := start_act (np := F.caps.length) (N := gn.ntmps) h64 (by omega) hcN b6.2 hlen hr
     generalize hA : ({ tmps := caps ++ Array.replicate (gn.ntmps - caps.size) undef, defers := [] } : Act) = A0 at hact ⊢
     have htrlt : tr < A0.tmps.size := by rw [hact.size]; exact htrN
     have hact2 : ActR ι F.gtemps gn.ntmps (Env.set (slotOf F.gk).1 (slotOf F.gk).2 v (argsP cv 0 Env.nil)) (A0.put (some tr) v') := by
      refine ⟨put_size.trans hact.size, put_defers.trans hact.defers, fun k t hk => ?_⟩
      have hk64 : k < 64 := by have := (List.getElem?_eq_some_iff.1 hk).1; omega
      show vrel ι _ ((A0.tmps.setIfInBounds tr v').getD t undef)
      rw [getD_put htrlt, Env.get_set]
      by_cases hkg : k = F.gk
      ·subst hkg
       rw [htr] at hk; cases hk
       rw [if_pos ⟨rfl, rfl⟩, if_pos rfl]; exact hv
      ·rw [if_neg (fun e => hkg (slotOf_inj hk64 (by omega) (Prod.ext e.1 e.2)))]
       have hne : t ≠ tr := by
        intro e; subst e
        have := List.all_eq_true.1 b2.2 (t, k) (List.mem_zipIdx_iff_getElem?.2 hk)
        simp at this; exact hkg this
       rw [if_neg hne]; exact hact.tmps k t hk
     have hfin : F.fin call cv envr h v = (CR.rec (fun x _ h3 => X.rec (finish F.results envr h3) (finish F.results envr h3) (fun _ => .bad) (fun _ => .bad) x) .bad (code F.gbody call maxRounds (Env.set (slotOf F.gk).1 (slotOf F.gk).2 v (argsP cv 0 Env.nil)) h) : OR) := by
      unfold FunD.fin; rw [args_eq, Env.setC_eq]
     have rest : ∀ cs', c3.wp P (fun e a' w' => cs' = { c₀ with mode := u' } :: cs → bodyPostS P gn c₀ cs R e a' cs' w') (A0.put (some tr) v') w := by
      intro cs'
      cases hcode : code F.gbody call maxRounds (Env.set (slotOf F.gk).1 (slotOf F.gk).2 v (argsP cv 0 Env.nil)) h with
      | bad => rw [hfin, hcode] at hne; exact absurd rfl hne
      | ok x env3 h3 =>
       have fin : F.fin call cv envr h v = finish F.results envr h3 → ∃ vs, results envr h3 F.results = some vs ∧ F.fin call cv envr h v = .ok (one vs) h3 := by
        intro e
        have e2 : F.fin call cv envr h v = (Option.rec .bad (fun vs => .ok (one vs) h3) (results envr h3 F.results) : OR) := e
        cases hrs : results envr h3 F.results with
        | none => rw [hrs] at e2; exact absurd e2 hne
        | some vs => rw [hrs] at e2; exact ⟨vs, rfl, e2⟩
       have done : F.fin call cv envr h v = finish F.results envr h3 → FreeIn ι h h3 ∧ ∀ ι' (a' : Act) w', Chg ι h w ι' h3 w' → a'.defers = [] → cs' = { c₀ with mode := u' } :: cs → a'.defers = [] ∧ ∃ u', cs' = { c₀ with mode := u' } :: cs ∧ ∃ v, (Go.results gn a'.tmps).run P w' = .ok v w' ∧ R (.returned v) u' w' := by
        intro e
        obtain ⟨vs, h1, h2⟩ := fin e
        refine ⟨by rw [h2] at hfree; exact hfree, fun ι' a' w' c' hd hcs' => ⟨hd, u', hcs', .tuple #[], ?_, hR vs h3 ι' w' h2 h1 c'⟩⟩
        have hnil : gn.results = #[] := by
         have := b8.2
         have h0 : gn.results.toList = [] := by simpa using this
         exact Array.toList_eq_nil_iff.1 h0
        unfold Go.results
        rw [hnil]
        simp
       cases x with
       | nrm =>
        obtain ⟨hf3, k⟩ := done (by rw [hfin, hcode])
        exact wp_code hmx hcs hcm c3 F.gbody b8.1 maxRounds hcode hact2 g hf3 fun ι' a' w' c' r' => k ι' a' w' c' r'.defers
       | ret =>
        obtain ⟨hf3, k⟩ := done (by rw [hfin, hcode])
        exact wp_code hmx hcs hcm c3 F.gbody b8.1 maxRounds hcode hact2 g hf3 fun ι' a' w' c' r' => k ι' a' w' c' r'.defers
       | exit i => rw [hfin, hcode] at hne; exact absurd rfl hne
       | pan v => rw [hfin, hcode] at hne; exact absurd rfl hne
     refine wpS_seq (wpS_region ?_)
     have hsz : ops0 = #[rc] := by rw [← Array.toArray_toList (xs := ops0), hops]
     have hrun : (execOp A0.eval rc).run P w = .ok .recover w := by
      simp [execOp, hop, resolve, invoke, builtin]
     have hw : Region.wanted rc (yielded ops0 A0.tmps) = true := by simp [Region.wanted, hgd]
     rw [hsz] at hw ⊢
     show wpOpsS P #[rc] _ [0] A0 (c₀ :: cs) w
     simp only [wpOpsS, List.getElem?_toArray, List.getElem?_cons_zero, hw, if_true, hrun, hdst]
     rcases hrec c₀ cs hu with h1 | ⟨h1, h2, h3⟩
     ·rw [h1]
      exact wp_mono (rest ({ c₀ with mode := u' } :: cs)) (fun e a w h => h rfl) |> wpS_of_wp
     ·rw [h1]
      subst h2 h3
      exact wp_mono (rest (c₀ :: cs)) (fun e a w h => h (by rw [← hu])) |> wpS_of_wp
    ·cases hc
   ·cases hc
  ·cases hc
end
end
end Go.Eng
namespace Go.Eng
noncomputable section
section
variable {P : Program} {call : CallT} {F : FunD}
theorem funD_sound (hmx : P.follows .mixedOrders = true) (hcs : CallS P call) (hcm : CallMono call) {f : Nat} (hc : chkFD P f F = true) {as : List V} {h : Heap} (hne : runD F call as h ≠ .bad) :
  hasBody P f ∧ ∀ ι w (args : Array Value), Good ι h w → OR.free ι h (runD F call as h) → vrels ι as args.toList → Calls P f args w (OutP ι h w (runD F call as h)) := by
 unfold chkFD at hc
 cases hf : P.funcs[f]? with
 | none => rw [hf] at hc; cases hc
 | some fn =>
  rw [hf] at hc
  have hc := Bool.and_of hc
  have hname : fn.name ≠ "runtime.NumGoroutine" := by simpa using hc.1
  have hc := hc.2
  split at hc
  ·rename_i c1 i1 ops1 i2 ops2 hbody
   have b1 := Bool.and_of hc; have b2 := Bool.and_of b1.1; have b3 := Bool.and_of b2.2; have b3b := Bool.and_of b3.2; have b4 := Bool.and_of b1.2; have b5 := Bool.and_of b4.1; have b6 := Bool.and_of b5.2; have b7 := Bool.and_of b4.2; have b8 := Bool.and_of b7.2; have b9 := Bool.and_of b8.2; have b10 := Bool.and_of b9.1
   have h64 : F.temps.length ≤ 64 := by simpa using b2.1
   have hnp : F.np ≤ F.temps.length := by simpa using b3.1
   have hnd := nodupB_ok _ b3b.2
   have hnt : F.np ≤ fn.ntmps := by simpa using b5.1
   refine ⟨⟨fn, hf, by simpa using hname, by rw [hbody]; rfl⟩, fun ι w args g hfree hr => ?_⟩
   obtain ⟨r, hrun⟩ : ∃ r, r = runD F call as h := ⟨_, rfl⟩
   rw [← hrun] at hne hfree ⊢
   have hrun2 : r = (Bool.rec .bad (CR.rec (fun x env1 h1 => X.rec (F.go call env1 h1) .bad (fun _ => .bad) (fun _ => .bad) x) .bad (Go.Eng.args as 0 Env.nil fun env => code F.pre call maxRounds env h)) ((lenV as).beq F.np) : OR) := hrun
   cases hlen : (lenV as).beq F.np with
   | false => rw [hlen] at hrun2; exact absurd hrun2 hne
   | true =>
    have hl : as.length = F.np := by rw [lenV_eq] at hlen; exact Nat.eq_of_beq_eq_true hlen
    rw [hlen] at hrun2
    have hrun2 : r = (CR.rec (fun x env1 h1 => X.rec (F.go call env1 h1) .bad (fun _ => .bad) (fun _ => .bad) x) .bad (code F.pre call maxRounds (argsP as 0 Env.nil) h) : OR) := by rw [hrun2, args_eq]
    have hact := start_act (N := fn.ntmps) h64 hnp hnt b3b.1 hl hr
    refine calls_of_wp_defers hf hbody ?_
    cases hcode : code F.pre call maxRounds (argsP as 0 Env.nil) h with
    | bad => rw [hcode] at hrun2; exact absurd hrun2 hne
    | ok x env1 h1 =>
     rw [hcode] at hrun2
     cases x with
     | ret => exact absurd hrun2 hne
     | exit i => exact absurd hrun2 hne
     | pan v => exact absurd hrun2 hne
     | nrm =>
      have hgo : r = F.go call env1 h1 := hrun2
      have hnx := go_next (F := F) hcm env1 h1
      rw [← hgo] at hnx
      have hfree1 : FreeIn ι h h1 := by
       cases r with
       | ok v h' => exact FreeIn.left (h2 := h') hfree hnx
       | pan v h' => exact FreeIn.left (h2 := h') hfree hnx
       | bad => exact absurd rfl hne
      refine wp_seq (wp_code hmx hcs hcm c1 F.pre b6.1 maxRounds hcode hact g hfree1 fun ι1 a1 w1 ch1 r1 => ?_)
      show (Code.seq _ _).wp P _ a1 w1
      have hdf := b7.1
      unfold chkDf at hdf
      split at hdf
      ·rename_i mf df hops1
       have hsz1 : ops1 = #[mf, df] := by rw [← Array.toArray_toList (xs := ops1), hops1]
       split at hdf
       ·rename_i gg first cs t hop hdst hgd
        have hdf := Bool.and_of hdf
        have d1 := Bool.and_of hdf.1; have d2 := Bool.and_of d1.2; have d3 := Bool.and_of d2.2; have d4 := Bool.and_of d3.2
        have hgg : gg = F.clo := by simpa using d1.1
        have hfirst : first = #[] := Array.toList_eq_nil_iff.1 (by simpa using d2.1)
        have htN : t < fn.ntmps := by simpa using d4.1
        have htt : t ∉ F.temps := by
         have := d4.2
         simpa using this
        have hdf2 := hdf.2
        split at hdf2
        ·rename_i cc hop2 hdst2 hgd2
         have e1 := Bool.and_of hdf2
         have hcargs : cc.args = #[] := Array.toList_eq_nil_iff.1 (by simpa using e1.1)
         have e2 := e1.2
         split at e2
         ·rename_i t' hcal
          have htt' : t' = t := by simpa using e2
          subst htt'
          subst hgg hfirst
          have hcaps : vrels ι1 (evs F.caps fun a => a.ev [] env1) (cs.map a1.eval).toList := by
           have := chks_rel (ev := fun a => A.ev a [] env1) (chkAt_rel r1.start) cs.toList F.caps d3.1
           simpa using this
          have htlt : t' < a1.tmps.size := by rw [r1.size]; exact htN
          let D : Deferred := { target := .fn (.func F.clo) (cs.map a1.eval), args := #[] }
          let a2 : Act := { a1.put (some t') (.func (.func F.clo) #[] (cs.map a1.eval)) with defers := [D] }
          have hput : (a1.put (some t') (.func (.func F.clo) #[] (cs.map a1.eval))).tmps.getD t' undef = .func (.func F.clo) #[] (cs.map a1.eval) := by
           show (a1.tmps.setIfInBounds t' _).getD t' undef = _
           rw [getD_put htlt, if_pos rfl]
          have hstr : StR ι1 (Fct.start F.temps) [] env1 env1 a2.tmps := by
           have r2 : ActR ι1 F.temps fn.ntmps env1 { a2 with defers := [] } := by
            refine ⟨put_size.trans r1.size, rfl, fun k u hk => ?_⟩
            show vrel ι1 _ ((a1.tmps.setIfInBounds t' _).getD u undef)
            rw [getD_put htlt, if_neg (by intro e; subst e; exact htt (List.mem_of_getElem? hk))]
            exact r1.tmps k u hk
           exact r2.start
          refine wp_seq (wp_region ?_)
          have hl1 := wpOps_eq_wpList (P := P) (ops := ops1) (Q := Exit.then ((Code.seq (.region i2 ops2 false) .ret).wp P (bodyPostD P fn (OutP ι h w r))) (bodyPostD P fn (OutP ι h w r))) ops1.toList 0 (fun j => by simp)
          rw [List.range_eq_range', show ops1.size = ops1.toList.length by simp, hl1, hops1]
          refine wpList_yes (by simp [Region.wanted, hgd]) ?_
          have hrun1 : (execOp a1.eval mf).run P w1 = .ok (.value (.func (.func F.clo) #[] (cs.map a1.eval))) w1 := by
           simp [execOp, hop, Instr.makeFunc, Result.andThen]
          unfold Oper.wp
          rw [hrun1, Oper.upon_value, hdst]
          refine wpList_yes (by simp [Region.wanted, hgd2]) ?_
          have hrun2' : (execOp (a1.put (some t') (.func (.func F.clo) #[] (cs.map a1.eval))).eval df).run P w1 = .ok (.defer D) w1 := by
           have he : (a1.put (some t') (.func (.func F.clo) #[] (cs.map a1.eval))).eval (.tmp t') = .func (.func F.clo) #[] (cs.map a1.eval) := hput
           simp only [execOp, hop2, resolve, hcal, hcargs, he, Deferred.ofValue]
           simp [D, Result.andThen]
          unfold Oper.wp
          rw [hrun2', Oper.upon_defer, hdst2]
          have hd1 : (a1.put (some t') (.func (.func F.clo) #[] (cs.map a1.eval))).defers = [] := put_defers.trans r1.defers
          rw [hd1]
          show (Code.seq (.region i2 ops2 false) .ret).wp P (bodyPostD P fn (OutP ι h w r)) a2 w1
          have last : ∀ (u u' : FrameMode) (v : V) (v' : Value) (envr : Env) (ι2 : Inj) (h2 : Heap) (a' : Act) (w2 : World), u ≠ .run → settle u' = .returning →
            (∀ (c₀ : Frame) (cs : List Frame), c₀.mode = u → (recoverD (c₀ :: cs) = some (v', { c₀ with mode := u' } :: cs)) ∨ (recoverD (c₀ :: cs) = none ∧ v' = .nilIface ∧ u' = u)) →
            r = F.fin call (evs F.caps fun a => a.ev [] env1) envr h2 v → Chg ι1 h1 w1 ι2 h2 w2 → vrel ι2 v v' → a'.defers = [D] → ActR ι2 F.temps fn.ntmps envr { a' with defers := [] } → Leaves P fn a'.tmps (OutP ι h w r) a'.defers u w2 := by
           intro u u' v v' envr ι2 h2 a' w2 hu hset hrec hrf c2 hv hd ra
           have hnx2 := fin_next (F := F) hcm (evs F.caps fun a => a.ev [] env1) envr h2 v
           rw [← hrf] at hnx2
           have hn12 := c2.ext.2.1
           have hf2 : OR.free ι2 h2 r := by
            cases r with
            | ok v h' => exact (FreeIn.right (h2 := h') hfree ch1.ext).right c2.ext
            | pan v h' => exact (FreeIn.right (h2 := h') hfree ch1.ext).right c2.ext
            | bad => exact absurd rfl hne
           have hfr1 : FreeIn ι1 h1 h2 := by
            cases r with
            | ok v h' => exact (FreeIn.right (h2 := h') hfree ch1.ext).left hnx2
            | pan v h' => exact (FreeIn.right (h2 := h') hfree ch1.ext).left hnx2
            | bad => exact absurd rfl hne
           rw [hd]
           obtain ⟨⟨gn, k1, k2, k3⟩, k4⟩ := clo_sound (u := u) (u' := u') (R := fun e u' w' => match e with
            | .returned _ => Leaves P fn a'.tmps (OutP ι h w r) [] (settle u') w'
            | .panicked chain => Leaves P fn a'.tmps (OutP ι h w r) [] (raised u' chain) w'
            | .outgrown => OutP ι h w r .outgrown w') hmx hcs hcm b9.2 (by simp) (by rw [← hrf]; exact hne) c2.good (by rw [← hrf]; exact hf2) (hcaps.mono c2.ext.1) hv hrec (fun vs h3 ι3 w3 e1 e2 c3 => by
             show Leaves P fn a'.tmps (OutP ι h w r) [] (settle u') w3
             rw [hset]
             obtain ⟨vs', m1, m2⟩ := results_rel (P := P) c3.good (ra.mono c3.ext.1) fn.results.toList F.results b6.2 vs e2
             refine ⟨(if h : vs'.toArray.size = 1 then vs'.toArray[0] else .tuple vs'.toArray), ?_, ?_⟩
             ·unfold Go.results
              rw [Array.mapM_eq_mapM_toList]
              simp only [Sem.run_bind, Sem.run_map]
              erw [m1]
              rfl
             ·rw [hrf, e1]
              have hn23 := c3.ext.2.1
              exact ⟨ι3, ch1.trans (c2.trans c3 hfr1) hfree1, vrels.one_ (by simpa using m2)⟩)
           refine ⟨hu, .func F.clo, cs.map a1.eval, F.clo, cs.map a1.eval, rfl, ?_, fun c cs hm => ?_⟩
           ·have hb : hasBody P F.clo := ⟨gn, k1, k3, k2⟩
            have := callFunc_run (P := P) (w := w2) hb (cs.map a1.eval)
            show (callFunc F.clo (#[] ++ cs.map a1.eval)).run P w2 = _
            rw [Array.empty_append]; exact this
           ·obtain ⟨e, u2, w3, fr, n1, n2, n3, n4⟩ := k4 c cs hm
            exact ⟨e, u2, w3, fr, by cases e <;> exact n1, n2, n3, n4⟩
          have hgo2 : r = (CR.rec (fun x env2 h2 => X.rec (F.fin call (evs F.caps fun a => a.ev [] env1) env2 h2 .ifcN) .bad (fun _ => .bad) (fun v => F.fin call (evs F.caps fun a => a.ev [] env1) (clr F.ws env1) h2 v) x) .bad (opsN F.ops call [] env1 h1) : OR) := hgo
          cases hops : opsN F.ops call [] env1 h1 with
          | bad => rw [hops] at hgo2; exact absurd hgo2 hne
          | ok x2 env2 h2 =>
           rw [hops] at hgo2
           have hn2 := opsN_next hcm F.ops [] env1 h1
           rw [hops] at hn2
           cases hF : chkN P fn.ntmps F.acts ops2 ops2.toList 0 F.ops (Fct.start F.temps) with
           | none => rw [hF] at b8; exact absurd b8.1 (by simp [optEnd])
           | some F' =>
            have hend : endOk F' F.temps 0 = true := by have := b8.1; rw [hF] at this; exact this
            have hne2 : h2.next ≤ (match r with | .ok _ h' => h'.next | .pan _ h' => h'.next | .bad => h2.next) := by
             cases x2 with
             | nrm =>
              have e : r = F.fin call (evs F.caps fun a => a.ev [] env1) env2 h2 .ifcN := hgo2
              have := fin_next (F := F) hcm (evs F.caps fun a => a.ev [] env1) env2 h2 .ifcN
              rw [← e] at this
              cases r <;> first | exact this | exact Nat.le_refl _
             | ret => exact absurd hgo2 hne
             | exit i => exact absurd hgo2 hne
             | pan v =>
              have e : r = F.fin call (evs F.caps fun a => a.ev [] env1) (clr F.ws env1) h2 v := hgo2
              have := fin_next (F := F) hcm (evs F.caps fun a => a.ev [] env1) (clr F.ws env1) h2 v
              rw [← e] at this
              cases r <;> first | exact this | exact Nat.le_refl _
            have hf12 : FreeIn ι1 h1 h2 := by
             cases r with
             | ok v h' => exact (FreeIn.right (h2 := h') hfree ch1.ext).left hne2
             | pan v h' => exact (FreeIn.right (h2 := h') hfree ch1.ext).left hne2
             | bad => exact absurd rfl hne
            refine wp_seq (wp_region ?_)
            have hl2 := wpOps_eq_wpList (P := P) (ops := ops2) (Q := Exit.then (Code.ret.wp P (bodyPostD P fn (OutP ι h w r))) (bodyPostD P fn (OutP ι h w r))) ops2.toList 0 (fun j => by simp)
            rw [List.range_eq_range', show ops2.size = ops2.toList.length by simp, hl2]
            refine wpList_fixed (D := [D]) (F' := F') hcs hcm ops2.toList 0 F.ops (Fct.start F.temps) [] env1 a2 w1 ι1 h1 hF hops hstr (put_size.trans r1.size) rfl ch1.good hf12 (fun hx ι2 vs2 a' w2 c2 s2 hs2 hd2 => ?_) (fun v hx v' ι2 a' w2 c2 hv hd2 hs2 hk2 => ?_)
            ·subst hx
             have e : r = F.fin call (evs F.caps fun a => a.ev [] env1) env2 h2 .ifcN := hgo2
             have ra : ActR ι2 F.temps fn.ntmps env2 { a' with defers := [] } := StR.end (a := { a' with defers := [] }) s2 hend hs2 rfl
             exact wp_ret (last .returning .returning .ifcN .nilIface env2 ι2 h2 a' w2 (by simp) rfl (fun c₀ cs hm => .inr ⟨by simp [recoverD, hm], rfl, rfl⟩) e c2 rfl hd2 ra)
            ·subst hx
             have e : r = F.fin call (evs F.caps fun a => a.ev [] env1) (clr F.ws env1) h2 v := hgo2
             have hws : ∀ j ∈ F.ws, j < 64 := fun j hj => by have := List.all_eq_true.1 b10.2 j hj; simpa using this
             have ra : ActR ι2 F.temps fn.ntmps (clr F.ws env1) { a' with defers := [] } := by
              refine ⟨hs2, rfl, fun k t hk => ?_⟩
              ·have hk64 : k < 64 := by have := (List.getElem?_eq_some_iff.1 hk).1; omega
               rw [clr_get _ _ k hk64 hws]
               by_cases hkw : k ∈ F.ws
               ·rw [if_pos hkw]; trivial
               ·rw [if_neg hkw]
                exact hk2 t _ _ (dstsIn_ok _ b10.1 k t hk hkw) (start_tmp hnd hk)
             exact last (.panicking [{ v := v', recovered := false }]) (.panicking [{ v := v', recovered := true }]) v v' (clr F.ws env1) ι2 h2 a' w2 (by simp) rfl (fun c₀ cs hm => .inl (by simp [recoverD, hm])) e c2 hv hd2 ra
         ·cases e2
        ·cases hdf2
       ·cases hdf
      ·cases hdf
  ·cases hc
end
end
end Go.Eng
namespace Go.Eng
noncomputable section
def Ctx.of (funs : T Fun) (dfuns : T FunD) (more : Nat → List V → Heap → OR) : Ctx :=
 ⟨funs, fun call f as h => Option.rec (more f as h) (fun F => runD F call as h) (T.get f dfuns)⟩
def MoreOk (P : Program) (more : Nat → List V → Heap → OR) : Prop := ∀ f as h,
 OR.next h (more f as h) ∧ (more f as h ≠ .bad → hasBody P f ∧ ∀ ι w (args : Array Value), Good ι h w → vrels ι as args.toList → Calls P f args w (OutP ι h w (more f as h)))
theorem sums_ok {P : Program} (hmx : P.follows .mixedOrders = true) {funs : T Fun} {dfuns : T FunD} {more : Nat → List V → Heap → OR} (hd : allT (chkFD P) dfuns = true) (hm : MoreOk P more) : SumsOk P (Ctx.of funs dfuns more) := by
 intro call hcs hcm f as h hn
 show OR.next h (Option.rec (more f as h) (fun F => runD F call as h) (T.get f dfuns) : OR) ∧ ((Option.rec (more f as h) (fun F => runD F call as h) (T.get f dfuns) : OR) ≠ .bad → hasBody P f ∧ ∀ ι w (args : Array Value), Good ι h w → OR.free ι h (Option.rec (more f as h) (fun F => runD F call as h) (T.get f dfuns) : OR) → vrels ι as args.toList → Calls P f args w (OutP ι h w (Option.rec (more f as h) (fun F => runD F call as h) (T.get f dfuns) : OR)))
 cases hg : T.get f dfuns with
 | none => exact ⟨(hm f as h).1, fun hne => ⟨((hm f as h).2 hne).1, fun ι w args g _ hr => ((hm f as h).2 hne).2 ι w args g hr⟩⟩
 | some F =>
  have hc := allT_get hd hg
  exact ⟨runD_next hcm as h, fun hne => funD_sound hmx hcs hcm hc hne⟩
def noMore : Nat → List V → Heap → OR := fun _ _ _ => .bad
theorem noMore_ok (P : Program) : MoreOk P noMore := fun _ _ _ => ⟨trivial, fun h => absurd rfl h⟩
def isTrue (r : OR) : Bool := OR.rec (fun v _ => V.same v (.bool true)) (fun _ _ => false) false r
theorem isTrue_ok {r : OR} (h : isTrue r = true) : ∃ h', r = .ok (.bool true) h' := by
 cases r with
 | ok v h' => have := V.same_eq v (.bool true) h; subst this; exact ⟨h', rfl⟩
 | pan v h' => cases h
 | bad => cases h
theorem law_run {P : Program} (hmx : P.follows .mixedOrders = true) {funs : T Fun} {dfuns : T FunD} {more : Nat → List V → Heap → OR} (hf : allT (chkF P) funs = true) (hd : allT (chkFD P) dfuns = true) (hm : MoreOk P more)
  {n f : Nat} {as : List V} (he : isTrue (lev (Ctx.of funs dfuns more) n f as .none Heap.empty).1 = true) {args : Array Value} (hr : vrels Inj.none as args.toList) (w : World) :
  Calls P f args w fun e w' => e = .returned (.bool true) ∧ Kept w w' := by
 obtain ⟨h', e⟩ := isTrue_ok he
 exact closed_run hmx (c := Ctx.of funs dfuns more) hf (sums_ok hmx hd hm) e hr w
end
end Go.Eng
namespace Go.Eng
noncomputable section
def idxL (c : Nat) (l : List Nat) : Nat → V := @List.rec Nat (fun _ => Nat → V) (fun _ => .int .i64 (-1)) (fun b _ ih i => Bool.rec (ih (Nat.succ i)) (natV .i64 i) (b.beq c)) l
def moreIdx (f0 : Nat) : Nat → List V → Heap → OR := fun f as h => match f.beq f0, as with
 | true, [.str n x, .int .u8 (.ofNat c)] => Bool.rec .bad ((idxL c (sBytes n x) 0).force fun v => .ok v h) (c.blt 256)
 | _, _ => .bad
theorem idxL_eq (c : Nat) (hc : c < 256) : ∀ (l : List UInt8) (i : Nat), idxL c (l.map (·.toNat)) i = if Lib.indexByte l c.toUInt8 = -1 then .int .i64 (-1) else .int .i64 (i + Lib.indexByte l c.toUInt8)
 | [], i => rfl
 | b :: l, i => by
  show (Bool.rec (idxL c (l.map (·.toNat)) (Nat.succ i)) (natV .i64 i) (b.toNat.beq c) : V) = _
  have hb : (b == c.toUInt8) = (b.toNat.beq c) := by
   have h1 : c.toUInt8.toNat = c := by simp; omega
   rw [nbeq]
   by_cases h : b = c.toUInt8
   ·have : b.toNat = c := by rw [h, h1]
    simp [h]; omega
   ·have : b.toNat ≠ c := fun e => h (UInt8.toNat_inj.1 (by rw [h1, e]))
    simp [h, this]
  unfold Lib.indexByte
  rw [hb]
  cases b.toNat.beq c with
  | true => simp [natV_eq]
  | false =>
   show idxL c (l.map (·.toNat)) (i + 1) = _
   rw [idxL_eq c hc l (i + 1)]
   have hge := Lib.indexByte_ge l c.toUInt8
   by_cases h : Lib.indexByte l c.toUInt8 = -1
   ·simp [h]
   ·have h2 : ¬ (Lib.indexByte l c.toUInt8 + 1 = -1) := by omega
    simp [h, h2]; omega
theorem moreIdx_ok {P : Program} {f0 : Nat} (hb : hasBody P f0) (hc : ∀ (s : ByteArray) (c : Int) (w : World), Calls P f0 #[.string s, .int .u8 c] w fun e w' => e = .returned (.int .i64 (Lib.indexByte s.data.toList c.toNat.toUInt8)) ∧ w' = w) : MoreOk P (moreIdx f0) := by
 intro f as h
 unfold moreIdx
 split
 ·rename_i n x c hf
  have hf : f = f0 := Nat.eq_of_beq_eq_true hf
  subst hf
  cases hlt : c.blt 256 with
  | false => exact ⟨trivial, fun h => absurd rfl h⟩
  | true =>
   have hlt : c < 256 := by rw [nblt] at hlt; simpa using hlt
   rw [V.force_eq]
   refine ⟨Nat.le_refl _, fun _ => ⟨hb, fun ι w args g hr => ?_⟩⟩
   obtain ⟨y1, l1, e1, r1, r2⟩ := hr
   obtain ⟨y2, l2, e2, r3, r4⟩ := r2
   have r4 : l2 = [] := r4
   subst r4 e2
   obtain ⟨s, rfl, hs⟩ := r1
   have r3 : y2 = .int .u8 (Int.ofNat c) := r3
   subst r3
   have ha : args = #[.string s, .int .u8 (Int.ofNat c)] := by rw [← Array.toArray_toList (xs := args), e1]
   rw [ha]
   refine (hc s (Int.ofNat c) w).mono fun e w' he => ?_
   obtain ⟨rfl, rfl⟩ := he
   refine ⟨ι, Chg.refl g, ?_⟩
   obtain ⟨h1, h2⟩ := hs
   have hsb : sBytes n x = s.data.toList.map (·.toNat) := by rw [← h1, ← h2]; exact sBytes_eq _
   rw [hsb, idxL_eq c hlt]
   have hcn : (Int.ofNat c).toNat.toUInt8 = c.toUInt8 := rfl
   rw [hcn]
   by_cases hm : Lib.indexByte s.data.toList c.toUInt8 = -1
   ·rw [if_pos hm, hm]; rfl
   ·rw [if_neg hm]
    show (Value.int .i64 _ = Value.int .i64 _)
    congr 1; simp
 ·exact ⟨trivial, fun h => absurd rfl h⟩
end
end Go.Eng
namespace Go.Eng
noncomputable section
def seqs : List C → C → C
 | [], r => r
 | c :: l, r => .seq c (seqs l r)
def envOf (r : CR) : Env := CR.rec (fun _ e _ => e) Env.nil r
def heapOf (r : CR) : Heap := CR.rec (fun _ _ h => h) Heap.empty r
def isNrm (r : CR) : Bool := CR.rec (fun x _ _ => X.rec true false (fun _ => false) (fun _ => false) x) false r
theorem isNrm_ok {r : CR} (h : isNrm r = true) : r = .ok .nrm (envOf r) (heapOf r) := by
 cases r with
 | bad => cases h
 | ok x e hp => cases x <;> first | rfl | cases h
theorem code_seqs (call : CallT) (n : Nat) (r : C) : ∀ (p : List C) (env : Env) (h : Heap), isNrm (code (seqs p .skip) call n env h) = true →
  code (seqs p r) call n env h = code r call n (envOf (code (seqs p .skip) call n env h)) (heapOf (code (seqs p .skip) call n env h))
 | [], env, h, _ => rfl
 | c :: l, env, h, hn => by
  have e1 : ∀ b, code (.seq c b) call n env h = (CR.rec (fun x env h => X.rec (code b call n env h) (.ok .ret env h) (fun i => .ok (.exit i) env h) (fun v => .ok (.pan v) env h) x) .bad (code c call n env h) : CR) := fun b => rfl
  have hn : isNrm (code (.seq c (seqs l .skip)) call n env h) = true := hn
  show code (.seq c (seqs l r)) call n env h = code r call n (envOf (code (.seq c (seqs l .skip)) call n env h)) (heapOf (code (.seq c (seqs l .skip)) call n env h))
  rw [e1] at hn
  rw [e1, e1]
  cases hc : code c call n env h with
  | bad => rw [hc] at hn; cases hn
  | ok x env1 h1 =>
   rw [hc] at hn
   cases x with
   | nrm => exact code_seqs call n r l env1 h1 hn
   | ret => cases hn
   | exit i => cases hn
   | pan v => cases hn
theorem runFun_split {fn : Fun} {call : CallT} {p : List C} {r : C} {as : List V} {h : Heap} (hb : fn.body = seqs p r) (hl : (lenV as).beq fn.np = true) (hn : isNrm (code (seqs p .skip) call maxRounds (argsP as 0 Env.nil) h) = true) :
  runFun fn call as h = endCall fn.results (code r call maxRounds (envOf (code (seqs p .skip) call maxRounds (argsP as 0 Env.nil) h)) (heapOf (code (seqs p .skip) call maxRounds (argsP as 0 Env.nil) h))) := by
 unfold runFun runFunR
 rw [hl, args_eq, hb]
 show endCall fn.results (code (seqs p r) call maxRounds (argsP as 0 Env.nil) h) = _
 rw [code_seqs call maxRounds r p _ _ hn]
def Row.same (s t : Row) : Bool := V.same s.a t.a && (V.same s.b t.b && (V.same s.c t.c && (V.same s.d t.d && (V.same s.e t.e && (V.same s.f t.f && (V.same s.g t.g && V.same s.h t.h))))))
def Env.same (s t : Env) : Bool := Row.same s.a t.a && (Row.same s.b t.b && (Row.same s.c t.c && (Row.same s.d t.d && (Row.same s.e t.e && (Row.same s.f t.f && (Row.same s.g t.g && Row.same s.h t.h))))))
def optSame {α : Type} (p : α → α → Bool) : Option α → Option α → Bool
 | none, none => true
 | some a, some b => p a b
 | _, _ => false
def T.sameBy {α : Type} (p : α → α → Bool) (s t : T α) : Bool :=
 R8.same (R8.same (R8.same (optSame p))) s.x t.x && (s.y.isNone && (t.y.isNone && (s.z.empty && t.z.empty)))
def natsSame : List Nat → List Nat → Bool
 | [], [] => true
 | a :: l, b :: m => a.beq b && natsSame l m
 | _, _ => false
def Fam.same (a b : Fam) : Bool := a.last.beq b.last && natsSame a.mem b.mem
def Heap.same (a b : Heap) : Bool := T.sameBy Obj.same a.t b.t && (a.next.beq b.next && (T.sameBy Fam.same a.fams b.fams && (a.ds.isEmpty && (b.ds.isEmpty && ((match a.pc with | .none => true | _ => false) && (match b.pc with | .none => true | _ => false))))))
theorem Row.same_eq {s t : Row} (h : Row.same s t = true) : s = t := by
 have h1 := Bool.and_of h; have h2 := Bool.and_of h1.2; have h3 := Bool.and_of h2.2; have h4 := Bool.and_of h3.2
 have h5 := Bool.and_of h4.2; have h6 := Bool.and_of h5.2; have h7 := Bool.and_of h6.2
 cases s; cases t
 simp only [Row.mk.injEq]
 exact ⟨V.same_eq _ _ h1.1, V.same_eq _ _ h2.1, V.same_eq _ _ h3.1, V.same_eq _ _ h4.1, V.same_eq _ _ h5.1, V.same_eq _ _ h6.1, V.same_eq _ _ h7.1, V.same_eq _ _ h7.2⟩
theorem Env.same_eq {s t : Env} (h : Env.same s t = true) : s = t := by
 have h1 := Bool.and_of h; have h2 := Bool.and_of h1.2; have h3 := Bool.and_of h2.2; have h4 := Bool.and_of h3.2
 have h5 := Bool.and_of h4.2; have h6 := Bool.and_of h5.2; have h7 := Bool.and_of h6.2
 cases s; cases t
 simp only [Env.mk.injEq]
 exact ⟨Row.same_eq h1.1, Row.same_eq h2.1, Row.same_eq h3.1, Row.same_eq h4.1, Row.same_eq h5.1, Row.same_eq h6.1, Row.same_eq h7.1, Row.same_eq h7.2⟩
theorem optSame_eq {α : Type} {p : α → α → Bool} (hp : ∀ a b, p a b = true → a = b) (a b : Option α) (h : optSame p a b = true) : a = b := by
 cases a <;> cases b <;> simp [optSame] at h
 ·rfl
 ·rw [hp _ _ h]
theorem T.sameBy_eq {α : Type} {p : α → α → Bool} (hp : ∀ a b, p a b = true → a = b) (s t : T α) (h : T.sameBy p s t = true) : s = t := by
 have h1 := Bool.and_of h; have h2 := Bool.and_of h1.2; have h3 := Bool.and_of h2.2; have h4 := Bool.and_of h3.2
 have e1 := R8.same_eq (R8.same_eq (R8.same_eq (optSame_eq hp))) _ _ h1.1
 have e3 := B.empty_eq h4.1; have e4 := B.empty_eq h4.2
 have e5 : s.y = none := by simpa using h2.1
 have e6 : t.y = none := by simpa using h3.1
 cases s; cases t
 simp only [T.mk.injEq]
 exact ⟨e1, e5.trans e6.symm, e3.trans e4.symm⟩
theorem natsSame_eq : ∀ (a b : List Nat), natsSame a b = true → a = b
 | [], [], _ => rfl
 | a :: l, b :: m, h => by have h := Bool.and_of h; rw [Nat.eq_of_beq_eq_true h.1, natsSame_eq l m h.2]
theorem Fam.same_eq (a b : Fam) (h : Fam.same a b = true) : a = b := by
 have h := Bool.and_of h
 cases a; cases b
 simp only [Fam.mk.injEq]
 exact ⟨Nat.eq_of_beq_eq_true h.1, natsSame_eq _ _ h.2⟩
theorem Heap.same_eq {a b : Heap} (h : Heap.same a b = true) : a = b := by
 have h1 := Bool.and_of h; have h2 := Bool.and_of h1.2; have h3 := Bool.and_of h2.2; have h4 := Bool.and_of h3.2; have h5 := Bool.and_of h4.2; have h6 := Bool.and_of h5.2
 obtain ⟨at1, an, af, ad, ap⟩ := a
 obtain ⟨bt, bn, bf, bd, bp⟩ := b
 have e1 : at1 = bt := T.sameBy_eq Obj.same_eq _ _ h1.1
 have e2 : an = bn := Nat.eq_of_beq_eq_true h2.1
 have e3 : af = bf := T.sameBy_eq Fam.same_eq _ _ h3.1
 have e4 : ad = [] := by have := h4.1; simpa using this
 have e5 : bd = [] := by have := h5.1; simpa using this
 have e6 : ap = .none := by have := h6.1; revert this; cases ap <;> simp
 have e7 : bp = .none := by have := h6.2; revert this; cases bp <;> simp
 rw [e1, e2, e3, e4, e5, e6, e7]
def allBelow (p : Nat → Bool) (n : Nat) : Bool := Nat.rec true (fun k ih => Bool.rec false ih (p k)) n
theorem allBelow_at {p : Nat → Bool} : ∀ {n : Nat}, allBelow p n = true → ∀ k, k < n → p k = true
 | 0, _, k, hk => by omega
 | n + 1, h, k, hk => by
  have h : (Bool.rec false (allBelow p n) (p n) : Bool) = true := h
  cases hp : p n with
  | false => rw [hp] at h; cases h
  | true =>
   rw [hp] at h
   by_cases e : k = n
   ·rw [e]; exact hp
   ·exact allBelow_at h k (by omega)
end
end Go.Eng
