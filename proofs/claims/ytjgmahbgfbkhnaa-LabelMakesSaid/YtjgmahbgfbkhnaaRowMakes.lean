/- The law 'LabelMakes': for every input the call returns true, and each argument reads afterwards as it read before. No condition of ours: the row's own cells alone. -/
import Derived.Test.YtjgmahbgfbkhnaaRows
import Derived.Test.YtjgmahbgfbkhnaaRunB
import Derived.WalkKit
import Derived.ProofKit
import Derived.OpenShut
import Derived.Below
import Derived.ChangeSame
import Derived.Deep.DeepHandedRow
import Derived.Lib.LaidTab
import Derived.Carry
import Derived.Deep.Slices
import Derived.Deep.Strs
import Derived.RangeFuncOwn
import Derived.LaidSub
namespace Go.Proofs.Ytjgmahbgfbkhnaa.labelMakes
open Go.ChangeMaps (open_string shut_string)
open Go.ChangeShapes Go.WideShapes Go.ChangeAt Go.RowKit
set_option linter.unusedVariables false
set_option linter.unusedSimpArgs false
theorem own : ownKnob Try.prog.godebug = none := by kernel_rfl
section
variable {H : Type} {enc : TypeId × Value → H} {P : Program}
theorem post_of_below {f : Func} {s : ChangeSpec} {apart fresh handsOn again : Bool} {W W' : World} {args : Array Value} {v : Value} {ds gs : List (DataW H)} {before pa pv : List MemPlace}
    (hW : DataW.Whole enc P f.params.toList s.vars apart W args.toList ds gs before)
    (hres : ∀ (b : Nat) (sp : Nat → Bool) (hd : Bool), DataW.TrodAll enc P W' b sp hd f.resultTypes.toList (v.resultList f.resultTypes.size) (s.fn H (ds ++ gs)).results [])
    (hargs : ∀ sp : Nat → Bool, (∀ p ∈ before, sp p.block = true) → DataW.TrodAll enc P W' 0 sp true f.params.toList args.toList (s.fn H (ds ++ gs)).args pa)
    (hvars : ∀ sp : Nat → Bool, (∀ p ∈ before, sp p.block = true) → DataW.TrodVars enc P W' sp s.vars (s.fn H (ds ++ gs)).vars pv)
    (hps : before = pa ++ pv) (hb : Below W.heap.size W W')
    (hok : ∀ (j : Nat) (t : TypeId) (r : Value), f.resultTypes[j]? = some t → (v.resultList f.resultTypes.size)[j]? = some r → Value.okWide P W' .any 0 t r) :
    s.post enc P f apart fresh handsOn again W args v W' := by
  have hlt : ∀ p ∈ before, p.block < W.heap.size := fun p hp => hW.lt p hp
  have hold : ∀ p ∈ before, (fun b => decide (b < W.heap.size)) p.block = true := fun p hp => by simpa using hlt p hp
  refine ⟨ds, gs, before, [], pa, pv, hW, hres _ _ _, hargs _ hold, hvars _ hold, World.keptBut_mono (fun p hp => ⟨hp, ?_⟩) (hb.frame (· ∈ before)), fun _ => ?_⟩
  · rw [hps, List.mem_append] at hp
    exact Or.inr hp
  · obtain ⟨_, _, _, _, _, hz, hn⟩ := hW
    refine ⟨hok, _, _, ([] ++ pa) ++ pv, ⟨[] ++ pa, pv, trodAll_append (hargs _ (fun _ _ => rfl)) (hres _ _ _), hvars _ (fun _ _ => rfl), rfl, ?_, ?_⟩, ?_⟩
    · intro b off hp
      have hin : MemPlace.cell b off ∈ before := by rw [hps]; simpa using hp
      rw [hb.frozen (hlt _ hin)]
      exact hz b off hin
    · intro ha
      have := hn ha
      rw [hps] at this
      simpa using this
    · intro p hp _
      rw [hps]
      simpa using hp
end
section
variable {H : Type} {enc : TypeId × Value → H} {P : Program} {W : World}
/-- an argument that is a slice of names, labels and places -/
theorem prm_of {r : Reach} {base : Nat} {t e : TypeId} {v : Value} {d : DataW H} {ps : List MemPlace} {f0 f1 f2 : Field} (ht : P.underlying t = some (.slice e)) (hce : P.cellsOf e = 3) (he : P.underlying e = some (.struct #[f0, f1, f2]))
    (o0 : f0.offset = 0) (o1 : f1.offset = 1) (o2 : f2.offset = 2) (u0 : P.underlying f0.type = some .string) (u1 : P.underlying f1.type = some .string) (u2 : P.underlying f2.type = some (.int .i64)) (n0 : P.cellsOf f0.type = 1) (n1 : P.cellsOf f1.type = 1) (n2 : P.cellsOf f2.type = 1)
    (hval : Value.okWide P W r base t v) (h : DataW.Trod enc P W 0 (fun _ => true) true t v d ps) (hz : ∀ b off, MemPlace.cell b off ∈ ps → W.frozen? ⟨b, off, none⟩ = false) : Go.Eng.Flat 3 Go.Eng.pval W v := by
  obtain ⟨a0, len, cap, rfl⟩ := okWide_slice ht hval
  obtain ⟨fuel, hf⟩ := h
  rcases Go.Deep.open_slice ht hf with ⟨hcs, _⟩ | ⟨a, len', cap', m, n, D, Pl, hcs, _, hle, _, hm, hx, hall⟩
  · simp [Value.cells] at hcs
    obtain ⟨rfl, rfl, rfl⟩ := hcs
    exact .inl rfl
  · simp [Value.cells] at hcs
    obtain ⟨rfl, rfl, rfl⟩ := hcs
    have hm : m = cap := by simpa using hm
    subst hm
    rw [hce] at hall hx
    have hcell : ∀ i, i < m → ∃ cs', cs'.length = 3 ∧ (∀ k, k < 3 → W.cell? ((a.add (i * 3)).add k) = cs'[k]?) ∧ DataW.trod enc P W 0 (fun _ => true) true n e cs' = some (D i, Pl i) := fun i hi => by
      obtain ⟨cs', k1, k2⟩ := hall i hi
      obtain ⟨_, k3, k4⟩ := World.cells?_some k1
      exact ⟨cs', k3, k4, k2⟩
    have hspot : 0 < m → a.spot = none ∧ a.block < W.heap.size := fun h0 => by
      obtain ⟨cs', l1, l2, _⟩ := hcell 0 h0
      have hc := l2 0 (by decide)
      rw [List.getElem?_eq_getElem (by omega)] at hc
      rw [Go.Deep.add_add] at hc
      have hs : a.spot = none := by simpa [Addr.add] using World.cell?_spot hc
      obtain ⟨o, ho, _⟩ := cells_of_cell hc
      have hb : (a.add (0 * 3 + 0)).block = a.block := by unfold Addr.add; split <;> rfl
      rw [hb] at ho
      exact ⟨hs, (Array.getElem?_eq_some_iff.1 ho).1⟩
    refine .inr ⟨a, len, m, rfl, hle, hspot, fun i hi => ?_⟩
    obtain ⟨hs, _⟩ := hspot (by omega)
    obtain ⟨b, o, sp⟩ := a
    cases hs
    obtain ⟨cs', l1, l2, l3⟩ := hcell i (by omega)
    obtain ⟨y0, y1, y2, q, _, _, t0, t1, t2⟩ := Go.Deep.trod_struct3 he l3
    rw [o0, n0] at t0
    rw [o1, n1] at t1
    rw [o2, n2] at t2
    obtain ⟨c0, c1, c2, rfl⟩ : ∃ c0 c1 c2, cs' = [c0, c1, c2] := by
      match cs', l1 with
      | [a, b, c], _ => exact ⟨a, b, c, rfl⟩
    obtain ⟨s0, e0, _, _⟩ := DataW.trod_string u0 t0
    obtain ⟨s1, e1, _, _⟩ := DataW.trod_string u1 t1
    obtain ⟨z2, e2, _, _⟩ := DataW.trod_int u2 t2
    simp at e0 e1 e2
    subst e0 e1 e2
    refine ⟨(s0.data.toList, s1.data.toList, z2), fun k hk => ?_⟩
    have hc := l2 k hk
    rw [Go.Deep.add_add, Go.Eng.addr_add] at hc
    have hfr : W.frozen? ⟨b, o + (i * 3 + k), none⟩ = false := by
      refine hz _ _ ?_
      simp only [Prod.mk.injEq] at hx
      rw [hx.2]
      refine List.mem_append_left _ ?_
      simp only [MemPlace.row, List.mem_map, List.mem_range]
      exact ⟨i * 3 + k, by omega, rfl⟩
    match k, hk with
    | 0, _ => exact ⟨_, rfl, by rw [hc]; rfl, hfr⟩
    | 1, _ => exact ⟨_, rfl, by rw [hc]; rfl, hfr⟩
    | 2, _ => exact ⟨_, rfl, by rw [hc]; rfl, hfr⟩
end
/-- the world holds the program's own variable -/
theorem shaped_heap {W : World} (h : W.ShapedOpen Try.prog) : 0 < W.heap.size := by
  obtain ⟨cs, hc, _⟩ := h.1 0 #[.int .i64 0] 3 (of_decide_eq_true (by kernel_rfl)) (by kernel_rfl)
  exact (Array.getElem?_eq_some_iff.1 hc).1
theorem laidOut : laidOutB Try.prog = true := by kernel_rfl
theorem readable22 : Try.prog.readableRec 22 = true := by kernel_rfl
theorem underlying22 : Try.prog.underlying 22 = some (.slice 46) := by kernel_rfl
theorem cellsOf46 : Try.prog.cellsOf 46 = 3 := by kernel_rfl
theorem rowed22 : 22 < Try.prog.types.size := of_decide_eq_true (by kernel_rfl)
theorem laid_met (os : Os) : laidMet Try.prog Rows.labelMakesRow.laid (((World.holding Try.prog os ⟨#[], #[], []⟩).forCall (fun _ _ => 0) ⟨#[], #[.slice none 0 0], []⟩).memory) :=
  laidMet_of_run' 8 (by kernel_rfl) (by kernel_rfl)
theorem reads (os : Os) {H : Type} (enc : TypeId × Value → H) : ∃ places, DataW.whole enc Try.prog ((World.holding Try.prog os ⟨#[], #[], []⟩).forCall (fun _ _ => 0) ⟨#[], #[.slice none 0 0], []⟩).memory Try.f3.params.toList Rows.labelMakesSpec.vars false (#[.slice none 0 0] : Array Value).toList 8 = some ([.nil], [], places) :=
  ⟨[], by kernel_rfl⟩
set_option maxRecDepth 100000 in
theorem contract (H : Type) (enc : TypeId × Value → H) (W : World) (base : Nat) (args : Array Value) (ds gs : List (DataW H)) (before : List MemPlace) (hw : 0 < W.heap.size)
    (hval : ∀ (j : Nat) t v, Try.f3.params[j]? = some t → args[j]? = some v → Value.okWide Try.prog W .any base t v)
    (hW : DataW.Whole enc Try.prog Try.f3.params.toList Rows.labelMakesSpec.vars false W args.toList ds gs before) :
    Calls Try.prog 3 args W fun e W' => ∃ v, e = .returned v ∧ Rows.labelMakesSpec.post enc Try.prog Try.f3 false true false false W args v W' := by
  have hW' := hW
  obtain ⟨p, q, hA0, hV, rfl, hfz, hnd⟩ := hW
  have hA : DataW.TrodAll enc Try.prog W 0 (fun _ => true) true Try.f3.params.toList args.toList ds p := hA0
  rw [Try.params3] at hA hval
  obtain ⟨v0, vs0, d0, ds0, p0, q0, hargs, rfl, rfl, h0, r0⟩ := trodAll_cons hA
  obtain ⟨rfl, rfl, rfl⟩ := trodAll_nil r0
  obtain rfl : args = #[v0] := by cases args; simp_all
  obtain ⟨rfl, rfl⟩ := trodVars_none hV
  have b0 := prm_of (f0 := ⟨ "Name", 9, 0, false, "", "", 0⟩) (f1 := ⟨ "Label", 9, 1, false, "", "", 16⟩) (f2 := ⟨ "At", 3, 2, false, "", "", 32⟩) underlying22 cellsOf46 (by kernel_rfl) rfl rfl rfl (by kernel_rfl) (by kernel_rfl) (by kernel_rfl) (by kernel_rfl) (by kernel_rfl) (by kernel_rfl) (hval 0 22 v0 rfl rfl) h0 (fun b off hp => hfz b off (by simp [hp]))
  clear hA0
  have hlt0 : ∀ x ∈ p0, x.block < W.heap.size := fun x hx => hW'.lt x (by simp [hx])
  refine (Go.Eng.Ytjgmahbgfbkhnaa.law3 hw b0).mono fun e W' ⟨he, hk⟩ => ?_
  subst he
  have hg : Below W.heap.size W W' := ⟨hk.os, hk.tape, hk.out, hk.size, hk.old⟩
  refine ⟨_, rfl, post_of_below (pa := (p0 ++ [])) (pv := []) hW' (fun _ _ _ => (trodAll_cons_mk (shut_bool Try.underlying4 _) trodAll_mk0)) (fun sp hsp => ?_) (fun _ _ => rfl) rfl
    hg (ok_one (by kernel_rfl) rfl (okWide_bool_mk Try.underlying4 _))⟩
  exact (trodAll_cons_mk (WideElems.Trod_stays laidOut readable22 rowed22 h0 (fun x hx => hg.same (hlt0 x hx)) (fun x hx => hsp x (by simp [hx]))) trodAll_mk0)
set_option maxRecDepth 100000 in
theorem lifted (os : Os) (started : os.Started) (H : Type) (enc : TypeId × Value → H) (F : Stop.Interp) :
    ReturnsInHanded {} Try.checked os 3 .any ((OpenSpec.ofChange Rows.labelMakesSpec).preRow enc Try.prog Try.f3 Rows.labelMakesRow.domain false Rows.labelMakesRow.laid) (((OpenSpec.ofChange Rows.labelMakesSpec).at F).post enc Try.prog Try.f3 false true false false) := by
  obtain ⟨places, hx⟩ := reads os enc
  refine returnsInHanded_of_row (C := Try.checked) (s := OpenSpec.ofChange Rows.labelMakesSpec) own started (by kernel_rfl) Try.func3
    (witness_row_at (enc := enc) (C := Try.checked) false (World.holding Try.prog os ⟨#[], #[], []⟩) #[.slice none 0 0] rfl (by kernel_rfl) (by kernel_rfl) (by kernel_rfl)
      (OpenSpec.preRow_of_cond 8 hx (by kernel_rfl) (fun k hk => by cases hk) (by kernel_rfl) (laid_met os))) ?_
  intro W base args ds gs before hval hW _ _ _ _ hS _
  exact contract H enc W base args ds gs before (shaped_heap hS) hval hW
theorem labelMakesHolds : Rows.LabelMakesSaid :=
  OpenClaim.holds_of_cond 3 Try.f3 rfl rfl rfl rfl rfl rfl rfl ⟨rfl, rfl, rfl, rfl, rfl⟩ rfl rfl rfl rfl rfl (by kernel_rfl) Try.func3 (by kernel_rfl)
    (of_decide_eq_true (by kernel_rfl)) (by unfold Func.isWrapper; first | (rw [if_pos (by decide +kernel)]; kernel_rfl) | (rw [if_neg (by decide +kernel)]; exact ⟨rfl, rfl⟩))
    (fun os started H enc _ F => by rw [OpenClaim.pre_eq_preRow]; exact lifted os started H enc F)
end Go.Proofs.Ytjgmahbgfbkhnaa.labelMakes
