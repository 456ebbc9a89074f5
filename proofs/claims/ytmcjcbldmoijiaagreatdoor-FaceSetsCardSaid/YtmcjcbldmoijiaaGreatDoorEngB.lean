/- Part of a proof of a law, by an evaluator that the machine follows: rules, contracts of functions, what they come to. No condition of its own. -/
import Derived.Test.YtmcjcbldmoijiaaGreatDoorEngA
import Derived.Laws.MakeOwn
import Derived.Great.BuildSlice
import Derived.Laws.AppendOwn
import Derived.Laws.CopyRow
import Derived.Tactics
import Derived.LoopN
import Derived.Orders
import Derived.Scope
set_option linter.unusedVariables false
set_option linter.unusedSimpArgs false
namespace Go.Eng
noncomputable section

theorem setRowsP_wf {r k : Nat} (hr : 0 < r) (vs : List V) (hv : vs.length = k * r) (hk : 0 ≤ k) : rowsWf r (k * r) (setRowsP r k 0 vs T.e) := by
  refine ⟨hr, Nat.zero_le _, fun i row hi hg => ?_⟩
  rw [setRowsP_get r k 0 vs T.e i (by omega) hi] at hg
  by_cases hc : 0 ≤ i ∧ i < 0 + k
  · rw [if_pos hc] at hg
    cases hg
    have h2 : (i + 1) * r ≤ k * r := Nat.mul_le_mul_right r (by omega)
    refine ⟨?_, h2⟩
    simp only [Nat.sub_zero, List.length_take, List.length_drop, hv]
    rw [Nat.add_mul] at h2; omega
  · rw [if_neg hc, T.get_e] at hg; cases hg
theorem setRowsP_cellOf {r k fam ap : Nat} (hr : 0 < r) (vs : List V) (hv : vs.length = k * r) (hk : 0 ≤ k) (j : Nat) : cellOf (.cells r fam ap (k * r) (setRowsP r k 0 vs T.e)) j = vs[j]? := by
  rw [cellOf_cells]
  by_cases hj : j < k * r
  · rw [if_pos hj, setRowsP_cell hr vs hv T.e (by omega) j (Nat.zero_le _), if_pos (by rw [Nat.zero_mul, Nat.zero_add]; exact ⟨Nat.zero_le _, hj⟩)]
    simp
  · rw [if_neg hj]; symm; rw [List.getElem?_eq_none_iff]; omega
theorem okSize_cells {r f a n : Nat} {t : T (List V)} (h : okSize (.cells r f a n t) = true) : 0 < r ∧ 0 ≤ n := by
  have h : (Nat.blt 0 r) = true := h
  rw [nblt] at h
  exact ⟨by simpa using h, Nat.zero_le _⟩
theorem okSize_rows {r f a k : Nat} {t : T (List V)} (h : okSize (.cells r f a (k * r) t) = true) : 0 < r ∧ 0 ≤ k := by
  exact ⟨(okSize_cells h).1, Nat.zero_le _⟩
theorem rep_succ' (n : Nat) (l : List V) : rep (n + 1) l = l ++ rep n l := by show appV l (rep n l) = _; rw [appV_eq]
theorem rep_length (n : Nat) (l : List V) : (rep n l).length = n * l.length := by
  induction n with
  | zero => simp; rfl
  | succ n ih => rw [rep_succ', List.length_append, ih, Nat.add_mul]; omega
theorem rep_get (l : List V) : ∀ (n j : Nat), j < n * l.length → (rep n l)[j]? = l[j % l.length]?
  | 0, j, h => by simp at h
  | n + 1, j, h => by
    rw [rep_succ']
    by_cases hj : j < l.length
    · rw [List.getElem?_append_left hj, Nat.mod_eq_of_lt hj]
    · rw [List.getElem?_append_right (by omega), rep_get l n (j - l.length) (by rw [Nat.add_mul] at h; omega), ← Nat.mod_eq_sub_mod (by omega)]

theorem made_get {z : Array Value} {n r : Nat} (hz : z.size = r) (hr : 0 < r) : ∀ j x, (madeCells z n)[j]? = some x → z[j % r]? = some x ∧ j < n := by
  intro j x h
  unfold madeCells at h
  rw [Array.getElem?_map, hz] at h
  by_cases hj : j < n
  · rw [Array.getElem?_range, if_pos hj] at h
    simp only [Option.map_some, Option.some.injEq] at h
    have hm := Nat.mod_lt j hr
    rw [getElem!_pos z (j % r) (by omega)] at h
    exact ⟨by rw [← h]; exact Array.getElem?_eq_getElem _, hj⟩
  · rw [Array.getElem?_eq_none (by simpa using hj)] at h; simp at h

/-- a machine block of its own for something new -/
structure NewRel (ι : Inj) (b : Nat) (w w' : World) (B : Blk) (ob : Obj) : Prop where
  c : B.c = w.heap.size
  fam : B.fam = b
  old : ∀ c, c < w.heap.size → w'.heap[c]? = w.heap[c]?
  size : w'.heap.size = w.heap.size + 1
  tape : w'.tape = w.tape
  os : w'.os = w.os
  out : w'.output = w.output
  rel : orel ι B ob w'
/-- the machine's operation makes something new, known as b -/
def GoalN (P : Program) (ι : Inj) (b : Nat) (w : World) (ρ : Operand → Value) (o : Oper) (ob : Obj) (v : V) : Prop :=
  ∃ v' w' B, (execOp ρ o).run P w = .ok (.value v') w' ∧ NewRel ι b w w' B ob ∧ vrel (ι.put b B) v v'
theorem NewRel.frame {ι : Inj} {b : Nat} {w w' : World} {B : Blk} {ob : Obj} (n : NewRel ι b w w' B ob) (h : Heap) : Frame' ι h w w' := Frame'.push n.old (by have := n.size; omega) n.tape n.os n.out
theorem NewRel.good {ι : Inj} {h : Heap} {w w' : World} {B : Blk} {ob : Obj} (n : NewRel ι h.next w w' B ob) (g : Good ι h w) (hf : ι h.next = none) (hl : 0 ≤ h.next) : Good (ι.put h.next B) (h.add ob) w' :=
  new_rel g hf hl n.c n.fam n.old n.size n.rel

section
variable {P : Program} {ι : Inj} {h : Heap} {w : World} {chk : Chk} {ev : Ev} {ρ : Operand → Value} {o : Oper} {ob : Obj} {v : V}

theorem alloc_old (w : World) (o : Go.Obj) : ∀ c, c < w.heap.size → (w.alloc o).heap[c]? = w.heap[c]? := by
  intro c hc; show (w.heap.push o)[c]? = _; rw [Array.getElem?_push, if_neg (by omega)]
theorem alloc_new (w : World) (o : Go.Obj) : (w.alloc o).heap[w.heap.size]? = some o := by
  show (w.heap.push o)[w.heap.size]? = _; rw [Array.getElem?_push, if_pos rfl]
theorem box_new (b : Nat) {row : List V} {cs : Array Value} {el : TypeId} (hr : vrels ι row cs.toList) (h1 : ∀ x ∈ cs.toList, x.oneCell' = true) :
    ∃ B, NewRel ι b w (w.alloc (.cells cs el)) B (.box row) ∧ vrel (ι.put b B) (.ptr b 0) (.pointer (some ⟨w.heap.size, 0, none⟩)) := by
  have hlen : cs.size = row.length := by simpa using hr.length
  refine ⟨⟨w.heap.size, 0, row.length, 0, 0, b, 0⟩, ⟨rfl, rfl, alloc_old w _, by simp, rfl, rfl, rfl, ?_⟩, ⟨_, Inj.put_same .., rfl⟩⟩
  refine ⟨cs, el, (0, 0), alloc_new w _, freeOk.b (.inl (Nat.le_refl _)) (by simp [sizeOf', hlen]), rfl, by simp [sizeOf', hlen], trivial, fun j v hj => ?_⟩
  obtain ⟨x, hx, hv⟩ := hr.get hj
  refine ⟨x, ?_, h1 x (List.mem_of_getElem? hx), hv⟩
  rw [← Array.getElem?_toList]; simpa using hx

/-- a row of cells, with room behind it -/
theorem row_new (b : Nat) {r k cap : Nat} (hr0 : 0 < r) (hk : 0 ≤ k) (hcap : k ≤ cap) {vs : List V} {cs more : List Value} {el : TypeId} {w' : World} {fr : Nat × Nat}
    (hv : vs.length = k * r) (hr : vrels ι vs cs) (h1 : ∀ x ∈ cs, x.oneCell' = true) (hsz : cs.length + more.length = cap * r)
    (hnew : w'.heap[w.heap.size]? = some (.cells (cs ++ more).toArray el fr)) (hfr : freeOk (cap * r) fr) :
    orel ι ⟨w.heap.size, 0, k * r, r, cap, b, 0⟩ (.cells r b 0 (k * r) (setRowsP r k 0 vs T.e)) w' := by
  have hcl : cs.length = k * r := hr.length.trans hv
  refine ⟨(cs ++ more).toArray, el, fr, hnew, freeOk.cells (by simpa [hsz] using hfr), rfl, ?_, ⟨rfl, rfl, rfl, by simp [hsz], setRowsP_wf hr0 vs hv hk⟩, fun j v hj => ?_⟩
  · simp [sizeOf', hcl]
  · rw [setRowsP_cellOf hr0 vs hv hk] at hj
    obtain ⟨x, hx, hv⟩ := hr.get hj
    refine ⟨x, ?_, h1 x (List.mem_of_getElem? hx), hv⟩
    have : j < cs.length := (List.getElem?_eq_some_iff.1 hx).1
    simp [List.getElem?_append_left this, hx]

theorem ln_alloc {cs : List V} (hok : okL P chk o.op (.alloc cs) = true) (he : light (.alloc cs) ev h = .new ob v) : GoalN P ι h.next w ρ o ob v := by
  have he : force h.next (fun b => LR.new (.box cs) (.ptr b 0)) = .new ob v := he
  rw [force_eq] at he
  cases he
  simp only [okL] at hok
  split at hok <;> rename_i hx
  · rename_i t
    obtain ⟨x, hz, hr, h1, _⟩ := zerosIs_rel (P := P) (w := w) (ι := ι) hok
    obtain ⟨B, b1, b2⟩ := box_new h.next (w := w) (el := t) hr h1
    exact ⟨_, _, B, by simp [execOp, hx, Instr.alloc, hz, newVar, newRow, Result.andThen], b1, b2⟩
  · cases hok

theorem ln_box (hop : ∀ x a, chk x a = true → vrel ι (ev a) (ρ x)) {n : Nat} {a : A} (hok : okL P chk o.op (.box n a) = true) (he : light (.box n a) ev h = .new ob v) : GoalN P ι h.next w ρ o ob v := by
  have he : force h.next (fun b => (Option.rec .bad (fun l => Bool.rec .bad (forceL l fun l => .new (.box l) (.ptr b 0)) ((lenV l).beq n)) (ev a).asCells : LR)) = .new ob v := he
  rw [force_eq] at he
  obtain ⟨l, hc, he⟩ := opt_ne (by simp) he
  obtain ⟨_, he⟩ := brec_ne (by simp) he
  rw [forceL_eq] at he
  cases he
  simp only [okL] at hok
  split at hok <;> rename_i hx
  · rename_i t x
    obtain ⟨hr, h1⟩ := asCells_rel hc (hop _ _ hok)
    obtain ⟨B, b1, b2⟩ := box_new h.next (w := w) (el := t) hr h1
    exact ⟨_, _, B, by simp [execOp, hx, Instr.box, newVar, newRow, Result.andThen], b1, b2⟩
  · cases hok

theorem ln_mkmap (hok : okL P chk o.op .mkmap = true) (he : light .mkmap ev h = .new ob v) : GoalN P ι h.next w ρ o ob v := by
  have he : force h.next (fun b => LR.new (.map [] 0) (.map b)) = .new ob v := he
  rw [force_eq] at he
  cases he
  simp only [okL] at hok
  split at hok <;> rename_i hx
  · refine ⟨.map (some w.heap.size), w.alloc (.map #[] 0), ⟨w.heap.size, 0, 0, 0, 0, h.next, 0⟩, by simp [execOp, hx, Instr.makeMap, Result.andThen], ⟨rfl, rfl, alloc_old w _, by simp, rfl, rfl, rfl, ⟨#[], alloc_new w _, rfl⟩⟩, ⟨_, Inj.put_same .., rfl⟩⟩
  · cases hok

theorem ln_mksl (hop : ∀ x a, chk x a = true → vrel ι (ev a) (ρ x)) {r bytes : Nat} {zero : List V} {l c : A} (hok : okL P chk o.op (.mksl r zero bytes l c) = true) (he : light (.mksl r zero bytes l c) ev h = .new ob v) (hsz : okSize ob = true) : GoalN P ι h.next w ρ o ob v := by
  have he : (match (ev l).asNat, (ev c).asNat with
    | some n, some m => force h.next fun b => bif n.ble m && (Nat.mul m bytes).ble 1099511627776 then setRows r m 0 (rep m zero) T.e fun t => .new (.cells r b 0 (Nat.mul m r) t) (.sl b 0 n (some m)) else .bad
    | _, _ => .bad) = LR.new ob v := he
  cases e1 : (ev l).asNat with
  | none => simp [e1] at he
  | some n =>
    cases e2 : (ev c).asNat with
    | none => simp [e1, e2] at he
    | some m =>
      simp only [e1, e2, force_eq, setRows_eq] at he
      obtain ⟨hb, he⟩ := bif_ne (by simp) he
      simp only [nble, Bool.and_eq_true, decide_eq_true_eq] at hb
      cases he
      obtain ⟨kl, hkl⟩ := asNat_some e1
      obtain ⟨kc, hkc⟩ := asNat_some e2
      simp only [okL] at hok
      split at hok
      · rename_i t l' c' hx
        simp only [Bool.and_eq_true, decide_eq_true_eq] at hok
        obtain ⟨hr0, h1, h2, hok⟩ := hok
        split at hok
        · rename_i el hu
          simp only [Bool.and_eq_true, decide_eq_true_eq] at hok
          obtain ⟨hs, hby, hz, hzl, hb0⟩ := hok
          have h1 := rel_int hop h1 hkl
          have h2 := rel_int hop h2 hkc
          obtain ⟨z, hzr, hzv, hz1, i, hi, hiz⟩ := zerosIs_rel (P := P) (w := w) (ι := ι) hz
          have hsz' : i.size = r := by simpa [sizeIs, hi] using hs
          have hby' : i.bytes = bytes := by simpa [bytesIs, hi] using hby
          obtain ⟨_, hm⟩ := okSize_rows (k := m) hsz
          have hrun := run_make (P := P) w t el i z hu hi hiz kl kc (Int.ofNat n) (Int.ofNat m) (Int.natCast_nonneg _) (by have := hb.1; simp; omega) (by
            have := hb.2; rw [hby']
            have e : ((bytes : Int) * Int.ofNat m) = ((m * bytes : Nat) : Int) := by simp [Int.mul_comm]
            rw [e]; simp at this ⊢; omega) (by have h3 := Nat.le_mul_of_pos_right m hb0; have h4 : m * bytes ≤ 1099511627776 := hb.2; simp; omega)
          have hzz : z.cells.size = r := by have := hzv.length; simpa [hzl] using this
          refine ⟨_, _, ⟨w.heap.size, 0, m * r, r, m, h.next, 0⟩, by simp only [execOp, hx, h1, h2, Sem.run_bind, hrun, Result.andThen]; rfl, ⟨rfl, rfl, alloc_old w _, by simp, rfl, rfl, rfl, ?_⟩, ?_⟩
          · have hcs : (madeCells z.cells (m * r)).size = m * r := size_madeCells _ _
            have hget := made_get (z := z.cells) (n := m * r) (r := r) hzz hr0
            refine row_new h.next (w := w) hr0 hm (Nat.le_refl _) (cs := (madeCells z.cells (m * r)).toList) (more := []) (el := el) (fr := (0, 0)) (by rw [rep_length, hzl]) ?_ ?_ (by simp [hcs]) ?_ (.inl (Nat.le_refl _))
            · refine vrels.of (by rw [rep_length, hzl]; simpa using hcs) fun j u x hu' hx' => ?_
              rw [Array.getElem?_toList] at hx'
              obtain ⟨g1, g2⟩ := hget j x hx'
              rw [rep_get zero m j (by rw [hzl]; exact g2), hzl] at hu'
              obtain ⟨x2, hx2, hv2⟩ := hzv.get hu'
              rw [Array.getElem?_toList, g1] at hx2
              cases hx2; exact hv2
            · intro x hx'
              obtain ⟨j, hj⟩ := List.mem_iff_getElem?.1 hx'
              rw [Array.getElem?_toList] at hj
              obtain ⟨g1, g2⟩ := hget j x hj
              exact hz1 x (List.mem_of_getElem? (by rw [Array.getElem?_toList]; exact g1))
            · rw [alloc_new]; simp [hsz']
          · refine ⟨_, _, _, Inj.put_same .., rfl, rfl, rfl, hb.1⟩
        · cases hok
      · cases hok
end
end
end Go.Eng
namespace Go.Eng
noncomputable section
section
variable {P : Program} {ι : Inj} {h : Heap} {w : World} {chk : Chk} {ev : Ev} {ρ : Operand → Value} {o : Oper} {ob : Obj} {v : V}

theorem freeze_new {w : World} {cs : Array Value} {el : TypeId} {c : Nat} : (w.alloc (.cells cs el)).freeze ⟨w.heap.size, c, none⟩ 1 = { w with heap := w.heap.push (.cells cs el (c, c + 1)) } := by
  unfold World.freeze World.alloc
  simp only [Nat.one_ne_zero, if_false]
  congr 1
  apply Array.ext_getElem?
  intro i
  rw [Array.getElem?_modify, Array.getElem?_push, Array.getElem?_push]
  by_cases h : i = w.heap.size
  · subst h; simp
  · rw [if_neg (fun e => h e.symm), if_neg h, if_neg h]
theorem run_sbytes {P : Program} {w : World} {sT dT el : TypeId} {s : ByteArray} {cap : Nat} (hs : P.underlying sT = some .string) (hd : P.underlying dT = some (.slice el)) (hel : P.underlying el = some (.int .u8))
  (hcap : (Question.appendCap s.size 0 el).cut (w.tape w.drawn (.appendCap s.size 0 el)) = cap) (hcap' : s.size ≤ cap) :
  (convert sT dT (.string s)).run P w = .ok (.slice (some ⟨w.heap.size, 0, none⟩) s.size cap) { w with drawn := w.drawn + 1, heap := w.heap.push (.cells ((s.data.map fun b => Value.int .u8 b.toNat) ++ Array.replicate (cap - s.size) (.int .u8 0)) el (cap, cap + 1)) } := by
  have hss : s.data.size = s.size := rfl
  simp only [convert, Sem.run_bind, run_underlying hs, run_underlying hd, run_underlying hel, Result.andThen, Conv.stringToBytes, run_choose, hcap]
  generalize hcs : (s.data.map fun b => Value.int .u8 b.toNat) ++ Array.replicate (cap - s.size) (.int .u8 0) = cs
  have hsz : cs.size = cap := by rw [← hcs]; simp only [Array.size_append, Array.size_map, Array.size_replicate]; omega
  have hsh : (w.drew.alloc (.cells cs el)).shape? w.heap.size = some (el, cap) := by
    have := alloc_new w.drew (.cells cs el)
    have e : w.drew.heap.size = w.heap.size := rfl
    rw [e] at this
    unfold World.shape?; rw [this]; simp [hsz]
  have hfz := freeze_new (w := w.drew) (cs := cs) (el := el) (c := cap)
  have e : w.drew.heap.size = w.heap.size := rfl
  rw [e] at hfz
  simp [Question.forced, Result.andThen, newRow, markStringish, hcs, hsh, hfz]
  exact ⟨rfl, rfl, rfl⟩

theorem made_rel {z : Array Value} {zero : List V} {r m : Nat} (hr0 : 0 < r) (hzl : zero.length = r) (hzv : vrels ι zero z.toList) (hz1 : ∀ x ∈ z.toList, x.oneCell' = true) :
    vrels ι (rep m zero) (madeCells z (m * r)).toList ∧ ∀ x ∈ (madeCells z (m * r)).toList, x.oneCell' = true := by
  have hzz : z.size = r := by have := hzv.length; simpa [hzl] using this
  have hcs : (madeCells z (m * r)).size = m * r := size_madeCells _ _
  have hget := made_get (z := z) (n := m * r) (r := r) hzz hr0
  constructor
  · refine vrels.of (by rw [rep_length, hzl]; simpa using hcs) fun j u x hu' hx' => ?_
    rw [Array.getElem?_toList] at hx'
    obtain ⟨g1, g2⟩ := hget j x hx'
    rw [rep_get zero m j (by rw [hzl]; exact g2), hzl] at hu'
    obtain ⟨x2, hx2, hv2⟩ := hzv.get hu'
    rw [Array.getElem?_toList, g1] at hx2
    cases hx2; exact hv2
  · intro x hx'
    obtain ⟨j, hj⟩ := List.mem_iff_getElem?.1 hx'
    rw [Array.getElem?_toList] at hj
    obtain ⟨g1, g2⟩ := hget j x hj
    exact hz1 x (List.mem_of_getElem? (by rw [Array.getElem?_toList]; exact g1))

theorem ln_bsl (hop : ∀ x a, chk x a = true → vrel ι (ev a) (ρ x)) {r n : Nat} {zero : List V} {ps : List (Nat × Nat × A)} (hok : okL P chk o.op (.bsl r n zero ps) = true) (he : light (.bsl r n zero ps) ev h = .new ob v) (hsz : okSize ob = true) : GoalN P ι h.next w ρ o ob v := by
  have he : force h.next (fun b => (Option.rec .bad (fun l => setRows r n 0 l T.e fun t => .new (.cells r b 0 (Nat.mul n r) t) (.sl b 0 n (some n))) (fill ps ev (rep n zero)) : LR)) = .new ob v := he
  rw [force_eq] at he
  obtain ⟨l, hfl, he⟩ := opt_ne (by simp) he
  rw [setRows_eq] at he
  cases he
  simp only [okL] at hok
  split at hok
  · rename_i t len parts hx
    simp only [Bool.and_eq_true, decide_eq_true_eq] at hok
    obtain ⟨rfl, hr0, hbig, hok⟩ := hok
    split at hok
    · rename_i el hu
      simp only [Bool.and_eq_true, decide_eq_true_eq] at hok
      obtain ⟨hs, hz, hzl, hp⟩ := hok
      obtain ⟨z, hzr, hzv, hz1, i, hi, hiz⟩ := zerosIs_rel (P := P) (w := w) (ι := ι) hz
      have hsz' : i.size = r := by simpa [sizeIs, hi] using hs
      obtain ⟨m1, m2⟩ := made_rel (m := len) hr0 hzl hzv hz1
      obtain ⟨ms, r1, r2, r3, r4⟩ := fill_rel (P := P) (ev := ev) hop (place' := fun i => some (i * r, r)) (fun i p h => h) parts.toList ps (rep len zero) l _ hp m1 m2 hfl
      rw [size_madeCells] at r4
      obtain ⟨_, hm⟩ := okSize_rows (k := len) hsz
      have hll : l.length = len * r := by have := r2.length; simp at this; omega
      have hrun : (Instr.buildSlice t len (parts.map fun (i, x) => (i, ρ x))).run P w = .ok (.slice (some ⟨w.heap.size, 0, none⟩) len len) (w.alloc (.cells ms el)) := by
        have hparts : (parts.map fun (i, x) => (i, ρ x)).toList = parts.toList.map fun p => (p.1, ρ p.2) := by rw [Array.toList_map]
        by_cases h0 : len * i.size = 0
        · have hl0 : len = 0 := by
            rw [hsz'] at h0
            rcases Nat.mul_eq_zero.1 h0 with h | h
            · exact h
            · omega
          subst hl0
          have e0 : (madeCells z.cells (0 * r)) = #[] := by simp [madeCells]
          rw [e0] at r1
          have e1 : (Array.map (fun x : Nat => (#[] : Array Value)[x % (#[] : Array Value).size]!) (Array.range (0 * r))) = #[] := by simp
          simp only [Instr.buildSlice, Sem.run_bind, run_underlying hu, Result.andThen, run_sizeOf w hi]
          simp [Program.cellsOf, hi, hsz', Array.range_zero', r1, newRow]
        · exact run_buildSlice w t el len _ ms i z hu hi hiz (by rw [hsz']; omega) h0 (by rw [hparts, hsz']; exact r1)
      refine ⟨_, _, ⟨w.heap.size, 0, len * r, r, len, h.next, 0⟩, by simp only [execOp, hx, Sem.run_bind, hrun, Result.andThen]; rfl, ⟨rfl, rfl, alloc_old w _, by simp, rfl, rfl, rfl, ?_⟩, ?_⟩
      · exact row_new h.next (w := w) hr0 hm (Nat.le_refl _) (cs := ms.toList) (more := []) (el := el) (fr := (0, 0)) hll r2 r3 (by simp [r4]) (by rw [alloc_new]; simp) (.inl (Nat.le_refl _))
      · exact ⟨_, _, _, Inj.put_same .., rfl, rfl, rfl, Nat.le_refl _⟩
    · cases hok
  · cases hok

theorem strCells_rel (l : List UInt8) : vrels ι (strCells (l.map (·.toNat))) (l.map fun b => Value.int .u8 b.toNat) := by
  induction l with
  | nil => rfl
  | cons b l ih =>
    refine ⟨_, _, rfl, ?_, ih⟩
    rw [natV_eq]; rfl

theorem ln_sbytes (hop : ∀ x a, chk x a = true → vrel ι (ev a) (ρ x)) {a : A} (hok : okL P chk o.op (.sbytes a) = true) (he : light (.sbytes a) ev h = .new ob v) (hsz : okSize ob = true) : GoalN P ι h.next w ρ o ob v := by
  have he : force h.next (fun b => (Option.rec .bad (fun x => setRows 1 x.1 0 (strCells (sBytes x.1 x.2)) T.e fun t => .new (.cells 1 b 0 x.1 t) (.sl b 0 x.1 none)) (ev a).asStr : LR)) = .new ob v := he
  rw [force_eq] at he
  obtain ⟨p, hp, he⟩ := opt_ne (by simp) he
  obtain ⟨n, x⟩ := p
  have hc : ev a = .str n x := by
    generalize ev a = va at hp
    cases va <;> first | (cases hp; done) | skip
    cases hp; rfl
  rw [setRows_eq] at he
  cases he
  simp only [okL] at hok
  split at hok
  · rename_i sT dT xo hx
    split at hok
    · rename_i el hs hd
      split at hok
      · rename_i hel
        obtain ⟨s, h1, rfl, rfl⟩ := rel_str hop hok hc
        rw [sBytes_eq] at *
        have hrel := strCells_rel (ι := ι) s.data.toList
        have hn1 : s.data.toList.length = s.data.toList.length * 1 := (Nat.mul_one _).symm
        have hsz2 : okSize (.cells 1 h.next 0 (s.data.toList.length * 1) (setRowsP 1 s.data.toList.length 0 (strCells (s.data.toList.map (·.toNat))) T.e)) = true := by rw [← hn1]; exact hsz
        obtain ⟨_, hm⟩ := okSize_rows hsz2
        have hvl : (strCells (s.data.toList.map (·.toNat))).length = s.data.toList.length * 1 := by
          have := hrel.length; simp at this; simp [this]
        generalize hcap : (Question.appendCap s.size 0 el).cut (w.tape w.drawn (.appendCap s.size 0 el)) = cap
        have hcap' : s.size ≤ cap := by rw [← hcap]; simp [Question.cut]
        have hssz := Go.Lib.size_eq s
        let cs : Array Value := (s.data.map fun b => Value.int .u8 b.toNat) ++ Array.replicate (cap - s.size) (.int .u8 0)
        have hcsz : cs.size = cap := by simp only [cs, Array.size_append, Array.size_map, Array.size_replicate]; have : s.data.size = s.size := rfl; omega
        let w1 : World := { w with drawn := w.drawn + 1, heap := w.heap.push (.cells cs el (cap, cap + 1)) }
        have hrun : (convert sT dT (.string s)).run P w = .ok (.slice (some ⟨w.heap.size, 0, none⟩) s.size cap) w1 := by
          exact run_sbytes hs hd hel hcap hcap'
        have hold : ∀ c, c < w.heap.size → w1.heap[c]? = w.heap[c]? := by
          intro c hc; show (w.heap.push _)[c]? = _; rw [Array.getElem?_push, if_neg (by omega)]
        have hnew : w1.heap[w.heap.size]? = some (.cells cs el (cap, cap + 1)) := by
          show (w.heap.push _)[w.heap.size]? = _; rw [Array.getElem?_push, if_pos rfl]
        have hws : w1.heap.size = w.heap.size + 1 := by show (w.heap.push _).size = _; simp
        have hgood := row_new h.next (w := w) (r := 1) (k := s.data.toList.length) (cap := cap) (by decide) hm (by omega) (cs := s.data.toList.map fun b => Value.int .u8 b.toNat) (more := List.replicate (cap - s.size) (.int .u8 0)) (el := el) (fr := (cap, cap + 1)) (w' := w1)
          hvl hrel (fun x hx => by obtain ⟨b, _, rfl⟩ := List.mem_map.1 hx; rfl) (by simp only [List.length_map, List.length_replicate]; omega) (by rw [hnew]; congr 2; simp [cs, ← Array.toList_inj]) (.inr (by omega))
        refine ⟨_, w1, _, by simp only [execOp, hx, h1, Sem.run_bind, hrun, Result.andThen]; rfl, ⟨rfl, rfl, hold, hws, rfl, rfl, rfl, by rw [← hn1] at hgood; exact hgood⟩, ?_⟩
        refine ⟨_, _, _, Inj.put_same .., by rw [hssz], ?_⟩
        exact ⟨by simp, by simp, by simp, by omega, .inl rfl⟩
      · cases hok
    · cases hok
  · cases hok
end
end
end Go.Eng
namespace Go.Eng
noncomputable section
section
variable {P : Program} {ι : Inj} {h : Heap} {w : World} {chk : Chk} {ev : Ev} {ρ : Operand → Value} {o : Oper} {ob : Obj} {v : V}

def isNew : OpL → Bool
  | .alloc .. | .box .. | .bsl .. | .sbytes .. | .mkmap | .mksl .. => true
  | _ => false

theorem ne_bad {o : Obj} {v : V} : LR.new o v ≠ .bad := by simp
theorem slF_new {b o n : Nat} {c : Option Nat} (h : slF b o n c = .new ob v) : False := by simp [slF] at h
theorem slTo_new {b o i j m r : Nat} (h : slTo b o i j m r = .new ob v) : False := by rw [slTo_eq] at h; cases h
theorem ssl1_new {r b o n : Nat} {cap : Option Nat} {i j : Nat} {mx : Option (Option Nat)} (he : ssl1 r b o n cap i j mx h = .new ob v) : False := by
  unfold ssl1 at he
  split at he
  · exact slTo_new (bif_ne ne_bad he).2
  · exact slTo_new (bif_ne ne_bad he).2
  · exact slTo_new (bif_ne ne_bad he).2
  · split at he
    · exact slF_new (bif_ne ne_bad he).2
    · cases he
  · cases he
theorem light_isNew {e : OpL} (he : light e ev h = .new ob v) : isNew e = true := by
  cases e <;> first | rfl | exfalso
  case mov => cases he
  case pick => obtain ⟨t, _, he⟩ := onBool_ne ne_bad he; cases t <;> cases he
  case build => obtain ⟨_, _, he⟩ := opt_ne ne_bad he; rw [forceL_eq] at he; cases he
  case load => obtain ⟨_, _, _, he⟩ := onPtr_ne ne_bad he; obtain ⟨_, _, he⟩ := of_ne ne_bad he; cases he
  case loadn => obtain ⟨_, _, _, he⟩ := onPtr_ne ne_bad he; obtain ⟨_, _, he⟩ := opt_ne ne_bad he; rw [forceL_eq] at he; cases he
  case nilck => obtain ⟨_, _, he⟩ := of_ne ne_bad he; cases he
  case bin => obtain ⟨_, _, _, he⟩ := onInt_ne ne_bad he; obtain ⟨_, _, _, he⟩ := onInt_ne ne_bad he; obtain ⟨_, he⟩ := brec_ne ne_bad he; obtain ⟨_, _, he⟩ := of_ne ne_bad he; cases he
  case bins => obtain ⟨_, _, _, he⟩ := onStr_ne ne_bad he; obtain ⟨_, _, _, he⟩ := onStr_ne ne_bad he; obtain ⟨_, _, he⟩ := of_ne ne_bad he; cases he
  case shf => obtain ⟨_, _, _, he⟩ := onInt_ne ne_bad he; obtain ⟨_, _, _, he⟩ := onInt_ne ne_bad he; obtain ⟨_, _, he⟩ := of_ne ne_bad he; cases he
  case eq => obtain ⟨_, _, he⟩ := opt_ne ne_bad he; cases he
  case neg => obtain ⟨_, _, _, he⟩ := onInt_ne ne_bad he; rw [wrapV_eq] at he; cases he
  case not => obtain ⟨_, _, he⟩ := onBool_ne ne_bad he; cases he
  case conv => obtain ⟨_, _, _, he⟩ := onInt_ne ne_bad he; cases he
  case bstr a =>
    have he : (match ev a with
          | .slN => .val (.str 0 0)
          | .sl b o n _ => Option.rec .bad (fun l => Option.rec .bad (fun x => .val (strV x.1 x.2)) (bytesOf l)) (h.load b o n)
          | _ => .bad) = LR.new ob v := he
    split at he
    · cases he
    · obtain ⟨_, _, he⟩ := opt_ne ne_bad he; obtain ⟨_, _, he⟩ := opt_ne ne_bad he; cases he
    · cases he
  case ifc => cases he
  case fn => cases he
  case sstr => obtain ⟨_, _, _, he⟩ := onStr_ne ne_bad he; obtain ⟨_, _, he⟩ := opt_ne ne_bad he; obtain ⟨_, _, he⟩ := opt_ne ne_bad he; obtain ⟨_, he⟩ := brec_ne ne_bad he; cases he
  case ssl r a lo hi mx =>
    have he : (match ev a with
        | .slN => match optNat hi ev 0, optNat lo ev 0, optNat mx ev 0 with
          | some 0, some 0, some 0 => .val .slN
          | _, _, _ => .bad
        | .sl b o n cap => match optNat hi ev n, optNat lo ev 0 with
          | some j, some i => ssl1 r b o n cap i j (Option.rec none (fun x => some (ev x).asNat) mx) h
          | _, _ => .bad
        | _ => .bad) = LR.new ob v := he
    split at he
    · split at he <;> cases he
    · split at he
      · exact ssl1_new he
      · cases he
    · cases he
  case sarr n r a lo hi mx =>
    have he : (match (ev a).asPtr with
    | some (b, o) => match optNat hi ev n, optNat lo ev 0, optNat mx ev n with
      | some j, some i, some m => bif i.ble j && (j.ble m && m.ble n) then slTo b o i j m r else .bad
      | _, _, _ => .bad
    | none => .bad) = LR.new ob v := he
    split at he
    · split at he
      · exact slTo_new (bif_ne ne_bad he).2
      · cases he
    · cases he
  case faddr => obtain ⟨_, _, _, he⟩ := onPtr_ne ne_bad he; rw [force_eq] at he; cases he
  case field off n ag a =>
    obtain ⟨_, _, he⟩ := onAgg_ne ne_bad he
    cases ag with
    | false => obtain ⟨_, _, he⟩ := of_ne ne_bad he; cases he
    | true => obtain ⟨_, he⟩ := brec_ne ne_bad he; rw [forceL_eq] at he; cases he
  case iaddr => obtain ⟨_, _, _, _, _, he⟩ := onSl_ne ne_bad he; obtain ⟨_, _, _, he⟩ := onNat_ne ne_bad he; obtain ⟨_, he⟩ := brec_ne ne_bad he; rw [force_eq] at he; cases he
  case iarr => obtain ⟨_, _, _, he⟩ := onPtr_ne ne_bad he; obtain ⟨_, _, _, he⟩ := onNat_ne ne_bad he; obtain ⟨_, he⟩ := brec_ne ne_bad he; rw [force_eq] at he; cases he
  case istr => obtain ⟨_, _, _, he⟩ := onStr_ne ne_bad he; obtain ⟨_, _, _, he⟩ := onNat_ne ne_bad he; obtain ⟨_, he⟩ := brec_ne ne_bad he; cases he
  case lookup q zero ok m k =>
    have he : (match ev m with
        | .mapN => .val (okV ok zero false)
        | .map b => Obj.map? .bad (fun es _ => lookup1 q zero ok (ev k) es) (h.obj b)
        | _ => .bad) = LR.new ob v := he
    split at he
    · cases he
    · obtain ⟨_, _, _, he⟩ := objMap_ne ne_bad he
      obtain ⟨r, _, he⟩ := opt_ne ne_bad he
      cases r <;> cases he
    · cases he
  case tassert t zero ok a =>
    have he : (match ev a with
        | .ifc u v => bif u.beq t then .val (okV ok v true) else bif ok then .val (.tup [zero, .bool false]) else .bad
        | .ifcN => bif ok then .val (.tup [zero, .bool false]) else .bad
        | _ => .bad) = LR.new ob v := he
    split at he
    · rename_i u y _
      cases hb : Nat.beq u t <;> simp [hb] at he
      cases ok <;> simp at he
    · cases ok <;> simp at he
    · cases he
  case ext => obtain ⟨_, _, he⟩ := onTup_ne ne_bad he; obtain ⟨_, _, he⟩ := of_ne ne_bad he; cases he
  case len str a =>
    cases str with
    | true => obtain ⟨_, _, _, he⟩ := onStr_ne ne_bad he; cases he
    | false => rcases onLen_ne ne_bad he with ⟨_, he⟩ | ⟨_, _, _, _, _, he⟩ <;> cases he
  case lenm a =>
    have he : (match ev a with
          | .mapN => .val (.int .i64 (.ofNat 0))
          | .map b => Obj.map? .bad (fun es _ => .val (natV .i64 es.length)) (h.obj b)
          | _ => .bad) = LR.new ob v := he
    split at he
    · cases he
    · obtain ⟨_, _, _, he⟩ := objMap_ne ne_bad he; cases he
    · cases he
  case cap a =>
    have he : (match ev a with
      | .slN => .val (.int .i64 (.ofNat 0))
      | .sl _ _ _ (some c) => .val (natV .i64 c)
      | _ => .bad) = LR.new ob v := he
    split at he <;> cases he
  case minmax mx a b =>
    have he : (match (ev a).asInt, (ev b).asInt with
      | some (kd, a), some (kf, b) => bif kEq kd kf then .val (.int kd (bif mx then (bif ilt a b then b else a) else (bif ilt b a then b else a))) else .bad
      | _, _ => .bad) = LR.new ob v := he
    split at he
    · have := (bif_ne ne_bad he).2; cases this
    · cases he

theorem light_val (g : Good ι h w) (hop : ∀ x a, chk x a = true → vrel ι (ev a) (ρ x)) {e : OpL} (hok : okL P chk o.op e = true) (he : light e ev h = .val v) : GoalV P ι w ρ o v := by
  cases e with
  | mov => exact lv_mov hop hok he
  | pick => exact lv_pick hop hok he
  | alloc cs => exfalso; have he : force h.next (fun b => LR.new (.box cs) (.ptr b 0)) = .val v := he; rw [force_eq] at he; cases he
  | box n a =>
    exfalso
    have he : force h.next (fun b => (Option.rec .bad (fun l => Bool.rec .bad (forceL l fun l => .new (.box l) (.ptr b 0)) ((lenV l).beq n)) (ev a).asCells : LR)) = .val v := he
    rw [force_eq] at he
    obtain ⟨l, hc, he⟩ := opt_ne (by simp) he
    obtain ⟨_, he⟩ := brec_ne (by simp) he
    rw [forceL_eq] at he
    cases he
  | build => exact lv_build hop hok he
  | bsl r n zero ps =>
    exfalso
    have he : force h.next (fun b => (Option.rec .bad (fun l => setRows r n 0 l T.e fun t => .new (.cells r b 0 (Nat.mul n r) t) (.sl b 0 n (some n))) (fill ps ev (rep n zero)) : LR)) = .val v := he
    rw [force_eq] at he
    obtain ⟨l, hfl, he⟩ := opt_ne (by simp) he
    rw [setRows_eq] at he
    cases he
  | load => exact lv_load g hop hok he
  | loadn => exact lv_loadn g hop hok he
  | nilck => exact lv_nilck hop hok he
  | bin => exact lv_bin hop hok he
  | bins => exact lv_bins hop hok he
  | shf => exact lv_shf hop hok he
  | eq => exact lv_eq hop hok he
  | neg => exact lv_neg hop hok he
  | not => exact lv_not hop hok he
  | conv => exact lv_conv hop hok he
  | sbytes a =>
    exfalso
    have he : force h.next (fun b => (Option.rec .bad (fun x => setRows 1 x.1 0 (strCells (sBytes x.1 x.2)) T.e fun t => .new (.cells 1 b 0 x.1 t) (.sl b 0 x.1 none)) (ev a).asStr : LR)) = .val v := he
    rw [force_eq] at he
    obtain ⟨p, hp, he⟩ := opt_ne (by simp) he
    rw [setRows_eq] at he
    cases he
  | bstr => exact lv_bstr g hop hok he
  | ifc => exact lv_ifc hop hok he
  | fn => exact lv_fn hop hok he
  | mkmap => exfalso; have he : force h.next (fun b => LR.new (.map [] 0) (.map b)) = .val v := he; rw [force_eq] at he; cases he
  | mksl r zero bytes l c =>
    exfalso
    have he : (match (ev l).asNat, (ev c).asNat with
    | some n, some m => force h.next fun b => bif n.ble m && (Nat.mul m bytes).ble 1099511627776 then setRows r m 0 (rep m zero) T.e fun t => .new (.cells r b 0 (Nat.mul m r) t) (.sl b 0 n (some m)) else .bad
    | _, _ => .bad) = LR.val v := he
    split at he
    · rw [force_eq] at he
      have := (bif_ne (by simp) he).2
      rw [setRows_eq] at this
      cases this
    · cases he
  | sstr => exact lv_sstr hop hok he
  | ssl => exact lv_ssl g hop hok he
  | sarr => exact lv_sarr hop hok he
  | faddr => exact lv_faddr hop hok he
  | field => exact lv_field hop hok he
  | iaddr => exact lv_iaddr hop hok he
  | iarr => exact lv_iarr hop hok he
  | istr => exact lv_istr hop hok he
  | lookup => exact lv_lookup g hop hok he
  | tassert => exact lv_tassert hop hok he
  | ext => exact lv_ext hop hok he
  | len => exact lv_len hop hok he
  | lenm => exact lv_lenm g hop hok he
  | cap => simp [okL] at hok
  | minmax => exact lv_minmax hop hok he

theorem light_new (hop : ∀ x a, chk x a = true → vrel ι (ev a) (ρ x)) {e : OpL} (hok : okL P chk o.op e = true) (he : light e ev h = .new ob v) (hsz : okSize ob = true) : GoalN P ι h.next w ρ o ob v := by
  have hn := light_isNew he
  cases e <;> first | (simp [isNew] at hn; done) | skip
  · exact ln_alloc hok he
  · exact ln_box hop hok he
  · exact ln_bsl hop hok he hsz
  · exact ln_sbytes hop hok he hsz
  · exact ln_mkmap hok he
  · exact ln_mksl hop hok he hsz
end
end
end Go.Eng
namespace Go.Eng
noncomputable section

/-! ### changes -/
def FreeIn (ι : Inj) (h h' : Heap) : Prop := ∀ b, h.next ≤ b → b < h'.next → ι b = none
/-- What is new of ours lies in new blocks of the machine, or in old ones of ours. -/
def Sep (ι : Inj) (h : Heap) (w : World) (ι' : Inj) : Prop :=
  ∀ b B', ι b = none → ι' b = some B' → w.heap.size ≤ B'.c ∨ ∃ b0 B0, 8 ≤ b0 ∧ b0 < h.next ∧ ι b0 = some B0 ∧ B0.c = B'.c
structure Chg (ι : Inj) (h : Heap) (w : World) (ι' : Inj) (h' : Heap) (w' : World) : Prop where
  good : Good ι' h' w'
  frame : Frame' ι h w w'
  ext : Ext h h' ι ι'
  sep : Sep ι h w ι'
theorem Sep.refl (ι : Inj) (h : Heap) (w : World) : Sep ι h w ι := fun b B a c => by rw [a] at c; cases c
theorem Chg.same {ι : Inj} {h h' : Heap} {w w' : World} (g : Good ι h' w') (f : Frame' ι h w w') (hn : h'.next = h.next) : Chg ι h w ι h' w' :=
  ⟨g, f, ⟨Inj.le.refl _, by omega, fun _ a b => absurd a b⟩, Sep.refl _ _ _⟩
theorem Chg.refl {ι : Inj} {h : Heap} {w : World} (g : Good ι h w) : Chg ι h w ι h w := Chg.same g (Frame'.refl _ _ _) rfl
theorem FreeIn.left {ι : Inj} {h h1 h2 : Heap} (f : FreeIn ι h h2) (hn : h1.next ≤ h2.next) : FreeIn ι h h1 := fun b a c => f b a (Nat.lt_of_lt_of_le c hn)
theorem FreeIn.right {ι ι1 : Inj} {h h1 h2 : Heap} (f : FreeIn ι h h2) (e : Ext h h1 ι ι1) : FreeIn ι1 h1 h2 := fun b a c => by
  have h0 := f b (Nat.le_trans e.2.1 a) c
  cases h1b : ι1 b with
  | none => rfl
  | some B => have := e.2.2 b h0 (by simp [h1b]); omega
theorem Chg.trans {ι ι1 ι2 : Inj} {h h1 h2 : Heap} {w w1 w2 : World} (a : Chg ι h w ι1 h1 w1) (b : Chg ι1 h1 w1 ι2 h2 w2) (hf : FreeIn ι h h1) : Chg ι h w ι2 h2 w2 := by
  refine ⟨b.good, ⟨fun c hc hn => ?_, Nat.le_trans a.frame.size b.frame.size, b.frame.tape.trans a.frame.tape, b.frame.os.trans a.frame.os, b.frame.out.trans a.frame.out⟩, a.ext.trans b.ext, fun x B' hx hx2 => ?_⟩
  · rw [b.frame.keep c (Nat.lt_of_lt_of_le hc a.frame.size) fun x B hB h8 hxn e => ?_, a.frame.keep c hc hn]
    cases hx : ι x with
    | some B0 =>
      have := a.ext.1 x B0 hx
      rw [hB] at this; cases this
      by_cases hlt : x < h.next
      · exact hn x B hx h8 hlt e
      · have := hf x (by omega) hxn; rw [hx] at this; cases this
    | none =>
      rcases a.sep x B hx hB with h1 | ⟨b0, B0, k8, k1, k2, k3⟩
      · omega
      · exact hn b0 B0 k2 k8 k1 (k3.trans e)
  · cases hx1 : ι1 x with
    | some B1 =>
      have := b.ext.1 x B1 hx1
      rw [hx2] at this; cases this
      exact a.sep x B' hx hx1
    | none =>
      rcases b.sep x B' hx1 hx2 with h1 | ⟨b0, B0, k8, k1, k2, k3⟩
      · left; exact Nat.le_trans a.frame.size h1
      · cases hb0 : ι b0 with
        | some B00 =>
          have := a.ext.1 b0 B00 hb0
          rw [k2] at this; cases this
          right
          refine ⟨b0, B0, k8, ?_, hb0, k3⟩
          by_cases hlt : b0 < h.next
          · exact hlt
          · have := hf b0 (by omega) k1; rw [hb0] at this; cases this
        | none =>
          rcases a.sep b0 B0 hb0 k2 with h1 | ⟨c0, C0, m8, m1, m2, m3⟩
          · left; omega
          · right; exact ⟨c0, C0, m8, m1, m2, m3.trans k3⟩
theorem NewRel.chg {ι : Inj} {h : Heap} {w w' : World} {B : Blk} {ob : Obj} (n : NewRel ι h.next w w' B ob) (g : Good ι h w) (hf : ι h.next = none) (hl : 0 ≤ h.next) : Chg ι h w (ι.put h.next B) (h.add ob) w' := by
  refine ⟨n.good g hf hl, n.frame h, Ext.put hf rfl, fun b B' hb hb' => ?_⟩
  by_cases e : b = h.next
  · subst e; rw [Inj.put_same] at hb'; cases hb'; left; rw [n.c]; exact Nat.le_refl _
  · rw [Inj.put_ne e, hb] at hb'; cases hb'

/-! ### which heavy operation -/
def okH (P : Program) (chk : Chk) (o : Go.Op) (e : OpH) : Bool :=
  match e with
  | .store n a x => (match o with | .store t a' x' => sizeIs P t n && (chk a' a && chk x' x) | _ => false)
  | .mupd q m k v => (match o with
    | .mapUpdate t m' k' v' => (match P.underlying t with | some (.map kt _) => (match P.underlying kt with | some d => kindFits q d | none => false) && (chk m' m && (chk k' k && chk v' v)) | _ => false)
    | .insert t m' k' v' => (match P.underlying t with | some (.map kt _) => (match P.underlying kt with | some d => kindFits q d | none => false) && (chk m' m && (chk k' k && chk v' v)) | _ => false)
    | _ => false)
  | .call f as => (match o with
    | .call { callee := .value (.func f'), args, .. } => decide (f' = f) && ((match P.funcs[f]? with | some fn => fn.name != "runtime.NumGoroutine" && fn.body.isSome | none => false) && chks chk args.toList as)
    | _ => false)
  | .callv x as => (match o with
    | .call { callee := .value y, args, .. } => chk y x && chks chk args.toList as
    | _ => false)
  | .append r bytes s x => (match o with
    | .call { callee := .builtin .append, args, argTypes, .. } => (match args.toList, argTypes[0]?, argTypes[1]? with
      | [s', x'], some t, some u => (match P.underlying t with
        | some (.slice el) => (match P.underlying u with | some .string => true | some (.slice _) => true | _ => false) && (sizeIs P el r && (bytesIs P el bytes && (decide (0 < r) && (decide (0 < bytes) && ((match P.info? el with | some i => (match i.zero with | some z => z.cells.size == r | none => false) | none => false) && (chk s' s && chk x' x))))))
        | _ => false)
      | _, _, _ => false)
    | _ => false)
  | .copy r d s => (match o with
    | .call { callee := .builtin .copy, args, argTypes, .. } => (match args.toList, argTypes[0]? with
      | [d', s'], some t => (match P.underlying t with | some (.slice el) => sizeIs P el r && (chk d' d && chk s' s) | _ => false)
      | _, _ => false)
    | _ => false)
  | .clear zero x => (match o with
    | .call { callee := .builtin .clear, args, argTypes, .. } => (match args.toList, argTypes[0]? with
      | [x'], some t => (match P.underlying t with | some (.slice el) => zerosIs P el zero && chk x' x | _ => false)
      | _, _ => false)
    | _ => false)
  | .recover => (match o with | .call { callee := .builtin .recover, .. } => true | _ => false)
  | .defer x as => (match o with | .defer { callee := .value y, args, .. } => chk y x && chks chk args.toList as | _ => false)
  | .panic x => (match o with | .panic x' => chk x' x | _ => false)

section
variable {P : Program} {ι : Inj} {h h' : Heap} {w : World} {chk : Chk} {ev : Ev} {ρ : Operand → Value} {o : Oper} {v : V} {call : CallT}

/-- the machine's operation changes what is there, and yields a value or nothing -/
def GoalH (P : Program) (ι : Inj) (h : Heap) (w : World) (ρ : Operand → Value) (o : Oper) (v : V) (h' : Heap) : Prop :=
  ∃ n v' ι' w', (execOp ρ o).run P w = .ok n w' ∧ (n = .value v' ∨ (n = .skip ∧ v' = undef)) ∧ Chg ι h w ι' h' w' ∧ vrel ι' v v'

theorem orOpt_ok {α : Type} {x : Option α} {f : α → OR} {r : OR} (hr : r ≠ .bad) (h : (Option.rec .bad f x : OR) = r) : ∃ y, x = some y ∧ f y = r := by
  cases x with
  | none => exact absurd h.symm hr
  | some y => exact ⟨y, rfl, h⟩
theorem orB_ok {x : Bool} {y r : OR} (hr : r ≠ .bad) (h : (Bool.rec .bad y x : OR) = r) : x = true ∧ y = r := by
  cases x with
  | false => exact absurd h.symm hr
  | true => exact ⟨rfl, h⟩
theorem orBif_ok {x : Bool} {y r : OR} (hr : r ≠ .bad) (h : (bif x then y else .bad) = r) : x = true ∧ y = r := by
  cases x with
  | false => exact absurd h.symm hr
  | true => exact ⟨rfl, h⟩
theorem okNe {v : V} {h : Heap} : OR.ok v h ≠ .bad := by simp
theorem undef_rel : vrel ι un undef := ⟨#[], rfl, rfl⟩

theorem Good.bLt {ι : Inj} {h : Heap} {w : World} (g : Good ι h w) {b : Nat} {B : Blk} (hB : ι b = some B) : 0 ≤ b := g.small b (by simp [hB])

theorem hv_store (g : Good ι h w) (hop : ∀ x a, chk x a = true → vrel ι (ev a) (ρ x)) {n : Nat} {a x : A} (hok : okH P chk o.op (.store n a x) = true) (he : heavy (.store n a x) call ev h = .ok v h') : GoalH P ι h w ρ o v h' := by
  have he : (Option.rec .bad (fun p => Option.rec .bad (fun l => Bool.rec .bad (h.storeC p.1 p.2 n l .bad fun h => .ok un h) ((lenV l).beq n)) (ev x).asCells) (ev a).asPtr : OR) = .ok v h' := he
  obtain ⟨⟨b, q⟩, hp, he⟩ := orOpt_ok okNe he
  obtain ⟨l, hl, he⟩ := orOpt_ok okNe he
  obtain ⟨hlen, he⟩ := orB_ok okNe he
  rw [nbeq, decide_eq_true_eq, lenV_eq] at hlen
  have hc : ev a = .ptr b q := by
    generalize ev a = va at hp
    cases va <;> first | (cases hp; done) | skip
    cases hp; rfl
  simp only [okH] at hok
  split at hok
  · rename_i t a' x' hx
    simp only [Bool.and_eq_true] at hok
    obtain ⟨hs, h1, h2⟩ := hok
    obtain ⟨B, hB, h1⟩ := rel_ptr hop h1 hc
    obtain ⟨hr, h1c⟩ := asCells_rel hl (hop _ _ h2)
    have he : h.storeC b q n l .bad (fun h => .ok un h) = OR.ok v h' := he
    rw [storeC_eq _ _ _ _ _ _ _ g.memLt (g.bLt hB)] at he
    cases hst : storeO h b q n l with
    | none => rw [hst] at he; cases he
    | some h1' =>
      rw [hst] at he
      cases he
      obtain ⟨w', k1, k2, k3, k4, _⟩ := store_rel (P := P) g hB hst hlen hr h1c
      have hsz : (ρ x').cells.size = n := by have := hr.length; simp at this; omega
      refine ⟨.skip, undef, ι, w', ?_, .inr ⟨rfl, rfl⟩, Chg.same k2 k3 k4, undef_rel⟩
      have hst : (storeVar t ⟨B.c, B.off + q, none⟩ (ρ x')).run P w = .ok () w' := by
        simp only [storeVar, Sem.run_bind, sizeIs_run w hs, Result.andThen, hsz, ne_eq, not_true, if_false, Sem.run_pure]
        simpa using k1
      simp [execOp, hx, Instr.storeAt, Instr.sureAddr, h1, hst, Result.andThen]
  · cases hok

theorem upd_cons (q : V → V → Option Bool) (k v : V) (clock : Nat) (e : Ent) (l : List Ent) : upd q k v clock (e :: l) = (match q k e.key with
  | none => none
  | some true => some (⟨k, v, e.born⟩ :: l, clock)
  | some false => match upd q k v clock l with | none => none | some x => some (e :: x.1, x.2)) := by
  show (Option.rec none (fun b => Bool.rec (Option.rec none (fun x => some (e :: x.1, x.2)) (upd q k v clock l)) (some (⟨k, v, e.born⟩ :: l, clock)) b) (q k e.key) : Option (List Ent × Nat)) = _
  cases q k e.key with
  | none => rfl
  | some b =>
    cases b with
    | true => rfl
    | false => cases upd q k v clock l <;> rfl
theorem upd_rel {q : Eq1} {d : TypeDesc} (hq : kindFits q d = true) {k u : V} {x y : Value} (hx : vrel ι k x) (hy : vrel ι u y) (clock : Nat) : ∀ (es : List Ent) (es' : List MapEntry) (i : Nat) (l : List Ent) (c : Nat),
    upd (eqKey q) k u clock es = some (l, c) → entsRel ι es es' →
      (Instr.findNow d x es' i = some none ∧ entsRel ι l (es' ++ [{ key := x, val := y, born := clock }]) ∧ c = clock + 1) ∨
      (∃ j z e, Instr.findNow d x es' i = some (some (i + j, z)) ∧ es'[j]? = some e ∧ Instr.sameNow d x e.key = some true ∧ entsRel ι l (es'.set j { e with key := x, val := y }) ∧ c = clock)
  | [], es', i, l, c, h, hr => by
    simp [entsRel] at hr; subst hr
    have h : some ([(⟨k, u, clock⟩ : Ent)], Nat.succ clock) = some (l, c) := h
    cases h
    exact .inl ⟨rfl, ⟨_, _, rfl, hx, hy, rfl, rfl⟩, rfl⟩
  | e :: es, es', i, l, c, h, hr => by
    obtain ⟨y', ys, rfl, h1, h2, h3, h4⟩ := hr
    rw [upd_cons] at h
    cases hk : eqKey q k e.key with
    | none => simp [hk] at h
    | some b =>
      have hs := sameNow_rel hq hk hx h1
      cases b with
      | true =>
        simp only [hk] at h
        cases h
        exact .inr ⟨0, y'.val, y', by simp [Instr.findNow, hs], rfl, hs, ⟨_, _, rfl, hx, hy, h3, h4⟩, rfl⟩
      | false =>
        simp only [hk] at h
        cases hu : upd (eqKey q) k u clock es with
        | none => simp [hu] at h
        | some p =>
          simp only [hu] at h
          cases h
          rcases upd_rel hq hx hy clock es ys (i + 1) p.1 p.2 hu h4 with ⟨a1, a2, a3⟩ | ⟨j, z, e', a1, a2, a3, a4, a5⟩
          · exact .inl ⟨by simp [Instr.findNow, hs, a1], ⟨_, _, rfl, h1, h2, h3, a2⟩, a3⟩
          · exact .inr ⟨j + 1, z, e', by simp [Instr.findNow, hs, a1]; omega, by simpa using a2, a3, ⟨_, _, rfl, h1, h2, h3, a4⟩, a5⟩

theorem putMap_rel (g : Good ι h w) {b : Nat} (h8 : 8 ≤ b) {B : Blk} (hB : ι b = some B) {es l : List Ent} {c c' : Nat} (hg : T.get b h.t = some (.map es c)) {es' : Array MapEntry} (hr : entsRel ι l es'.toList) :
    Chg ι h w ι ⟨T.set b (.map l c') h.t, h.next, h.fams, h.ds, h.pc⟩ { w with heap := w.heap.setIfInBounds B.c (.map es' c') } := by
  have hb := g.bLt hB
  have hbn := g.dom b hb (by simp [hg])
  have hin := g.inH b B hB
  have hso := g.solo b B _ hB hg hbn rfl
  have hfb : B.fam = b := by have := g.fam b B hB hbn; rw [hso] at this; exact this
  have hne : ∀ b' B', ι b' = some B' → b' < h.next → b' ≠ b → B'.c ≠ B.c := by
    intro b' B' hB' hbn' hne hc
    have hs := g.same b' B' b B hB' hB hbn' hbn h8 hc hne
    have hf := g.fam b' B' hB' hbn'
    rw [hs.1, hso, hfb] at hf
    exact hne hf.symm
  have hat : ∀ k, ({ w with heap := w.heap.setIfInBounds B.c (.map es' c') } : World).heap[k]? = if k = B.c then some (.map es' c') else w.heap[k]? := by
    intro k
    show (w.heap.setIfInBounds B.c (.map es' c'))[k]? = _
    rw [Array.getElem?_setIfInBounds]
    by_cases e : B.c = k
    · subst e; simp [hin]
    · rw [if_neg e, if_neg (fun x => e x.symm)]
  have hsz : ({ w with heap := w.heap.setIfInBounds B.c (.map es' c') } : World).heap.size = w.heap.size := by
    show (w.heap.setIfInBounds B.c (.map es' c')).size = _; simp
  have tget : ∀ x, 0 ≤ x → T.get x (T.set b (.map l c') h.t) = if x = b then some (.map l c') else T.get x h.t := fun x hx => T.get_set hx hb ..
  refine Chg.same ⟨?_, fun x B' hx => by rw [hsz]; exact g.inH x B' hx, g.same, g.fam, ?_, ?_, g.mem, g.lim, ?_, g.small, g.fdom, g.famLt⟩ ⟨fun k hk hn => ?_, by rw [hsz]; exact Nat.le_refl _, rfl, rfl, rfl⟩ rfl
  · intro x B' o' hx ho hxn
    have ho : T.get x (T.set b (.map l c') h.t) = some o' := ho
    rw [tget x (g.bLt hx)] at ho
    by_cases e : x = b
    · subst e
      rw [if_pos rfl] at ho; cases ho
      rw [hB] at hx; cases hx
      exact ⟨es', by rw [hat, if_pos rfl], hr⟩
    · rw [if_neg e] at ho
      exact (g.obj x B' o' hx ho hxn).world (by rw [hat, if_neg (hne x B' hx hxn e)])
  · intro x B' F o' hx hxn hF ho hic
    have ho : T.get x (T.set b (.map l c') h.t) = some o' := ho
    rw [tget x (g.bLt hx)] at ho
    by_cases e : x = b
    · rw [if_pos e] at ho; cases ho; simp [Obj.isCells] at hic
    · rw [if_neg e] at ho
      exact g.last x B' F o' hx hxn hF ho hic
  · intro x B' o' hx ho hxn hs
    have ho : T.get x (T.set b (.map l c') h.t) = some o' := ho
    rw [tget x (g.bLt hx)] at ho
    by_cases e : x = b
    · subst e; rw [hB] at hx; cases hx; exact hso
    · rw [if_neg e] at ho
      exact g.solo x B' o' hx ho hxn hs
  · intro x hx hne'
    have hne' : T.get x (T.set b (.map l c') h.t) ≠ none := hne'
    rw [tget x hx] at hne'
    by_cases e : x = b
    · subst e; exact hbn
    · rw [if_neg e] at hne'
      exact g.dom x hx hne'
  · rw [hat, if_neg (fun e => hn b B hB h8 hbn e.symm)]
end
end
end Go.Eng
namespace Go.Eng
noncomputable section
section
variable {P : Program} {ι : Inj} {h h' : Heap} {w : World} {chk : Chk} {ev : Ev} {ρ : Operand → Value} {o : Oper} {v : V} {call : CallT}

theorem setObj_run {r : Nat} {es : Array MapEntry} {c : Nat} {o : Go.Obj} (h : w.heap[r]? = some (.map es c)) : (setObj r o).run P w = .ok () { w with heap := w.heap.setIfInBounds r o } := by
  simp [setObj, Sem.run, h]
theorem stays_run {q : Eq1} {d : TypeDesc} (hq : kindFits q d = true) {x y : Value} (hs : Instr.sameNow d x y = some true) : (Instr.keyThatStays y x).run P w = .ok x w := by
  have : ∀ n, Instr.sameBits n y x = true := by
    intro n
    unfold Instr.sameNow at hs
    split at hs
    · split at hs
      · rename_i h; subst h; simp at hs; subst hs; simp [Instr.sameBits]
      · cases hs
    · simp only [Option.some.injEq] at hs
      rw [ba_beq, decide_eq_true_eq] at hs
      subst hs; simp only [Instr.sameBits]; rw [ba_beq]; simp
    · simp at hs; subst hs; simp [Instr.sameBits]
    · cases hs
  unfold Instr.keyThatStays
  rw [if_pos (this _)]; rfl
theorem modify_toList {es : Array MapEntry} {j : Nat} {e : MapEntry} {f : MapEntry → MapEntry} (h : es.toList[j]? = some e) : (es.modify j f).toList = es.toList.set j (f e) := by
  apply List.ext_getElem?
  intro i
  rw [Array.getElem?_toList, Array.getElem?_modify, List.getElem?_set]
  by_cases hij : j = i
  · subst hij
    rw [if_pos rfl, if_pos rfl, ← Array.getElem?_toList, h]
    have : j < es.toList.length := (List.getElem?_eq_some_iff.1 h).1
    simp at this; simp [this]
  · rw [if_neg hij, if_neg hij, Array.getElem?_toList]

theorem objMapO_ok {f : List Ent → Nat → OR} {b : Nat} {r : OR} (hr : r ≠ .bad) (he : Obj.map? .bad f (h.obj b) = r) : ∃ es c, T.get b h.t = some (.map es c) ∧ f es c = r := by
  unfold Heap.obj at he
  cases hg : T.get b h.t with
  | none => rw [hg] at he; exact absurd he.symm hr
  | some ob =>
    rw [hg] at he
    cases ob with
    | map es c => exact ⟨es, c, rfl, he⟩
    | _ => exact absurd he.symm hr

theorem mapUpdate_run {t kt et : TypeId} {d : TypeDesc} {q : Eq1} (hu : P.underlying t = some (.map kt et)) (hd : P.underlying kt = some d) (hq : kindFits q d = true) (g : Good ι h w) {b : Nat} (h8 : 8 ≤ b) {B : Blk} (hB : ι b = some B) {es l : List Ent} {c c' : Nat}
    (hg : T.get b h.t = some (.map es c)) {k u : V} {x y : Value} (hx : vrel ι k x) (hy : vrel ι u y) (hup : upd (eqKey q) k u c es = some (l, c')) :
    ∃ w', (Instr.mapUpdate t (.map (some B.c)) x y).run P w = .ok () w' ∧ Chg ι h w ι ⟨T.set b (.map l c') h.t, h.next, h.fams, h.ds, h.pc⟩ w' := by
  obtain ⟨es', hw, hr⟩ := map_rel g hB hg
  have hck : (Instr.checkKey false 10000 kt x).run P w = .ok () w := checkKey_ok hd hq false 9999 x
  rcases upd_rel hq hx hy c es es'.toList 0 l c' hup hr with ⟨a1, a2, rfl⟩ | ⟨j, z, e, a1, a2, a3, a4, rfl⟩
  · refine ⟨_, ?_, putMap_rel g h8 hB hg (es' := es'.push { key := x, val := y, born := c }) (c' := c + 1) (by simpa using a2)⟩
    simp only [Instr.mapUpdate, Sem.run_bind, run_underlying hu, getObj_run hw, hck, Instr.findKey, run_underlying hd, a1, Result.andThen, Sem.run_pure, setObj_run hw]
  · rw [Nat.zero_add] at a1
    have he : es'[j]? = some e := by rw [← Array.getElem?_toList]; exact a2
    refine ⟨_, ?_, putMap_rel g h8 hB hg (es' := es'.modify j fun e => { e with key := x, val := y }) (c' := c') (by rw [modify_toList a2]; exact a4)⟩
    simp only [Instr.mapUpdate, Sem.run_bind, run_underlying hu, getObj_run hw, hck, Instr.findKey, run_underlying hd, a1, Result.andThen, Sem.run_pure, he, Option.map_some, Option.getD_some, stays_run hq a3, setObj_run hw]

theorem hv_mupd (g : Good ι h w) (hop : ∀ x a, chk x a = true → vrel ι (ev a) (ρ x)) {q : Eq1} {m k u : A} (hok : okH P chk o.op (.mupd q m k u) = true) (he : heavy (.mupd q m k u) call ev h = .ok v h') : GoalH P ι h w ρ o v h' := by
  have he : (match ev m with
    | .map b => bif b.blt 8 then .bad else Obj.map? .bad (fun es c => Option.rec .bad (fun y => forceL y.1 fun l => force y.2 fun c => h.putC b (.map l c) fun h => .ok un h) ((ev k).force fun x => (ev u).force fun v => upd (eqKey q) x v c es)) (h.obj b)
    | _ => .bad) = OR.ok v h' := he
  generalize hm : ev m = vm at he
  cases vm <;> first | (cases he; done) | skip
  rename_i b
  by_cases h8 : b < 8
  · simp [h8, nblt] at he
  replace he : (bif b.blt 8 then .bad else Obj.map? .bad (fun es c => Option.rec .bad (fun y => forceL y.1 fun l => force y.2 fun c => h.putC b (.map l c) fun h => .ok un h) ((ev k).force fun x => (ev u).force fun v => upd (eqKey q) x v c es)) (h.obj b)) = OR.ok v h' := he
  rw [show b.blt 8 = false by rw [nblt]; simpa using h8] at he
  replace h8 : 8 ≤ b := by omega
  obtain ⟨es, c, hg, he⟩ := objMapO_ok okNe he
  obtain ⟨⟨l, c'⟩, hup, he⟩ := orOpt_ok okNe he
  rw [V.force_eq, V.force_eq] at hup
  simp only [forceL_eq, force_eq, putC_eq, OR.ok.injEq] at he
  obtain ⟨rfl, rfl⟩ := he
  have key : ∀ (t : TypeId) (m' k' u' : Operand), (match P.underlying t with | some (.map kt _) => (match P.underlying kt with | some d => kindFits q d | none => false) && (chk m' m && (chk k' k && chk u' u)) | _ => false) = true →
      ∃ w', (Instr.mapUpdate t (ρ m') (ρ k') (ρ u')).run P w = .ok () w' ∧ Chg ι h w ι ⟨T.set b (.map l c') h.t, h.next, h.fams, h.ds, h.pc⟩ w' := by
    intro t m' k' u' hok
    split at hok
    · rename_i kt et hu
      simp only [Bool.and_eq_true] at hok
      obtain ⟨hq, h1, h2, h3⟩ := hok
      cases hd : P.underlying kt with
      | none => simp [hd] at hq
      | some d =>
        simp only [hd] at hq
        have h1 := hop _ _ h1
        rw [hm] at h1
        obtain ⟨B, hB, h1⟩ := h1
        rw [h1]
        exact mapUpdate_run hu hd hq g h8 hB hg (hop _ _ h2) (hop _ _ h3) hup
    · cases hok
  simp only [okH] at hok
  split at hok
  · rename_i t m' k' u' hx
    obtain ⟨w', k1, k2⟩ := key t m' k' u' hok
    exact ⟨.skip, undef, ι, w', by simp [execOp, hx, k1, Result.andThen], .inr ⟨rfl, rfl⟩, k2, undef_rel⟩
  · rename_i t m' k' u' hx
    obtain ⟨w', k1, k2⟩ := key t m' k' u' hok
    exact ⟨.skip, undef, ι, w', by simp [execOp, hx, k1, Result.andThen], .inr ⟨rfl, rfl⟩, k2, undef_rel⟩
  · cases hok
end
end
end Go.Eng
namespace Go.Eng
noncomputable section
section
variable {P : Program} {ι : Inj} {h h' : Heap} {w : World} {chk : Chk} {ev : Ev} {ρ : Operand → Value} {o : Oper} {v : V} {call : CallT}

/-! ### append: what the machine does -/
structure NewC (P : Program) (w : World) (r m : Nat) (x : Value) (news : List Value) : Prop where
  len : ∀ w1, (Builtin.lenOf x).run P w1 = .ok m w1
  cells : ∀ w1, w1.heap = w.heap → (Builtin.firstCells r m x).run P w1 = .ok news.toArray w1

theorem cell_heap {w w1 : World} (h : w1.heap = w.heap) (a : Addr) : w1.cell? a = w.cell? a := by simp [World.cell?, h]

section
variable {t u ty el : TypeId} {i : TypeInfo} {z : Value} {du : TypeDesc} {args argTypes : Array TypeId}

theorem append_in {argTypes : Array TypeId} (ht : P.underlying t = some (.slice el)) (hu : P.underlying u = some du) (hdu : du = .string ∨ ∃ e, du = .slice e) (hi : P.info? el = some i) (h0 : argTypes[0]? = some t) (h1 : argTypes[1]? = some u)
    {y : Addr} {n c m : Nat} {x : Value} {news : List Value} (hx : NewC P w i.size m x news) (hc : n + m ≤ c) {w' : World} (hst : (storeCells (y.add (n * i.size)) news).run P w = .ok () w') :
    (Builtin.append_ argTypes ty #[.slice (some y) n c, x]).run P w = .ok (.slice (some y) (n + m) c) w' := by
  have hf := hx.cells w rfl
  have hl := hx.len w
  rcases hdu with rfl | ⟨e, rfl⟩ <;> simp [Builtin.append_, h0, h1, run_underlying ht, run_underlying hu, sizeOf, typeInfo, hi, hl, hc, hf, hst, Result.andThen]
theorem append_nil0 {argTypes : Array TypeId} (ht : P.underlying t = some (.slice el)) (hu : P.underlying u = some du) (hdu : du = .string ∨ ∃ e, du = .slice e) (hi : P.info? el = some i) (h0 : argTypes[0]? = some t) (h1 : argTypes[1]? = some u)
    {x : Value} (hx : NewC P w i.size 0 x []) :
    (Builtin.append_ argTypes ty #[.slice none 0 0, x]).run P w = .ok (.slice none 0 0) w := by
  have hf := hx.cells w rfl
  have hl := hx.len w
  rcases hdu with rfl | ⟨e, rfl⟩ <;> simp [Builtin.append_, h0, h1, run_underlying ht, run_underlying hu, sizeOf, typeInfo, hi, hl, hf, Result.andThen]
theorem append_grow {argTypes : Array TypeId} (ht : P.underlying t = some (.slice el)) (hu : P.underlying u = some du) (hdu : du = .string ∨ ∃ e, du = .slice e) (hi : P.info? el = some i) (hz : i.zero = some z) (h0 : argTypes[0]? = some t) (h1 : argTypes[1]? = some u)
    {base : Option Addr} {n c m : Nat} {x : Value} {olds news : List Value} (ho : ∀ w1, w1.heap = w.heap → (Builtin.firstCells i.size n (.slice base n c)).run P w1 = .ok olds.toArray w1) (hx : NewC P w i.size m x news)
    (hc : c < n + m) (hb : 0 < i.bytes) (hfit : (n + m) * i.bytes ≤ 1099511627776) :
    (Builtin.append_ argTypes ty #[.slice base n c, x]).run P w =
      .ok (.slice (some ⟨w.heap.size, 0, none⟩) (n + m) (grownCap w (n + m) c el)) (w.drew.alloc (.cells (olds ++ (news ++ (Builtin.zeroCells z.cells (grownCap w (n + m) c el - (n + m))).toList)).toArray el)) := by
  have hn : ¬ (n + m ≤ c) := by omega
  have hfit2 := growslice_fits (need := n + m) (old := c) (bytes := i.bytes) hc (by omega)
  have h48' : ¬ (281474976710656 < Builtin.nextslicecap (n + m) c * i.bytes) := by omega
  have hle : n + m ≤ 1099511627776 := Nat.le_trans (Nat.le_mul_of_pos_right _ hb) hfit
  have h63' : ¬ (9223372036854775807 < ((n : Int) + (m : Int))) := by omega
  have hf := hx.cells w.drew rfl
  have hfo := ho w.drew rfl
  have hl := hx.len w
  rcases hdu with rfl | ⟨e, rfl⟩
  all_goals
      (simp [Builtin.append_, h0, h1, run_underlying ht, run_underlying hu, sizeOf, typeInfo, zeroValue, hi, hz, hl, hn, h63', h48', Question.forced, hf, hfo, newRow, grownCap, Result.andThen]
       try (congr 2; apply Array.ext'; simp))
end

/-! ### what is appended -/
theorem firstCells_sl (g : Good ι h w) {b q n r : Nat} {B : Blk} {cap : Option Nat} {y : Addr} {c : Nat} (hB : ι b = some B) (hsl : slOk B q n cap y c) {l : List V} (hl : h.load b q (n * r) = some l) {m : Nat} (hm : m = n) :
    ∃ xs : List Value, vrels ι l xs ∧ (∀ x ∈ xs, x.oneCell' = true) ∧ xs.length = n * r ∧ ∀ w1 : World, w1.heap = w.heap → (Builtin.firstCells r m (.slice (some y) n c)).run P w1 = .ok xs.toArray w1 := by
  subst hm
  obtain ⟨xs, hlen, hvr, h1c, hcell⟩ := load_rel g hB hl
  refine ⟨xs, hvr, h1c, hlen, fun w1 hw1 => ?_⟩
  refine run_firstCells_some w1 r m y m c xs hlen fun j v hv => ?_
  rw [cell_heap hw1]
  have hpos : 0 < m := by
    rcases Nat.eq_zero_or_pos m with h0 | h0
    · subst h0
      rw [Nat.zero_mul] at hlen
      have : xs = [] := List.eq_nil_of_length_eq_zero hlen
      rw [this] at hv; simp at hv
    · exact h0
  rw [slOk_addr hsl hpos, addr_add]
  exact hcell j v hv

theorem firstCells_str (s : ByteArray) (m r : Nat) (hm : m = s.size) : NewC P w r m (.string s) (s.data.toList.map fun b => Value.int .u8 b.toNat) := by
  subst hm
  refine ⟨fun w1 => rfl, fun w1 _ => ?_⟩
  have hx : (s.extract 0 s.size).data = s.data := by
    apply Array.ext'
    rw [Go.Lib.extract_data, Go.Lib.size_eq, List.drop_zero, Nat.sub_zero, List.take_length]
  simp only [Builtin.firstCells, Sem.run_pure, hx]
  congr 1
  apply Array.ext'; simp
end
end
end Go.Eng
namespace Go.Eng
noncomputable section
section
variable {P : Program} {ι : Inj} {h h' : Heap} {w : World} {chk : Chk} {ev : Ev} {ρ : Operand → Value} {o : Oper} {v : V} {call : CallT}

theorem mk_ok {o : Obj} {x v : V} (he : mk h o x = .ok v h') : 0 ≤ h.next ∧ okSize o = true ∧ v = x ∧ h' = h.add o := by
  have he : (Bool.rec .bad (h.newC o fun h => .ok x h) (okSize o) : OR) = .ok v h' := he
  obtain ⟨h1, h2⟩ := orB_ok okNe he
  rw [newC_eq] at h2
  cases h2
  exact ⟨Nat.zero_le _, h1, rfl, rfl⟩

theorem drew_old (w : World) (o : Go.Obj) : ∀ c, c < w.heap.size → (w.drew.alloc o).heap[c]? = w.heap[c]? := alloc_old w.drew o

/-- A grown slice in a block of its own. -/
theorem fresh_chg (g : Good ι h w) (hf : ι h.next = none) (hl : 0 ≤ h.next) {r k cap : Nat} {vs : List V} {cs more : List Value} {el : TypeId} (hsz : okSize (.cells r h.next 0 (k * r) (setRowsP r k 0 vs T.e)) = true)
    (hv : vs.length = k * r) (hr : vrels ι vs cs) (h1 : ∀ x ∈ cs, x.oneCell' = true) (hcap : k ≤ cap) (hmore : cs.length + more.length = cap * r) :
    ∃ ι', Chg ι h w ι' (h.add (.cells r h.next 0 (k * r) (setRowsP r k 0 vs T.e))) (w.drew.alloc (.cells (cs ++ more).toArray el)) ∧
      vrel ι' (.sl h.next 0 k none) (.slice (some ⟨w.heap.size, 0, none⟩) k cap) := by
  obtain ⟨hr0, hk⟩ := okSize_rows hsz
  have hrow := row_new h.next (w := w) (w' := w.drew.alloc (.cells (cs ++ more).toArray el)) hr0 hk hcap (el := el) (fr := (0, 0)) hv hr h1 hmore (alloc_new w.drew _) (.inl (Nat.le_refl _))
  have hnr : NewRel ι h.next w (w.drew.alloc (.cells (cs ++ more).toArray el)) ⟨w.heap.size, 0, k * r, r, cap, h.next, 0⟩ (.cells r h.next 0 (k * r) (setRowsP r k 0 vs T.e)) :=
    ⟨rfl, rfl, drew_old w _, by show (w.heap.push _).size = _; simp, rfl, rfl, rfl, hrow⟩
  exact ⟨_, hnr.chg g hf hl, ⟨_, _, _, Inj.put_same .., rfl, by simp, by simp, hr0, hcap, .inl rfl⟩⟩

/-- the object of a slice that has grown out of b's -/
structure Child (r f ap q n m sz : Nat) (rows t : T (List V)) (new : List V) : Prop where
  wf : rowsWf r ((n + m) * r) t
  at_ : ∀ j v, cellOf (.cells r f (ap + q) ((n + m) * r) t) j = some v → (j < n * r ∧ cellOf (.cells r f ap sz rows) (q + j) = some v) ∨ (n * r ≤ j ∧ new[j - n * r]? = some v)

theorem child_in (g : Good ι h w) (hf : ι h.next = none) (hl : 0 ≤ h.next) {b : Nat} (h8 : 8 ≤ b) {B : Blk} (hB : ι b = some B) {r f ap sz : Nat} {rows t : T (List V)} (hob : T.get b h.t = some (.cells r f ap sz rows))
    {q n m : Nat} {new : List V} {xs : List Value} (hm : 0 < m) (hq : q % r = 0) (hn : q + n * r ≤ sz) (hch : Child r f ap q n m sz rows t new) (hr : vrels ι new xs) (h1 : ∀ x ∈ xs, x.oneCell' = true) (hlen : xs.length = m * r)
    (hroom : n + m ≤ B.cap - q / r) :
    ∃ w', (storeCells ⟨B.c, B.off + q + n * r, none⟩ xs).run P w = .ok () w' ∧
      Chg ι h w (ι.put h.next ⟨B.c, B.off + q, (n + m) * r, r, B.cap - q / r, f, ap + q⟩) ((grownP h b f ap sz (ap + q + n * r) (ap + q + (n + m) * r)).add (.cells r f (ap + q) ((n + m) * r) t)) w' := by
  have hb := g.bLt hB
  have hbn := g.dom b hb (by simp [hob])
  have hbrel := (g.obj b B _ hB hob hbn).cells rfl
  obtain ⟨cs, el, fr, e1, e2, e3, e4, e5, e6⟩ := hbrel
  replace e2 : freeOk cs.size fr := e2.ok rfl
  obtain ⟨s1, s2, s3, s4, s5⟩ := e5
  have e3 : B.n = sz := e3
  have e4 : B.off + sz ≤ cs.size := e4
  have hr0 : 0 < r := s5.1
  obtain ⟨d, hd⟩ : ∃ d, q = d * r := ⟨q / r, by have := Nat.div_add_mod q r; rw [hq, Nat.mul_comm] at this; omega⟩
  have hdq : q / r = d := by rw [hd, Nat.mul_div_cancel _ hr0]
  rw [hdq] at hroom ⊢
  have hend : B.off + q + (n + m) * r ≤ cs.size := by
    rw [s4]
    have : (d + (n + m)) * r ≤ B.cap * r := Nat.mul_le_mul_right r (by omega)
    rw [Nat.add_mul] at this; omega
  have hsplit : (n + m) * r = n * r + m * r := Nat.add_mul ..
  have hmr : 0 < m * r := Nat.mul_pos hm hr0
  have hk := grownP_ok g hB hbn hob hl (e := ap + q + n * r) (top := ap + q + (n + m) * r) (by omega)
  obtain ⟨cs', c1, c2, c3⟩ := setCells_row xs (B.off + q + n * r) w cs e1 (by omega)
  have hfar := setCells_far (g := B.c) xs (B.off + q + n * r) w
  have hsame := setCells_same B.c xs (B.off + q + n * r) w
  have hshare : ∀ b' B', ι b' = some B' → b' < h.next → B'.c = B.c → B'.fam = f ∧ B'.off + B.apos = B.off + B'.apos := by
    intro b' B' hB' hbn' hc
    by_cases e : b' = b
    · subst e; rw [hB] at hB'; cases hB'; exact ⟨s2, rfl⟩
    · have := g.same b' B' b B hB' hB hbn' hbn h8 hc e
      exact ⟨this.1.trans s2, by have := this.2; omega⟩
  refine ⟨w.setCells B.c (B.off + q + n * r) xs, ?_, ⟨?_, ⟨fun c hc hn' => hfar c fun e => hn' b B hB h8 hbn e.symm, by rw [hsame.2.2.2]; exact Nat.le_refl _, hsame.2.1, hsame.1, hsame.2.2.1⟩, ?_, ?_⟩⟩
  · have := run_storeCells_cells (P := P) B.c (B.off + q + n * r) xs 0 w (fun j hj => ?_) (fun j hj => ?_) h1
    · simpa using this
    · simp only [World.cell?, e1, Option.isSome_none, Bool.false_eq_true, if_false]
      rw [Array.getElem?_eq_getElem (by omega)]; rfl
    · simp only [World.frozen?, e1]
      rcases e2 with e2 | e2
      · simp; omega
      · simp; omega
  · refine child_rel g hk hf hl (by have := g.famLt b B hB hbn; omega) rfl rfl rfl (by omega) ?_ ?_ ?_ (by rw [hsame.2.2.2]; exact g.inH b B hB) (by rw [hsame.2.2.2]; exact Nat.le_refl _)
    · intro b' B' o' hB' ho' hbn'
      have hb' := g.bLt hB'
      rcases hk.at_ b' hb' with hat | ⟨hat, _⟩
      · have ho2 : T.get b' h.t = some o' := by rw [← hat]; exact ho'
        have hrel := g.obj b' B' o' hB' ho2 hbn'
        by_cases hc : B'.c = B.c
        · obtain ⟨x1, x2⟩ := hshare b' B' hB' hbn' hc
          have hns := hk.notSolo b' B' o' hB' hbn' x1 ho2
          cases o' with
          | box row => simp [Obj.solo] at hns
          | map es cl => simp [Obj.solo] at hns
          | dead => trivial
          | cells r' f' a' n' t' =>
            have hup := hk.upto b' B' _ hB' hbn' x1 ho' rfl
            obtain ⟨cs2, el2, fr2, d1, d2, d3, d4, d5, d6⟩ := hrel.cells rfl
            rw [hc, e1] at d1
            cases d1
            have d3 : B'.n = n' := d3
            refine ⟨cs', el, fr, by rw [hc]; exact c1, by rw [c2]; exact d2, d3, by rw [c2]; exact d4, by rw [c2]; exact d5, fun j v hj => ?_⟩
            obtain ⟨x, k1, k2, k3⟩ := d6 j v hj
            have hjn : j < n' := by
              rw [cellOf_cells] at hj
              by_cases hjn : j < n'
              · exact hjn
              · rw [if_neg hjn] at hj; cases hj
            refine ⟨x, ?_, k2, k3⟩
            rw [c3, if_neg (by omega)]; exact k1
        · exact hrel.world (hfar B'.c hc)
      · rw [hat] at ho'; cases ho'; trivial
    · refine ⟨cs', el, fr, c1, freeOk.cells (by rw [c2]; exact e2), rfl, ?_, ⟨rfl, rfl, rfl, ?_, hch.wf⟩, fun j v hj => ?_⟩
      · show B.off + q + (n + m) * r ≤ cs'.size; rw [c2]; exact hend
      · show cs'.size = B.off + q + (B.cap - d) * r
        rw [c2, s4, Nat.sub_mul, ← hd]
        have : d * r ≤ B.cap * r := Nat.mul_le_mul_right r (by omega)
        omega
      · show ∃ x, cs'[B.off + q + j]? = some x ∧ _
        rcases hch.at_ j v hj with ⟨a1, a2⟩ | ⟨a1, a2⟩
        · obtain ⟨x, k1, k2, k3⟩ := e6 (q + j) v a2
          refine ⟨x, ?_, k2, k3⟩
          rw [c3, if_neg (by omega), Nat.add_assoc]; exact k1
        · obtain ⟨x, k1, k2⟩ := hr.get a2
          have hjl : j - n * r < xs.length := (List.getElem?_eq_some_iff.1 k1).1
          refine ⟨x, ?_, h1 x (List.mem_of_getElem? k1), k2⟩
          rw [c3, if_pos (by omega), show B.off + q + j - (B.off + q + n * r) = j - n * r by omega]; exact k1
    · intro b' B' hB' hbn' hc
      obtain ⟨x1, x2⟩ := hshare b' B' hB' hbn' hc
      refine ⟨x1, ?_⟩
      show B'.off + (ap + q) = B.off + q + B'.apos
      omega
  · refine Ext.put hf ?_
    show (grownP h b f ap sz (ap + q + n * r) (ap + q + (n + m) * r)).next + 1 = _
    rw [hk.next]
  · intro x B' hx hx'
    by_cases e : x = h.next
    · subst e; rw [Inj.put_same] at hx'; cases hx'; right; exact ⟨b, B, h8, hbn, hB, rfl⟩
    · rw [Inj.put_ne e, hx] at hx'; cases hx'

theorem child_fresh (g : Good ι h w) (hf : ι h.next = none) (hl : 0 ≤ h.next) {b : Nat} {B : Blk} (hB : ι b = some B) {r f ap sz : Nat} {rows t : T (List V)} (hob : T.get b h.t = some (.cells r f ap sz rows))
    {q n m cap : Nat} {new : List V} {olds xs more : List Value} {el : TypeId} (hm : 0 < m) (hn : q + n * r ≤ sz) (hch : Child r f ap q n m sz rows t new) (hr : vrels ι new xs) (h1 : ∀ x ∈ xs, x.oneCell' = true) (hlen : xs.length = m * r)
    (ho : ∀ j, j < n * r → olds[j]? = w.cell? ⟨B.c, B.off + q + j, none⟩) (hol : olds.length = n * r) (hcap : n + m ≤ cap) (hmore : (olds ++ (xs ++ more)).length = cap * r) :
    Chg ι h w (ι.put h.next ⟨w.heap.size, 0, (n + m) * r, r, cap, f, ap + q⟩) ((grownP h b f ap sz (ap + q + n * r) (ap + q + (n + m) * r)).add (.cells r f (ap + q) ((n + m) * r) t)) (w.drew.alloc (.cells (olds ++ (xs ++ more)).toArray el)) := by
  have hb := g.bLt hB
  have hbn := g.dom b hb (by simp [hob])
  have hbrel := (g.obj b B _ hB hob hbn).cells rfl
  obtain ⟨cs, el', fr, e1, e2, e3, e4, e5, e6⟩ := hbrel
  obtain ⟨s1, s2, s3, s4, s5⟩ := e5
  have hr0 : 0 < r := s5.1
  have hsplit : (n + m) * r = n * r + m * r := Nat.add_mul ..
  have hmr : 0 < m * r := Nat.mul_pos hm hr0
  have hk := grownP_ok g hB hbn hob hl (e := ap + q + n * r) (top := ap + q + (n + m) * r) (by omega)
  have hold := drew_old w (.cells (olds ++ (xs ++ more)).toArray el)
  have hws : (w.drew.alloc (.cells (olds ++ (xs ++ more)).toArray el)).heap.size = w.heap.size + 1 := by show (w.heap.push _).size = _; simp
  refine ⟨?_, ⟨fun c hc _ => hold c hc, by omega, rfl, rfl, rfl⟩, ?_, ?_⟩
  · refine child_rel g hk hf hl (by have := g.famLt b B hB hbn; omega) rfl rfl rfl (by omega) ?_ ?_ ?_ (by rw [hws]; show w.heap.size < _; omega) (by omega)
    · intro b' B' o' hB' ho' hbn'
      have hb' := g.bLt hB'
      rcases hk.at_ b' hb' with hat | ⟨hat, _⟩
      · have ho2 : T.get b' h.t = some o' := by rw [← hat]; exact ho'
        exact (g.obj b' B' o' hB' ho2 hbn').world (hold _ (g.inH b' B' hB'))
      · rw [hat] at ho'; cases ho'; trivial
    · have hcapr : (n + m) * r ≤ cap * r := Nat.mul_le_mul_right r hcap
      refine ⟨(olds ++ (xs ++ more)).toArray, el, (0, 0), alloc_new w.drew _, freeOk.cells (.inl (Nat.le_refl _)), rfl, ?_, ⟨rfl, rfl, rfl, ?_, hch.wf⟩, fun j v hj => ?_⟩
      · show 0 + (n + m) * r ≤ (olds ++ (xs ++ more)).toArray.size
        rw [List.size_toArray, hmore]; omega
      · show (olds ++ (xs ++ more)).toArray.size = 0 + cap * r
        rw [List.size_toArray, hmore]; omega
      · show ∃ x, (olds ++ (xs ++ more)).toArray[0 + j]? = some x ∧ _
        rw [Nat.zero_add, List.getElem?_toArray]
        rcases hch.at_ j v hj with ⟨a1, a2⟩ | ⟨a1, a2⟩
        · obtain ⟨x, k1, k2, k3⟩ := e6 (q + j) v a2
          refine ⟨x, ?_, k2, k3⟩
          rw [List.getElem?_append_left (by omega), ho j a1]
          simp only [World.cell?, e1, Option.isSome_none, Bool.false_eq_true, if_false]
          rw [Nat.add_assoc]; exact k1
        · obtain ⟨x, k1, k2⟩ := hr.get a2
          have hjl : j - n * r < xs.length := (List.getElem?_eq_some_iff.1 k1).1
          refine ⟨x, ?_, h1 x (List.mem_of_getElem? k1), k2⟩
          rw [List.getElem?_append_right (by omega), hol, List.getElem?_append_left hjl]; exact k1
    · intro b' B' hB' hbn' hc
      have := g.inH b' B' hB'
      have hc : B'.c = w.heap.size := hc
      omega
  · refine Ext.put hf ?_
    show (grownP h b f ap sz (ap + q + n * r) (ap + q + (n + m) * r)).next + 1 = _
    rw [hk.next]
  · intro x B' hx hx'
    by_cases e : x = h.next
    · subst e; rw [Inj.put_same] at hx'; cases hx'; left; exact Nat.le_refl _
    · rw [Inj.put_ne e, hx] at hx'; cases hx'
end
end
end Go.Eng
namespace Go.Eng
noncomputable section
section
variable {P : Program} {ι : Inj} {h h' : Heap} {w : World} {chk : Chk} {ev : Ev} {ρ : Operand → Value} {o : Oper} {v : V} {call : CallT}

/-- facts on the types of an append -/
structure AppT (P : Program) (argTypes : Array TypeId) (r bytes : Nat) : Prop where
  ex : ∃ t u el du i z, argTypes[0]? = some t ∧ argTypes[1]? = some u ∧ P.underlying t = some (.slice el) ∧ P.underlying u = some du ∧ (du = .string ∨ ∃ e, du = .slice e) ∧
    P.info? el = some i ∧ i.zero = some z ∧ i.size = r ∧ i.bytes = bytes ∧ z.cells.size = r
  r0 : 0 < r
  b0 : 0 < bytes

def AppGoal (P : Program) (ι : Inj) (h : Heap) (w : World) (argTypes : Array TypeId) (ty : TypeId) (s x : Value) (v : V) (h' : Heap) : Prop :=
  ∃ v' ι' w', (Builtin.append_ argTypes ty #[s, x]).run P w = .ok v' w' ∧ Chg ι h w ι' h' w' ∧ vrel ι' v v'

theorem zeroCells_len (z : Array Value) (n r : Nat) (hz : z.size = r) : (Builtin.zeroCells z n).toList.length = n * r := by
  rw [Array.length_toList, size_zeroCells, hz]

theorem grow_fresh {argTypes : Array TypeId} {ty : TypeId} {r bytes : Nat} (ht : AppT P argTypes r bytes) (g : Good ι h w) (hf : ι h.next = none) (hl : 0 ≤ h.next) {base : Option Addr} {n c m : Nat} {x : Value} {old new : List V} {olds xs : List Value}
    (hx : NewC P w r m x xs) (ho : ∀ w1 : World, w1.heap = w.heap → (Builtin.firstCells r n (.slice base n c)).run P w1 = .ok olds.toArray w1) (hor : vrels ι old olds) (ho1 : ∀ x ∈ olds, x.oneCell' = true) (hol : olds.length = n * r)
    (hr : vrels ι new xs) (h1 : ∀ x ∈ xs, x.oneCell' = true) (hlen : xs.length = m * r) (hc : c < n + m) (hfit : (n + m) * bytes ≤ 1099511627776)
    (hsz : okSize (.cells r h.next 0 ((n + m) * r) (setRowsP r (n + m) 0 (old ++ new) T.e)) = true) :
    AppGoal P ι h w argTypes ty (.slice base n c) x (.sl h.next 0 (n + m) none) (h.add (.cells r h.next 0 ((n + m) * r) (setRowsP r (n + m) 0 (old ++ new) T.e))) := by
  obtain ⟨⟨t, u, el, du, i, z, a0, a1, hu1, hu2, hdu, hi, hz, rfl, rfl, hzs⟩, hr0, hb0⟩ := ht
  have hrun := append_grow (ty := ty) hu1 hu2 hdu hi hz a0 a1 ho hx hc hb0 hfit
  have hge := grownCap_ge w (n + m) c el
  obtain ⟨ι', k1, k2⟩ := fresh_chg g hf hl (vs := old ++ new) (cs := olds ++ xs) (more := (Builtin.zeroCells z.cells (grownCap w (n + m) c el - (n + m))).toList) (el := el) hsz
    (by rw [List.length_append, ← hor.length, ← hr.length, hol, hlen, Nat.add_mul]) (hor.append hr) (fun y hy => by
      rcases List.mem_append.1 hy with h | h
      · exact ho1 y h
      · exact h1 y h) hge
    (by rw [zeroCells_len _ _ _ hzs, List.length_append, hol, hlen, ← Nat.add_mul, ← Nat.add_mul]; congr 1; omega)
  rw [List.append_assoc] at k1
  exact ⟨_, ι', _, hrun, k1, k2⟩

theorem store_in {argTypes : Array TypeId} {ty : TypeId} {r bytes : Nat} (ht : AppT P argTypes r bytes) (g : Good ι h w) {b : Nat} {B : Blk} (hB : ι b = some B) {q n c m : Nat} {x : Value} {new : List V} {xs : List Value}
    (hx : NewC P w r m x xs) (hr : vrels ι new xs) (h1 : ∀ x ∈ xs, x.oneCell' = true) (hlen : xs.length = m * r) (hc : n + m ≤ c)
    (hs : h.storeC b (q + n * r) (m * r) new .bad (fun h => OR.ok v h) = .ok v h') :
    ∃ w', (Builtin.append_ argTypes ty #[.slice (some ⟨B.c, B.off + q, none⟩) n c, x]).run P w = .ok (.slice (some ⟨B.c, B.off + q, none⟩) (n + m) c) w' ∧ Chg ι h w ι h' w' := by
  obtain ⟨⟨t, u, el, du, i, z, a0, a1, hu1, hu2, hdu, hi, hz, rfl, rfl, hzs⟩, hr0, hb0⟩ := ht
  rw [storeC_eq _ _ _ _ _ _ _ g.memLt (g.bLt hB)] at hs
  cases hst : storeO h b (q + n * i.size) (m * i.size) new with
  | none => rw [hst] at hs; cases hs
  | some h1' =>
    rw [hst] at hs
    cases hs
    obtain ⟨w', k1, k2, k3, k4, _⟩ := store_rel (P := P) g hB hst (by rw [← hr.length]; exact hlen) hr h1
    refine ⟨w', append_in hu1 hu2 hdu hi a0 a1 hx hc ?_, Chg.same k2 k3 k4⟩
    rw [addr_add, Nat.add_assoc]; exact k1

theorem storeC_un {x y : V} {b q n : Nat} {l : List V} (g : Good ι h w) {B : Blk} (hB : ι b = some B) (hs : h.storeC b q n l .bad (fun h => OR.ok x h) = .ok y h') : y = x := by
  rw [storeC_eq _ _ _ _ _ _ _ g.memLt (g.bLt hB)] at hs
  cases hst : storeO h b q n l with
  | none => rw [hst] at hs; cases hs
  | some h1' => rw [hst] at hs; cases hs; rfl

theorem cellsO_ok {f : Nat → Nat → Nat → Nat → T (List V) → OR} {b : Nat} {r : OR} (hr : r ≠ .bad) (he : Obj.cells? .bad f (h.obj b) = r) : ∃ a1 a2 a3 a4 a5, T.get b h.t = some (.cells a1 a2 a3 a4 a5) ∧ f a1 a2 a3 a4 a5 = r := by
  unfold Heap.obj at he
  cases hg : T.get b h.t with
  | none => rw [hg] at he; exact absurd he.symm hr
  | some ob =>
    rw [hg] at he
    cases ob with
    | cells => exact ⟨_, _, _, _, _, rfl, he⟩
    | _ => exact absurd he.symm hr

/-- rows of b with new ones behind -/
theorem child_rows {r f ap n m sz : Nat} {rows : T (List V)} {new : List V} (hw : rowsWf r sz rows) (hn : n * r ≤ sz) (hg : sz < (n + m) * r) (hnm : 0 ≤ n + m) (hnew : new.length = m * r) :
    Child r f ap 0 n m sz rows (setRowsP r m n new rows) new := by
  obtain ⟨hr0, hsz, hrows⟩ := hw
  have hsplit : (n + m) * r = n * r + m * r := Nat.add_mul ..
  have hle : 0 ≤ (n + m) * r := Nat.zero_le _
  refine ⟨⟨hr0, hle, fun i row hi hgi => ?_⟩, fun j v hj => ?_⟩
  · rw [setRowsP_get r m n new rows i hnm hi] at hgi
    by_cases hc : n ≤ i ∧ i < n + m
    · rw [if_pos hc] at hgi
      cases hgi
      have h2 : (i + 1) * r ≤ (n + m) * r := Nat.mul_le_mul_right r (by omega)
      have h3 : (i - n + 1) * r ≤ m * r := Nat.mul_le_mul_right r (by omega)
      refine ⟨?_, h2⟩
      simp only [List.length_take, List.length_drop, hnew]
      rw [Nat.add_mul] at h3; omega
    · rw [if_neg hc] at hgi
      obtain ⟨k1, k2⟩ := hrows i row hi hgi
      exact ⟨k1, by omega⟩
  · rw [cellOf_cells] at hj
    by_cases hjn : j < (n + m) * r
    · rw [if_pos hjn, setRowsP_cell hr0 new hnew rows hnm j (by omega)] at hj
      by_cases hc : n * r ≤ j ∧ j < (n + m) * r
      · rw [if_pos hc] at hj; exact .inr ⟨hc.1, hj⟩
      · rw [if_neg hc] at hj
        refine .inl ⟨by omega, ?_⟩
        rw [cellOf_cells, if_pos (by omega), Nat.zero_add]; exact hj
    · rw [if_neg hjn] at hj; cases hj

theorem child_new {r f ap q n m sz : Nat} {rows : T (List V)} {old new : List V} (hw : rowsWf r sz rows) (hq : q % r = 0) (hn : q + n * r ≤ sz) (hnm : 0 ≤ n + m) (hold : getRows rows n (q / r) = some old) (hnew : new.length = m * r) :
    Child r f ap q n m sz rows (setRowsP r (n + m) 0 (old ++ new) T.e) new := by
  have hr0 := hw.1
  obtain ⟨d, hd⟩ : ∃ d, q = d * r := ⟨q / r, by have := Nat.div_add_mod q r; rw [hq, Nat.mul_comm] at this; omega⟩
  have hdq : q / r = d := by rw [hd, Nat.mul_div_cancel _ hr0]
  rw [hdq] at hold
  have hle : 0 ≤ d + n := Nat.zero_le _
  obtain ⟨g1, g2⟩ := getRows_spec hw n d old hle hold
  have hsplit : (n + m) * r = n * r + m * r := Nat.add_mul ..
  have hlen : (old ++ new).length = (n + m) * r := by rw [List.length_append, g1, hnew, hsplit]
  refine ⟨setRowsP_wf hr0 _ hlen hnm, fun j v hj => ?_⟩
  rw [setRowsP_cellOf hr0 _ hlen hnm] at hj
  by_cases hjn : j < n * r
  · refine .inl ⟨hjn, ?_⟩
    rw [List.getElem?_append_left (by omega)] at hj
    have hdm := Nat.div_add_mod j r
    have hml := Nat.mod_lt j hr0
    have hqd : j / r < n := Nat.div_lt_of_lt_mul (by rw [Nat.mul_comm]; exact hjn)
    have := g2 (j / r) (j % r) hqd hml
    rw [Nat.mul_comm (j / r) r, hdm, hj] at this
    rw [cellOf_cells, if_pos (by omega)]
    unfold rowCell
    obtain ⟨x1, x2⟩ := divmod (r := r) (q := d + j / r) (c := j % r) (x := q + j) hml (by rw [Nat.mul_add, hd, Nat.mul_comm d r]; omega)
    rw [x1, x2]; exact this.symm
  · refine .inr ⟨by omega, ?_⟩
    rw [List.getElem?_append_right (by omega), g1] at hj
    exact hj
end
end
end Go.Eng
namespace Go.Eng
noncomputable section
section
variable {P : Program} {ι : Inj} {h h' : Heap} {w : World} {chk : Chk} {ev : Ev} {ρ : Operand → Value} {o : Oper} {v : V} {call : CallT}

theorem mk_next {hg : Heap} {o : Obj} {x : V} (he : mk hg o x = .ok v h') : h'.next = hg.next + 1 := by
  obtain ⟨_, _, _, rfl⟩ := mk_ok he; rfl

theorem append1_rel {argTypes : Array TypeId} {ty : TypeId} {r bytes : Nat} (ht : AppT P argTypes r bytes) (g : Good ι h w) (hfree : FreeIn ι h h') {b : Nat} {B : Blk} (hB : ι b = some B) {q n c m : Nat} {cap : Option Nat} {y : Addr} (hsl : slOk B q n cap y c) {x : Value} {new : List V} {xs : List Value}
    (hx : NewC P w r m x xs) (hr : vrels ι new xs) (h1 : ∀ x ∈ xs, x.oneCell' = true) (hlen : xs.length = m * r) (hm : 0 < m) (he : append1 h r bytes b q n cap new m = .ok v h') :
    AppGoal P ι h w argTypes ty (.slice (some y) n c) x v h' := by
  have hr0 := ht.r0
  have hnl : new.length = m * r := by rw [← hr.length]; exact hlen
  unfold append1 at he
  simp only [force_eq] at he
  obtain ⟨hcond, he⟩ := orBif_ok okNe he
  rw [Bool.and_eq_true] at hcond
  have h8 : 8 ≤ b := Nat.le_of_ble_eq_true hcond.2
  replace hcond := hcond.1
  rw [nble, decide_eq_true_eq] at hcond
  have hl : 0 ≤ h.next := Nat.zero_le _
  have hfit : (n + m) * bytes ≤ 1099511627776 := hcond
  cases cap with
  | some k =>
    obtain ⟨rfl, rfl, hnk⟩ := hsl
    have he : (bif (Nat.add n m).ble c then h.storeC b (Nat.add q (Nat.mul n r)) (Nat.mul m r) new .bad fun h => .ok (.sl b q (Nat.add n m) (some c)) h
        else Option.rec .bad (fun old => setRows r (Nat.add n m) 0 (appV old new) T.e fun t => mk h (.cells r h.next 0 (Nat.mul (Nat.add n m) r) t) (.sl h.next 0 (Nat.add n m) none)) (h.load b q (Nat.mul n r))) = OR.ok v h' := he
    rw [nble] at he
    by_cases hc : n + m ≤ c
    · have hd : decide (Nat.add n m ≤ c) = true := by simpa using hc
      rw [hd, cond_true] at he
      have hv := storeC_un g hB he
      subst hv
      obtain ⟨w', k1, k2⟩ := store_in (ty := ty) ht g hB hx hr h1 hlen hc he
      exact ⟨_, ι, w', k1, k2, ⟨B, _, _, hB, rfl, rfl, rfl, hc⟩⟩
    · have hd : decide (Nat.add n m ≤ c) = false := by simpa using hc
      rw [hd, cond_false] at he
      obtain ⟨old, hold, he⟩ := orOpt_ok okNe he
      rw [setRows_eq, appV_eq] at he
      obtain ⟨_, hsz, rfl, rfl⟩ := mk_ok he
      obtain ⟨olds, o1, o2, o3, o4⟩ := firstCells_sl (P := P) g hB (y := ⟨B.c, B.off + q, none⟩) (c := c) (cap := some c) ⟨rfl, rfl, hnk⟩ hold rfl
      exact grow_fresh ht g (hfree _ (Nat.le_refl _) (Nat.lt_succ_self _)) hl hx o4 o1 o2 o3 hr h1 hlen (by omega) hfit hsz
  | none =>
    obtain ⟨r', f, ap, sz, rows, hob, he⟩ := cellsO_ok okNe he
    obtain ⟨hcond2, he⟩ := orBif_ok okNe he
    rw [Bool.and_eq_true, nbeq, nbeq, decide_eq_true_eq, decide_eq_true_eq] at hcond2
    obtain ⟨rfl, hq⟩ := hcond2
    have hq : q % r' = 0 := hq
    have hb := g.bLt hB
    have hbn := g.dom b hb (by simp [hob])
    obtain ⟨cs, el', fr, e1, e2, e3, e4, e5, e6⟩ := (g.obj b B _ hB hob hbn).cells rfl
    obtain ⟨s1, s2, s3, s4, s5⟩ := e5
    subst s1
    have e4 : B.off + sz ≤ cs.size := e4
    obtain ⟨d, hd⟩ : ∃ d, q = d * B.r := ⟨q / B.r, by have := Nat.div_add_mod q B.r; rw [hq, Nat.mul_comm] at this; omega⟩
    have hdq : q / B.r = d := by rw [hd, Nat.mul_div_cancel _ hr0]
    have hsplit : (n + m) * B.r = n * B.r + m * B.r := Nat.add_mul ..
    have hmr : 0 < m * B.r := Nat.mul_pos hm hr0
    obtain ⟨hc1, _, _, hc4, hc5⟩ := hsl
    rw [hdq] at hc1
    have hsl' : slOk B q n none y c := ⟨by rw [hdq]; exact hc1, hq, hr0, hc4, hc5⟩
    rw [nble] at he
    by_cases hin : q + (n + m) * B.r ≤ sz
    · have hdd : decide (Nat.add q (Nat.mul (Nat.add n m) B.r) ≤ sz) = true := by simpa using hin
      rw [hdd, cond_true] at he
      have hv := storeC_un g hB he
      subst hv
      have hroom : n + m ≤ c := by
        have : (d + (n + m)) * B.r ≤ B.cap * B.r := by rw [Nat.add_mul, ← hd]; omega
        have := Nat.le_of_mul_le_mul_right this hr0
        omega
      have hy : y = ⟨B.c, B.off + q, none⟩ := by
        rcases hc5 with h | h
        · exact h
        · omega
      subst hy
      obtain ⟨w', k1, k2⟩ := store_in (ty := ty) ht g hB hx hr h1 hlen hroom he
      exact ⟨_, ι, w', k1, k2, ⟨B, _, _, hB, rfl, by rw [hdq]; exact hc1, hq, hr0, hroom, .inl rfl⟩⟩
    · have hdd : decide (Nat.add q (Nat.mul (Nat.add n m) B.r) ≤ sz) = false := by simpa using hin
      rw [hdd, cond_false] at he
      obtain ⟨hn, he⟩ := orBif_ok okNe he
      rw [nble, decide_eq_true_eq] at hn
      have hn : q + n * B.r ≤ sz := hn
      rw [grown_eq h b f ap sz _ _ _ (fun F m a c => g.memLt f F m a c) hl] at he
      have hgn : (grownP h b f ap sz (ap + q + n * B.r) (ap + q + (n + m) * B.r)).next = h.next := (grownP_ok g hB hbn hob hl (by omega)).next
      -- the object made
      have hobj : ∃ t, Child B.r f ap q n m sz rows t new ∧ v = .sl h.next 0 (n + m) none ∧ h' = (grownP h b f ap sz (ap + q + n * B.r) (ap + q + (n + m) * B.r)).add (.cells B.r f (ap + q) ((n + m) * B.r) t) := by
        have he : (bif q.beq 0 then setRows B.r m n new rows fun t => mk (grownP h b f ap sz (ap + q + n * B.r) (ap + q + (n + m) * B.r)) (.cells B.r f ap (Nat.mul (Nat.add n m) B.r) t) (.sl h.next 0 (Nat.add n m) none)
              else Option.rec .bad (fun old => setRows B.r (Nat.add n m) 0 (appV old new) T.e fun t => mk (grownP h b f ap sz (ap + q + n * B.r) (ap + q + (n + m) * B.r)) (.cells B.r f (ap + q) (Nat.mul (Nat.add n m) B.r) t) (.sl h.next 0 (Nat.add n m) none)) (getRows rows n (q.div B.r))) = OR.ok v h' := he
        rw [nbeq] at he
        by_cases hq0 : q = 0
        · simp only [hq0, decide_true, cond_true, setRows_eq] at he
          obtain ⟨_, hsz, rfl, rfl⟩ := mk_ok he
          obtain ⟨_, hnm⟩ := okSize_rows (k := n + m) hsz
          subst hq0
          exact ⟨_, child_rows s5 (by omega) (by omega) hnm hnl, rfl, rfl⟩
        · simp only [hq0, decide_false, cond_false] at he
          obtain ⟨old, hold, he⟩ := orOpt_ok okNe he
          rw [setRows_eq, appV_eq] at he
          obtain ⟨_, hsz, rfl, rfl⟩ := mk_ok he
          obtain ⟨_, hnm⟩ := okSize_rows (k := n + m) hsz
          exact ⟨_, child_new s5 hq hn hnm hold hnl, rfl, rfl⟩
      obtain ⟨t, hch, rfl, rfl⟩ := hobj
      have hf : ι h.next = none := hfree _ (Nat.le_refl _) (by show h.next < (grownP h b f ap sz (ap + q + n * B.r) (ap + q + (n + m) * B.r)).next + 1; omega)
      by_cases hroom : n + m ≤ c
      · have hy : y = ⟨B.c, B.off + q, none⟩ := by
          rcases hc5 with h | h
          · exact h
          · omega
        subst hy
        obtain ⟨w', k1, k2⟩ := child_in (P := P) g hf hl h8 hB hob hm hq hn hch hr h1 hlen (by rw [hdq]; omega)
        obtain ⟨⟨t', u, el, du, i, z, a0, a1, hu1, hu2, hdu, hi, hz, hir, hib, hzs⟩, _, _⟩ := ht
        refine ⟨_, _, w', append_in hu1 hu2 hdu hi a0 a1 (by rw [hir]; exact hx) hroom (by rw [addr_add, hir]; exact k1), k2, ?_⟩
        exact ⟨_, _, _, Inj.put_same .., rfl, by simp [hdq, hc1], by simp, hr0, hroom, .inl rfl⟩
      · obtain ⟨⟨t', u, el, du, i, z, a0, a1, hu1, hu2, hdu, hi, hz, hir, hib, hzs⟩, _, hb0⟩ := ht
        have hge := grownCap_ge w (n + m) c el
        have hcells : ∀ j, j < n * B.r → (cs.extract (B.off + q) (B.off + q + n * B.r)).toList[j]? = w.cell? ⟨B.c, B.off + q + j, none⟩ := by
          intro j hj
          rw [Array.getElem?_toList, Array.getElem?_extract, if_pos (by omega)]
          simp only [World.cell?, e1, Option.isSome_none, Bool.false_eq_true, if_false]
        have hol : (cs.extract (B.off + q) (B.off + q + n * B.r)).toList.length = n * B.r := by
          rw [Array.length_toList, Array.size_extract]; omega
        have ho : ∀ w1 : World, w1.heap = w.heap → (Builtin.firstCells i.size n (.slice (some y) n c)).run P w1 = .ok (cs.extract (B.off + q) (B.off + q + n * B.r)).toList.toArray w1 := by
          intro w1 hw1
          rw [hir]
          refine run_firstCells_some w1 B.r n y n c _ hol fun j v hv => ?_
          have hj : j < n * B.r := by rw [← hol]; exact (List.getElem?_eq_some_iff.1 hv).1
          have hpos : 0 < n := by
            rcases Nat.eq_zero_or_pos n with h0 | h0
            · subst h0; simp at hj
            · exact h0
          rw [cell_heap hw1, slOk_addr hsl' hpos, addr_add, ← hcells j hj]
          exact hv
        have hrun := append_grow (ty := ty) hu1 hu2 hdu hi hz a0 a1 ho (by rw [hir]; exact hx) (by omega) (by rw [hib]; exact hb0) (by rw [hib]; exact hfit)
        have hchg := child_fresh g hf hl hB hob hm hn hch hr h1 hlen hcells hol hge (el := el) (more := (Builtin.zeroCells z.cells (grownCap w (n + m) c el - (n + m))).toList)
          (by rw [List.length_append, List.length_append, zeroCells_len _ _ _ hzs, hol, hlen, ← Nat.add_mul, ← Nat.add_mul]; congr 1; omega)
        exact ⟨_, _, _, hrun, hchg, ⟨_, _, _, Inj.put_same .., rfl, by simp, by simp, hr0, hge, .inl rfl⟩⟩

theorem appendTo_rel {argTypes : Array TypeId} {ty : TypeId} {r bytes : Nat} (ht : AppT P argTypes r bytes) (g : Good ι h w) (hfree : FreeIn ι h h') {s : V} {s' : Value} (hs : vrel ι s s') {m : Nat} {x : Value} {new : List V} {xs : List Value}
    (hx : NewC P w r m x xs) (hr : vrels ι new xs) (h1 : ∀ x ∈ xs, x.oneCell' = true) (hlen : xs.length = m * r) (he : appendTo h r bytes s new m = .ok v h') :
    AppGoal P ι h w argTypes ty s' x v h' := by
  have hr0 := ht.r0
  have hnl : new.length = m * r := by rw [← hr.length]; exact hlen
  unfold appendTo at he
  split at he
  · have hs : s' = .slice none 0 0 := hs
    subst hs
    rw [nbeq] at he
    by_cases hm : m = 0
    · subst hm
      simp only [decide_true, cond_true, OR.ok.injEq] at he
      obtain ⟨rfl, rfl⟩ := he
      have : xs = [] := List.eq_nil_of_length_eq_zero (by simpa using hlen)
      subst this
      obtain ⟨⟨t', u, el, du, i, z, a0, a1, hu1, hu2, hdu, hi, hz, rfl, hib, hzs⟩, _, _⟩ := ht
      exact ⟨_, ι, w, append_nil0 hu1 hu2 hdu hi a0 a1 hx, Chg.refl g, rfl⟩
    · simp only [hm, decide_false, cond_false] at he
      obtain ⟨hfit, he⟩ := orBif_ok okNe he
      rw [nble, decide_eq_true_eq] at hfit
      rw [force_eq, setRows_eq] at he
      obtain ⟨hl, hsz, rfl, rfl⟩ := mk_ok he
      have := grow_fresh (P := P) (ty := ty) ht g (hfree _ (Nat.le_refl _) (Nat.lt_succ_self _)) hl (base := none) (n := 0) (c := 0) (old := []) (new := new) (olds := []) hx (fun w1 _ => run_firstCells_none w1 r 0 0 0) rfl (by simp) (by simp) hr h1 hlen (by omega) (by simpa using hfit) (by simpa using hsz)
      simpa using this
  · rename_i b q n cap
    obtain ⟨B, y, c, hB, rfl, hsl⟩ := hs
    rw [nbeq] at he
    by_cases hm : m = 0
    · subst hm
      simp only [decide_true, cond_true, OR.ok.injEq] at he
      obtain ⟨rfl, rfl⟩ := he
      have : xs = [] := List.eq_nil_of_length_eq_zero (by simpa using hlen)
      subst this
      obtain ⟨⟨t', u, el, du, i, z, a0, a1, hu1, hu2, hdu, hi, hz, rfl, hib, hzs⟩, _, _⟩ := ht
      have hnc : n + 0 ≤ c := by
        cases cap with
        | some k => obtain ⟨rfl, _, h3⟩ := hsl; exact h3
        | none => exact hsl.2.2.2.1
      exact ⟨_, ι, w, append_in hu1 hu2 hdu hi a0 a1 hx hnc rfl, Chg.refl g, ⟨B, y, c, hB, rfl, hsl⟩⟩
    · simp only [hm, decide_false, cond_false] at he
      exact append1_rel ht g hfree hB hsl hx hr h1 hlen (by omega) he
  · cases he
end
end
end Go.Eng
namespace Go.Eng
noncomputable section
section
variable {P : Program} {ι : Inj} {h h' : Heap} {w : World} {chk : Chk} {ev : Ev} {ρ : Operand → Value} {o : Oper} {v : V} {call : CallT}

theorem hv_append (g : Good ι h w) (hfree : FreeIn ι h h') (hop : ∀ x a, chk x a = true → vrel ι (ev a) (ρ x)) {r bytes : Nat} {s x : A} (hok : okH P chk o.op (.append r bytes s x) = true) (he : heavy (.append r bytes s x) call ev h = .ok v h') : GoalH P ι h w ρ o v h' := by
  have he : (match ev x with
    | .slN => appendTo h r bytes (ev s) [] 0
    | .sl b o m _ => Option.rec .bad (fun new => appendTo h r bytes (ev s) new m) (h.load b o (Nat.mul m r))
    | .str m a => bif r.beq 1 then appendTo h r bytes (ev s) (strCells (sBytes m a)) m else .bad
    | _ => .bad) = OR.ok v h' := he
  simp only [okH] at hok
  split at hok
  · rename_i args argTypes hx
    split at hok
    · rename_i s' x' t u hargs ht0 ht1
      have e1 : args = #[s', x'] := by cases args; simp at hargs; simp [hargs]
      subst e1
      split at hok
      · rename_i el hu1
        simp only [Bool.and_eq_true, decide_eq_true_eq] at hok
        obtain ⟨hdu, hs, hby, hr0, hb0, hz, c1, c2⟩ := hok
        have hT : AppT P argTypes r bytes := by
          cases hdd : P.underlying u with
          | none => simp [hdd] at hdu
          | some du =>
            cases hi : P.info? el with
            | none => simp [hi] at hz
            | some i =>
              cases hzz : i.zero with
              | none => simp [hi, hzz] at hz
              | some z =>
                refine ⟨⟨t, u, el, du, i, z, ht0, ht1, hu1, hdd, ?_, hi, hzz, by simpa [sizeIs, hi] using hs, by simpa [bytesIs, hi] using hby, by simpa [hi, hzz] using hz⟩, hr0, hb0⟩
                cases du <;> simp [hdd] at hdu ⊢
        have fin : AppGoal P ι h w argTypes o.type (ρ s') (ρ x') v h' → GoalH P ι h w ρ o v h' := by
          rintro ⟨v', ι', w', k1, k2, k3⟩
          exact ⟨.value v', v', ι', w', by simp [execOp, hx, resolve, invoke, builtin, k1, Result.andThen], .inl rfl, k2, k3⟩
        apply fin
        have hsr := hop _ _ c1
        have hxr := hop _ _ c2
        generalize ev x = vx at he hxr
        cases vx <;> first | (cases he; done) | skip
        · rename_i m a
          obtain ⟨str, hxs, rfl, rfl⟩ := hxr
          obtain ⟨hr1, he⟩ := orBif_ok okNe he
          rw [nbeq, decide_eq_true_eq] at hr1
          subst hr1
          rw [hxs, sBytes_eq] at *
          exact appendTo_rel hT g hfree hsr (firstCells_str str _ 1 (Go.Lib.size_eq str).symm) (strCells_rel _) (fun y hy => by obtain ⟨b, _, rfl⟩ := List.mem_map.1 hy; rfl) (by simp) he
        · have hxr : ρ x' = .slice none 0 0 := hxr
          rw [hxr]
          exact appendTo_rel hT g hfree hsr ⟨fun w1 => rfl, fun w1 _ => run_firstCells_none w1 r 0 0 0⟩ (new := []) (xs := []) rfl (by simp) (by simp) he
        · rename_i b q m cap
          obtain ⟨B, y, c, hB, hxs, hsl⟩ := hxr
          obtain ⟨new, hnew, he⟩ := orOpt_ok okNe he
          obtain ⟨xs, x1, x2, x3, x4⟩ := firstCells_sl (P := P) g hB hsl hnew rfl
          rw [hxs]
          exact appendTo_rel hT g hfree hsr ⟨fun w1 => rfl, x4⟩ x1 x2 x3 he
      · cases hok
    · cases hok
  · cases hok

theorem hv_clear (g : Good ι h w) (hop : ∀ x a, chk x a = true → vrel ι (ev a) (ρ x)) {zero : List V} {x : A} (hok : okH P chk o.op (.clear zero x) = true) (he : heavy (.clear zero x) call ev h = .ok v h') : GoalH P ι h w ρ o v h' := by
  have he : (match ev x with
    | .slN => .ok un h
    | .sl b o n _ => h.storeC b o (Nat.mul n (lenV zero)) (rep n zero) .bad fun h => .ok un h
    | _ => .bad) = OR.ok v h' := he
  simp only [okH] at hok
  split at hok
  · rename_i args argTypes hx
    split at hok
    · rename_i x' t hargs ht0
      have e1 : args = #[x'] := by cases args; simp at hargs; simp [hargs]
      subst e1
      split at hok
      · rename_i el hu
        simp only [Bool.and_eq_true] at hok
        have hxr := hop _ _ hok.2
        obtain ⟨z, hzr, hzv, hz1, i, hi, hiz⟩ := zerosIs_rel (P := P) (w := w) (ι := ι) hok.1
        generalize ev x = vx at he hxr
        cases vx <;> first | (cases he; done) | skip
        · cases he
          have hxr : ρ x' = .slice none 0 0 := hxr
          exact ⟨.value (.tuple #[]), .tuple #[], ι, w, by simp [execOp, hx, resolve, invoke, builtin, Builtin.clear_, ht0, run_underlying hu, hxr, Result.andThen], .inl rfl, Chg.refl g, undef_rel⟩
        · rename_i b q n cap
          obtain ⟨B, y, c, hB, hxs, hsl⟩ := hxr
          have he : h.storeC b q (n * lenV zero) (rep n zero) .bad (fun h => .ok un h) = OR.ok v h' := he
          rw [lenV_eq, storeC_eq _ _ _ _ _ _ _ g.memLt (g.bLt hB)] at he
          cases hst : storeO h b q (n * zero.length) (rep n zero) with
          | none => rw [hst] at he; cases he
          | some h1' =>
            rw [hst] at he
            cases he
            have hzl : z.cells.size = zero.length := by have := hzv.length; simpa using this
            by_cases hn : n = 0
            · subst hn
              rw [Nat.zero_mul] at hst
              cases storeO_zero hst
              exact ⟨.value (.tuple #[]), .tuple #[], ι, w, by simp [execOp, hx, resolve, invoke, builtin, Builtin.clear_, ht0, run_underlying hu, hxs, Result.andThen], .inl rfl, Chg.refl g, undef_rel⟩
            · have hy := slOk_addr hsl (by omega)
              subst hy
              have hzc : Builtin.zeroCells z.cells n = madeCells z.cells (n * zero.length) := by simp [Builtin.zeroCells, madeCells, hzl]
              have hrel : vrels ι (rep n zero) (Builtin.zeroCells z.cells n).toList ∧ ∀ x ∈ (Builtin.zeroCells z.cells n).toList, x.oneCell' = true := by
                rw [hzc]
                by_cases h0 : zero.length = 0
                · rw [h0, Nat.mul_zero]
                  have : rep n zero = [] := List.eq_nil_of_length_eq_zero (by rw [rep_length, h0, Nat.mul_zero])
                  rw [this]; exact ⟨by simp [madeCells]; rfl, by simp [madeCells]⟩
                · exact made_rel (m := n) (by omega) rfl hzv hz1
              obtain ⟨w', k1, k2, k3, k4, _⟩ := store_rel (P := P) g hB hst (by rw [rep_length]) hrel.1 hrel.2
              refine ⟨.value (.tuple #[]), .tuple #[], ι, w', ?_, .inl rfl, Chg.same k2 k3 k4, undef_rel⟩
              cases n with
              | zero => exact absurd rfl hn
              | succ n => simp [execOp, hx, resolve, invoke, builtin, Builtin.clear_, ht0, run_underlying hu, hxs, hzr, k1, Result.andThen]
      · cases hok
    · cases hok
  · cases hok
end
end
end Go.Eng
namespace Go.Eng
noncomputable section
section
variable {P : Program} {ι : Inj} {h h' : Heap} {w : World} {chk : Chk} {ev : Ev} {ρ : Operand → Value} {o : Oper} {v : V} {call : CallT}

theorem firstCells_pre (g : Good ι h w) {b q n r k : Nat} {B : Blk} {cap : Option Nat} {y : Addr} {c : Nat} (hB : ι b = some B) (hsl : slOk B q n cap y c) (hk : k ≤ n) {l : List V} (hl : h.load b q (k * r) = some l) :
    ∃ xs : List Value, vrels ι l xs ∧ (∀ x ∈ xs, x.oneCell' = true) ∧ xs.length = k * r ∧ (Builtin.firstCells r k (.slice (some y) n c)).run P w = .ok xs.toArray w := by
  obtain ⟨xs, hlen, hvr, h1c, hcell⟩ := load_rel g hB hl
  refine ⟨xs, hvr, h1c, hlen, ?_⟩
  refine run_firstCells_some w r k y n c xs hlen fun j v hv => ?_
  have hpos : 0 < k := by
    rcases Nat.eq_zero_or_pos k with h0 | h0
    · subst h0
      rw [Nat.zero_mul] at hlen
      have : xs = [] := List.eq_nil_of_length_eq_zero hlen
      rw [this] at hv; simp at hv
    · exact h0
  rw [slOk_addr hsl (by omega), addr_add]
  exact hcell j v hv

theorem copy1_rel {argTypes : Array TypeId} {ty t el : TypeId} {r r' : Nat} (ht0 : argTypes[0]? = some t) (hu : P.underlying t = some (.slice el)) (hs : sizeIs P el r = true) (g : Good ι h w) {b q n k : Nat} {B : Blk} {cap : Option Nat} {y : Addr} {c : Nat} (hB : ι b = some B) (hsl : slOk B q n cap y c) (hk : k ≤ n)
    {x : Value} {m : Nat} (hlen : (Builtin.lenOf x).run P w = .ok m w) (hmin : Nat.min m n = k) {l : List V} {xs : List Value} (hr : vrels ι l xs) (h1 : ∀ x ∈ xs, x.oneCell' = true) (hxl : xs.length = k * r') (hf : (Builtin.firstCells r k x).run P w = .ok xs.toArray w)
    (he : copy1 h b q k r' (some l) = .ok v h') :
    ∃ w', (Builtin.copy_ argTypes ty #[.slice (some y) n c, x]).run P w = .ok (goInt k) w' ∧ Chg ι h w ι h' w' ∧ v = .int .i64 k := by
  have he : h.storeC b q (k * r') l .bad (fun h => .ok (natV .i64 k) h) = OR.ok v h' := he
  rw [storeC_eq _ _ _ _ _ _ _ g.memLt (g.bLt hB)] at he
  cases hst : storeO h b q (k * r') l with
  | none => rw [hst] at he; cases he
  | some h1' =>
    rw [hst] at he
    cases he
    obtain ⟨w', k1, k2, k3, k4, _⟩ := store_rel (P := P) g hB hst (by rw [← hr.length]; exact hxl) hr h1
    by_cases h0 : k = 0
    · subst h0
      rw [Nat.zero_mul] at hst hxl
      cases storeO_zero hst
      have : xs = [] := List.eq_nil_of_length_eq_zero hxl
      subst this
      refine ⟨w, ?_, Chg.refl g, natV_eq ..⟩
      simp only [Builtin.copy_, ht0, Sem.run_bind, run_underlying hu, Result.andThen, hlen, hmin, sizeIs_run w hs, hf]
      simp [hlen, hmin, hf, Result.andThen, hu, run_underlying hu, sizeIs_run w hs, storeCells]
    · have hy := slOk_addr hsl (by omega)
      subst hy
      refine ⟨w', ?_, Chg.same k2 k3 k4, natV_eq ..⟩
      simp [Builtin.copy_, ht0, hlen, hmin, hf, Result.andThen, run_underlying hu, sizeIs_run w hs, k1]

theorem hv_copy (g : Good ι h w) (hop : ∀ x a, chk x a = true → vrel ι (ev a) (ρ x)) {r : Nat} {d s : A} (hok : okH P chk o.op (.copy r d s) = true) (he : heavy (.copy r d s) call ev h = .ok v h') : GoalH P ι h w ρ o v h' := by
  have he : (match ev d with
    | .slN => (match ev s with
      | .slN | .sl .. | .str .. => OR.ok (.int .i64 (.ofNat 0)) h
      | _ => .bad)
    | .sl b o n _ => (match ev s with
      | .slN => .ok (.int .i64 (.ofNat 0)) h
      | .sl c q m _ => copy1 h b o (natMin m n) r (h.load c q (Nat.mul (natMin m n) r))
      | .str m a => copy1 h b o (natMin m n) 1 (some (takeV (natMin m n) (strCells (sBytes m a))))
      | _ => .bad)
    | _ => .bad) = OR.ok v h' := he
  simp only [okH] at hok
  split at hok
  · rename_i args argTypes hx
    split at hok
    · rename_i d' s' t hargs ht0
      have e1 : args = #[d', s'] := by cases args; simp at hargs; simp [hargs]
      subst e1
      split at hok
      · rename_i el hu
        simp only [Bool.and_eq_true] at hok
        obtain ⟨hs, c1, c2⟩ := hok
        have hdr := hop _ _ c1
        have hsr := hop _ _ c2
        have fin : ∀ {k : Nat} {w' : World}, (Builtin.copy_ argTypes o.type #[ρ d', ρ s']).run P w = .ok (goInt k) w' → Chg ι h w ι h' w' → v = .int .i64 k → GoalH P ι h w ρ o v h' := by
          intro k w' k1 k2 k3
          exact ⟨.value (goInt k), goInt k, ι, w', by simp [execOp, hx, resolve, invoke, builtin, k1, Result.andThen], .inl rfl, k2, by rw [k3]; rfl⟩
        have zero : ∀ {m : Nat} {base : Option Addr} {n c : Nat} {x : Value}, (Builtin.lenOf x).run P w = .ok m w → Nat.min m n = 0 → (Builtin.firstCells r 0 x).run P w = .ok #[] w → (Builtin.copy_ argTypes o.type #[.slice base n c, x]).run P w = .ok (goInt (0 : Nat)) w := by
          intro m base n c x l1 l2 l3
          cases base <;> simp [Builtin.copy_, ht0, l1, l2, l3, Result.andThen, run_underlying hu, sizeIs_run w hs, storeCells]
        have first0 : ∀ x, (∃ s, x = .string s) ∨ (∃ a n c, x = .slice a n c) → (Builtin.firstCells r 0 x).run P w = .ok #[] w := by
          rintro x (⟨s, rfl⟩ | ⟨a, n, c, rfl⟩)
          · simp only [Builtin.firstCells, Sem.run_pure]
            congr 1
            apply Array.ext'
            rw [Array.toList_map, Go.Lib.extract_data]; simp
          · cases a with
            | none => exact run_firstCells_none w r 0 n c
            | some a => exact run_firstCells_some w r 0 a n c [] (by simp) (fun j v hv => by simp at hv)
        generalize ev d = vd at he hdr
        generalize ev s = vs at he hsr
        cases vd <;> first | (cases he; done) | skip
        · have hdr : ρ d' = .slice none 0 0 := hdr
          rw [hdr] at fin
          cases vs <;> first | (cases he; done) | skip
          · cases he
            obtain ⟨str, hsr, rfl, rfl⟩ := hsr
            rw [hsr] at fin
            exact fin (k := 0) (zero (m := str.size) rfl (Nat.min_zero _) (first0 _ (.inl ⟨_, rfl⟩))) (Chg.refl g) rfl
          · cases he
            have hsr : ρ s' = .slice none 0 0 := hsr
            rw [hsr] at fin
            exact fin (k := 0) (zero (m := 0) rfl rfl (first0 _ (.inr ⟨_, _, _, rfl⟩))) (Chg.refl g) rfl
          · cases he
            obtain ⟨B, y, c, hB, hsr, hsl⟩ := hsr
            rw [hsr] at fin
            exact fin (k := 0) (zero rfl (Nat.min_zero _) (first0 _ (.inr ⟨_, _, _, rfl⟩))) (Chg.refl g) rfl
        · rename_i b q n cap
          obtain ⟨B, y, c, hB, hdr, hsl⟩ := hdr
          rw [hdr] at fin
          cases vs <;> first | (cases he; done) | skip
          · rename_i m a
            obtain ⟨str, hsr, rfl, rfl⟩ := hsr
            rw [hsr] at fin
            have he : copy1 h b q (natMin str.data.toList.length n) 1 (some (takeV (natMin str.data.toList.length n) (strCells (sBytes str.data.toList.length (enc str.data.toList))))) = OR.ok v h' := he
            rw [sBytes_eq, takeV_eq, natMin_eq] at he
            have hrel := strCells_rel (ι := ι) str.data.toList
            have hl := hrel.length
            obtain ⟨w', k1, k2, k3⟩ := copy1_rel (ty := o.type) (x := .string str) (m := str.size) (xs := (str.data.toList.map fun b => Value.int .u8 b.toNat).take (min str.data.toList.length n)) ht0 hu hs g hB hsl (Nat.min_le_right _ _) rfl (by rw [Go.Lib.size_eq])
              (vrels.of (by rw [List.length_take, List.length_take, hl]) fun j u z hu' hz => by
                rw [List.getElem?_take] at hu' hz
                by_cases hj : j < min str.data.toList.length n
                · rw [if_pos hj] at hu' hz
                  obtain ⟨z', hz', hr⟩ := hrel.get hu'
                  rw [hz] at hz'; cases hz'; exact hr
                · rw [if_neg hj] at hu'; cases hu')
              (fun y hy => by obtain ⟨b, _, rfl⟩ := List.mem_map.1 (List.mem_of_mem_take hy); rfl)
              (by rw [List.length_take, List.length_map, Nat.mul_one]; omega)
              (by
                simp only [Builtin.firstCells, Sem.run_pure]
                congr 1
                apply Array.ext'
                rw [Array.toList_map, Go.Lib.extract_data, List.drop_zero, Nat.sub_zero, List.map_take])
              he
            exact fin k1 k2 k3
          · cases he
            have hsr : ρ s' = .slice none 0 0 := hsr
            rw [hsr] at fin
            exact fin (k := 0) (zero (m := 0) rfl (Nat.zero_min _) (first0 _ (.inr ⟨_, _, _, rfl⟩))) (Chg.refl g) rfl
          · rename_i b2 q2 m cap2
            obtain ⟨B2, y2, c2, hB2, hsr, hsl2⟩ := hsr
            rw [hsr] at fin
            simp only [natMin_eq] at he
            cases hld : h.load b2 q2 (Nat.mul (min m n) r) with
            | none => rw [hld] at he; cases he
            | some l =>
              rw [hld] at he
              obtain ⟨xs, x1, x2, x3, x4⟩ := firstCells_pre (P := P) g hB2 hsl2 (Nat.min_le_left m n) hld
              obtain ⟨w', k1, k2, k3⟩ := copy1_rel (ty := o.type) (x := .slice (some y2) m c2) (m := m) ht0 hu hs g hB hsl (Nat.min_le_right _ _) rfl rfl x1 x2 x3 x4 he
              exact fin k1 k2 k3
      · cases hok
    · cases hok
  · cases hok
end
end
end Go.Eng
namespace Go.Eng
noncomputable section

/-! ### where a temporary's value comes from -/
inductive Src where
  | val (p : Nat)
  | slot (i j : D8)
  | cst (c : Value)

/-- what is known while a region is gone through: how many values; of temporaries (newest first); of slots written here -/
structure Fct where
  n : Nat
  f : List (Nat × Option Src)
  s : List ((D8 × D8) × Nat)

def look {α β : Type} [DecidableEq α] (a : α) : List (α × β) → Option β
  | [] => none
  | (x, y) :: l => if a = x then some y else look a l
def Fct.tmp (F : Fct) (t : Nat) : Option Src := match look t F.f with | some s => s | none => none
def Fct.at_ (F : Fct) (i j : D8) : Option Nat := look (i, j) F.s

def chkAt (F : Fct) : Chk := fun x a =>
  match x with
  | .tmp t => (match F.tmp t with
    | none => false
    | some (.cst c) => (match a with | .c v => constOk v c | _ => false)
    | some (.val p) => (match a with
      | .l d => p + d + 1 == F.n
      | .t i j => F.at_ i j == some p
      | .c _ => false)
    | some (.slot i' j') => (match a with | .t i j => decide (i = i') && (decide (j = j') && F.at_ i j == none) | _ => false))
  | .const c => (match a with | .c v => constOk v c | _ => false)
  | .func f => (match a with | .c (.fn g [] []) => f == g | _ => false)
  | .global _ => (match a with | .c .bot => true | _ => false)

def Holds (ι : Inj) (vs : List V) (env0 : Env) (x : Value) : Src → Prop
  | .val p => p < vs.length ∧ vrel ι (getL vs (vs.length - 1 - p)) x
  | .slot i j => vrel ι (Env.get i j env0) x
  | .cst c => x = c
structure StR (ι : Inj) (F : Fct) (vs : List V) (env env0 : Env) (tmps : Array Value) : Prop where
  len : vs.length = F.n
  slots : ∀ i j, Env.get i j env = match F.at_ i j with | some p => getL vs (vs.length - 1 - p) | none => Env.get i j env0
  lt : ∀ i j p, F.at_ i j = some p → p < vs.length
  tmps : ∀ t s, F.tmp t = some s → Holds ι vs env0 (tmps.getD t undef) s

theorem getL_cons (v : V) (l : List V) (d : Nat) : getL (v :: l) (d + 1) = getL l d := rfl
theorem getL_zero (v : V) (l : List V) : getL (v :: l) 0 = v := rfl

theorem chkAt_rel {ι : Inj} {F : Fct} {vs : List V} {env env0 : Env} {a : Act} (h : StR ι F vs env env0 a.tmps) : ∀ x b, chkAt F x b = true → vrel ι (A.ev b vs env) (a.eval x) := by
  intro x b hc
  cases x with
  | tmp t =>
    show vrel ι _ (a.tmps.getD t undef)
    simp only [chkAt] at hc
    cases ht : F.tmp t with
    | none => simp [ht] at hc
    | some s =>
      have hs := h.tmps t s ht
      cases s with
      | cst c =>
        simp only [ht] at hc
        cases b with
        | c v => have hs : a.tmps.getD t undef = c := hs; rw [hs]; exact constOk_rel v c hc
        | l d => cases hc
        | t i j => cases hc
      | val p =>
        simp only [ht] at hc
        obtain ⟨h1, h2⟩ := hs
        cases b with
        | c v => cases hc
        | l d =>
          have hc : p + d + 1 = F.n := by simpa using hc
          have : vs.length - 1 - p = d := by have := h.len; omega
          rw [this] at h2; exact h2
        | t i j =>
          have hc : F.at_ i j = some p := by simpa using hc
          have := h.slots i j
          rw [hc] at this
          show vrel ι (Env.get i j env) _
          rw [this]; exact h2
      | slot i' j' =>
        simp only [ht] at hc
        cases b with
        | c v => cases hc
        | l d => cases hc
        | t i j =>
          simp only [Bool.and_eq_true, decide_eq_true_eq, beq_iff_eq] at hc
          obtain ⟨rfl, rfl, hn⟩ := hc
          have := h.slots i j
          rw [hn] at this
          show vrel ι (Env.get i j env) _
          rw [this]; exact hs
  | const c =>
    simp only [chkAt] at hc
    cases b with
    | c v => exact constOk_rel v c hc
    | l d => cases hc
    | t i j => cases hc
  | func f =>
    simp only [chkAt] at hc
    cases b with
    | c v =>
      cases v <;> first | (cases hc; done) | skip
      rename_i g l m
      cases l <;> cases m <;> first | (cases hc; done) | skip
      have hc : f = g := by simpa using hc
      subst hc
      exact ⟨#[], #[], rfl, rfl, rfl⟩
    | l d => cases hc
    | t i j => cases hc
  | global g =>
    cases b with
    | c v => cases v <;> first | (cases hc; done) | exact True.intro
    | l d => cases hc
    | t i j => cases hc

theorem Holds.mono {ι ι' : Inj} (h : ι.le ι') {vs : List V} {env0 : Env} {x : Value} {s : Src} (hh : Holds ι vs env0 x s) : Holds ι' vs env0 x s := by
  cases s with
  | val p => exact ⟨hh.1, hh.2.mono h⟩
  | slot i j => exact vrel.mono h _ _ hh
  | cst c => exact hh
theorem StR.mono {ι ι' : Inj} (h : ι.le ι') {F : Fct} {vs : List V} {env env0 : Env} {tmps : Array Value} (s : StR ι F vs env env0 tmps) : StR ι' F vs env env0 tmps :=
  ⟨s.len, s.slots, s.lt, fun t x ht => (s.tmps t x ht).mono h⟩
theorem Holds.push {ι : Inj} {vs : List V} {v : V} {env0 : Env} {x : Value} {s : Src} (hh : Holds ι vs env0 x s) : Holds ι (v :: vs) env0 x s := by
  cases s with
  | val p =>
    obtain ⟨h1, h2⟩ := hh
    refine ⟨by simp; omega, ?_⟩
    have : (v :: vs).length - 1 - p = (vs.length - 1 - p) + 1 := by simp; omega
    rw [this, getL_cons]; exact h2
  | slot i j => exact hh
  | cst c => exact hh
end
end Go.Eng
namespace Go.Eng
noncomputable section

/-- behind an operation that yields a value of ours -/
def Fct.push (F : Fct) (dst : Option Nat) (slot : Option (D8 × D8)) : Fct :=
  ⟨F.n + 1, match dst with | some d => (d, some (.val F.n)) :: F.f | none => F.f, match slot with | some ij => (ij, F.n) :: F.s | none => F.s⟩
def Fct.opSrc (F : Fct) (x : Operand) : Option Src := match x with
  | .tmp t => F.tmp t
  | .const c => some (.cst c)
  | _ => none
/-- a move that only moves -/
def Fct.move (F : Fct) (d : Nat) (x : Operand) : Fct := ⟨F.n, (d, F.opSrc x) :: F.f, F.s⟩

theorem look_cons {α β : Type} [DecidableEq α] (a x : α) (y : β) (l : List (α × β)) : look a ((x, y) :: l) = if a = x then some y else look a l := rfl

theorem getD_put {tmps : Array Value} {d t : Nat} {x : Value} (hd : d < tmps.size) : (tmps.setIfInBounds d x).getD t undef = if t = d then x else tmps.getD t undef := by
  by_cases h : t = d
  · subst h; simp [Array.getD, hd]
  · rw [if_neg h]
    simp only [Array.getD_eq_getD_getElem?]
    rw [Array.getElem?_setIfInBounds_ne (Ne.symm h)]

theorem StR.push {ι : Inj} {F : Fct} {vs : List V} {env env0 : Env} {a : Act} (s : StR ι F vs env env0 a.tmps) {v : V} {x : Value} (hv : vrel ι v x) {dst : Option Nat} (hd : ∀ d, dst = some d → d < a.tmps.size) :
    StR ι (F.push dst none) (v :: vs) env env0 (a.put dst x).tmps := by
  have hlen := s.len
  have hnew : Holds ι (v :: vs) env0 x (.val F.n) := by
    refine ⟨by simp; omega, ?_⟩
    have : (v :: vs).length - 1 - F.n = 0 := by simp; omega
    rw [this, getL_zero]; exact hv
  refine ⟨by simp [Fct.push, hlen], fun i j => ?_, fun i j p hp => by have : F.at_ i j = some p := hp; have := s.lt i j p this; simp; omega, fun t src ht => ?_⟩
  · have h1 : (F.push dst none).at_ i j = F.at_ i j := rfl
    rw [h1, s.slots i j]
    cases hp : F.at_ i j with
    | none => rfl
    | some p =>
      have := s.lt i j p hp
      show getL vs _ = getL (v :: vs) _
      rw [show (v :: vs).length - 1 - p = (vs.length - 1 - p) + 1 by simp; omega, getL_cons]
  · cases dst with
    | none =>
      have ht : F.tmp t = some src := ht
      exact (s.tmps t src ht).push
    | some d =>
      have hdd := hd d rfl
      show Holds ι (v :: vs) env0 ((a.tmps.setIfInBounds d x).getD t undef) src
      rw [getD_put hdd]
      have ht : (match look t ((d, some (.val F.n)) :: F.f) with | some s => s | none => none) = some src := ht
      rw [look_cons] at ht
      by_cases e : t = d
      · rw [if_pos e] at ht ⊢; cases ht; exact hnew
      · rw [if_neg e] at ht ⊢; exact (s.tmps t src ht).push

theorem StR.pushS {ι : Inj} {F : Fct} {vs : List V} {env env0 : Env} {a : Act} (s : StR ι F vs env env0 a.tmps) {v : V} {x : Value} (hv : vrel ι v x) {dst : Option Nat} (hd : ∀ d, dst = some d → d < a.tmps.size) (i j : D8) :
    StR ι (F.push dst (some (i, j))) (v :: vs) (Env.set i j v env) env0 (a.put dst x).tmps := by
  have s' := s.push hv hd
  have hlen := s.len
  have hat : ∀ i' j', (F.push dst (some (i, j))).at_ i' j' = if (i', j') = (i, j) then some F.n else F.at_ i' j' := fun i' j' => rfl
  refine ⟨s'.len, fun i' j' => ?_, fun i' j' p hp => ?_, s'.tmps⟩
  · rw [hat, Env.get_set]
    by_cases e : i' = i ∧ j' = j
    · rw [if_pos e, if_pos (by rw [e.1, e.2])]
      show v = getL (v :: vs) ((v :: vs).length - 1 - F.n)
      rw [show (v :: vs).length - 1 - F.n = 0 by simp; omega, getL_zero]
    · rw [if_neg e, if_neg (by intro h; cases h; exact e ⟨rfl, rfl⟩)]
      exact s'.slots i' j'
  · rw [hat] at hp
    by_cases e : (i', j') = (i, j)
    · rw [if_pos e] at hp; cases hp; simp; omega
    · rw [if_neg e] at hp; exact s'.lt i' j' p hp

theorem StR.move {ι : Inj} {F : Fct} {vs : List V} {env env0 : Env} {a : Act} (s : StR ι F vs env env0 a.tmps) {d : Nat} (hd : d < a.tmps.size) (x : Operand) : StR ι (F.move d x) vs env env0 (a.put (some d) (a.eval x)).tmps := by
  refine ⟨s.len, s.slots, s.lt, fun t src ht => ?_⟩
  show Holds ι vs env0 ((a.tmps.setIfInBounds d (a.eval x)).getD t undef) src
  rw [getD_put hd]
  have ht : (match look t ((d, F.opSrc x) :: F.f) with | some s => s | none => none) = some src := ht
  rw [look_cons] at ht
  by_cases e : t = d
  · rw [if_pos e] at ht ⊢
    cases x with
    | tmp t' => exact s.tmps t' src ht
    | const c => cases ht; rfl
    | global g => cases ht
    | func f => cases ht
  · rw [if_neg e] at ht ⊢; exact s.tmps t src ht
end
end Go.Eng
namespace Go.Eng
noncomputable section

/-! ### places are never given back -/
section
variable {R : Type}
theorem kill1_cps (lo hi m : Nat) (h : Heap) (k : Heap → R) : ∃ h1, h1.next = h.next ∧ kill1 lo hi m h k = k h1 := by
  unfold kill1
  cases h.obj m with
  | none => exact ⟨h, rfl, rfl⟩
  | some ob =>
    cases ob with
    | cells r f ap n t =>
      show ∃ h1, h1.next = h.next ∧ (Bool.rec (k h) (h.putC m .dead k) (ap.blt hi && lo.blt (Nat.add ap n)) : R) = k h1
      cases (ap.blt hi && lo.blt (Nat.add ap n)) with
      | false => exact ⟨h, rfl, rfl⟩
      | true => simp only [putC_eq]; exact ⟨_, by rfl, rfl⟩
    | _ => exact ⟨h, rfl, rfl⟩
theorem killAll_cps (lo hi but : Nat) : ∀ (l : List Nat) (h : Heap) (k : Heap → R), ∃ h1, h1.next = h.next ∧ killAll lo hi but l h k = k h1
  | [], h, k => ⟨h, rfl, rfl⟩
  | m :: l, h, k => by
    rw [killAll_cons]
    cases hb : m.beq but with
    | true =>
      obtain ⟨h1, a, b⟩ := killAll_cps lo hi but l h k
      exact ⟨h1, a, by simpa [hb] using b⟩
    | false =>
      obtain ⟨h2, a2, b2⟩ := kill1_cps lo hi m h fun h => killAll lo hi but l h k
      obtain ⟨h1, a, b⟩ := killAll_cps lo hi but l h2 k
      exact ⟨h1, a.trans a2, by simpa [hb] using b2.trans b⟩
theorem killC_cps (h : Heap) (f lo hi but : Nat) (k : Heap → R) : ∃ h1, h1.next = h.next ∧ h.killC f lo hi but k = k h1 := by
  unfold Heap.killC
  cases T.get f h.fams with
  | none => exact ⟨h, rfl, rfl⟩
  | some F => exact killAll_cps lo hi but F.mem h k
theorem storeC_cps (h : Heap) (b o n : Nat) (vs : List V) (d : R) (k : Heap → R) : h.storeC b o n vs d k = d ∨ ∃ h1, h1.next = h.next ∧ h.storeC b o n vs d k = k h1 := by
  unfold Heap.storeC
  cases n.beq 0 with
  | true => exact .inr ⟨h, rfl, rfl⟩
  | false =>
    cases b.blt 8 with
    | true => exact .inl rfl
    | false =>
    simp only [cond_false]
    cases h.obj b with
    | none => exact .inl rfl
    | some ob =>
      cases ob with
      | dead => exact .inl rfl
      | map es c => exact .inl rfl
      | box row =>
        show (bif _ then _ else d) = d ∨ ∃ h1, h1.next = h.next ∧ (bif _ then _ else d) = k h1
        cases (Nat.add o n).ble (lenV row) with
        | false => exact .inl rfl
        | true => simp only [cond_true, forceL_eq, putC_eq]; exact .inr ⟨_, by rfl, rfl⟩
      | cells r f ap sz rows =>
        show (bif _ then _ else d) = d ∨ ∃ h1, h1.next = h.next ∧ (bif _ then _ else d) = k h1
        cases (Nat.add o n).ble sz with
        | false => exact .inl rfl
        | true =>
          simp only [cond_true, over_eq]
          cases overO r o n vs rows with
          | none => exact .inl rfl
          | some t =>
            simp only [putC_eq]
            obtain ⟨h1, a, b'⟩ := killC_cps h f (Nat.add ap o) (Nat.add (Nat.add ap o) n) b (fun h1 => k ⟨T.set b (.cells r f ap sz t) h1.t, h1.next, h1.fams, h1.ds, h1.pc⟩)
            exact .inr ⟨⟨T.set b (.cells r f ap sz t) h1.t, h1.next, h1.fams, h1.ds, h1.pc⟩, a, b'⟩
theorem grown_cps (h : Heap) (b f ap sz e top : Nat) (k : Heap → R) : ∃ h1, h1.next = h.next ∧ grown h b f ap sz e top k = k h1 := by
  unfold grown
  cases T.get f h.fams with
  | none =>
    show ∃ h1, h1.next = h.next ∧ (Bool.rec (famAdd h f top [h.next, b] k) (h.putC b .dead fun h => famAdd h f top [h.next, b] k) (e.blt (Nat.add ap sz)) : R) = k h1
    cases e.blt (Nat.add ap sz) with
    | false => simp only [famAdd_eq]; exact ⟨_, by rfl, rfl⟩
    | true => simp only [famAdd_eq, putC_eq]; exact ⟨_, by rfl, rfl⟩
  | some F =>
    show ∃ h1, h1.next = h.next ∧ (Bool.rec (killAll e (Nat.add (Fam.last F) top) h.next (Fam.mem F) h fun h => famAdd h f top (h.next :: Fam.mem F) k) (famAdd h f top (h.next :: Fam.mem F) k) ((Fam.last F).ble e) : R) = k h1
    cases (Fam.last F).ble e with
    | true => simp only [famAdd_eq]; exact ⟨_, by rfl, rfl⟩
    | false =>
      simp only [famAdd_eq]
      obtain ⟨h1, a, b'⟩ := killAll_cps e (Nat.add (Fam.last F) top) h.next (Fam.mem F) h (fun h1 => k ⟨h1.t, h1.next, T.set f ⟨top, h1.next :: Fam.mem F⟩ h1.fams, h1.ds, h1.pc⟩)
      refine ⟨⟨h1.t, h1.next, T.set f ⟨top, h1.next :: Fam.mem F⟩ h1.fams, h1.ds, h1.pc⟩, a, ?_⟩
      exact b'
end
end
end Go.Eng
namespace Go.Eng
noncomputable section
section
variable {ev : Ev} {h h' : Heap} {v : V} {call : CallT}

def OR.next (h : Heap) : OR → Prop
  | .ok _ h' => h.next ≤ h'.next
  | .pan _ h' => h.next ≤ h'.next
  | .bad => True
/-- a call gives no place back -/
def CallMono (call : CallT) : Prop := ∀ f as pc h, OR.next h (call f as pc h).1

theorem storeC_next {b o n : Nat} {vs : List V} {x : V} {h0 : Heap} (hn : h0.next ≤ h.next) : OR.next h0 (h.storeC b o n vs .bad fun h => .ok x h) := by
  rcases storeC_cps h b o n vs OR.bad (fun h => .ok x h) with e | ⟨h1, a, e⟩
  · rw [e]; trivial
  · rw [e]; show h0.next ≤ h1.next; omega
theorem mk_next' {o : Obj} {x : V} {h0 : Heap} (hn : h0.next ≤ h.next) : OR.next h0 (mk h o x) := by
  show OR.next h0 (Bool.rec .bad (h.newC o fun h => .ok x h) (okSize o))
  cases (okSize o) with
  | false => trivial
  | true => rw [newC_eq]; show h0.next ≤ h.next + 1; omega
theorem append1_next {r bytes b q n m : Nat} {cap : Option Nat} {new : List V} : OR.next h (append1 h r bytes b q n cap new m) := by
  unfold append1
  simp only [force_eq]
  cases ((Nat.mul (Nat.add n m) bytes).ble 1099511627776 && Nat.ble 8 b) with
  | false => trivial
  | true =>
    rw [cond_true]
    cases cap with
    | some c =>
      show OR.next h (bif (Nat.add n m).ble c then _ else _)
      cases (Nat.add n m).ble c with
      | true => exact storeC_next (Nat.le_refl _)
      | false =>
        show OR.next h (Option.rec .bad _ (h.load b q (Nat.mul n r)))
        cases h.load b q (Nat.mul n r) with
        | none => trivial
        | some old => simp only [setRows_eq]; exact mk_next' (Nat.le_refl _)
    | none =>
      show OR.next h (Obj.cells? .bad _ (h.obj b))
      cases h.obj b with
      | none => trivial
      | some ob =>
        cases ob with
        | cells r' f ap sz rows =>
          show OR.next h (bif r'.beq r && (q.mod r).beq 0 then _ else .bad)
          cases (r'.beq r && (q.mod r).beq 0) with
          | false => trivial
          | true =>
            rw [cond_true]
            cases (Nat.add q (Nat.mul (Nat.add n m) r)).ble sz with
            | true => exact storeC_next (Nat.le_refl _)
            | false =>
              rw [cond_false]
              cases (Nat.add q (Nat.mul n r)).ble sz with
              | false => trivial
              | true =>
                rw [cond_true]
                obtain ⟨h1, a, e⟩ := grown_cps h b f ap sz (Nat.add (Nat.add ap q) (Nat.mul n r)) (Nat.add (Nat.add ap q) (Nat.mul (Nat.add n m) r)) (fun h1 =>
                  bif q.beq 0 then setRows r m n new rows fun t => mk h1 (.cells r f ap (Nat.mul (Nat.add n m) r) t) (.sl h.next 0 (Nat.add n m) none)
                  else Option.rec .bad (fun old => setRows r (Nat.add n m) 0 (appV old new) T.e fun t => mk h1 (.cells r f (Nat.add ap q) (Nat.mul (Nat.add n m) r) t) (.sl h.next 0 (Nat.add n m) none)) (getRows rows n (q.div r)))
                show OR.next h (grown h b f ap sz _ _ _)
                rw [e]
                have hle : h.next ≤ h1.next := by omega
                cases q.beq 0 with
                | true => simp only [cond_true, setRows_eq]; exact mk_next' hle
                | false =>
                  rw [cond_false]
                  cases getRows rows n (q.div r) with
                  | none => trivial
                  | some old => simp only [setRows_eq]; exact mk_next' hle
        | _ => trivial

theorem appendTo_next {r bytes m : Nat} {s : V} {new : List V} : OR.next h (appendTo h r bytes s new m) := by
  unfold appendTo
  split
  · cases m.beq 0 with
    | true => exact Nat.le_refl _
    | false =>
      rw [cond_false]
      cases (Nat.mul m bytes).ble 1099511627776 with
      | false => trivial
      | true => simp only [cond_true, force_eq, setRows_eq]; exact mk_next' (Nat.le_refl _)
  · cases m.beq 0 with
    | true => exact Nat.le_refl _
    | false => exact append1_next
  · trivial
theorem copy1_next {b o m r : Nat} {l : Option (List V)} : OR.next h (copy1 h b o m r l) := by
  cases l with
  | none => trivial
  | some l => exact storeC_next (Nat.le_refl _)
theorem ofC_next {r : OR} (hr : OR.next h r) : OR.next h (ofC h r) := by
  cases r with
  | ok v h' => exact hr
  | pan v h' => exact hr
  | bad => trivial
theorem heavy_next (hc : CallMono call) (e : OpH) : OR.next h (heavy e call ev h) := by
  have hcall : ∀ f as, OR.next h (call f as .none h).1 := fun f as => hc f as .none h
  cases e with
  | store n a x =>
    show OR.next h (Option.rec .bad (fun p => Option.rec .bad (fun l => Bool.rec .bad (h.storeC p.1 p.2 n l .bad fun h => .ok un h) ((lenV l).beq n)) (ev x).asCells) (ev a).asPtr : OR)
    cases (ev a).asPtr with
    | none => trivial
    | some p =>
      show OR.next h (Option.rec .bad (fun l => Bool.rec .bad (h.storeC p.1 p.2 n l .bad fun h => .ok un h) ((lenV l).beq n)) (ev x).asCells : OR)
      cases (ev x).asCells with
      | none => trivial
      | some l =>
        show OR.next h (Bool.rec .bad (h.storeC p.1 p.2 n l .bad fun h => .ok un h) ((lenV l).beq n) : OR)
        cases (lenV l).beq n with
        | false => trivial
        | true => exact storeC_next (Nat.le_refl _)
  | mupd q m k v =>
    show OR.next h (match ev m with
      | .map b => bif b.blt 8 then .bad else Obj.map? .bad (fun es c => Option.rec .bad (fun y => forceL y.1 fun l => force y.2 fun c => h.putC b (.map l c) fun h => .ok un h) ((ev k).force fun x => (ev v).force fun v => upd (eqKey q) x v c es)) (h.obj b)
      | _ => .bad)
    split
    · rename_i b _
      cases b.blt 8 with
      | true => trivial
      | false =>
      simp only [cond_false]
      cases h.obj b with
      | none => trivial
      | some ob =>
        cases ob with
        | map es c =>
          show OR.next h (Option.rec .bad (fun y => forceL y.1 fun l => force y.2 fun c => h.putC b (.map l c) fun h => .ok un h) ((ev k).force fun x => (ev v).force fun v => upd (eqKey q) x v c es) : OR)
          cases ((ev k).force fun x => (ev v).force fun v => upd (eqKey q) x v c es) with
          | none => trivial
          | some y => simp only [forceL_eq, force_eq, putC_eq]; exact Nat.le_refl _
        | _ => trivial
    · trivial
  | call f as => exact ofC_next (hcall f _)
  | callv x as =>
    show OR.next h (Option.rec .bad (fun x => ofC h (call x.1 (appV x.2.1 (appV (evs as ev) x.2.2)) .none h).1) (ev x).asFn : OR)
    cases (ev x).asFn with
    | none => trivial
    | some y => exact ofC_next (hcall _ _)
  | append r bytes s x =>
    show OR.next h (match ev x with
      | .slN => appendTo h r bytes (ev s) [] 0
      | .sl b o m _ => Option.rec .bad (fun new => appendTo h r bytes (ev s) new m) (h.load b o (Nat.mul m r))
      | .str m a => bif r.beq 1 then appendTo h r bytes (ev s) (strCells (sBytes m a)) m else .bad
      | _ => .bad)
    split
    · exact appendTo_next
    · rename_i b o m _ _
      cases h.load b o (Nat.mul m r) with
      | none => trivial
      | some l => exact appendTo_next
    · cases r.beq 1 with
      | false => trivial
      | true => exact appendTo_next
    · trivial
  | copy r d s =>
    show OR.next h (match ev d with
      | .slN => (match ev s with
        | .slN | .sl .. | .str .. => OR.ok (.int .i64 (.ofNat 0)) h
        | _ => .bad)
      | .sl b o n _ => (match ev s with
        | .slN => .ok (.int .i64 (.ofNat 0)) h
        | .sl c q m _ => copy1 h b o (natMin m n) r (h.load c q (Nat.mul (natMin m n) r))
        | .str m a => copy1 h b o (natMin m n) 1 (some (takeV (natMin m n) (strCells (sBytes m a))))
        | _ => .bad)
      | _ => .bad)
    split
    · split <;> first | exact Nat.le_refl _ | trivial
    · split
      · exact Nat.le_refl _
      · exact copy1_next
      · exact copy1_next
      · trivial
    · trivial
  | clear zero x =>
    show OR.next h (match ev x with
      | .slN => .ok un h
      | .sl b o n _ => h.storeC b o (Nat.mul n (lenV zero)) (rep n zero) .bad fun h => .ok un h
      | _ => .bad)
    split
    · exact Nat.le_refl _
    · exact storeC_next (Nat.le_refl _)
    · trivial
  | recover =>
    show OR.next h (match h.pc with
      | .some v => .ok v ⟨h.t, h.next, h.fams, h.ds, .recovered⟩
      | _ => .ok .ifcN h)
    split <;> exact Nat.le_refl _
  | defer x as =>
    show OR.next h (match ev x with
      | .fn f first cap => .ok un ⟨h.t, h.next, h.fams, (.fn f first cap, evs as ev) :: h.ds, h.pc⟩
      | _ => .bad)
    split
    · exact Nat.le_refl _
    · trivial
  | panic x =>
    show OR.next h (match ev x with
      | .ifc t v => .pan (.ifc t v) h
      | _ => .bad)
    split
    · exact Nat.le_refl _
    · trivial
end
end
end Go.Eng
namespace Go.Eng
noncomputable section
section
variable {ev : Ev} {h h' : Heap} {v : V} {call : CallT} {env env' : Env} {k : VK} {x : X}

inductive OpRes (op : Op) (call : CallT) (ev : Ev) (env : Env) (h : Heap) (k : VK) (r : CR) : Prop where
  | val (e : OpL) (v : V) (hop : op = .L e) (he : light e ev h = .val v) (hk : k v h = r)
  | new (e : OpL) (ob : Obj) (v : V) (hop : op = .L e) (he : light e ev h = .new ob v) (hl : 0 ≤ h.next) (hs : okSize ob = true) (hk : k v (h.add ob) = r)
  | hv (e : OpH) (v : V) (h1 : Heap) (hop : op = .H e) (he : heavy e call ev h = .ok v h1) (hk : k v h1 = r)
  | pan (e : OpH) (v : V) (h1 : Heap) (hop : op = .H e) (he : heavy e call ev h = .pan v h1) (hr : r = .ok (.pan v) env h1)

theorem opK_inv {op : Op} {r : CR} (hr : r ≠ .bad) (he : opK op call ev env h k = r) : OpRes op call ev env h k r := by
  cases op with
  | L e =>
    have he : (light e ev h).k h k = r := he
    generalize hl : light e ev h = lr at he
    cases lr with
    | val v =>
      have he : v.force (fun v => k v h) = r := he
      rw [V.force_eq] at he
      exact .val e v rfl hl he
    | new o v =>
      have he : (Bool.rec .bad (h.newC o fun h => k v h) (okSize o) : CR) = r := he
      cases hc : (okSize o) with
      | false => rw [hc] at he; exact absurd he.symm hr
      | true =>
        rw [hc, newC_eq] at he
        exact .new e o v rfl hl (Nat.zero_le _) hc he
    | bad => exact absurd (show CR.bad = r from he).symm hr
  | H e =>
    have he : (heavy e call ev h).k env k = r := he
    generalize hh : heavy e call ev h = lr at he
    cases lr with
    | ok v h1 =>
      have he : v.force (fun v => k v h1) = r := he
      rw [V.force_eq] at he
      exact .hv e v h1 rfl hh he
    | pan v h1 => exact .pan e v h1 rfl hh (show CR.ok (.pan v) env h1 = r from he).symm
    | bad => exact absurd (show CR.bad = r from he).symm hr

def CR.next (h : Heap) : CR → Prop
  | .ok _ _ h' => h.next ≤ h'.next
  | .bad => True
theorem opK_next (hc : CallMono call) {op : Op} (hk : ∀ v h1, h.next ≤ h1.next → CR.next h (k v h1)) : CR.next h (opK op call ev env h k) := by
  generalize hr : opK op call ev env h k = r
  cases r with
  | bad => trivial
  | ok x env' h' =>
    rcases opK_inv (by simp) hr with ⟨e, v, hop, he, e2⟩ | ⟨e, ob, v, hop, he, hl, hs, e2⟩ | ⟨e, v, h1, hop, he, e2⟩ | ⟨e, v, h1, hop, he, e2⟩
    · rw [← e2]; exact hk v h (Nat.le_refl _)
    · rw [← e2]; exact hk v _ (Nat.le_succ _)
    · rw [← e2]; refine hk v h1 ?_
      have := heavy_next (ev := ev) (h := h) hc e; rw [he] at this; exact this
    · cases e2
      have := heavy_next (ev := ev) (h := h) hc e; rw [he] at this; exact this
theorem CR.next_le {h h1 : Heap} {r : CR} (h1n : h.next ≤ h1.next) (hr : CR.next h1 r) : CR.next h r := by
  cases r with
  | bad => trivial
  | ok x env h' => exact Nat.le_trans h1n hr

theorem opsN_next (hc : CallMono call) : ∀ (l : List Opr) (vs : List V) (env : Env) (h : Heap), CR.next h (opsN l call vs env h)
  | [], vs, env, h => Nat.le_refl _
  | o :: l, vs, env, h => by
    have ih := opsN_next hc l
    have plain : ∀ op, CR.next h (oP op (opsN l) call vs env h) := fun op => opK_next hc fun v h1 hn => CR.next_le hn (ih _ _ _)
    have slot : ∀ i j op, CR.next h (oS i j op (opsN l) call vs env h) := fun i j op => opK_next hc fun v h1 hn => by rw [Env.setC_eq]; exact CR.next_le hn (ih _ _ _)
    cases o with
    | p op => exact plain op
    | s i j op => exact slot i j op
    | g g b op =>
      show CR.next h (Option.rec .bad (fun c => Bool.rec (opsN l call (un :: vs) env h) (oP op (opsN l) call vs env h) c) ((g.ev vs env).gd b) : CR)
      cases (g.ev vs env).gd b with
      | none => trivial
      | some c =>
        show CR.next h (Bool.rec (opsN l call (un :: vs) env h) (oP op (opsN l) call vs env h) c : CR)
        cases c with
        | false => exact ih _ _ _
        | true => exact plain op
    | gs g b i j op =>
      show CR.next h (Option.rec .bad (fun c => Bool.rec (Env.setC i j un (fun env => opsN l call (un :: vs) env h) env) (oS i j op (opsN l) call vs env h) c) ((g.ev vs env).gd b) : CR)
      cases (g.ev vs env).gd b with
      | none => trivial
      | some c =>
        show CR.next h (Bool.rec (Env.setC i j un (fun env => opsN l call (un :: vs) env h) env) (oS i j op (opsN l) call vs env h) c : CR)
        cases c with
        | false => rw [Env.setC_eq]; exact ih _ _ _
        | true => exact slot i j op
end
end
end Go.Eng
namespace Go.Eng
noncomputable section

/-! ### one operation in the machine's region -/
def notDR : OpH → Bool
  | .recover => false
  | .defer .. => false
  | _ => true
def okOp (P : Program) (F : Fct) (o : Go.Op) : Op → Bool
  | .L e => okL P (chkAt F) o e
  | .H e => notDR e && okH P (chkAt F) o e

/-- how a call's outcome is met -/
def OutP (ι : Inj) (h : Heap) (w : World) (r : OR) (e : Ending) (w' : World) : Prop :=
  match r, e with
  | .ok v h', .returned v' => ∃ ι', Chg ι h w ι' h' w' ∧ vrel ι' v v'
  | .pan v h', .panicked ch => ∃ v' ι', ch = [{ v := v', recovered := false }] ∧ Chg ι h w ι' h' w' ∧ vrel ι' v v'
  | _, _ => False
def OR.free (ι : Inj) (h : Heap) : OR → Prop
  | .ok _ h' => FreeIn ι h h'
  | .pan _ h' => FreeIn ι h h'
  | .bad => False
def hasBody (P : Program) (f : Nat) : Prop := ∃ fn, P.funcs[f]? = some fn ∧ (fn.name == "runtime.NumGoroutine") = false ∧ fn.body.isSome = true
def CallS (P : Program) (call : CallT) : Prop :=
  ∀ f as h, (call f as .none h).1 ≠ .bad → hasBody P f ∧ ∀ ι w (args : Array Value), Good ι h w → OR.free ι h (call f as .none h).1 → vrels ι as args.toList → Calls P f args w (OutP ι h w (call f as .none h).1)

section
variable {P : Program} {ι : Inj} {h h' : Heap} {w : World} {F : Fct} {vs : List V} {env env0 : Env} {a : Act} {o : Oper} {v : V} {call : CallT}

theorem callFunc_run {f : Nat} (hb : hasBody P f) (args : Array Value) : (callFunc f args).run P w = .ok (.enter f args) w := by
  obtain ⟨fn, h1, h2, h3⟩ := hb
  cases hbd : fn.body with
  | none => rw [hbd] at h3; cases h3
  | some c =>
    have h2' : ¬ fn.name = "runtime.NumGoroutine" := by simpa using h2
    simp [callFunc, h1, h2', hbd, Result.andThen]

theorem ofC_ok {r : OR} (he : ofC h r = .ok v h') : ∃ h1, r = .ok v h1 ∧ h' = back h h1 := by
  cases r with
  | ok v1 h1 => have he : OR.ok v1 (back h h1) = .ok v h' := he; cases he; exact ⟨h1, rfl, rfl⟩
  | pan v1 h1 => have he : OR.pan v1 (back h h1) = .ok v h' := he; cases he
  | bad => have he : OR.bad = .ok v h' := he; cases he
theorem ofC_pan {r : OR} (he : ofC h r = .pan v h') : ∃ h1, r = .pan v h1 ∧ h' = back h h1 := by
  cases r with
  | ok v1 h1 => have he : OR.ok v1 (back h h1) = .pan v h' := he; cases he
  | pan v1 h1 => have he : OR.pan v1 (back h h1) = .pan v h' := he; cases he; exact ⟨h1, rfl, rfl⟩
  | bad => have he : OR.bad = .pan v h' := he; cases he

theorem Good.back {ι : Inj} {h h1 : Heap} {w : World} (g : Good ι h1 w) : Good ι (back h h1) w := ⟨g.obj, g.inH, g.same, g.fam, g.last, g.solo, g.mem, g.lim, g.dom, g.small, g.fdom, g.famLt⟩
theorem Chg.back {ι ι' : Inj} {h h0 h1 : Heap} {w w' : World} (c : Chg ι h w ι' h1 w') : Chg ι h w ι' (back h0 h1) w' := ⟨c.good.back, c.frame, c.ext, c.sep⟩

/-- a call's step -/
theorem wp_enter {f : Nat} {args : Array Value} {as : List V} {next : Act → World → Prop} {Q : Exit → Act → World → Prop} (hcs : CallS P call) (g : Good ι h w) (hrun : (execOp a.eval o).run P w = .ok (.enter f args) w)
    (hne : (call f as .none h).1 ≠ .bad) (hfree : OR.free ι h (call f as .none h).1) (hr : vrels ι as args.toList)
    (hok : ∀ h1 v v' ι' w', (call f as .none h).1 = .ok v h1 → Chg ι h w ι' h1 w' → vrel ι' v v' → next (a.put o.dst v') w')
    (hpan : ∀ h1 v v' ι' w', (call f as .none h).1 = .pan v h1 → Chg ι h w ι' h1 w' → vrel ι' v v' → Q (.panic [{ v := v', recovered := false }]) a w') : o.wp P a w next Q := by
  unfold Oper.wp
  rw [hrun, Oper.upon_enter]
  refine Calls.mono (((hcs f as h hne).2 ι w args g hfree hr)) fun e w' he => ?_
  generalize hres : (call f as .none h).1 = r at he hok hpan
  cases r with
  | bad => exact absurd hres hne
  | ok v1 h1 =>
    cases e with
    | returned v' => obtain ⟨ι', c, hv⟩ := he; exact hok h1 v1 v' ι' w' rfl c hv
    | panicked ch => exact he.elim
    | outgrown => exact he.elim
  | pan v1 h1 =>
    cases e with
    | returned v' => exact he.elim
    | panicked ch => obtain ⟨v', ι', rfl, c, hv⟩ := he; exact hpan h1 v1 v' ι' w' rfl c hv
    | outgrown => exact he.elim
end
end
end Go.Eng
namespace Go.Eng
noncomputable section
section
variable {ev : Ev} {h h' : Heap} {v : V} {call : CallT}
def NP (r : OR) : Prop := ∀ v h, r ≠ .pan v h
theorem npBad : NP .bad := fun _ _ e => by cases e
theorem npOk {v : V} {h : Heap} : NP (.ok v h) := fun _ _ e => by cases e
theorem storeC_np {b o n : Nat} {vs : List V} {x : V} : NP (h.storeC b o n vs .bad fun h => .ok x h) := by
  rcases storeC_cps h b o n vs OR.bad (fun h => .ok x h) with e | ⟨h1, a, e⟩
  · rw [e]; exact npBad
  · rw [e]; exact npOk
theorem mk_np' {o : Obj} {x : V} : NP (mk h o x) := by
  show NP (Bool.rec .bad (h.newC o fun h => .ok x h) (okSize o))
  cases (okSize o) with
  | false => exact npBad
  | true => rw [newC_eq]; exact npOk
theorem append1_np {r bytes b q n m : Nat} {cap : Option Nat} {new : List V} : NP (append1 h r bytes b q n cap new m) := by
  unfold append1
  simp only [force_eq]
  cases ((Nat.mul (Nat.add n m) bytes).ble 1099511627776 && Nat.ble 8 b) with
  | false => exact npBad
  | true =>
    rw [cond_true]
    cases cap with
    | some c =>
      show NP (bif (Nat.add n m).ble c then _ else _)
      cases (Nat.add n m).ble c with
      | true => exact storeC_np
      | false =>
        show NP (Option.rec .bad _ (h.load b q (Nat.mul n r)))
        cases h.load b q (Nat.mul n r) with
        | none => exact npBad
        | some old => simp only [setRows_eq]; exact mk_np'
    | none =>
      show NP (Obj.cells? .bad _ (h.obj b))
      cases h.obj b with
      | none => exact npBad
      | some ob =>
        cases ob with
        | cells r' f ap sz rows =>
          show NP (bif r'.beq r && (q.mod r).beq 0 then _ else .bad)
          cases (r'.beq r && (q.mod r).beq 0) with
          | false => exact npBad
          | true =>
            rw [cond_true]
            cases (Nat.add q (Nat.mul (Nat.add n m) r)).ble sz with
            | true => exact storeC_np
            | false =>
              rw [cond_false]
              cases (Nat.add q (Nat.mul n r)).ble sz with
              | false => exact npBad
              | true =>
                rw [cond_true]
                obtain ⟨h1, a, e⟩ := grown_cps h b f ap sz (Nat.add (Nat.add ap q) (Nat.mul n r)) (Nat.add (Nat.add ap q) (Nat.mul (Nat.add n m) r)) (fun h1 =>
                  bif q.beq 0 then setRows r m n new rows fun t => mk h1 (.cells r f ap (Nat.mul (Nat.add n m) r) t) (.sl h.next 0 (Nat.add n m) none)
                  else Option.rec .bad (fun old => setRows r (Nat.add n m) 0 (appV old new) T.e fun t => mk h1 (.cells r f (Nat.add ap q) (Nat.mul (Nat.add n m) r) t) (.sl h.next 0 (Nat.add n m) none)) (getRows rows n (q.div r)))
                show NP (grown h b f ap sz _ _ _)
                rw [e]
                cases q.beq 0 with
                | true => simp only [cond_true, setRows_eq]; exact mk_np'
                | false =>
                  rw [cond_false]
                  cases getRows rows n (q.div r) with
                  | none => exact npBad
                  | some old => simp only [setRows_eq]; exact mk_np'
        | _ => exact npBad

theorem appendTo_np {r bytes m : Nat} {s : V} {new : List V} : NP (appendTo h r bytes s new m) := by
  unfold appendTo
  split
  · cases m.beq 0 with
    | true => exact npOk
    | false =>
      rw [cond_false]
      cases (Nat.mul m bytes).ble 1099511627776 with
      | false => exact npBad
      | true => simp only [cond_true, force_eq, setRows_eq]; exact mk_np'
  · cases m.beq 0 with
    | true => exact npOk
    | false => exact append1_np
  · exact npBad
theorem copy1_np {b o m r : Nat} {l : Option (List V)} : NP (copy1 h b o m r l) := by
  cases l with
  | none => exact npBad
  | some l => exact storeC_np
def mayPan : OpH → Bool
  | .call .. | .callv .. | .panic .. => true
  | _ => false
theorem heavy_np (e : OpH) (hp : mayPan e = false) : NP (heavy e call ev h) := by
  cases e with
  | store n a x =>
    show NP (Option.rec .bad (fun p => Option.rec .bad (fun l => Bool.rec .bad (h.storeC p.1 p.2 n l .bad fun h => .ok un h) ((lenV l).beq n)) (ev x).asCells) (ev a).asPtr : OR)
    cases (ev a).asPtr with
    | none => exact npBad
    | some p =>
      show NP (Option.rec .bad (fun l => Bool.rec .bad (h.storeC p.1 p.2 n l .bad fun h => .ok un h) ((lenV l).beq n)) (ev x).asCells : OR)
      cases (ev x).asCells with
      | none => exact npBad
      | some l =>
        show NP (Bool.rec .bad (h.storeC p.1 p.2 n l .bad fun h => .ok un h) ((lenV l).beq n) : OR)
        cases (lenV l).beq n with
        | false => exact npBad
        | true => exact storeC_np
  | mupd q m k v =>
    show NP (match ev m with
      | .map b => bif b.blt 8 then .bad else Obj.map? .bad (fun es c => Option.rec .bad (fun y => forceL y.1 fun l => force y.2 fun c => h.putC b (.map l c) fun h => .ok un h) ((ev k).force fun x => (ev v).force fun v => upd (eqKey q) x v c es)) (h.obj b)
      | _ => .bad)
    split
    · rename_i b _
      cases b.blt 8 with
      | true => exact npBad
      | false =>
      simp only [cond_false]
      cases h.obj b with
      | none => exact npBad
      | some ob =>
        cases ob with
        | map es c =>
          show NP (Option.rec .bad (fun y => forceL y.1 fun l => force y.2 fun c => h.putC b (.map l c) fun h => .ok un h) ((ev k).force fun x => (ev v).force fun v => upd (eqKey q) x v c es) : OR)
          cases ((ev k).force fun x => (ev v).force fun v => upd (eqKey q) x v c es) with
          | none => exact npBad
          | some y => simp only [forceL_eq, force_eq, putC_eq]; exact npOk
        | _ => exact npBad
    · exact npBad
  | call f as => cases hp
  | callv x as => cases hp
  | append r bytes s x =>
    show NP (match ev x with
      | .slN => appendTo h r bytes (ev s) [] 0
      | .sl b o m _ => Option.rec .bad (fun new => appendTo h r bytes (ev s) new m) (h.load b o (Nat.mul m r))
      | .str m a => bif r.beq 1 then appendTo h r bytes (ev s) (strCells (sBytes m a)) m else .bad
      | _ => .bad)
    split
    · exact appendTo_np
    · rename_i b o m _ _
      cases h.load b o (Nat.mul m r) with
      | none => exact npBad
      | some l => exact appendTo_np
    · cases r.beq 1 with
      | false => exact npBad
      | true => exact appendTo_np
    · exact npBad
  | copy r d s =>
    show NP (match ev d with
      | .slN => (match ev s with
        | .slN | .sl .. | .str .. => OR.ok (.int .i64 (.ofNat 0)) h
        | _ => .bad)
      | .sl b o n _ => (match ev s with
        | .slN => .ok (.int .i64 (.ofNat 0)) h
        | .sl c q m _ => copy1 h b o (natMin m n) r (h.load c q (Nat.mul (natMin m n) r))
        | .str m a => copy1 h b o (natMin m n) 1 (some (takeV (natMin m n) (strCells (sBytes m a))))
        | _ => .bad)
      | _ => .bad)
    split
    · split <;> first | exact npOk | exact npBad
    · split
      · exact npOk
      · exact copy1_np
      · exact copy1_np
      · exact npBad
    · exact npBad
  | clear zero x =>
    show NP (match ev x with
      | .slN => .ok un h
      | .sl b o n _ => h.storeC b o (Nat.mul n (lenV zero)) (rep n zero) .bad fun h => .ok un h
      | _ => .bad)
    split
    · exact npOk
    · exact storeC_np
    · exact npBad
  | recover =>
    show NP (match h.pc with
      | .some v => .ok v ⟨h.t, h.next, h.fams, h.ds, .recovered⟩
      | _ => .ok .ifcN h)
    split <;> exact npOk
  | defer x as =>
    show NP (match ev x with
      | .fn f first cap => .ok un ⟨h.t, h.next, h.fams, (.fn f first cap, evs as ev) :: h.ds, h.pc⟩
      | _ => .bad)
    split
    · exact npOk
    · exact npBad
  | panic x => cases hp
end
end
end Go.Eng
namespace Go.Eng
noncomputable section
section
variable {P : Program} {ι : Inj} {h h' : Heap} {w : World} {F : Fct} {vs : List V} {env env0 : Env} {a : Act} {o : Oper} {v : V} {call : CallT}

theorem run_call_value {y : Operand} {o : Oper} {c : Call} (hx : o.op = .call c) (hc : c.callee = .value y) {f : Nat} {xs ys : Array Value} (hy : a.eval y = .func (.func f) xs ys) (hb : hasBody P f) :
    (execOp a.eval o).run P w = .ok (.enter f (xs ++ (c.args.map a.eval ++ ys))) w := by
  have := callFunc_run (P := P) (w := w) hb (xs ++ (c.args.map a.eval ++ ys))
  simp [execOp, hx, resolve, hc, hy, Deferred.ofValue, invoke, this, Result.andThen]

theorem asFn_some {x : V} {p : Nat × List V × List V} (h : x.asFn = some p) : x = .fn p.1 p.2.1 p.2.2 := by
  cases x <;> first | (cases h; done) | skip
  cases h; rfl

theorem evs_map (as : List A) (ev : Ev) : evs as ev = as.map ev := by
  induction as with
  | nil => rfl
  | cons b as ih => show ev b :: evs as ev = _; rw [ih]; rfl
theorem wp_callT (hcs : CallS P call) (g : Good ι h w) {f : Nat} {l m : List V} {as : List A} {xs ys : Array Value} {c : Call} {y : Operand} (hop : ∀ x b, chkAt F x b = true → vrel ι (A.ev b vs env) (a.eval x)) (hx : o.op = .call c) (hc : c.callee = .value y) (hy : a.eval y = .func (.func f) xs ys)
    (hl : vrels ι l xs.toList) (hm : vrels ι m ys.toList) (has : chks (chkAt F) c.args.toList as = true)
    {next : Act → World → Prop} {Q : Exit → Act → World → Prop} {r : OR} (hr : ofC h (call f (appV l (appV (evs as fun x => x.ev vs env) m)) .none h).1 = r) (hne : r ≠ .bad) (hfree : OR.free ι h r)
    (hnext : ∀ h1 v v' ι' w', r = .ok v h1 → Chg ι h w ι' h1 w' → vrel ι' v v' → next (a.put o.dst v') w')
    (hpan : ∀ h1 v v' ι' w', r = .pan v h1 → Chg ι h w ι' h1 w' → vrel ι' v v' → Q (.panic [{ v := v', recovered := false }]) a w') : o.wp P a w next Q := by
  generalize hres : (call f (appV l (appV (evs as fun x => x.ev vs env) m)) .none h).1 = q at hr
  have hq : q ≠ .bad := by intro e; subst e; exact hne hr.symm
  have hb := (hcs f (appV l (appV (evs as fun x => x.ev vs env) m)) h (by rw [hres]; exact hq)).1
  have hrun := run_call_value (P := P) (w := w) hx hc hy hb
  refine wp_enter hcs g hrun (by rw [hres]; exact hq) ?_ ?_ ?_ ?_
  · rw [hres]
    cases q with
    | ok v1 h1 => subst hr; exact hfree
    | pan v1 h1 => subst hr; exact hfree
    | bad => exact absurd rfl hq
  · rw [appV_eq, appV_eq, evs_map]
    rw [Array.toList_append, Array.toList_append, Array.toList_map]
    exact hl.append ((chks_rel hop _ _ has).append hm)
  · intro h1 v v' ι' w' hh hch hv
    rw [hres] at hh; subst hh; subst hr
    exact hnext _ v v' ι' w' rfl hch.back hv
  · intro h1 v v' ι' w' hh hch hv
    rw [hres] at hh; subst hh; subst hr
    exact hpan _ v v' ι' w' rfl hch.back hv

/-- what a heavy operation's step needs -/
theorem wp_heavy (hcs : CallS P call) (hcm : CallMono call) (g : Good ι h w) (s : StR ι F vs env env0 a.tmps) {e : OpH} (hok : okOp P F o.op (.H e) = true)
    {next : Act → World → Prop} {Q : Exit → Act → World → Prop}
    (hres : heavy e call (fun x => x.ev vs env) h ≠ .bad) (hfree : OR.free ι h (heavy e call (fun x => x.ev vs env) h))
    (hnext : ∀ h1 v v' ι' w', heavy e call (fun x => x.ev vs env) h = .ok v h1 → Chg ι h w ι' h1 w' → vrel ι' v v' → next (a.put o.dst v') w')
    (hpan : ∀ h1 v v' ι' w', heavy e call (fun x => x.ev vs env) h = .pan v h1 → Chg ι h w ι' h1 w' → vrel ι' v v' → Q (.panic [{ v := v', recovered := false }]) a w') : o.wp P a w next Q := by
  have hop := chkAt_rel s
  simp only [okOp, Bool.and_eq_true] at hok
  obtain ⟨hdr, hok⟩ := hok
  have fin : ∀ v h1, heavy e call (fun x => x.ev vs env) h = .ok v h1 → GoalH P ι h w a.eval o v h1 → o.wp P a w next Q := by
    rintro v h1 hh ⟨n, v', ι', w', k1, k2, k3, k4⟩
    unfold Oper.wp
    rw [k1]
    rcases k2 with rfl | ⟨rfl, rfl⟩
    · exact hnext h1 v v' ι' w' hh k3 k4
    · exact hnext h1 v undef ι' w' hh k3 k4
  have calls : (∃ f as, e = .call f as) ∨ (∃ x as, e = .callv x as) → o.wp P a w next Q := by
    rintro (⟨f, as, rfl⟩ | ⟨x, as, rfl⟩)
    · simp only [okH] at hok
      split at hok
      · rename_i f' args argTypes hx
        simp only [Bool.and_eq_true, decide_eq_true_eq] at hok
        obtain ⟨rfl, _, has⟩ := hok
        exact wp_callT hcs g (l := []) (m := []) (as := as) (xs := #[]) (ys := #[]) hop hx rfl rfl rfl rfl has (by
          show ofC h (call f' (appV [] (appV (evs as fun x => x.ev vs env) [])) .none h).1 = heavy (.call f' as) call (fun x => x.ev vs env) h
          rw [appV_eq, appV_eq, List.append_nil, List.nil_append]; rfl) hres hfree hnext hpan
      · cases hok
    · simp only [okH] at hok
      split at hok
      · rename_i y args argTypes hx
        simp only [Bool.and_eq_true] at hok
        obtain ⟨hy, has⟩ := hok
        have hyr := hop _ _ hy
        have hh : heavy (.callv x as) call (fun x => x.ev vs env) h = (Option.rec .bad (fun x => ofC h (call x.1 (appV x.2.1 (appV (evs as fun x => x.ev vs env) x.2.2)) .none h).1) (A.ev x vs env).asFn : OR) := rfl
        cases hf : (A.ev x vs env).asFn with
        | none => rw [hf] at hh; exact absurd hh hres
        | some p =>
          rw [asFn_some hf] at hyr
          obtain ⟨xs, ys, e1, e2, e3⟩ := hyr
          rw [hf] at hh
          exact wp_callT hcs g hop hx rfl e1 e2 e3 has hh.symm hres hfree hnext hpan
      · cases hok
  cases hh : heavy e call (fun x => x.ev vs env) h with
  | bad => exact absurd hh hres
  | ok v h1 =>
    have hfree' : FreeIn ι h h1 := by rw [hh] at hfree; exact hfree
    cases e with
    | store n x y => exact fin v h1 hh (hv_store g hop hok hh)
    | mupd q m k u => exact fin v h1 hh (hv_mupd g hop hok hh)
    | append r b x y => exact fin v h1 hh (hv_append g hfree' hop hok hh)
    | copy r x y => exact fin v h1 hh (hv_copy g hop hok hh)
    | clear z x => exact fin v h1 hh (hv_clear g hop hok hh)
    | recover => cases hdr
    | defer x as => cases hdr
    | panic x =>
      have hh : (match A.ev x vs env with
        | .ifc t v => OR.pan (.ifc t v) h
        | _ => .bad) = OR.ok v h1 := hh
      split at hh <;> cases hh
    | call f as => exact calls (.inl ⟨_, _, rfl⟩)
    | callv x as => exact calls (.inr ⟨_, _, rfl⟩)
  | pan v h1 =>
    cases e with
    | call f as => exact calls (.inl ⟨_, _, rfl⟩)
    | callv x as => exact calls (.inr ⟨_, _, rfl⟩)
    | panic x =>
      have hh' : (match A.ev x vs env with
        | .ifc t v => OR.pan (.ifc t v) h
        | _ => .bad) = OR.pan v h1 := hh
      split at hh'
      · rename_i t u hx
        cases hh'
        simp only [okH] at hok
        split at hok
        · rename_i x' hxo
          have hr := hop _ _ hok
          rw [hx] at hr
          obtain ⟨y, hy, hv⟩ := hr
          unfold Oper.wp
          have : (execOp a.eval o).run P w = .halt (.panic (.iface t y)) w := by simp [execOp, hxo, hy, Instr.panic, Result.andThen]
          rw [this]
          exact hpan h _ (.iface t y) ι w hh (Chg.refl g) ⟨y, rfl, hv⟩
        · cases hok
      · cases hh'
    | _ => exact absurd hh (heavy_np _ rfl _ _)
end
end
end Go.Eng
namespace Go.Eng
noncomputable section
section
variable {P : Program} {ι : Inj} {h h' : Heap} {w : World} {F : Fct} {vs : List V} {env env0 env' : Env} {a : Act} {o : Oper} {v : V} {call : CallT} {x : X}

/-- One operation, whatever it is: what follows is asked for the value, or for the panic. -/
theorem wp_op (hcs : CallS P call) (hcm : CallMono call) (g : Good ι h w) (s : StR ι F vs env env0 a.tmps) {op : Op} (hok : okOp P F o.op op = true) {k : VK} {next : Act → World → Prop} {Q : Exit → Act → World → Prop}
    (he : opK op call (fun x => x.ev vs env) env h k = .ok x env' h') (hfree : FreeIn ι h h') (hk : ∀ v h1, CR.next h1 (k v h1))
    (hnext : ∀ h1 v v' ι' w', k v h1 = .ok x env' h' → Chg ι h w ι' h1 w' → FreeIn ι' h1 h' → h1.next ≤ h'.next → vrel ι' v v' → next (a.put o.dst v') w')
    (hpan : ∀ v v' ι' w', x = .pan v → env' = env → Chg ι h w ι' h' w' → vrel ι' v v' → Q (.panic [{ v := v', recovered := false }]) a w') : o.wp P a w next Q := by
  have hle : ∀ v h1, k v h1 = .ok x env' h' → h1.next ≤ h'.next := fun v h1 e => by have := hk v h1; rw [e] at this; exact this
  rcases opK_inv (by simp) he with ⟨e, v, rfl, hl, e2⟩ | ⟨e, ob, v, rfl, hl, hlt, hs, e2⟩ | ⟨e, v, h1, rfl, hh, e2⟩ | ⟨e, v, h1, rfl, hh, e2⟩
  · obtain ⟨v', r1, r2⟩ := light_val (P := P) (w := w) g (chkAt_rel s) hok hl
    unfold Oper.wp; rw [r1]
    exact hnext h v v' ι w e2 (Chg.refl g) hfree (hle _ _ e2) r2
  · have hlen := hle _ _ e2
    have hf : ι h.next = none := hfree _ (Nat.le_refl _) (Nat.lt_of_lt_of_le (Nat.lt_succ_self _) hlen)
    obtain ⟨v', w', B, r1, r2, r3⟩ := light_new (P := P) (w := w) (chkAt_rel s) hok hl hs
    unfold Oper.wp; rw [r1]
    have c := r2.chg g hf hlt
    exact hnext _ v v' _ w' e2 c (hfree.right c.ext) hlen r3
  · have hn := heavy_next (ev := fun x => A.ev x vs env) (h := h) hcm e
    rw [hh] at hn
    have hlen := hle _ _ e2
    refine wp_heavy hcs hcm g s hok (by rw [hh]; simp) (by rw [hh]; exact hfree.left hlen) (fun h2 u u' ι' w' hh2 c hv => ?_) (fun h2 u u' ι' w' hh2 _ _ => by rw [hh] at hh2; cases hh2)
    rw [hh] at hh2; cases hh2
    exact hnext _ _ u' ι' w' e2 c (hfree.right c.ext) hlen hv
  · cases e2
    refine wp_heavy hcs hcm g s hok (by rw [hh]; simp) (by rw [hh]; exact hfree) (fun h2 u u' ι' w' hh2 _ _ => by rw [hh] at hh2; cases hh2) (fun h2 u u' ι' w' hh2 c hv => ?_)
    rw [hh] at hh2; cases hh2
    exact hpan _ u' ι' w' rfl rfl c hv
end
end
end Go.Eng
namespace Go.Eng
noncomputable section

/-! ### a region of fixed order -/
def dstOk (N : Nat) : Option Nat → Bool
  | some d => decide (d < N)
  | none => true
def guardOk (F : Fct) (N : Nat) (ops : Array Oper) (o : Oper) : Option (A × Bool) → Bool
  | none => o.guard == none
  | some (a, b) => (match o.guard with
    | some (i, b') => b' == b && (match (ops[i]?).bind (·.dst) with | some t => decide (t < N) && chkAt F (.tmp t) a | none => false)
    | none => false)
def chkN (P : Program) (N acts : Nat) (ops : Array Oper) : List Oper → Nat → List Opr → Fct → Option Fct
  | [], _, [], F => some F
  | [], _, _ :: _, _ => none
  | o :: os, i, l, F =>
    if acts.testBit i then
      match l with
      | [] => none
      | .p op :: l => if dstOk N o.dst && (guardOk F N ops o none && okOp P F o.op op) then chkN P N acts ops os (i + 1) l (F.push o.dst none) else none
      | .s x y op :: l => if dstOk N o.dst && (guardOk F N ops o none && okOp P F o.op op) then chkN P N acts ops os (i + 1) l (F.push o.dst (some (x, y))) else none
      | .g g b op :: l => if dstOk N o.dst && (guardOk F N ops o (some (g, b)) && okOp P F o.op op) then chkN P N acts ops os (i + 1) l (F.push o.dst none) else none
      | .gs g b x y op :: l => if dstOk N o.dst && (guardOk F N ops o (some (g, b)) && okOp P F o.op op) then chkN P N acts ops os (i + 1) l (F.push o.dst (some (x, y))) else none
    else match o.guard, o.dst, o.op with
      | none, some d, .move x => if d < N then chkN P N acts ops os (i + 1) l (F.move d x) else none
      | none, some d, .assign x => if d < N then chkN P N acts ops os (i + 1) l (F.move d x) else none
      | _, _, _ => none
end
end Go.Eng
namespace Go.Eng
noncomputable section
section
variable {P : Program} {ι : Inj} {h h' : Heap} {w : World} {F F' : Fct} {vs : List V} {env env0 env' : Env} {a : Act} {o : Oper} {v : V} {call : CallT} {x : X} {N acts : Nat} {ops : Array Oper}

theorem put_size {dst : Option Nat} {y : Value} : (a.put dst y).tmps.size = a.tmps.size := by cases dst <;> simp [Act.put]
theorem put_defers {dst : Option Nat} {y : Value} : (a.put dst y).defers = a.defers := by cases dst <;> rfl
theorem dst_lt {dst : Option Nat} (h : dstOk N dst = true) (hs : a.tmps.size = N) : ∀ d, dst = some d → d < a.tmps.size := by
  intro d e; subst e; rw [hs]; simpa [dstOk] using h
theorem wanted_none (h : guardOk F N ops o none = true) (y : Nat → Option Bool) : Region.wanted o y = true := by
  have h : (o.guard == none) = true := h
  have h : o.guard = none := by simpa using h
  simp [Region.wanted, h]
theorem V.gd_some {u : V} {b c : Bool} (h : u.gd b = some c) : (∃ d, u = .bool d ∧ c = (b == d)) ∨ (∃ l, u = .tup l ∧ c = false) := by
  cases u <;> first | (cases h; done) | skip
  · cases h; exact .inl ⟨_, rfl, rfl⟩
  · cases h; exact .inr ⟨_, rfl, rfl⟩
theorem wanted_some (s : StR ι F vs env env0 a.tmps) (hs : a.tmps.size = N) {g : A} {b c : Bool} (h : guardOk F N ops o (some (g, b)) = true) (hg : (A.ev g vs env).gd b = some c) : Region.wanted o (yielded ops a.tmps) = c := by
  simp only [guardOk] at h
  cases hgd : o.guard with
  | none => simp [hgd] at h
  | some p =>
    obtain ⟨i, b'⟩ := p
    simp only [hgd, Bool.and_eq_true, beq_iff_eq] at h
    obtain ⟨rfl, h⟩ := h
    cases ht : (ops[i]?).bind (·.dst) with
    | none => simp [ht] at h
    | some t =>
      simp only [ht, Bool.and_eq_true, decide_eq_true_eq] at h
      obtain ⟨hlt, hc⟩ := h
      have hr := chkAt_rel s _ _ hc
      have hl : t < a.tmps.size := Nat.lt_of_lt_of_eq hlt hs.symm
      rcases V.gd_some hg with ⟨d, he, rfl⟩ | ⟨l, he, rfl⟩
      · rw [he] at hr
        have hr : a.tmps.getD t undef = .bool d := hr
        have hy : yielded ops a.tmps i = some d := by
          have : a.tmps[t]? = some (.bool d) := by
            rw [Array.getElem?_eq_getElem hl]
            simpa [Array.getD, hl] using hr
          unfold yielded
          rw [ht]
          simp [this]
        simp only [Region.wanted, hgd, hy]
        cases b' <;> cases d <;> rfl
      · rw [he] at hr
        obtain ⟨cs, hr, _⟩ := hr
        have hr : a.tmps.getD t undef = .tuple cs := hr
        have hy : yielded ops a.tmps i = none := by
          have : a.tmps[t]? = some (.tuple cs) := by
            rw [Array.getElem?_eq_getElem hl]
            simpa [Array.getD, hl] using hr
          unfold yielded
          rw [ht]
          simp [this]
        simp only [Region.wanted, hgd, hy]
        cases b' <;> rfl
end
end
end Go.Eng
namespace Go.Eng
noncomputable section
section
variable {P : Program} {h' : Heap} {env0 env' : Env} {call : CallT} {x : X} {N acts : Nat} {ops : Array Oper} {Q : Exit → Act → World → Prop} {F' : Fct} {D : List Deferred}

theorem wpList_yes {rest : List Oper} {o : Oper} {a : Act} {w : World} (hw : Region.wanted o (yielded ops a.tmps) = true) (h : o.wp P a w (wpList P ops Q rest) Q) : wpList P ops Q (o :: rest) a w := by
  unfold wpList; rw [if_pos hw]; exact .inl h
theorem wpList_no {rest : List Oper} {o : Oper} {a : Act} {w : World} (hw : Region.wanted o (yielded ops a.tmps) = false) (h : wpList P ops Q rest (a.put o.dst undef) w) : wpList P ops Q (o :: rest) a w := by
  unfold wpList; rw [if_neg (by rw [hw]; simp)]; exact h

theorem push_tmp {F : Fct} {dst : Option Nat} {sl : Option (D8 × D8)} (t : Nat) (h : dst ≠ some t) : (F.push dst sl).tmp t = F.tmp t := by
  unfold Fct.push Fct.tmp
  cases dst with
  | none => rfl
  | some d => simp only [look_cons]; rw [if_neg (by intro e; subst e; exact h rfl)]
theorem move_tmp {F : Fct} {d t : Nat} {x : Operand} (h : d ≠ t) : (F.move d x).tmp t = F.tmp t := by
  unfold Fct.move Fct.tmp
  simp only [look_cons]; rw [if_neg (Ne.symm h)]
theorem wpList_fixed (hcs : CallS P call) (hcm : CallMono call) : ∀ (os : List Oper) (i : Nat) (l : List Opr) (F : Fct) (vs : List V) (env : Env) (a : Act) (w : World) (ι : Inj) (h : Heap),
    chkN P N acts ops os i l F = some F' → opsN l call vs env h = .ok x env' h' → StR ι F vs env env0 a.tmps → a.tmps.size = N → a.defers = D → Good ι h w → FreeIn ι h h' →
    (x = .nrm → ∀ ι' vs' a' w', Chg ι h w ι' h' w' → StR ι' F' vs' env' env0 a'.tmps → a'.tmps.size = N → a'.defers = D → Q .normal a' w') →
    (∀ v, x = .pan v → ∀ v' ι' a' w', Chg ι h w ι' h' w' → vrel ι' v v' → a'.defers = D → a'.tmps.size = N → (∀ t i j, (∀ o ∈ os, o.dst ≠ some t) → F.tmp t = some (.slot i j) → vrel ι' (Env.get i j env0) (a'.tmps.getD t undef)) → Q (.panic [{ v := v', recovered := false }]) a' w') → wpList P ops Q os a w
  | [], i, [], F, vs, env, a, w, ι, h, hc, he, s, hs, hd, g, hf, hN, hP => by
    cases hc
    have he : CR.ok .nrm env h = .ok x env' h' := he
    cases he
    exact hN rfl ι vs a w (Chg.refl g) s hs hd
  | [], i, _ :: _, F, vs, env, a, w, ι, h, hc, he, s, hs, hd, g, hf, hN, hP => by cases hc
  | o :: os, i, l, F, vs, env, a, w, ι, h, hc, he, s, hs, hd, g, hf, hN, hP => by
    have ih := wpList_fixed hcs hcm os (i + 1)
    -- one operation that is wanted
    have one : ∀ (op : Op) (l' : List Opr) (F2 : Fct) (env2 : V → Env), okOp P F o.op op = true → chkN P N acts ops os (i + 1) l' F2 = some F' → (∀ t, o.dst ≠ some t → F2.tmp t = F.tmp t) → Region.wanted o (yielded ops a.tmps) = true →
        (∀ v v' ι', ι.le ι' → vrel ι' v v' → StR ι' F2 (v :: vs) (env2 v) env0 (a.put o.dst v').tmps) →
        opK op call (fun x => x.ev vs env) env h (fun v h => opsN l' call (v :: vs) (env2 v) h) = .ok x env' h' → wpList P ops Q (o :: os) a w := by
      intro op l' F2 env2 hok hc2 hF2 hw hst he2
      refine wpList_yes hw (wp_op hcs hcm g s hok he2 hf (fun v h1 => opsN_next hcm _ _ _ _) (fun h1 v v' ι' w' e2 c hf2 hle hv => ?_) (fun v v' ι' w' ex _ c hv => hP v ex v' ι' a w' c hv hd hs (fun t i j _ ht => (s.tmps t _ ht).mono c.ext.1)))
      refine ih l' F2 (v :: vs) (env2 v) (a.put o.dst v') w' ι' h1 hc2 e2 (hst v v' ι' c.ext.1 hv) (put_size.trans hs) (put_defers.trans hd) c.good hf2
        (fun hx ι2 vs2 a2 w2 c2 s2 k1 k2 => hN hx ι2 vs2 a2 w2 (c.trans c2 (hf.left hle)) s2 k1 k2)
        (fun u hx u' ι2 a2 w2 c2 hu k ks kk => hP u hx u' ι2 a2 w2 (c.trans c2 (hf.left hle)) hu k ks (fun t i j hn ht => kk t i j (fun o ho => hn o (List.mem_cons_of_mem _ ho)) (by rw [hF2 t (hn o (List.mem_cons_self ..))]; exact ht)))
    -- one that is not wanted
    have none' : ∀ (l' : List Opr) (F2 : Fct) (env2 : Env), chkN P N acts ops os (i + 1) l' F2 = some F' → (∀ t, o.dst ≠ some t → F2.tmp t = F.tmp t) → Region.wanted o (yielded ops a.tmps) = false → StR ι F2 (un :: vs) env2 env0 (a.put o.dst undef).tmps →
        opsN l' call (un :: vs) env2 h = .ok x env' h' → wpList P ops Q (o :: os) a w := by
      intro l' F2 env2 hc2 hF2 hw hst he2
      exact wpList_no hw (ih l' F2 (un :: vs) env2 _ w ι h hc2 he2 hst (put_size.trans hs) (put_defers.trans hd) g hf hN (fun u hx u' ι2 a2 w2 c2 hu k ks kk => hP u hx u' ι2 a2 w2 c2 hu k ks (fun t i j hn ht => kk t i j (fun o ho => hn o (List.mem_cons_of_mem _ ho)) (by rw [hF2 t (hn o (List.mem_cons_self ..))]; exact ht))))
    unfold chkN at hc
    by_cases hb : acts.testBit i = true
    · rw [if_pos hb] at hc
      cases l with
      | nil => cases hc
      | cons r l' =>
        cases r with
        | p op =>
          simp only at hc
          split at hc
          · rename_i hk
            simp only [Bool.and_eq_true] at hk
            exact one op l' _ (fun _ => env) hk.2.2 hc push_tmp (wanted_none hk.2.1 _) (fun v v' ι' hle hv => (s.mono hle).push hv (dst_lt hk.1 hs)) he
          · cases hc
        | s p q op =>
          simp only at hc
          split at hc
          · rename_i hk
            simp only [Bool.and_eq_true] at hk
            refine one op l' _ (fun v => Env.set p q v env) hk.2.2 hc push_tmp (wanted_none hk.2.1 _) (fun v v' ι' hle hv => (s.mono hle).pushS hv (dst_lt hk.1 hs) p q) ?_
            have he : opK op call (fun x => x.ev vs env) env h (fun v h => Env.setC p q v (fun env => opsN l' call (v :: vs) env h) env) = .ok x env' h' := he
            simpa only [Env.setC_eq] using he
          · cases hc
        | g gd b op =>
          simp only at hc
          split at hc
          · rename_i hk
            simp only [Bool.and_eq_true] at hk
            have he : (Option.rec .bad (fun c => Bool.rec (opsN l' call (un :: vs) env h) (oP op (opsN l') call vs env h) c) ((gd.ev vs env).gd b) : CR) = .ok x env' h' := he
            cases hg : (A.ev gd vs env).gd b with
            | none => rw [hg] at he; cases he
            | some c =>
              rw [hg] at he
              have hw := wanted_some s hs hk.2.1 hg
              have he : (Bool.rec (opsN l' call (un :: vs) env h) (oP op (opsN l') call vs env h) c : CR) = .ok x env' h' := he
              cases hbc : c with
              | false => rw [hbc] at he hw; exact none' l' _ env hc push_tmp hw (s.push undef_rel (dst_lt hk.1 hs)) he
              | true => rw [hbc] at he hw; exact one op l' _ (fun _ => env) hk.2.2 hc push_tmp hw (fun v v' ι' hle hv => (s.mono hle).push hv (dst_lt hk.1 hs)) he
          · cases hc
        | gs gd b p q op =>
          simp only at hc
          split at hc
          · rename_i hk
            simp only [Bool.and_eq_true] at hk
            have he : (Option.rec .bad (fun c => Bool.rec (Env.setC p q un (fun env => opsN l' call (un :: vs) env h) env) (oS p q op (opsN l') call vs env h) c) ((gd.ev vs env).gd b) : CR) = .ok x env' h' := he
            cases hg : (A.ev gd vs env).gd b with
            | none => rw [hg] at he; cases he
            | some c =>
              rw [hg] at he
              have hw := wanted_some s hs hk.2.1 hg
              have he : (Bool.rec (Env.setC p q un (fun env => opsN l' call (un :: vs) env h) env) (oS p q op (opsN l') call vs env h) c : CR) = .ok x env' h' := he
              cases hbc : c with
              | false =>
                rw [hbc] at he hw
                have he : Env.setC p q un (fun env => opsN l' call (un :: vs) env h) env = .ok x env' h' := he
                rw [Env.setC_eq] at he
                exact none' l' _ _ hc push_tmp hw (s.pushS undef_rel (dst_lt hk.1 hs) p q) he
              | true =>
                rw [hbc] at he hw
                refine one op l' _ (fun v => Env.set p q v env) hk.2.2 hc push_tmp hw (fun v v' ι' hle hv => (s.mono hle).pushS hv (dst_lt hk.1 hs) p q) ?_
                have he : opK op call (fun x => x.ev vs env) env h (fun v h => Env.setC p q v (fun env => opsN l' call (v :: vs) env h) env) = .ok x env' h' := he
                simpa only [Env.setC_eq] using he
          · cases hc
    · rw [if_neg hb] at hc
      split at hc
      · rename_i d y hgd hdst hop
        by_cases hlt : d < N
        · rw [if_pos hlt] at hc
          refine wpList_yes (by simp [Region.wanted, hgd]) ?_
          unfold Oper.wp
          have : (execOp a.eval o).run P w = .ok (.value (a.eval y)) w := by simp [execOp, hop]
          rw [this, Oper.upon_value, hdst]
          exact ih l _ vs env _ w ι h hc he (s.move (Nat.lt_of_lt_of_eq hlt hs.symm) y) (put_size.trans hs) (put_defers.trans hd) g hf hN (fun u hx u' ι2 a2 w2 c2 hu k ks kk => hP u hx u' ι2 a2 w2 c2 hu k ks (fun t i j hn ht => kk t i j (fun o ho => hn o (List.mem_cons_of_mem _ ho)) (by rw [move_tmp (fun e => hn o (List.mem_cons_self ..) (by rw [hdst, e]))]; exact ht)))
        · rw [if_neg hlt] at hc; cases hc
      · rename_i d y hgd hdst hop
        by_cases hlt : d < N
        · rw [if_pos hlt] at hc
          refine wpList_yes (by simp [Region.wanted, hgd]) ?_
          unfold Oper.wp
          have : (execOp a.eval o).run P w = .ok (.value (a.eval y)) w := by simp [execOp, hop]
          rw [this, Oper.upon_value, hdst]
          exact ih l _ vs env _ w ι h hc he (s.move (Nat.lt_of_lt_of_eq hlt hs.symm) y) (put_size.trans hs) (put_defers.trans hd) g hf hN (fun u hx u' ι2 a2 w2 c2 hu k ks kk => hP u hx u' ι2 a2 w2 c2 hu k ks (fun t i j hn ht => kk t i j (fun o ho => hn o (List.mem_cons_of_mem _ ho)) (by rw [move_tmp (fun e => hn o (List.mem_cons_self ..) (by rw [hdst, e]))]; exact ht)))
        · rw [if_neg hlt] at hc; cases hc
      · cases hc
end
end
end Go.Eng
namespace Go.Eng
variable {D : List Deferred}
noncomputable section

/-! ### code -/
structure ActR (D : List Deferred) (ι : Inj) (temps : List Nat) (N : Nat) (env : Env) (a : Act) : Prop where
  size : a.tmps.size = N
  defers : a.defers = D
  tmps : ∀ k t, temps[k]? = some t → vrel ι (Env.get (slotOf k).1 (slotOf k).2 env) (a.tmps.getD t undef)

def slots : List Nat → Nat → List (Nat × Option Src)
  | [], _ => []
  | t :: l, k => (t, some (.slot (slotOf k).1 (slotOf k).2)) :: slots l (k + 1)
def Fct.start (temps : List Nat) : Fct := ⟨0, slots temps 0, []⟩
def srcIs : Src → Src → Bool
  | .val p, .val q => p == q
  | .slot i j, .slot i' j' => decide (i = i') && decide (j = j')
  | _, _ => false
def endOk (F : Fct) : List Nat → Nat → Bool
  | [], _ => true
  | t :: l, k => (match F.tmp t with
    | none => false
    | some s => srcIs s (match F.at_ (slotOf k).1 (slotOf k).2 with | some p => .val p | none => .slot (slotOf k).1 (slotOf k).2)) && endOk F l (k + 1)

theorem look_slots {t : Nat} {s : Option Src} : ∀ (l : List Nat) (k : Nat), look t (slots l k) = some s → ∃ j, l[j]? = some t ∧ s = some (.slot (slotOf (k + j)).1 (slotOf (k + j)).2)
  | [], k, h => by cases h
  | x :: l, k, h => by
    unfold slots at h
    rw [look_cons] at h
    by_cases e : t = x
    · rw [if_pos e] at h; cases h; subst e; exact ⟨0, rfl, rfl⟩
    · rw [if_neg e] at h
      obtain ⟨j, h1, h2⟩ := look_slots l (k + 1) h
      exact ⟨j + 1, by simpa using h1, by rw [h2, show k + 1 + j = k + (j + 1) by omega]⟩
theorem ActR.start {ι : Inj} {temps : List Nat} {N : Nat} {env : Env} {a : Act} (r : ActR D ι temps N env a) : StR ι (Fct.start temps) [] env env a.tmps := by
  refine ⟨rfl, fun i j => rfl, fun i j p hp => (by cases hp), fun t s ht => ?_⟩
  have ht : (match look t (slots temps 0) with | some s => s | none => none) = some s := ht
  cases hl : look t (slots temps 0) with
  | none => rw [hl] at ht; cases ht
  | some s' =>
    rw [hl] at ht
    have ht : s' = some s := ht
    subst ht
    obtain ⟨j, h1, h2⟩ := look_slots temps 0 hl
    rw [Nat.zero_add] at h2
    cases h2
    exact r.tmps j t h1
theorem srcIs_eq {s u : Src} (h : srcIs s u = true) : s = u := by
  cases s <;> cases u <;> simp [srcIs] at h
  · rw [h]
  · rw [h.1, h.2]
theorem endOk_at {F : Fct} : ∀ (l : List Nat) (k : Nat), endOk F l k = true → ∀ j t, l[j]? = some t → F.tmp t = some (match F.at_ (slotOf (k + j)).1 (slotOf (k + j)).2 with | some p => .val p | none => .slot (slotOf (k + j)).1 (slotOf (k + j)).2)
  | [], k, _, j, t, hj => by simp at hj
  | x :: l, k, h, j, t, hj => by
    simp only [endOk, Bool.and_eq_true] at h
    cases j with
    | zero =>
      simp at hj; subst hj
      cases hs : F.tmp x with
      | none => simp [hs] at h
      | some s => simp only [hs] at h; rw [srcIs_eq h.1]; rfl
    | succ j =>
      have := endOk_at l (k + 1) h.2 j t (by simpa using hj)
      rw [show k + (j + 1) = k + 1 + j by omega]; exact this
theorem StR.end {ι : Inj} {F : Fct} {vs : List V} {env env0 : Env} {a : Act} {temps : List Nat} {N : Nat} (s : StR ι F vs env env0 a.tmps) (he : endOk F temps 0 = true) (hs : a.tmps.size = N) (hd : a.defers = D) : ActR D ι temps N env a := by
  refine ⟨hs, hd, fun k t hk => ?_⟩
  have h1 := endOk_at temps 0 he k t hk
  rw [Nat.zero_add] at h1
  have h2 := s.tmps t _ h1
  rw [s.slots]
  cases hp : F.at_ (slotOf k).1 (slotOf k).2 with
  | none => rw [hp] at h2; exact h2
  | some p => rw [hp] at h2; exact h2.2
end
end Go.Eng
namespace Go.Eng
noncomputable section

/-! ### sameness -/
theorem Bool.and_of {a b : Bool} (h : (a && b) = true) : a = true ∧ b = true := by simpa using h
mutual
theorem V.same_eq : ∀ (a b : V), V.same a b = true → a = b
  | .bot, .bot, _ => rfl
  | .bool a, .bool b, h => by simp [V.same] at h; rw [h]
  | .int j a, .int k b, h => by simp [V.same] at h; rw [h.1, h.2]
  | .str n x, .str m y, h => by
    simp only [V.same, sEq] at h
    cases e : n.beq m with
    | false => rw [e] at h; cases h
    | true => rw [e] at h; rw [Nat.eq_of_beq_eq_true e, Nat.eq_of_beq_eq_true h]
  | .ptrN, .ptrN, _ => rfl
  | .ptr a o, .ptr b q, h => by
    have h := Bool.and_of h; rw [Nat.eq_of_beq_eq_true h.1, Nat.eq_of_beq_eq_true h.2]
  | .slN, .slN, _ => rfl
  | .sl a o n c, .sl b q m d, h => by
    have h1 := Bool.and_of h; have h2 := Bool.and_of h1.2; have h3 := Bool.and_of h2.2
    rw [Nat.eq_of_beq_eq_true h1.1, Nat.eq_of_beq_eq_true h2.1, Nat.eq_of_beq_eq_true h3.1, show c = d by simpa using h3.2]
  | .mapN, .mapN, _ => rfl
  | .map a, .map b, h => by rw [Nat.eq_of_beq_eq_true h]
  | .fn f a b, .fn g c d, h => by
    have h1 := Bool.and_of h; have h2 := Bool.and_of h1.2
    rw [Nat.eq_of_beq_eq_true h1.1, V.sames_eq a c h2.1, V.sames_eq b d h2.2]
  | .fnN, .fnN, _ => rfl
  | .ifc t v, .ifc u w, h => by
    have h1 := Bool.and_of h; rw [Nat.eq_of_beq_eq_true h1.1, V.same_eq v w h1.2]
  | .ifcN, .ifcN, _ => rfl
  | .agg a, .agg b, h => by rw [V.sames_eq a b h]
  | .tup a, .tup b, h => by rw [V.sames_eq a b h]
theorem V.sames_eq : ∀ (a b : List V), V.sames a b = true → a = b
  | [], [], _ => rfl
  | a :: l, b :: m, h => by have h1 := Bool.and_of h; rw [V.same_eq a b h1.1, V.sames_eq l m h1.2]
end
theorem rowSame_eq (a b : Option (List V)) (h : rowSame a b = true) : a = b := by
  cases a <;> cases b <;> simp [rowSame] at h
  · rfl
  · rw [V.sames_eq _ _ h]
theorem R8.same_eq {α : Type} {p : α → α → Bool} (hp : ∀ a b, p a b = true → a = b) (s t : R8 α) (h : R8.same p s t = true) : s = t := by
  have h1 := Bool.and_of h; have h2 := Bool.and_of h1.2; have h3 := Bool.and_of h2.2; have h4 := Bool.and_of h3.2
  have h5 := Bool.and_of h4.2; have h6 := Bool.and_of h5.2; have h7 := Bool.and_of h6.2
  cases s; cases t
  simp only [R8.mk.injEq]
  exact ⟨hp _ _ h1.1, hp _ _ h2.1, hp _ _ h3.1, hp _ _ h4.1, hp _ _ h5.1, hp _ _ h6.1, hp _ _ h7.1, hp _ _ h7.2⟩
theorem B.empty_eq {α : Type} {s : B α} (h : s.empty = true) : s = .mt := by cases s <;> first | rfl | cases h
theorem T.same_eq (s t : T (List V)) (h : T.same s t = true) : s = t := by
  have h1 := Bool.and_of h; have h2 := Bool.and_of h1.2; have h3 := Bool.and_of h2.2; have h4 := Bool.and_of h3.2
  have e1 := R8.same_eq (R8.same_eq (R8.same_eq rowSame_eq)) _ _ h1.1
  have e3 := B.empty_eq h4.1; have e4 := B.empty_eq h4.2
  have e5 : s.y = none := by simpa using h2.1
  have e6 : t.y = none := by simpa using h3.1
  cases s; cases t
  simp only [T.mk.injEq]
  exact ⟨e1, e5.trans e6.symm, e3.trans e4.symm⟩
theorem Obj.same_eq (a b : Obj) (h : Obj.same a b = true) : a = b := by
  cases a <;> cases b <;> try (simp [Obj.same] at h; done)
  · rw [V.sames_eq _ _ h]
  · have h1 := Bool.and_of h; have h2 := Bool.and_of h1.2; have h3 := Bool.and_of h2.2; have h4 := Bool.and_of h3.2
    rw [Nat.eq_of_beq_eq_true h1.1, Nat.eq_of_beq_eq_true h2.1, Nat.eq_of_beq_eq_true h3.1, Nat.eq_of_beq_eq_true h4.1, T.same_eq _ _ h4.2]
  · rename_i es c es' c'
    cases es <;> cases es' <;> simp [Obj.same] at h
    rw [h]

/-! ### what is only read stays readable -/
def Keep (h h' : Heap) : Prop := ∀ b o, T.get b h.t = some o → T.get b h'.t = some o
theorem LR.force_val {n : Nat} {f : Nat → LR} {v : V} (h : force n f = .val v) : f n = .val v := by rwa [force_eq] at h
theorem Keep.load {h h' : Heap} (k : Keep h h') {b o n : Nat} {l : List V} (hl : h.load b o n = some l) : h'.load b o n = some l := by
  unfold Heap.load at hl ⊢
  by_cases hn : n.beq 0 = true
  · rw [hn] at hl ⊢; exact hl
  · rw [Bool.not_eq_true] at hn; rw [hn] at hl ⊢
    cases hb : T.get b h.t with
    | none => rw [show h.obj b = none from hb] at hl; cases hl
    | some ob => rw [show h.obj b = some ob from hb] at hl; rw [show h'.obj b = some ob from k b ob hb]; exact hl
theorem light_keep {h h' : Heap} (k : Keep h h') {e : OpL} {ev : Ev} {v : V} (he : light e ev h = .val v) : light e ev h' = .val v := by
  cases e with
  | load x =>
    have he : (ev x).onPtr (fun b o => .of (h.load1 b o)) = .val v := he
    show (ev x).onPtr (fun b o => .of (h'.load1 b o)) = .val v
    generalize ev x = u at he ⊢
    cases u <;> first | exact he | skip
    rename_i b o
    have he : LR.of (load1O o (T.get b h.t)) = .val v := he
    show LR.of (load1O o (T.get b h'.t)) = .val v
    cases hb : T.get b h.t with
    | none => rw [hb] at he; cases he
    | some ob => rw [hb] at he; rw [k b ob hb]; exact he
  | loadn n x =>
    have he : (ev x).onPtr (fun b o => Option.rec .bad (fun l => forceL l fun l => .val (.agg l)) (h.load b o n)) = .val v := he
    show (ev x).onPtr (fun b o => Option.rec .bad (fun l => forceL l fun l => .val (.agg l)) (h'.load b o n)) = .val v
    generalize ev x = u at he ⊢
    cases u <;> first | exact he | skip
    rename_i b o
    have he : (Option.rec .bad (fun l => forceL l fun l => .val (.agg l)) (h.load b o n) : LR) = .val v := he
    show (Option.rec .bad (fun l => forceL l fun l => .val (.agg l)) (h'.load b o n) : LR) = .val v
    cases hl : h.load b o n with
    | none => rw [hl] at he; cases he
    | some l => rw [k.load hl]; rw [hl] at he; exact he
  | bstr x =>
    have he : lBstr x ev h = .val v := he
    show lBstr x ev h' = .val v
    unfold lBstr at he ⊢
    generalize ev x = u at he ⊢
    cases u <;> first | exact he | skip
    rename_i b o n c
    cases hl : h.load b o n with
    | none => simp only [hl] at he; cases he
    | some l => simp only [k.load hl]; simp only [hl] at he; exact he
  | lookup q zero ok m x =>
    have he : lLookup q zero ok m x ev h = .val v := he
    show lLookup q zero ok m x ev h' = .val v
    unfold lLookup at he ⊢
    generalize ev m = u at he ⊢
    cases u <;> first | exact he | skip
    rename_i b
    cases hb : T.get b h.t with
    | none => simp only [show h.obj b = none from hb] at he; cases he
    | some ob => simp only [show h'.obj b = some ob from k b ob hb]; simp only [show h.obj b = some ob from hb] at he; exact he
  | lenm x =>
    have he : lLenm x ev h = .val v := he
    show lLenm x ev h' = .val v
    unfold lLenm at he ⊢
    generalize ev x = u at he ⊢
    cases u <;> first | exact he | skip
    rename_i b
    cases hb : T.get b h.t with
    | none => simp only [show h.obj b = none from hb] at he; cases he
    | some ob => simp only [show h'.obj b = some ob from k b ob hb]; simp only [show h.obj b = some ob from hb] at he; exact he
  | ssl r x lo hi mx =>
    have key : ∀ b o n cap i j m, ssl1 r b o n cap i j m h = .val v → ssl1 r b o n cap i j m h' = .val v := by
      intro b o n cap i j m hs
      cases cap with
      | some c => cases m with
        | none => exact hs
        | some m => cases m <;> exact hs
      | none =>
        cases m with
        | some m => cases m <;> exact hs
        | none =>
          unfold ssl1 at hs ⊢
          cases hb : T.get b h.t with
          | none => simp only [show h.obj b = none from hb] at hs; cases hs
          | some ob => simp only [show h'.obj b = some ob from k b ob hb]; simp only [show h.obj b = some ob from hb] at hs; exact hs
    have he : lSsl r x lo hi mx ev h = .val v := he
    show lSsl r x lo hi mx ev h' = .val v
    unfold lSsl at he ⊢
    generalize ev x = u at he ⊢
    cases u <;> first | exact he | skip
    rename_i b o n cap
    cases e1 : optNat hi ev n <;> cases e2 : optNat lo ev 0 <;> simp only [e1, e2] at he ⊢ <;> first | (cases he; done) | exact key _ _ _ _ _ _ _ he
  | alloc cs => have he : force h.next (fun b => LR.new (.box cs) (.ptr b 0)) = .val v := he; rw [force_eq] at he; cases he
  | mkmap => have he : force h.next (fun b => LR.new (.map [] 0) (.map b)) = .val v := he; rw [force_eq] at he; cases he
  | box n x =>
    have he : force h.next (fun b => (Option.rec .bad (fun l => Bool.rec .bad (forceL l fun l => .new (.box l) (.ptr b 0)) ((lenV l).beq n)) (ev x).asCells : LR)) = .val v := he
    rw [force_eq] at he
    cases hc : (ev x).asCells with
    | none => rw [hc] at he; cases he
    | some l =>
      rw [hc] at he
      have he : (Bool.rec .bad (forceL l fun l => .new (.box l) (.ptr h.next 0)) ((lenV l).beq n) : LR) = .val v := he
      cases hb : (lenV l).beq n with
      | false => rw [hb] at he; cases he
      | true => rw [hb, forceL_eq] at he; cases he
  | bsl r n zero ps =>
    have he : force h.next (fun b => (Option.rec .bad (fun l => setRows r n 0 l T.e fun t => .new (.cells r b 0 (Nat.mul n r) t) (.sl b 0 n (some n))) (fill ps ev (rep n zero)) : LR)) = .val v := he
    rw [force_eq] at he
    cases hc : fill ps ev (rep n zero) with
    | none => rw [hc] at he; cases he
    | some l => simp only [hc, setRows_eq] at he; cases he
  | sbytes x =>
    have he : force h.next (fun b => (Option.rec .bad (fun x => setRows 1 x.1 0 (strCells (sBytes x.1 x.2)) T.e fun t => .new (.cells 1 b 0 x.1 t) (.sl b 0 x.1 none)) (ev x).asStr : LR)) = .val v := he
    rw [force_eq] at he
    cases hc : (ev x).asStr with
    | none => rw [hc] at he; cases he
    | some l => simp only [hc, setRows_eq] at he; cases he
  | mksl r zero bytes l c =>
    have he : lMksl r zero bytes l c ev h = .val v := he
    unfold lMksl at he
    cases e1 : (ev l).asNat <;> cases e2 : (ev c).asNat <;> simp only [e1, e2] at he <;> first | (cases he; done) | skip
    rw [force_eq] at he
    revert he
    cases (_ && _ : Bool) <;> intro he
    · cases he
    · simp only [cond_true, setRows_eq] at he; cases he
  | _ => exact he
end
end Go.Eng
namespace Go.Eng
noncomputable section

/-! ### places that are known ahead of being made -/
theorem Keep.add {h : Heap} (hd : ∀ b, 0 ≤ b → T.get b h.t ≠ none → b < h.next) (ob : Obj) : Keep h (h.add ob) := by
  intro b o hb
  show T.get b (T.set h.next ob h.t) = some o
  rw [T.get_set (Nat.zero_le _) (Nat.zero_le _), if_neg, hb]
  intro e; subst e
  have := hd h.next (Nat.zero_le _) (by simp [hb]); omega

theorem good_add {ι : Inj} {h : Heap} {w : World} (g : Good ι h w) (hf : ι h.next = none) (ob : Obj) : Good ι (h.add ob) w := by
  have hget : ∀ b, b ≠ h.next → T.get b (h.add ob).t = T.get b h.t := fun b hb => by
    show T.get b (T.set h.next ob h.t) = _
    rw [T.get_set (Nat.zero_le _) (Nat.zero_le _), if_neg hb]
  have hne : ∀ b B, ι b = some B → b ≠ h.next := fun b B hb e => by subst e; rw [hf] at hb; cases hb
  have hlt : ∀ b B, ι b = some B → b < (h.add ob).next → b < h.next := fun b B hb hn => by
    have := hne b B hb; have : b < h.next + 1 := hn; omega
  refine ⟨fun b B o hb ho hn => ?_, g.inH, fun b B b' B' hb hb' hn hn' h8 => g.same b B b' B' hb hb' (hlt b B hb hn) (hlt b' B' hb' hn') h8, fun b B hb hn => g.fam b B hb (hlt b B hb hn), fun b B F o hb hn hF ho => ?_, fun b B o hb ho hn => ?_, fun f F b hF hb => ?_, Nat.le_succ_of_le g.lim, fun b hb hne' => ?_, g.small, fun f hf hne' => ?_, fun b B hb hn => ?_⟩
  · rw [hget b (hne b B hb)] at ho; exact g.obj b B o hb ho (hlt b B hb hn)
  · rw [hget b (hne b B hb)] at ho; exact g.last b B F o hb (hlt b B hb hn) hF ho
  · rw [hget b (hne b B hb)] at ho; exact g.solo b B o hb ho (hlt b B hb hn)
  · have := g.mem f F b hF hb; show b < h.next + 1; omega
  · show b < h.next + 1
    by_cases e : b = h.next
    · omega
    · rw [hget b e] at hne'; have := g.dom b hb hne'; omega
  · have := g.fdom f hf hne'; show f < h.next + 1; omega
  · have := g.famLt b B hb (hlt b B hb hn); show B.fam < h.next + 1; omega

theorem late_rel {ι : Inj} {h : Heap} {w w' : World} (g : Good ι h w) {id : Nat} {o : Obj} {B : Blk} (n : NewRel ι id w w' B o) (hf : ι id = none) (hl : id < h.next)
    (hob : T.get id h.t = some o) (hfm : T.get id h.fams = none) : Good (ι.put id B) h w' := by
  have hle := Inj.le_put (B := B) hf
  have hc := n.c
  have hs := n.size
  have old : ∀ b B', ι.put id B b = some B' → b ≠ id → ι b = some B' := fun b B' hb hne => by rwa [Inj.put_ne hne] at hb
  refine ⟨?_, ?_, ?_, ?_, ?_, ?_, g.mem, g.lim, g.dom, ?_, g.fdom, ?_⟩
  · intro b B' o' hb ho' hbn
    by_cases e : b = id
    · subst e
      rw [hob] at ho'; cases ho'
      rw [Inj.put_same] at hb; cases hb
      exact n.rel.mono hle
    · have hb2 := old b B' hb e
      exact ((g.obj b B' o' hb2 ho' hbn).world (n.old _ (g.inH b B' hb2))).mono hle
  · intro b B' hb
    by_cases e : b = id
    · subst e; rw [Inj.put_same] at hb; cases hb; omega
    · have := g.inH b B' (old b B' hb e); omega
  · intro b B1 b' B2 hb hb' hbn hbn' h8 hcc hne
    by_cases e : b = id
    · subst e
      rw [Inj.put_same] at hb; cases hb
      have := g.inH b' B2 (old b' B2 hb' (Ne.symm hne)); omega
    · by_cases e' : b' = id
      · subst e'
        rw [Inj.put_same] at hb'; cases hb'
        have := g.inH b B1 (old b B1 hb e); omega
      · exact g.same b B1 b' B2 (old b B1 hb e) (old b' B2 hb' e') hbn hbn' h8 hcc hne
  · intro b B' hb hbn
    by_cases e : b = id
    · subst e; rw [Inj.put_same] at hb; cases hb
      rw [n.fam, hfm]
    · exact g.fam b B' (old b B' hb e) hbn
  · intro b B' F o' hb hbn hF ho' hic
    by_cases e : b = id
    · subst e; rw [Inj.put_same] at hb; cases hb
      rw [n.fam, hfm] at hF; cases hF
    · exact g.last b B' F o' (old b B' hb e) hbn hF ho' hic
  · intro b B' o' hb ho' hbn hso
    by_cases e : b = id
    · subst e; rw [Inj.put_same] at hb; cases hb
      rw [n.fam, hfm]
    · exact g.solo b B' o' (old b B' hb e) ho' hbn hso
  · intro b hne
    exact Nat.zero_le _
  · intro b B' hb hbn
    by_cases e : b = id
    · subst e; rw [Inj.put_same] at hb; cases hb; rw [n.fam]; exact hl
    · exact g.famLt b B' (old b B' hb e) hbn

theorem Chg.add {ι0 ι : Inj} {h0 h : Heap} {w0 w : World} (c : Chg ι0 h0 w0 ι h w) (hf : ι h.next = none) (ob : Obj) : Chg ι0 h0 w0 ι (h.add ob) w :=
  ⟨good_add c.good hf ob, c.frame, ⟨c.ext.1, Nat.le_succ_of_le c.ext.2.1, fun b a d => by have := c.ext.2.2 b a d; exact ⟨this.1, Nat.lt_succ_of_lt this.2⟩⟩, c.sep⟩
theorem Chg.late {ι0 ι : Inj} {h0 h : Heap} {w0 w w' : World} (c : Chg ι0 h0 w0 ι h w) {id : Nat} {o : Obj} {B : Blk} (n : NewRel ι id w w' B o) (hf : ι id = none) (h0l : h0.next ≤ id) (hl : id < h.next)
    (hob : T.get id h.t = some o) (hfm : T.get id h.fams = none) : Chg ι0 h0 w0 (ι.put id B) h w' := by
  refine ⟨late_rel c.good n hf hl hob hfm, ⟨fun k hk hn => ?_, ?_, n.tape.trans c.frame.tape, n.os.trans c.frame.os, n.out.trans c.frame.out⟩, ⟨c.ext.1.trans (Inj.le_put hf), c.ext.2.1, fun b a d => ?_⟩, fun b B' a d => ?_⟩
  · rw [n.old k (Nat.lt_of_lt_of_le hk c.frame.size)]; exact c.frame.keep k hk hn
  · have := n.size; have := c.frame.size; omega
  · by_cases e : b = id
    · subst e; exact ⟨h0l, hl⟩
    · rw [Inj.put_ne e] at d; exact c.ext.2.2 b a d
  · by_cases e : b = id
    · subst e; rw [Inj.put_same] at d; cases d; left; rw [n.c]; exact c.frame.size
    · rw [Inj.put_ne e] at d; exact c.sep b B' a d

/-! ### facts of some temporaries alone -/
def Fct.only (F : Fct) (l : List Nat) : Fct := ⟨F.n, F.f.filter (fun p => l.contains p.1), F.s⟩
theorem look_filter {β : Type} {t : Nat} {l : List Nat} : ∀ (f : List (Nat × β)), look t (f.filter (fun p => l.contains p.1)) = if l.contains t then look t f else none
  | [] => by simp [look]
  | (x, y) :: f => by
    rw [List.filter_cons]
    by_cases hx : l.contains x = true
    · rw [if_pos hx, look_cons, look_cons, look_filter f]
      by_cases e : t = x
      · subst e; rw [if_pos rfl, if_pos rfl, if_pos hx]
      · rw [if_neg e, if_neg e]
    · rw [if_neg hx, look_filter f, look_cons]
      by_cases e : t = x
      · subst e; rw [if_neg hx, if_neg hx]
      · rw [if_neg e]
theorem Fct.only_tmp {F : Fct} {l : List Nat} {t : Nat} {s : Src} (h : (F.only l).tmp t = some s) : l.contains t = true ∧ F.tmp t = some s := by
  have h : (match look t (F.f.filter (fun p => l.contains p.1)) with | some s => s | none => none) = some s := h
  rw [look_filter] at h
  by_cases e : l.contains t = true
  · rw [if_pos e] at h; exact ⟨e, h⟩
  · rw [if_neg e] at h; cases h

/-! ### who must be ahead of whom -/
def Down (ops : Array Oper) (L : Nat → Prop) : Prop := ∀ k o, L k → ops[k]? = some o → ∀ e ∈ o.after, Region.binds .any e = true → L e.on
def Bef (ops : Array Oper) (j i : Nat) : Prop := ∀ L : Nat → Prop, Down ops L → L j → L i

def bitAt (m : List Nat) (k : Nat) : Nat := (m[m.length - 1 - k]?).getD 0
def edgeBits (m : List Nat) : List Edge → Nat
  | [] => 0
  | e :: l => if Region.binds .any e && decide (e.on < m.length) then (2 ^ e.on ||| bitAt m e.on) ||| edgeBits m l else edgeBits m l
/-- newest first -/
def befs : List Oper → List Nat → List Nat
  | [], m => m
  | o :: l, m => befs l (edgeBits m o.after.toList :: m)
def BefsOk (ops : Array Oper) (m : List Nat) : Prop := ∀ j i, j < m.length → (bitAt m j).testBit i = true → Bef ops j i
theorem bitAt_cons_lt {m : List Nat} {x k : Nat} (h : k < m.length) : bitAt (x :: m) k = bitAt m k := by
  unfold bitAt
  have : (x :: m).length - 1 - k = (m.length - 1 - k) + 1 := by simp; omega
  rw [this]; simp
theorem bitAt_cons_eq {m : List Nat} {x : Nat} : bitAt (x :: m) m.length = x := by
  unfold bitAt
  have : (x :: m).length - 1 - m.length = 0 := by simp
  rw [this]; simp
theorem edgeBits_ok {ops : Array Oper} {m : List Nat} (hm : BefsOk ops m) {o : Oper} (ho : ops[m.length]? = some o) : ∀ (l : List Edge), (∀ e ∈ l, e ∈ o.after) → ∀ i, (edgeBits m l).testBit i = true → Bef ops m.length i
  | [], _, i, h => by simp [edgeBits] at h
  | e :: l, hl, i, h => by
    unfold edgeBits at h
    by_cases hc : (Region.binds .any e && decide (e.on < m.length)) = true
    · rw [if_pos hc] at h
      have hb := Bool.and_of hc
      have hlt : e.on < m.length := by simpa using hb.2
      rw [Nat.testBit_or, Nat.testBit_or, Bool.or_eq_true, Bool.or_eq_true] at h
      rcases h with (h | h) | h
      · rw [Nat.testBit_two_pow] at h
        have : e.on = i := by simpa using h
        subst this
        exact fun L hL hj => hL _ o hj ho e (hl e (List.mem_cons_self ..)) hb.1
      · exact fun L hL hj => hm e.on i hlt h L hL (hL _ o hj ho e (hl e (List.mem_cons_self ..)) hb.1)
      · exact edgeBits_ok hm ho l (fun e he => hl e (List.mem_cons_of_mem _ he)) i h
    · rw [if_neg hc] at h
      exact edgeBits_ok hm ho l (fun e he => hl e (List.mem_cons_of_mem _ he)) i h
theorem befs_ok {ops : Array Oper} : ∀ (l : List Oper) (m : List Nat), (∀ k, l[k]? = ops[m.length + k]?) → BefsOk ops m → BefsOk ops (befs l m)
  | [], m, _, h => h
  | o :: l, m, hl, h => by
    unfold befs
    have ho : ops[m.length]? = some o := by have := hl 0; simpa using this.symm
    refine befs_ok l _ (fun k => ?_) (fun j i hj hb => ?_)
    · have := hl (k + 1); simp only [List.getElem?_cons_succ] at this; rw [this, List.length_cons]; congr 1; omega
    · by_cases e : j = m.length
      · subst e; rw [bitAt_cons_eq] at hb; exact edgeBits_ok h ho _ (fun e he => Array.mem_toList_iff.1 he) i hb
      · have hlt : j < m.length := by have : j < m.length + 1 := hj; omega
        rw [bitAt_cons_lt hlt] at hb; exact h j i hlt hb
theorem befs_length : ∀ (l : List Oper) (m : List Nat), (befs l m).length = m.length + l.length
  | [], m => rfl
  | o :: l, m => by unfold befs; rw [befs_length l]; simp; omega
end
end Go.Eng
namespace Go.Eng
noncomputable section

/-! ### the checker of a drawn region -/
def Opr.op : Opr → Op
  | .p o => o | .s _ _ o => o | .g _ _ o => o | .gs _ _ _ _ o => o
def Opr.slot : Opr → Option (D8 × D8)
  | .p _ => none | .s i j _ => some (i, j) | .g _ _ _ => none | .gs _ _ i j _ => some (i, j)
def Opr.gd : Opr → Option (A × Bool)
  | .p _ => none | .s _ _ _ => none | .g a b _ => some (a, b) | .gs a b _ _ _ => some (a, b)
def isHeavy : Op → Bool
  | .H _ => true
  | .L _ => false
/-- does it look into memory, or make something new? -/
def sees : Op → Bool
  | .H _ => false
  | .L e => match e with
    | .load _ => true | .loadn _ _ => true | .bstr _ => true | .lookup .. => true | .lenm _ => true | .ssl .. => true
    | .alloc _ => true | .box .. => true | .bsl .. => true | .sbytes _ => true | .mkmap => true | .mksl .. => true
    | _ => false
def uoOk (b : Nat) (uo : List Nat) : List (Nat × Bool) → Nat → Bool
  | [], _ => true
  | (k, s) :: D, d => (!s || (b.testBit k || uo.contains d)) && uoOk b uo D (d + 1)
def apartOk (ops : Array Oper) (i j : Nat) : Bool := match ops[i]?, ops[j]? with
  | some a, some b => a.apart ops b
  | _, _ => true
def chkD (P : Program) (N : Nat) (ops : Array Oper) (m : List Nat) : List (Nat × Opd) → List (Nat × Bool) → Fct → Option Fct
  | [], _, F => some F
  | (i, q) :: l, D, F => match ops[i]? with
    | none => none
    | some o =>
      if dstOk N o.dst && (guardOk (F.only (o.looksAt ops)) N ops o q.o.gd && (okOp P (F.only (o.looksAt ops)) o.op q.o.op && (!isHeavy q.o.op || uoOk (bitAt m i) q.uo D 0)))
      then chkD P N ops m l ((i, sees q.o.op) :: D) (F.push o.dst q.o.slot) else none
def pairsOk (ops : Array Oper) (m : List Nat) : List (Nat × Opd) → Bool
  | [] => true
  | (i, q) :: l => l.all (fun x => (bitAt m x.1).testBit i || !(isHeavy q.o.op || !apartOk ops i x.1)) && pairsOk ops m l
def edgesOk : List Oper → Nat → Bool
  | [], _ => true
  | o :: l, i => o.after.toList.all (fun e => !Region.binds .any e || decide (e.on < i)) && edgesOk l (i + 1)
def nodupB : List Nat → Bool
  | [] => true
  | a :: l => !l.contains a && nodupB l
def permOk (ops : Array Oper) (m : List Nat) (pm : List (Nat × Opd)) : Bool :=
  nodupB (pm.map (·.1)) && ((List.range ops.size).all (fun i => (pm.map (·.1)).contains i) && (pm.all (fun x => decide (x.1 < ops.size)) && (edgesOk ops.toList 0 && pairsOk ops m pm)))

structure Stat (ops : Array Oper) (pm : List (Nat × Opd)) : Prop where
  nd : (pm.map (·.1)).Nodup
  all : ∀ i o, ops[i]? = some o → i ∈ pm.map (·.1)
  edges : ∀ i o, ops[i]? = some o → ∀ e ∈ o.after, Region.binds .any e = true → e.on < i
  pairs : pm.Pairwise (fun a b => isHeavy a.2.o.op = true ∨ apartOk ops a.1 b.1 = false → Bef ops b.1 a.1)

theorem nodupB_ok : ∀ (l : List Nat), nodupB l = true → l.Nodup
  | [], _ => List.nodup_nil
  | a :: l, h => by
    have h := Bool.and_of h
    refine List.nodup_cons.2 ⟨fun hm => ?_, nodupB_ok l h.2⟩
    have : l.contains a = true := by simpa using hm
    rw [this] at h; exact absurd h.1 (by simp)
theorem edgesOk_ok : ∀ (l : List Oper) (i : Nat), edgesOk l i = true → ∀ k o, l[k]? = some o → ∀ e ∈ o.after, Region.binds .any e = true → e.on < i + k
  | [], i, _, k, o, hk, _, _, _ => by simp at hk
  | a :: l, i, h, k, o, hk, e, he, hb => by
    have h := Bool.and_of h
    cases k with
    | zero =>
      simp at hk; subst hk
      have := List.all_eq_true.1 h.1 e (Array.mem_toList_iff.2 he)
      rw [hb] at this; simpa using this
    | succ k =>
      have := edgesOk_ok l (i + 1) h.2 k o (by simpa using hk) e he hb
      omega
theorem pairsOk_ok {ops : Array Oper} {m : List Nat} (hm : BefsOk ops m) : ∀ (pm : List (Nat × Opd)), (∀ x ∈ pm, x.1 < m.length) → pairsOk ops m pm = true →
    pm.Pairwise (fun a b => isHeavy a.2.o.op = true ∨ apartOk ops a.1 b.1 = false → Bef ops b.1 a.1)
  | [], _, _ => List.Pairwise.nil
  | (i, q) :: l, hl, h => by
    have h := Bool.and_of h
    refine List.Pairwise.cons (fun x hx hc => ?_) (pairsOk_ok hm l (fun x hx => hl x (List.mem_cons_of_mem _ hx)) h.2)
    have := List.all_eq_true.1 h.1 x hx
    rw [Bool.or_eq_true] at this
    rcases this with h1 | h1
    · exact hm x.1 i (hl x (List.mem_cons_of_mem _ hx)) h1
    · exfalso
      have hc : isHeavy q.o.op = true ∨ apartOk ops i x.1 = false := hc
      rcases hc with hc | hc <;> rw [hc] at h1 <;> simp at h1
theorem stat_of {ops : Array Oper} {pm : List (Nat × Opd)} (h : permOk ops (befs ops.toList []) pm = true) : Stat ops pm ∧ BefsOk ops (befs ops.toList []) ∧ ∀ x ∈ pm, x.1 < ops.size := by
  have h1 := Bool.and_of h; have h2 := Bool.and_of h1.2; have h3 := Bool.and_of h2.2; have h4 := Bool.and_of h3.2
  have hb : BefsOk ops (befs ops.toList []) := befs_ok ops.toList [] (fun k => by simp) (fun j i hj => by simp at hj)
  have hl : (befs ops.toList []).length = ops.size := by rw [befs_length]; simp
  have hlt : ∀ x ∈ pm, x.1 < ops.size := fun x hx => by have := List.all_eq_true.1 h3.1 x hx; simpa using this
  refine ⟨⟨nodupB_ok _ h1.1, fun i o ho => ?_, fun i o ho e he hbd => ?_, pairsOk_ok hb pm (fun x hx => by rw [hl]; exact hlt x hx) h4.2⟩, hb, hlt⟩
  · have hi : i < ops.size := (Array.getElem?_eq_some_iff.1 ho).1
    have := List.all_eq_true.1 h2.1 i (List.mem_range.2 hi)
    simpa using this
  · have := edgesOk_ok ops.toList 0 h4.1 i o (by simpa using ho) e he hbd
    omega

/-! ### what has come by -/
structure En where
  i : Nat
  o : Oper
  q : Opd
  v : V
  log : Log
def FofE (F0 : Fct) : List En → Fct
  | [] => F0
  | e :: E => (FofE F0 E).push e.o.dst e.q.o.slot
abbrev vsE (E : List En) : List V := E.map (·.v)
def envE (env0 : Env) : List En → Env
  | [] => env0
  | e :: E => match e.q.o.slot with
    | some (i, j) => Env.set i j e.v (envE env0 E)
    | none => envE env0 E
abbrev evE (env0 : Env) (E : List En) : Ev := fun x => A.ev x (vsE E) (envE env0 E)
/-- is it carried out? -/
def gdv (env0 : Env) (B : List En) (r : Opr) : Option Bool := match r.gd with
  | none => some true
  | some (g, b) => (evE env0 B g).gd b
def En.key (e : En) : Nat × Opd := (e.i, e.q)
def En.id (e : En) : Option Nat := match e.log with
  | .nw id _ => some id
  | _ => none

/-- not carried out yet: what it will find -/
def Pend (env0 : Env) (B : List En) (e : En) (h : Heap) (ι : Inj) : Prop :=
  (gdv env0 B e.q.o = some false ∧ e.v = un) ∨
  (gdv env0 B e.q.o = some true ∧ ∃ l, e.q.o.op = .L l ∧
    ((e.log = .rd (light l (evE env0 B)) e.v ∧ light l (evE env0 B) h = .val e.v) ∨
     (∃ id ob hk, e.log = .nw id ob ∧ hk.next = id ∧ light l (evE env0 B) hk = .new ob e.v ∧ okSize ob = true ∧ ι id = none ∧ T.get id h.t = some ob ∧ T.get id h.fams = none)))

theorem FofE_n (F0 : Fct) : ∀ (E : List En), (FofE F0 E).n = F0.n + E.length
  | [] => rfl
  | e :: E => by show (FofE F0 E).n + 1 = _; rw [FofE_n F0 E, List.length_cons]; omega
/-- where a fact comes from -/
theorem FofE_tmp {F0 : Fct} (h0 : F0.n = 0) {t : Nat} {s : Src} : ∀ (E : List En), (FofE F0 E).tmp t = some s →
    (∃ A e B, E = A ++ e :: B ∧ e.o.dst = some t ∧ (∀ x ∈ A, x.o.dst ≠ some t) ∧ s = .val B.length) ∨ ((∀ x ∈ E, x.o.dst ≠ some t) ∧ F0.tmp t = some s)
  | [], h => .inr ⟨fun _ hx => by simp at hx, h⟩
  | e :: E, h => by
    have hn := FofE_n F0 E
    have skip : e.o.dst ≠ some t → (FofE F0 E).tmp t = some s → (∃ A e' B, e :: E = A ++ e' :: B ∧ e'.o.dst = some t ∧ (∀ x ∈ A, x.o.dst ≠ some t) ∧ s = .val B.length) ∨ ((∀ x ∈ e :: E, x.o.dst ≠ some t) ∧ F0.tmp t = some s) := by
      intro hne h
      rcases FofE_tmp h0 E h with ⟨A, e', B, rfl, h1, h2, h3⟩ | ⟨h1, h2⟩
      · refine .inl ⟨e :: A, e', B, rfl, h1, fun x hx => ?_, h3⟩
        rcases List.mem_cons.1 hx with rfl | hx
        · exact hne
        · exact h2 x hx
      · refine .inr ⟨fun x hx => ?_, h2⟩
        rcases List.mem_cons.1 hx with rfl | hx
        · exact hne
        · exact h1 x hx
    unfold FofE Fct.push Fct.tmp at h
    cases hd : e.o.dst with
    | none => rw [hd] at h; exact skip (by rw [hd]; simp) h
    | some d =>
      rw [hd] at h
      simp only [look_cons] at h
      by_cases c : t = d
      · rw [if_pos c] at h
        subst c
        refine .inl ⟨[], e, E, rfl, hd, by simp, ?_⟩
        have h : (some (.val (FofE F0 E).n) : Option Src) = some s := h
        cases h; rw [hn, h0, Nat.zero_add]
      · rw [if_neg c] at h
        exact skip (by rw [hd]; intro h; cases h; exact c rfl) h
theorem getL_mid (A : List En) (e : En) (B : List En) : getL (vsE (A ++ e :: B)) ((vsE (A ++ e :: B)).length - 1 - B.length) = e.v := by
  have : (vsE (A ++ e :: B)).length - 1 - B.length = A.length := by simp
  rw [this, getL_eq]
  simp [vsE]
/-- slots, while a region is gone through -/
structure AbsR (F : Fct) (vs : List V) (env env0 : Env) : Prop where
  len : vs.length = F.n
  slots : ∀ i j, Env.get i j env = match F.at_ i j with | some p => getL vs (vs.length - 1 - p) | none => Env.get i j env0
  lt : ∀ i j p, F.at_ i j = some p → p < vs.length
theorem AbsR.str {F : Fct} {vs : List V} {env env0 : Env} (r : AbsR F vs env env0) {ι : Inj} {tmps : Array Value} (h : ∀ t s, F.tmp t = some s → Holds ι vs env0 (tmps.getD t undef) s) : StR ι F vs env env0 tmps :=
  ⟨r.len, r.slots, r.lt, h⟩
theorem AbsR.only {F : Fct} {vs : List V} {env env0 : Env} (r : AbsR F vs env env0) (l : List Nat) : AbsR (F.only l) vs env env0 := ⟨r.len, r.slots, r.lt⟩
theorem AbsR.push {F : Fct} {vs : List V} {env env0 : Env} (r : AbsR F vs env env0) (v : V) (dst : Option Nat) (sl : Option (D8 × D8)) :
    AbsR (F.push dst sl) (v :: vs) (match sl with | some (i, j) => Env.set i j v env | none => env) env0 := by
  have s : StR (fun _ => none) ⟨F.n, [], F.s⟩ vs env env0 #[] := ⟨r.len, r.slots, r.lt, fun t s h => by cases h⟩
  have key : ∀ sl, StR (fun _ => none) (Fct.push ⟨F.n, [], F.s⟩ none sl) (v :: vs) (match sl with | some (i, j) => Env.set i j v env | none => env) env0 #[] → AbsR (F.push dst sl) (v :: vs) (match sl with | some (i, j) => Env.set i j v env | none => env) env0 :=
    fun sl s => ⟨s.len, s.slots, s.lt⟩
  have hlen := r.len
  cases sl with
  | none =>
    refine ⟨by simp [Fct.push, hlen], fun i j => ?_, fun i j p hp => by have : F.at_ i j = some p := hp; have := r.lt i j p this; simp; omega⟩
    have h1 : (F.push dst none).at_ i j = F.at_ i j := rfl
    show Env.get i j env = _
    rw [h1, r.slots i j]
    cases hp : F.at_ i j with
    | none => rfl
    | some p =>
      have := r.lt i j p hp
      show getL vs _ = getL (v :: vs) _
      rw [show (v :: vs).length - 1 - p = (vs.length - 1 - p) + 1 by simp; omega, getL_cons]
  | some ij =>
    obtain ⟨i, j⟩ := ij
    have hat : ∀ i' j', (F.push dst (some (i, j))).at_ i' j' = if (i', j') = (i, j) then some F.n else F.at_ i' j' := fun i' j' => rfl
    refine ⟨by simp [Fct.push, hlen], fun i' j' => ?_, fun i' j' p hp => ?_⟩
    · show Env.get i' j' (Env.set i j v env) = _
      rw [hat, Env.get_set]
      by_cases e : i' = i ∧ j' = j
      · rw [if_pos e, if_pos (by rw [e.1, e.2])]
        show v = getL (v :: vs) ((v :: vs).length - 1 - F.n)
        rw [show (v :: vs).length - 1 - F.n = 0 by simp; omega, getL_zero]
      · rw [if_neg e, if_neg (by intro h; cases h; exact e ⟨rfl, rfl⟩), r.slots i' j']
        cases hp : F.at_ i' j' with
        | none => rfl
        | some p =>
          have := r.lt i' j' p hp
          show getL vs _ = getL (v :: vs) _
          rw [show (v :: vs).length - 1 - p = (vs.length - 1 - p) + 1 by simp; omega, getL_cons]
    · rw [hat] at hp
      by_cases e : (i', j') = (i, j)
      · rw [if_pos e] at hp; cases hp; simp; omega
      · rw [if_neg e] at hp; have := r.lt i' j' p hp; simp; omega
theorem AbsR.ofE {F0 : Fct} {env0 : Env} (r : AbsR F0 [] env0 env0) : ∀ (E : List En), AbsR (FofE F0 E) (vsE E) (envE env0 E) env0
  | [] => r
  | e :: E => (AbsR.ofE r E).push e.v e.o.dst e.q.o.slot
end
end Go.Eng
namespace Go.Eng
variable {D : List Deferred}
noncomputable section

theorem light_pure {e : OpL} {ev : Ev} {h h' : Heap} (hs : sees (.L e) = false) : light e ev h' = light e ev h := by
  cases e <;> first | rfl | (cases hs; done)

/-- How things stand while a drawn region is gone through. -/
structure DI0 (D : List Deferred) (P : Program) (ops : Array Oper) (pm : List (Nat × Opd)) (N : Nat) (F0 : Fct) (env0 : Env)
    (E : List En) (rem : List (Nat × Opd)) (listed : Array Bool) (a : Act) (ι : Inj) : Prop where
  split : (E.map En.key).reverse ++ rem = pm
  size : a.tmps.size = N
  defers : a.defers = D
  lsize : listed.size = ops.size
  down : Down ops (fun i => listed.getD i false = true)
  only : ∀ i, listed.getD i false = true → ∃ e ∈ E, e.i = i
  ok : ∀ A e B, E = A ++ e :: B → ops[e.i]? = some e.o ∧ dstOk N e.o.dst = true ∧ guardOk ((FofE F0 B).only (e.o.looksAt ops)) N ops e.o e.q.o.gd = true ∧ okOp P ((FofE F0 B).only (e.o.looksAt ops)) e.o.op e.q.o.op = true
  ids : (E.filterMap En.id).Nodup
  tmp1 : ∀ t e, E.find? (fun e => listed.getD e.i false && decide (e.o.dst = some t)) = some e → vrel ι e.v (a.tmps.getD t undef)
  tmp0 : ∀ t, E.find? (fun e => listed.getD e.i false && decide (e.o.dst = some t)) = none → ∀ s, F0.tmp t = some s → Holds ι [] env0 (a.tmps.getD t undef) s
structure DI (D : List Deferred) (P : Program) (ops : Array Oper) (pm : List (Nat × Opd)) (N : Nat) (F0 : Fct) (env0 : Env) (ι0 : Inj) (h0 : Heap) (w0 : World)
    (E : List En) (rem : List (Nat × Opd)) (listed : Array Bool) (a : Act) (w : World) (ι : Inj) (h : Heap) : Prop extends DI0 D P ops pm N F0 env0 E rem listed a ι where
  pend : ∀ A e B, E = A ++ e :: B → listed.getD e.i false = false → Pend env0 B e h ι
  idlt : ∀ e ∈ E, ∀ id, e.id = some id → h0.next ≤ id ∧ id < h.next
  chg : Chg ι0 h0 w0 ι h w

section
variable {P : Program} {ops : Array Oper} {pm : List (Nat × Opd)} {N : Nat} {F0 : Fct} {env0 : Env} {ι0 : Inj} {h0 : Heap} {w0 : World}
  {E : List En} {rem : List (Nat × Opd)} {listed : Array Bool} {a : Act} {w : World} {ι : Inj} {h : Heap}

theorem find_split {α : Type} {p : α → Bool} {A : List α} {e : α} {B : List α} (hA : ∀ x ∈ A, p x = false) (he : p e = true) : (A ++ e :: B).find? p = some e := by
  rw [List.find?_append, List.find?_eq_none.2 (fun x hx => by rw [hA x hx]; simp), List.find?_cons_of_pos (by simpa using he)]; rfl
/-- who stands where -/
theorem DI0.two (st : Stat ops pm) (d : DI0 D P ops pm N F0 env0 E rem listed a ι) {x e : En} (hs : List.Sublist [x, e] E) :
    (isHeavy e.q.o.op = true ∨ apartOk ops e.i x.i = false → Bef ops x.i e.i) ∧ x.i ≠ e.i := by
  have h1 : List.Sublist [En.key e, En.key x] pm := by
    rw [← d.split]
    have := (hs.map En.key).reverse
    exact this.trans (List.sublist_append_left _ _)
  refine ⟨List.pairwise_iff_forall_sublist.1 st.pairs h1, fun hx => ?_⟩
  have := h1.map (·.1)
  have h2 := List.pairwise_iff_forall_sublist.1 st.nd this
  exact h2 hx.symm
theorem sub_new {A B : List En} {x e : En} (hx : x ∈ A) : List.Sublist [x, e] (A ++ e :: B) := (List.singleton_sublist.2 hx).append (List.Sublist.cons_cons _ (List.nil_sublist _))
theorem sub_old {A B : List En} {x e : En} (hx : x ∈ B) : List.Sublist [e, x] (A ++ e :: B) := (List.Sublist.cons_cons _ (List.singleton_sublist.2 hx)).trans (List.sublist_append_right _ _)
theorem DI0.heavyBefore (st : Stat ops pm) {i : Nat} {q : Opd} (d : DI0 D P ops pm N F0 env0 E ((i, q) :: rem) listed a ι) {x : Nat × Opd} (hx : x ∈ rem) (hh : isHeavy q.o.op = true) : Bef ops x.1 i := by
  have h1 : List.Sublist [(i, q), x] pm := by
    rw [← d.split]
    exact (List.Sublist.cons_cons _ (List.singleton_sublist.2 hx)).trans (List.sublist_append_right _ _)
  exact List.pairwise_iff_forall_sublist.1 st.pairs h1 (.inl hh)
theorem apart_dst {i j : Nat} {x y : Oper} (hx : ops[i]? = some x) (hy : ops[j]? = some y) {t : Nat} (ht : x.dst = some t) (hl : t ∈ y.looksAt ops ∨ y.dst = some t) : apartOk ops i j = false := by
  unfold apartOk
  rw [hx, hy]
  cases hc : x.apart ops y with
  | false => exact hc
  | true =>
    obtain ⟨h1, h2, h3⟩ := Oper.apart_spec hc
    rcases hl with hl | hl
    · exact absurd hl (h1 t ht)
    · exact absurd hl (h2 t ht)
theorem apart_dst' {i j : Nat} {x y : Oper} (hx : ops[i]? = some x) (hy : ops[j]? = some y) {t : Nat} (ht : y.dst = some t) (hl : t ∈ x.looksAt ops ∨ x.dst = some t) : apartOk ops i j = false := by
  unfold apartOk
  rw [hx, hy]
  cases hc : x.apart ops y with
  | false => exact hc
  | true =>
    obtain ⟨h1, h2, h3⟩ := Oper.apart_spec hc
    rcases hl with hl | hl
    · exact absurd hl (h3 t ht)
    · exact absurd ht (h2 t hl)
/-- one that comes now: what must be ahead of it is -/
theorem bef_listed {i j : Nat} {oj : Oper} (hd : Down ops (fun i => listed.getD i false = true)) (hoj : ops[j]? = some oj) (hr : ∀ e ∈ oj.after, Region.binds .any e = true → listed.getD e.on false = true) (hb : Bef ops j i) (hne : i ≠ j) : listed.getD i false = true := by
  have := hb (fun k => listed.getD k false = true ∨ k = j) (fun k o hk ho e he hbd => ?_) (.inr rfl)
  · exact this.resolve_right hne
  · rcases hk with hk | rfl
    · exact .inl (hd k o hk ho e he hbd)
    · rw [hoj] at ho; cases ho; exact .inl (hr e he hbd)
/-- the temporaries of one that comes now hold what it is to find -/
theorem DI0.holds (st : Stat ops pm) (h00 : F0.n = 0) (hF0 : ∀ t s, F0.tmp t = some s → ∀ p, s ≠ .val p) (d : DI0 D P ops pm N F0 env0 E rem listed a ι) {A B : List En} {oi : Oper}
    (hE : E = A ++ B) (hA : ∀ x ∈ A, ∀ t, x.o.dst = some t → t ∈ oi.looksAt ops → listed.getD x.i false = false)
    (hB : ∀ x ∈ B, ∀ t, x.o.dst = some t → t ∈ oi.looksAt ops → listed.getD x.i false = true) :
    ∀ t s, ((FofE F0 B).only (oi.looksAt ops)).tmp t = some s → Holds ι (vsE B) env0 (a.tmps.getD t undef) s := by
  intro t s hs
  obtain ⟨hc, ht⟩ := Fct.only_tmp hs
  have hc : t ∈ oi.looksAt ops := by simpa using hc
  rcases FofE_tmp h00 B ht with ⟨A', e', B', rfl, h1, h2, rfl⟩ | ⟨h1, h2⟩
  · have hf := find_split (p := fun e : En => listed.getD e.i false && decide (e.o.dst = some t)) (A := A ++ A') (e := e') (B := B') (fun x hx => by
      rcases List.mem_append.1 hx with hx | hx
      · by_cases hd : x.o.dst = some t
        · rw [hA x hx t hd hc]; rfl
        · simp [hd]
      · simp [h2 x hx]) (by rw [hB e' (by simp) t h1 hc]; simpa using h1)
    have hv := d.tmp1 t e' (by rw [hE]; simpa using hf)
    refine ⟨by simp; omega, ?_⟩
    rw [getL_mid]; exact hv
  · have hn : E.find? (fun e : En => listed.getD e.i false && decide (e.o.dst = some t)) = none := by
      rw [List.find?_eq_none]
      intro x hx
      rw [hE] at hx
      rcases List.mem_append.1 hx with hx | hx
      · by_cases hd : x.o.dst = some t
        · rw [hA x hx t hd hc]; simp
        · simp [hd]
      · simp [h1 x hx]
    have := d.tmp0 t hn s h2
    cases s with
    | val p => exact absurd rfl (hF0 t _ h2 p)
    | slot i j => exact this
    | cst c => exact this
end
end
end Go.Eng
namespace Go.Eng
variable {D : List Deferred}
noncomputable section
section
variable {P : Program} {ops : Array Oper} {pm : List (Nat × Opd)} {N : Nat} {F0 : Fct} {env0 : Env} {ι0 : Inj} {h0 : Heap} {w0 : World}
  {E : List En} {rem : List (Nat × Opd)} {listed : Array Bool} {a : Act} {w : World} {ι : Inj} {h : Heap} {Q : Exit → Act → World → Prop} {call : CallT}

theorem getD_set {listed : Array Bool} {i j : Nat} (hi : i < listed.size) : (listed.setIfInBounds i true).getD j false = if j = i then true else listed.getD j false := by
  by_cases e : j = i
  · subst e; rw [if_pos rfl]; simp [Array.getD, hi]
  · rw [if_neg e, getD_set_ne false (Ne.symm e)]

/-- behind one operation, whoever it was -/
theorem find_listed {E : List En} {listed : Array Bool} {i t : Nat} (hi : i < listed.size) {A B : List En} {e : En} (hE : E = A ++ e :: B) (hei : e.i = i)
    (hA : ∀ x ∈ A, x.i ≠ i) (hB : ∀ x ∈ B, x.i ≠ i) (hnew : ∀ x ∈ A, x.o.dst = e.o.dst → e.o.dst ≠ none → listed.getD x.i false = false) :
    E.find? (fun e => (listed.setIfInBounds i true).getD e.i false && decide (e.o.dst = some t)) =
      if e.o.dst = some t then some e else E.find? (fun e => listed.getD e.i false && decide (e.o.dst = some t)) := by
  subst hE
  by_cases ht : e.o.dst = some t
  · rw [if_pos ht]
    refine find_split (fun x hx => ?_) ?_
    · show ((listed.setIfInBounds i true).getD x.i false && decide (x.o.dst = some t)) = false
      rw [getD_set hi, if_neg (hA x hx)]
      by_cases hd : x.o.dst = some t
      · rw [hnew x hx (hd.trans ht.symm) (by rw [ht]; simp)]; rfl
      · simp [hd]
    · show ((listed.setIfInBounds i true).getD e.i false && decide (e.o.dst = some t)) = true
      rw [getD_set hi, if_pos hei]; simpa using ht
  · rw [if_neg ht, List.find?_append, List.find?_append]
    have hc : ∀ l : List En, (∀ x ∈ l, x.i ≠ i) → l.find? (fun e => (listed.setIfInBounds i true).getD e.i false && decide (e.o.dst = some t)) = l.find? (fun e => listed.getD e.i false && decide (e.o.dst = some t)) := by
      intro l hl
      induction l with
      | nil => rfl
      | cons x l ih =>
        rw [List.find?_cons, List.find?_cons, getD_set hi, if_neg (hl x (by simp)), ih (fun y hy => hl y (by simp [hy]))]
    rw [hc A hA, List.find?_cons, List.find?_cons, hc B hB]
    simp [ht]

/-- An operation has come by: its place in the list, the temporaries, the rest. -/
theorem DI0.done (st : Stat ops pm) (d : DI0 D P ops pm N F0 env0 E rem listed a ι) {A B : List En} {e : En} (hE : E = A ++ e :: B) (hr : ∀ x ∈ e.o.after, Region.binds .any x = true → listed.getD x.on false = true)
    (hun : listed.getD e.i false = false) {v' : Value} {ι' : Inj} (hle : ι.le ι') (hv : vrel ι' e.v v') :
    DI0 D P ops pm N F0 env0 E rem (listed.setIfInBounds e.i true) (a.put e.o.dst v') ι' ∧ (∀ j, (listed.setIfInBounds e.i true).getD j false = false → j ≠ e.i ∧ listed.getD j false = false) := by
  obtain ⟨ho, hdst, _, _⟩ := d.ok A e B hE
  have hi : e.i < listed.size := by rw [d.lsize]; exact (Array.getElem?_eq_some_iff.1 ho).1
  have hA : ∀ x ∈ A, x.i ≠ e.i := fun x hx => (d.two st (by rw [hE]; exact sub_new hx)).2
  have hB : ∀ x ∈ B, x.i ≠ e.i := fun x hx => fun h => (d.two st (by rw [hE]; exact sub_old hx)).2 h.symm
  have hfind := fun t => find_listed (t := t) hi hE rfl hA hB (fun x hx hxd hne => by
    cases hl : listed.getD x.i false with
    | false => rfl
    | true =>
      exfalso
      obtain ⟨t, ht⟩ := Option.ne_none_iff_exists'.1 hne
      obtain ⟨A1, A2, rfl⟩ := List.append_of_mem hx
      obtain ⟨hox, _⟩ := d.ok A1 x (A2 ++ e :: B) (by rw [hE]; simp)
      have hb := (d.two st (x := x) (e := e) (by rw [hE]; exact sub_new (by simp))).1 (.inr (apart_dst ho hox ht (.inr (hxd.trans ht))))
      have := hb _ d.down hl
      rw [hun] at this; cases this)
  have hdlt := dst_lt (a := a) hdst d.size
  refine ⟨⟨d.split, put_size.trans d.size, put_defers.trans d.defers, by simpa using d.lsize, fun k o hk hok x hx hbd => ?_, fun i hl => ?_, d.ok, d.ids, fun t x hf => ?_, fun t hf s hs => ?_⟩, fun j hl => ?_⟩
  · have hk : (listed.setIfInBounds e.i true).getD k false = true := hk
    rw [getD_set hi] at hk
    show (listed.setIfInBounds e.i true).getD x.on false = true
    refine getD_set_true ?_
    by_cases e1 : k = e.i
    · subst e1; rw [ho] at hok; cases hok; exact hr x hx hbd
    · rw [if_neg e1] at hk; exact d.down k o hk hok x hx hbd
  · rw [getD_set hi] at hl
    by_cases e1 : i = e.i
    · subst e1; exact ⟨e, by rw [hE]; simp, rfl⟩
    · rw [if_neg e1] at hl; exact d.only i hl
  · rw [hfind] at hf
    by_cases ht : e.o.dst = some t
    · rw [if_pos ht] at hf; cases hf
      rw [ht]
      show vrel ι' e.v ((a.tmps.setIfInBounds t v').getD t undef)
      rw [getD_put (hdlt t ht), if_pos rfl]; exact hv
    · rw [if_neg ht] at hf
      have := (d.tmp1 t x hf).mono hle
      cases hd : e.o.dst with
      | none => exact this
      | some u =>
        show vrel ι' x.v ((a.tmps.setIfInBounds u v').getD t undef)
        rw [getD_put (hdlt u hd), if_neg (by intro h; subst h; exact ht hd)]; exact this
  · rw [hfind] at hf
    by_cases ht : e.o.dst = some t
    · rw [if_pos ht] at hf; cases hf
    · rw [if_neg ht] at hf
      have := (d.tmp0 t hf s hs).mono hle
      cases hd : e.o.dst with
      | none => exact this
      | some u =>
        show Holds ι' [] env0 ((a.tmps.setIfInBounds u v').getD t undef) s
        rw [getD_put (hdlt u hd), if_neg (by intro h; subst h; exact ht hd)]; exact this
  · rw [getD_set hi] at hl
    by_cases e1 : j = e.i
    · rw [if_pos e1] at hl; cases hl
    · rw [if_neg e1] at hl; exact ⟨e1, hl⟩
theorem DI.done (st : Stat ops pm) (d : DI D P ops pm N F0 env0 ι0 h0 w0 E rem listed a w ι h) {A B : List En} {e : En} (hE : E = A ++ e :: B) (hr : ∀ x ∈ e.o.after, Region.binds .any x = true → listed.getD x.on false = true)
    (hun : listed.getD e.i false = false) {v' : Value} {w' : World} {ι' : Inj} (hle : ι.le ι') (hv : vrel ι' e.v v') (hc : Chg ι0 h0 w0 ι' h w')
    (hp : ∀ A' e' B', E = A' ++ e' :: B' → e'.i ≠ e.i → listed.getD e'.i false = false → Pend env0 B' e' h ι') :
    DI D P ops pm N F0 env0 ι0 h0 w0 E rem (listed.setIfInBounds e.i true) (a.put e.o.dst v') w' ι' h :=
  let ⟨k1, k2⟩ := d.toDI0.done st hE hr hun hle hv
  ⟨k1, fun A' e' B' hE' hl => hp A' e' B' hE' (k2 _ hl).1 (k2 _ hl).2, d.idlt, hc⟩

theorem gdv_wanted {B : List En} {r : Opr} {o : Oper} {F : Fct} (s : StR ι F (vsE B) (envE env0 B) env0 a.tmps) (hs : a.tmps.size = N) (hg : guardOk F N ops o r.gd = true) {b : Bool} (hv : gdv env0 B r = some b) :
    Region.wanted o (yielded ops a.tmps) = b := by
  unfold gdv at hv
  cases hr : r.gd with
  | none => rw [hr] at hv hg; cases hv; exact wanted_none hg _
  | some p =>
    obtain ⟨g, c⟩ := p
    rw [hr] at hv hg
    exact wanted_some s hs hg hv

/-- One that waits comes by. -/
theorem DI.exec (st : Stat ops pm) (h00 : F0.n = 0) (hF0 : ∀ t s, F0.tmp t = some s → ∀ p, s ≠ .val p) (r0 : AbsR F0 [] env0 env0) (d : DI D P ops pm N F0 env0 ι0 h0 w0 E rem listed a w ι h) {A B : List En} {e : En} (hE : E = A ++ e :: B)
    (hr : ∀ x ∈ e.o.after, Region.binds .any x = true → listed.getD x.on false = true) (hun : listed.getD e.i false = false) {K : Act → World → Prop}
    (hk : ∀ a' w' ι', DI D P ops pm N F0 env0 ι0 h0 w0 E rem (listed.setIfInBounds e.i true) a' w' ι' h → K a' w') : wpOp P ops Q e.i K a w := by
  obtain ⟨ho, hdst, hg, hok⟩ := d.ok A e B hE
  have hA : ∀ x ∈ A ++ [e], ∀ t, x.o.dst = some t → t ∈ e.o.looksAt ops → listed.getD x.i false = false := by
    intro x hx t hxt htl
    rcases List.mem_append.1 hx with hx | hx
    · cases hl : listed.getD x.i false with
      | false => rfl
      | true =>
        exfalso
        obtain ⟨A1, A2, rfl⟩ := List.append_of_mem hx
        obtain ⟨hox, _⟩ := d.ok A1 x (A2 ++ e :: B) (by rw [hE]; simp)
        have hb := (d.two st (x := x) (e := e) (by rw [hE]; exact sub_new (by simp))).1 (.inr (apart_dst' ho hox hxt (.inl htl)))
        have := hb _ d.down hl
        rw [hun] at this; cases this
    · simp at hx; subst hx; exact hun
  have hB : ∀ x ∈ B, ∀ t, x.o.dst = some t → t ∈ e.o.looksAt ops → listed.getD x.i false = true := by
    intro x hx t hxt htl
    obtain ⟨B1, B2, rfl⟩ := List.append_of_mem hx
    obtain ⟨hox, _⟩ := d.ok (A ++ e :: B1) x B2 (by rw [hE]; simp)
    have h2 := d.two st (x := e) (e := x) (by rw [hE]; exact sub_old (by simp))
    exact bef_listed d.down ho hr (h2.1 (.inr (apart_dst hox ho hxt (.inl htl)))) (Ne.symm h2.2)
  have s : StR ι ((FofE F0 B).only (e.o.looksAt ops)) (vsE B) (envE env0 B) env0 a.tmps :=
    ((r0.ofE B).only _).str (d.holds st h00 hF0 (A := A ++ [e]) (by rw [hE]; simp) hA hB)
  unfold wpOp
  rw [ho]
  rcases d.pend A e B hE hun with ⟨hgd, hv⟩ | ⟨hgd, l, hl, hval | ⟨id, ob, hk', hlog, hid, hlt, hsz, hι, hob, hfm⟩⟩
  · have hw := gdv_wanted s d.size hg hgd
    simp only [hw]
    refine hk _ w ι (d.done st hE hr hun (Inj.le.refl _) (by rw [hv]; exact undef_rel) d.chg (fun A' e' B' hE' _ hl' => d.pend A' e' B' hE' hl'))
  · have hw := gdv_wanted s d.size hg hgd
    simp only [hw]
    refine .inl ?_
    obtain ⟨hlog, hval⟩ := hval
    rw [hl] at hok
    obtain ⟨v', r1, r2⟩ := light_val (P := P) (w := w) d.chg.good (chkAt_rel s) hok hval
    unfold Oper.wp; rw [r1]
    exact hk _ w ι (d.done st hE hr hun (Inj.le.refl _) r2 d.chg (fun A' e' B' hE' _ hl' => d.pend A' e' B' hE' hl'))
  · have hw := gdv_wanted s d.size hg hgd
    simp only [hw]
    refine .inl ?_
    rw [hl] at hok
    obtain ⟨v', w', Bk, r1, r2, r3⟩ := light_new (P := P) (w := w) (chkAt_rel s) hok hlt hsz
    unfold Oper.wp; rw [r1]
    rw [hid] at r2 r3
    have heid : e.id = some id := by unfold En.id; rw [hlog]
    have hil := d.idlt e (by rw [hE]; simp) id heid
    refine hk _ w' _ (d.done st hE hr hun (Inj.le_put hι) r3 (d.chg.late r2 hι hil.1 hil.2 hob hfm) (fun A' e' B' hE' hne hl' => ?_))
    rcases d.pend A' e' B' hE' hl' with hs | ⟨k1, l', k2, k3 | ⟨id', ob', hk2, m1, m2, m3, m4, m5, m6, m7⟩⟩
    · exact .inl hs
    · exact .inr ⟨k1, l', k2, .inl k3⟩
    · refine .inr ⟨k1, l', k2, .inr ⟨id', ob', hk2, m1, m2, m3, m4, ?_, m6, m7⟩⟩
      rw [Inj.put_ne]
      · exact m5
      · intro hid'
        subst hid'
        have he' : e'.id = some id' := by unfold En.id; rw [m1]
        have hin := d.ids
        have m : e' ∈ A ∨ e' ∈ B := by
          have : e' ∈ E := by rw [hE']; simp
          rw [hE] at this
          rcases List.mem_append.1 this with hm | hm
          · exact .inl hm
          · rcases List.mem_cons.1 hm with rfl | hm
            · exact absurd rfl hne
            · exact .inr hm
        rw [hE, List.filterMap_append, List.filterMap_cons, heid] at hin
        simp only [List.nodup_append, List.nodup_cons] at hin
        rcases m with m | m
        · exact hin.2.2 id' (List.mem_filterMap.2 ⟨e', m, he'⟩) id' (by simp) rfl
        · exact hin.2.1.1 (List.mem_filterMap.2 ⟨e', m, he'⟩)
end
end
end Go.Eng
namespace Go.Eng
variable {D : List Deferred}
noncomputable section
section
variable {P : Program} {ops : Array Oper} {pm : List (Nat × Opd)} {N : Nat} {F0 : Fct} {env0 : Env} {ι0 : Inj} {h0 : Heap} {w0 : World}
  {E : List En} {rem : List (Nat × Opd)} {listed : Array Bool} {a : Act} {w : World} {ι : Inj} {h h' : Heap} {Q : Exit → Act → World → Prop} {call : CallT} {x : X} {env' : Env}

theorem newK_next {k : VK} {o : Obj} {v : V} (hk : ∀ h1, h.next ≤ h1.next → CR.next h (k v h1)) : CR.next h (newK k h o v) := by
  show CR.next h (Bool.rec .bad (h.newC o fun h => k v h) (okSize o) : CR)
  cases okSize o with
  | false => trivial
  | true => rw [newC_eq]; exact hk _ (Nat.le_succ _)
theorem dOp_next (hcm : CallMono call) {op : Op} {uo : List Nat} {ev : Ev} {logs : List Log} {env : Env} {next : Log → V → Heap → CR} (hk : ∀ l v h1, h.next ≤ h1.next → CR.next h (next l v h1)) : CR.next h (dOp op uo call ev logs env h next) := by
  cases op with
  | L e =>
    show CR.next h ((light e ev h).kd (light e ev) h next)
    cases light e ev h with
    | val v => show CR.next h (v.force fun v => next (.rd (light e ev) v) v h); rw [V.force_eq]; exact hk _ _ _ (Nat.le_refl _)
    | new o v => show CR.next h (force h.next fun id => newK (fun v h => next (.nw id o) v h) h o v); rw [force_eq]; exact newK_next fun h1 hn => hk _ _ _ hn
    | bad => trivial
  | H e =>
    refine opK_next (op := .H e) hcm fun v h1 hn => ?_
    cases stills uo h1 logs with
    | false => trivial
    | true => exact hk _ _ _ hn
theorem opsD_next (hcm : CallMono call) : ∀ (l : List Opd) (vs : List V) (logs : List Log) (env : Env) (h : Heap), CR.next h (opsD l call vs logs env h)
  | [], vs, logs, env, h => Nat.le_refl _
  | q :: l, vs, logs, env, h => by
    have ih := opsD_next hcm l
    have plain : ∀ op, CR.next h (dOp op q.uo call (fun a => a.ev vs env) logs env h fun l' v h => opsD l call (v :: vs) (l' :: logs) env h) := fun op => dOp_next hcm fun _ _ _ hn => CR.next_le hn (ih _ _ _ _)
    have slot : ∀ i j op, CR.next h (dOp op q.uo call (fun a => a.ev vs env) logs env h fun l' v h => Env.setC i j v (fun env => opsD l call (v :: vs) (l' :: logs) env h) env) := fun i j op => dOp_next hcm fun _ _ _ hn => by rw [Env.setC_eq]; exact CR.next_le hn (ih _ _ _ _)
    obtain ⟨o, uo⟩ := q
    cases o with
    | p op => exact plain op
    | s i j op => exact slot i j op
    | g g b op =>
      show CR.next h (Option.rec .bad (fun c => Bool.rec (opsD l call (un :: vs) (.no :: logs) env h) (dOp op uo call (fun a => a.ev vs env) logs env h fun l' v h => opsD l call (v :: vs) (l' :: logs) env h) c) ((g.ev vs env).gd b) : CR)
      cases (g.ev vs env).gd b with
      | none => trivial
      | some c =>
        show CR.next h (Bool.rec (opsD l call (un :: vs) (.no :: logs) env h) (dOp op uo call (fun a => a.ev vs env) logs env h fun l' v h => opsD l call (v :: vs) (l' :: logs) env h) c : CR)
        cases c with
        | false => exact ih _ _ _ _
        | true => exact plain op
    | gs g b i j op =>
      show CR.next h (Option.rec .bad (fun c => Bool.rec (Env.setC i j un (fun env => opsD l call (un :: vs) (.no :: logs) env h) env) (dOp op uo call (fun a => a.ev vs env) logs env h fun l' v h => Env.setC i j v (fun env => opsD l call (v :: vs) (l' :: logs) env h) env) c) ((g.ev vs env).gd b) : CR)
      cases (g.ev vs env).gd b with
      | none => trivial
      | some c =>
        show CR.next h (Bool.rec (Env.setC i j un (fun env => opsD l call (un :: vs) (.no :: logs) env h) env) (dOp op uo call (fun a => a.ev vs env) logs env h fun l' v h => Env.setC i j v (fun env => opsD l call (v :: vs) (l' :: logs) env h) env) c : CR)
        cases c with
        | false => rw [Env.setC_eq]; exact ih _ _ _ _
        | true => exact slot i j op

/-- behind an operation: the slot, and what comes next -/
def nextD (r : Opr) (l : List Opd) (call : CallT) (E : List En) (env0 : Env) (lg : Log) (v : V) (h : Heap) : CR :=
  opsD l call (v :: vsE E) (lg :: E.map En.log) (match r.slot with | some (i, j) => Env.set i j v (envE env0 E) | none => envE env0 E) h
theorem opsD_cons {q : Opd} {l : List Opd} (he : opsD (q :: l) call (vsE E) (E.map En.log) (envE env0 E) h = .ok x env' h') :
    (gdv env0 E q.o = some false ∧ nextD q.o l call E env0 .no un h = .ok x env' h') ∨
    (gdv env0 E q.o = some true ∧ dOp q.o.op q.uo call (evE env0 E) (E.map En.log) (envE env0 E) h (nextD q.o l call E env0) = .ok x env' h') := by
  obtain ⟨o, uo⟩ := q
  have hs : ∀ i j lg, (fun (v : V) (h : Heap) => Env.setC i j v (fun env => opsD l call (v :: vsE E) (lg :: E.map En.log) env h) (envE env0 E)) = fun v h => opsD l call (v :: vsE E) (lg :: E.map En.log) (Env.set i j v (envE env0 E)) h := fun i j lg => by
    funext v h; rw [Env.setC_eq]
  cases o with
  | p op => exact .inr ⟨rfl, he⟩
  | s i j op =>
    refine .inr ⟨rfl, ?_⟩
    have he : dOp op uo call (evE env0 E) (E.map En.log) (envE env0 E) h (fun lg v h => Env.setC i j v (fun env => opsD l call (v :: vsE E) (lg :: E.map En.log) env h) (envE env0 E)) = .ok x env' h' := he
    simp only [Env.setC_eq] at he; exact he
  | g g b op =>
    have he : (Option.rec .bad (fun c => Bool.rec (opsD l call (un :: vsE E) (.no :: E.map En.log) (envE env0 E) h) (dOp op uo call (evE env0 E) (E.map En.log) (envE env0 E) h fun l' v h => opsD l call (v :: vsE E) (l' :: E.map En.log) (envE env0 E) h) c) ((evE env0 E g).gd b) : CR) = .ok x env' h' := he
    show ((evE env0 E g).gd b = some false ∧ _) ∨ ((evE env0 E g).gd b = some true ∧ _)
    cases hb : (evE env0 E g).gd b with
    | none => rw [hb] at he; cases he
    | some c =>
      rw [hb] at he
      have he : (Bool.rec (opsD l call (un :: vsE E) (.no :: E.map En.log) (envE env0 E) h) (dOp op uo call (evE env0 E) (E.map En.log) (envE env0 E) h fun l' v h => opsD l call (v :: vsE E) (l' :: E.map En.log) (envE env0 E) h) c : CR) = .ok x env' h' := he
      cases hbc : c with
      | false => rw [hbc] at he; exact .inl ⟨rfl, he⟩
      | true => rw [hbc] at he; exact .inr ⟨rfl, he⟩
  | gs g b i j op =>
    have he : (Option.rec .bad (fun c => Bool.rec (Env.setC i j un (fun env => opsD l call (un :: vsE E) (.no :: E.map En.log) env h) (envE env0 E)) (dOp op uo call (evE env0 E) (E.map En.log) (envE env0 E) h fun l' v h => Env.setC i j v (fun env => opsD l call (v :: vsE E) (l' :: E.map En.log) env h) (envE env0 E)) c) ((evE env0 E g).gd b) : CR) = .ok x env' h' := he
    show ((evE env0 E g).gd b = some false ∧ _) ∨ ((evE env0 E g).gd b = some true ∧ _)
    cases hb : (evE env0 E g).gd b with
    | none => rw [hb] at he; cases he
    | some c =>
      rw [hb] at he
      have he : (Bool.rec (Env.setC i j un (fun env => opsD l call (un :: vsE E) (.no :: E.map En.log) env h) (envE env0 E)) (dOp op uo call (evE env0 E) (E.map En.log) (envE env0 E) h fun l' v h => Env.setC i j v (fun env => opsD l call (v :: vsE E) (l' :: E.map En.log) env h) (envE env0 E)) c : CR) = .ok x env' h' := he
      cases hbc : c with
      | false =>
        rw [hbc] at he
        have he : Env.setC i j un (fun env => opsD l call (un :: vsE E) (.no :: E.map En.log) env h) (envE env0 E) = .ok x env' h' := he
        rw [Env.setC_eq] at he
        exact .inl ⟨rfl, he⟩
      | true => rw [hbc] at he; simp only [Env.setC_eq] at he; exact .inr ⟨rfl, he⟩
theorem nextD_eq {r : Opr} {l : List Opd} {lg : Log} {v : V} {i : Nat} {o : Oper} {uo : List Nat} : nextD r l call E env0 lg v h = opsD l call (vsE (⟨i, o, ⟨r, uo⟩, v, lg⟩ :: E)) ((⟨i, o, ⟨r, uo⟩, v, lg⟩ :: E).map En.log) (envE env0 (⟨i, o, ⟨r, uo⟩, v, lg⟩ :: E)) h := rfl
end
end
end Go.Eng
namespace Go.Eng
variable {D : List Deferred}
noncomputable section
section
variable {P : Program} {ops : Array Oper} {pm : List (Nat × Opd)} {N : Nat} {F0 : Fct} {env0 : Env} {ι0 : Inj} {h0 : Heap} {w0 : World}
  {E : List En} {rem : List (Nat × Opd)} {listed : Array Bool} {a : Act} {w : World} {ι : Inj} {h h' : Heap} {Q : Exit → Act → World → Prop} {call : CallT} {x : X} {env' : Env}

theorem cons_split {e e' : En} {A B : List En} (h : e :: E = A ++ e' :: B) : (A = [] ∧ e' = e ∧ B = E) ∨ ∃ A', A = e :: A' ∧ E = A' ++ e' :: B := by
  cases A with
  | nil => simp at h; exact .inl ⟨rfl, h.1.symm, h.2.symm⟩
  | cons y A' => simp at h; exact .inr ⟨A', by rw [h.1], h.2⟩
theorem DI0.cons (st : Stat ops pm) {i : Nat} {q : Opd} (d : DI0 D P ops pm N F0 env0 E ((i, q) :: rem) listed a ι) {e : En} (hk : e.key = (i, q))
    (hok : ops[e.i]? = some e.o ∧ dstOk N e.o.dst = true ∧ guardOk ((FofE F0 E).only (e.o.looksAt ops)) N ops e.o e.q.o.gd = true ∧ okOp P ((FofE F0 E).only (e.o.looksAt ops)) e.o.op e.q.o.op = true)
    (hids : ((e :: E).filterMap En.id).Nodup) : DI0 D P ops pm N F0 env0 (e :: E) rem listed a ι ∧ listed.getD e.i false = false := by
  have hun : listed.getD e.i false = false := by
    cases hl : listed.getD e.i false with
    | false => rfl
    | true =>
      exfalso
      obtain ⟨e', he', hi⟩ := d.only _ hl
      have hn := st.nd
      rw [← d.split] at hn
      simp only [List.map_append, List.nodup_append] at hn
      have h1 : e'.i ∈ ((E.map En.key).reverse).map (·.1) := by simp; exact ⟨e', he', rfl⟩
      have h2 : i ∈ (((i, q) :: rem).map (·.1)) := by simp
      have h3 : e.i = i := congrArg (·.1) hk
      exact hn.2.2 _ h1 _ h2 (hi.trans h3)
  have hf : ∀ t, (e :: E).find? (fun e => listed.getD e.i false && decide (e.o.dst = some t)) = E.find? (fun e => listed.getD e.i false && decide (e.o.dst = some t)) := fun t => by
    rw [List.find?_cons, hun]; rfl
  refine ⟨⟨?_, d.size, d.defers, d.lsize, d.down, fun j hj => ?_, fun A e' B hE => ?_, hids, fun t e' h1 => ?_, fun t h1 => ?_⟩, hun⟩
  · rw [← d.split]; simp [hk]
  · obtain ⟨e', h1, h2⟩ := d.only j hj; exact ⟨e', by simp [h1], h2⟩
  · rcases cons_split hE with ⟨rfl, rfl, rfl⟩ | ⟨A', rfl, hE'⟩
    · exact hok
    · exact d.ok A' e' B hE'
  · rw [hf] at h1; exact d.tmp1 t e' h1
  · rw [hf] at h1; exact d.tmp0 t h1

theorem filterMap_ids {e : En} {n : Nat} (hn : (E.filterMap En.id).Nodup) (hlt : ∀ e ∈ E, ∀ id, e.id = some id → id < n) (he : e.id = none ∨ e.id = some n) : ((e :: E).filterMap En.id).Nodup := by
  rw [List.filterMap_cons]
  rcases he with he | he
  · rw [he]; exact hn
  · rw [he]
    refine List.nodup_cons.2 ⟨fun hm => ?_, hn⟩
    obtain ⟨e', h1, h2⟩ := List.mem_filterMap.1 hm
    have := hlt e' h1 n h2; omega
theorem Pend.keep {B : List En} {e : En} {h1 : Heap} (k : Keep h h1) (hf : h1.fams = h.fams) (p : Pend env0 B e h ι) : Pend env0 B e h1 ι := by
  rcases p with p | ⟨k1, l, k2, ⟨m1, m2⟩ | ⟨id, ob, hk, m1, m2, m3, m4, m5, m6, m7⟩⟩
  · exact .inl p
  · exact .inr ⟨k1, l, k2, .inl ⟨m1, light_keep k m2⟩⟩
  · exact .inr ⟨k1, l, k2, .inr ⟨id, ob, hk, m1, m2, m3, m4, m5, k _ _ m6, by rw [hf]; exact m7⟩⟩

/-- One that does not act is put among those that wait. -/
theorem DI.addLight (st : Stat ops pm) {i : Nat} {q : Opd} (d : DI D P ops pm N F0 env0 ι0 h0 w0 E ((i, q) :: rem) listed a w ι h) {o : Oper} (ho : ops[i]? = some o)
    (hok : dstOk N o.dst = true ∧ guardOk ((FofE F0 E).only (o.looksAt ops)) N ops o q.o.gd = true ∧ okOp P ((FofE F0 E).only (o.looksAt ops)) o.op q.o.op = true)
    (hfree : FreeIn ι h h') {l : OpL} (hl : q.o.op = .L l) (hg : gdv env0 E q.o = some true) {os : List Opd} (he : dOp q.o.op q.uo call (evE env0 E) (E.map En.log) (envE env0 E) h (nextD q.o os call E env0) = .ok x env' h') (hcm : CallMono call) :
    ∃ e h1, e.key = (i, q) ∧ e.o = o ∧ DI D P ops pm N F0 env0 ι0 h0 w0 (e :: E) rem listed a w ι h1 ∧ opsD os call (vsE (e :: E)) ((e :: E).map En.log) (envE env0 (e :: E)) h1 = .ok x env' h' := by
  rw [hl] at he
  have he : (light l (evE env0 E) h).kd (light l (evE env0 E)) h (nextD q.o os call E env0) = .ok x env' h' := he
  cases hlr : light l (evE env0 E) h with
  | val v =>
    rw [hlr] at he
    have he : v.force (fun v => nextD q.o os call E env0 (.rd (light l (evE env0 E)) v) v h) = .ok x env' h' := he
    rw [V.force_eq] at he
    refine ⟨⟨i, o, q, v, .rd (light l (evE env0 E)) v⟩, h, rfl, rfl, ?_, he⟩
    obtain ⟨k1, k2⟩ := d.toDI0.cons st (e := ⟨i, o, q, v, .rd (light l (evE env0 E)) v⟩) rfl ⟨ho, hok⟩ (filterMap_ids d.ids (fun e he id hid => (d.idlt e he id hid).2) (.inl rfl))
    refine ⟨k1, fun A e B hE hlst => ?_, fun e hm id hid => ?_, d.chg⟩
    · rcases cons_split hE with ⟨rfl, rfl, rfl⟩ | ⟨A', rfl, hE'⟩
      · exact .inr ⟨hg, l, hl, .inl ⟨rfl, hlr⟩⟩
      · exact d.pend A' e B hE' hlst
    · rcases List.mem_cons.1 hm with rfl | hm
      · cases hid
      · exact d.idlt e hm id hid
  | new ob v =>
    rw [hlr] at he
    have he : force h.next (fun id => newK (fun v h => nextD q.o os call E env0 (.nw id ob) v h) h ob v) = .ok x env' h' := he
    rw [force_eq] at he
    have he : (Bool.rec .bad (h.newC ob fun h1 => nextD q.o os call E env0 (.nw h.next ob) v h1) (okSize ob) : CR) = .ok x env' h' := he
    cases hs : okSize ob with
    | false => rw [hs] at he; cases he
    | true =>
      rw [hs, newC_eq] at he
      have hlen : (h.add ob).next ≤ h'.next := by
        have := opsD_next hcm os (v :: vsE E) (.nw h.next ob :: E.map En.log) (match q.o.slot with | some (i, j) => Env.set i j v (envE env0 E) | none => envE env0 E) (h.add ob)
        have he2 : opsD os call (v :: vsE E) (.nw h.next ob :: E.map En.log) (match q.o.slot with | some (i, j) => Env.set i j v (envE env0 E) | none => envE env0 E) (h.add ob) = .ok x env' h' := he
        rw [he2] at this; exact this
      have hι : ι h.next = none := hfree _ (Nat.le_refl _) (Nat.lt_of_lt_of_le (Nat.lt_succ_self _) hlen)
      refine ⟨⟨i, o, q, v, .nw h.next ob⟩, h.add ob, rfl, rfl, ?_, he⟩
      obtain ⟨k1, k2⟩ := d.toDI0.cons st (e := ⟨i, o, q, v, .nw h.next ob⟩) rfl ⟨ho, hok⟩ (filterMap_ids d.ids (fun e he id hid => (d.idlt e he id hid).2) (.inr rfl))
      have g := d.chg.good
      refine ⟨k1, fun A e B hE hlst => ?_, fun e hm id hid => ?_, d.chg.add hι ob⟩
      · rcases cons_split hE with ⟨rfl, rfl, rfl⟩ | ⟨A', rfl, hE'⟩
        · refine .inr ⟨hg, l, hl, .inr ⟨h.next, ob, h, rfl, rfl, hlr, hs, hι, T.get_set_same .., ?_⟩⟩
          cases hf : T.get h.next (h.add ob).fams with
          | none => rfl
          | some F => have := g.fdom h.next (Nat.zero_le _) (by rw [show T.get h.next h.fams = some F from hf]; simp); omega
        · exact (d.pend A' e B hE' hlst).keep (Keep.add g.dom ob) rfl
      · show h0.next ≤ id ∧ id < h.next + 1
        rcases List.mem_cons.1 hm with rfl | hm
        · cases hid; exact ⟨d.chg.ext.2.1, Nat.lt_succ_self _⟩
        · have := d.idlt e hm id hid; omega
  | bad => rw [hlr] at he; cases he
/-- One whose guard says no waits too. -/
theorem DI.addSkip (st : Stat ops pm) {i : Nat} {q : Opd} (d : DI D P ops pm N F0 env0 ι0 h0 w0 E ((i, q) :: rem) listed a w ι h) {o : Oper} (ho : ops[i]? = some o)
    (hok : dstOk N o.dst = true ∧ guardOk ((FofE F0 E).only (o.looksAt ops)) N ops o q.o.gd = true ∧ okOp P ((FofE F0 E).only (o.looksAt ops)) o.op q.o.op = true) (hg : gdv env0 E q.o = some false) :
    DI D P ops pm N F0 env0 ι0 h0 w0 (⟨i, o, q, un, .no⟩ :: E) rem listed a w ι h := by
  obtain ⟨k1, k2⟩ := d.toDI0.cons st (e := ⟨i, o, q, un, .no⟩) rfl ⟨ho, hok⟩ (filterMap_ids d.ids (fun e he id hid => (d.idlt e he id hid).2) (.inl rfl))
  refine ⟨k1, fun A e B hE hlst => ?_, fun e hm id hid => ?_, d.chg⟩
  · rcases cons_split hE with ⟨rfl, rfl, rfl⟩ | ⟨A', rfl, hE'⟩
    · exact .inl ⟨hg, rfl⟩
    · exact d.pend A' e B hE' hlst
  · rcases List.mem_cons.1 hm with rfl | hm
    · cases hid
    · exact d.idlt e hm id hid

theorem stills_at : ∀ {uo : List Nat} {h : Heap} {logs : List Log}, stills uo h logs = true → ∀ k ∈ uo, still h (logAt logs k) = true
  | [], _, _, _, k, hk => by simp at hk
  | u :: uo, h, logs, hs, k, hk => by
    have hs : (Bool.rec false (stills uo h logs) (still h (logAt logs u)) : Bool) = true := hs
    cases hu : still h (logAt logs u) with
    | false => rw [hu] at hs; cases hs
    | true =>
      rw [hu] at hs
      rcases List.mem_cons.1 hk with rfl | hk
      · exact hu
      · exact stills_at hs k hk
theorem logAt_mid (A : List En) (e : En) (B : List En) : logAt ((A ++ e :: B).map En.log) A.length = e.log := by
  induction A with
  | nil => rfl
  | cons x A ih => exact ih
theorem finds_eq {f : Heap → LR} {v : V} {h : Heap} (hf : finds f v h = true) : f h = .val v := by
  unfold finds at hf
  cases hv : f h with
  | val w => rw [hv] at hf; rw [V.same_eq v w hf]
  | new o w => rw [hv] at hf; cases hf
  | bad => rw [hv] at hf; cases hf
theorem Pend.heavy {B : List En} {e : En} {h1 : Heap} {ι1 : Inj} (p : Pend env0 B e h ι) (hι : ∀ id, e.id = some id → ι id = none → ι1 id = none) (hs : sees e.q.o.op = false ∨ still h1 e.log = true) : Pend env0 B e h1 ι1 := by
  rcases p with p | ⟨k1, l, k2, ⟨m1, m2⟩ | ⟨id, ob, hk, m1, m2, m3, m4, m5, m6, m7⟩⟩
  · exact .inl p
  · refine .inr ⟨k1, l, k2, .inl ⟨m1, ?_⟩⟩
    rcases hs with hs | hs
    · rw [k2] at hs; rw [light_pure hs]; exact m2
    · rw [m1] at hs; exact finds_eq hs
  · refine .inr ⟨k1, l, k2, .inr ⟨id, ob, hk, m1, m2, m3, m4, hι id (by unfold En.id; rw [m1]) m5, ?_⟩⟩
    rcases hs with hs | hs
    · rw [k2] at hs
      exfalso
      have hn := light_isNew m3
      cases l <;> first | (cases hs; done) | (simp [isNew] at hn; done)
    · rw [m1] at hs
      have hs : (match T.get id h1.t, T.get id h1.fams with | some o, none => Obj.same ob o | _, _ => false) = true := hs
      cases h1t : T.get id h1.t with
      | none => rw [h1t] at hs; cases hs
      | some o =>
        cases h1f : T.get id h1.fams with
        | some F => rw [h1t, h1f] at hs; cases hs
        | none => rw [h1t, h1f] at hs; rw [Obj.same_eq ob o hs]; exact ⟨rfl, rfl⟩
theorem uoOk_at {b : Nat} {uo : List Nat} : ∀ (A : List En) (e : En) (B : List En) (k : Nat), uoOk b uo ((A ++ e :: B).map (fun e => (e.i, sees e.q.o.op))) k = true → sees e.q.o.op = false ∨ b.testBit e.i = true ∨ k + A.length ∈ uo
  | [], e, B, k, h => by
    have h := (Bool.and_of h).1
    rw [Bool.or_eq_true, Bool.or_eq_true] at h
    rcases h with h | h | h
    · exact .inl (by simpa using h)
    · exact .inr (.inl h)
    · exact .inr (.inr (by simpa using h))
  | y :: A, e, B, k, h => by
    have h := (Bool.and_of h).2
    rcases uoOk_at A e B (k + 1) h with h | h | h
    · exact .inl h
    · exact .inr (.inl h)
    · exact .inr (.inr (by rw [List.length_cons, show k + (A.length + 1) = k + 1 + A.length by omega]; exact h))
end
end
end Go.Eng
namespace Go.Eng
variable {D : List Deferred}
noncomputable section
section
variable {P : Program} {ops : Array Oper} {pm : List (Nat × Opd)} {N : Nat} {F0 : Fct} {env0 : Env} {ι0 : Inj} {h0 : Heap} {w0 : World}
  {E : List En} {rem : List (Nat × Opd)} {listed : Array Bool} {a : Act} {w : World} {ι : Inj} {h h' : Heap} {Q : Exit → Act → World → Prop} {call : CallT} {x : X} {env' : Env} {m : List Nat} {F' : Fct}

def cnt (listed : Array Bool) (E : List En) : Nat := E.countP (fun e => !listed.getD e.i false)
theorem cnt_lt {A B : List En} {e : En} (hi : e.i < listed.size) (hun : listed.getD e.i false = false) : cnt (listed.setIfInBounds e.i true) (A ++ e :: B) < cnt listed (A ++ e :: B) := by
  have hm : ∀ l : List En, l.countP (fun x => !(listed.setIfInBounds e.i true).getD x.i false) ≤ l.countP (fun x => !listed.getD x.i false) := fun l =>
    List.countP_mono_left fun x _ hx => by
      rw [getD_set hi] at hx
      by_cases c : x.i = e.i
      · rw [if_pos c] at hx; cases hx
      · rw [if_neg c] at hx; exact hx
  unfold cnt
  rw [List.countP_append, List.countP_append, List.countP_cons, List.countP_cons, getD_set hi, if_pos rfl, hun]
  exact Nat.add_lt_add_of_le_of_lt (hm A) (Nat.lt_succ_of_le (hm B))

theorem least {p : Nat → Prop} : ∀ (n : Nat), p n → ∃ k, p k ∧ ∀ j, j < k → ¬ p j := by
  intro n
  induction n using Nat.strongRecOn with
  | _ n ih =>
    intro hn
    by_cases h : ∃ j, j < n ∧ p j
    · obtain ⟨j, hj, hp⟩ := h; exact ih j hj hp
    · exact ⟨n, hn, fun j hj hp => h ⟨j, hj, hp⟩⟩
theorem ready_ne (st : Stat ops pm) (hs : listed.size = ops.size) {j : Nat} (hj : j < ops.size) (hun : listed.getD j false = false) : Region.ready .any ops listed ≠ [] := by
  obtain ⟨k, ⟨hk, hku⟩, hmin⟩ := least (p := fun j => j < ops.size ∧ listed.getD j false = false) j ⟨hj, hun⟩
  have : k ∈ Region.ready .any ops listed := by
    rw [mem_ready]
    refine ⟨?_, ops[k], Array.getElem?_eq_getElem hk, fun e he hb => ?_⟩
    · simp [Array.getD, hs, hk] at hku ⊢; exact hku
    · have hlt := st.edges k _ (Array.getElem?_eq_getElem hk) e he hb
      cases hl : listed.getD e.on false with
      | true => rfl
      | false => exact absurd ⟨by omega, hl⟩ (hmin e.on hlt)
  intro h; rw [h] at this; cases this
theorem DI0.ready (st : Stat ops pm) (d : DI0 D P ops pm N F0 env0 E rem listed a ι) {j : Nat} (hj : j ∈ Region.ready .any ops listed) :
    listed.getD j false = false ∧ ∃ o, ops[j]? = some o ∧ (∀ e ∈ o.after, Region.binds .any e = true → listed.getD e.on false = true) ∧ ((∃ A e B, E = A ++ e :: B ∧ e.i = j) ∨ ∃ x ∈ rem, x.1 = j) := by
  obtain ⟨h1, o, ho, h2⟩ := mem_ready.1 hj
  have hlt : j < ops.size := (Array.getElem?_eq_some_iff.1 ho).1
  refine ⟨by simp [Array.getD, d.lsize, hlt] at h1 ⊢; exact h1, o, ho, h2, ?_⟩
  have := st.all j o ho
  rw [← d.split] at this
  simp only [List.map_append, List.mem_append, List.map_reverse, List.mem_reverse, List.map_map, List.mem_map, Function.comp] at this
  rcases this with ⟨e, he, hi⟩ | ⟨x, hx, hi⟩
  · obtain ⟨A, B, hE⟩ := List.append_of_mem he
    exact .inl ⟨A, e, B, hE, hi⟩
  · exact .inr ⟨x, hx, hi⟩
theorem DI0.str (h00 : F0.n = 0) (hF0 : ∀ t s, F0.tmp t = some s → ∀ p, s ≠ .val p) (r0 : AbsR F0 [] env0 env0) (d : DI0 D P ops pm N F0 env0 E rem listed a ι) (hall : ∀ e ∈ E, listed.getD e.i false = true) :
    StR ι (FofE F0 E) (vsE E) (envE env0 E) env0 a.tmps := by
  refine (r0.ofE E).str fun t s ht => ?_
  rcases FofE_tmp h00 E ht with ⟨A', e', B', rfl, h1, h2, rfl⟩ | ⟨h1, h2⟩
  · have hf := find_split (p := fun e : En => listed.getD e.i false && decide (e.o.dst = some t)) (A := A') (e := e') (B := B') (fun x hx => by simp [h2 x hx]) (by rw [hall e' (by simp)]; simpa using h1)
    have hv := d.tmp1 t e' hf
    refine ⟨by simp; omega, ?_⟩
    rw [getL_mid]; exact hv
  · have hn : E.find? (fun e : En => listed.getD e.i false && decide (e.o.dst = some t)) = none := by
      rw [List.find?_eq_none]
      intro x hx; simp [h1 x hx]
    have := d.tmp0 t hn s h2
    cases s with
    | val p => exact absurd rfl (hF0 t _ h2 p)
    | slot i j => exact this
    | cst c => exact this

/-- One that acts comes by: all that follow wait for it. -/
theorem DI.act (st : Stat ops pm) (hm : BefsOk ops m) (hml : m.length = ops.size) (hcs : CallS P call) (hcm : CallMono call) (h00 : F0.n = 0) (hF0 : ∀ t s, F0.tmp t = some s → ∀ p, s ≠ .val p) (r0 : AbsR F0 [] env0 env0)
    {i : Nat} {q : Opd} (d : DI D P ops pm N F0 env0 ι0 h0 w0 E ((i, q) :: rem) listed a w ι h) {o : Oper} (ho : ops[i]? = some o)
    (hok : dstOk N o.dst = true ∧ guardOk ((FofE F0 E).only (o.looksAt ops)) N ops o q.o.gd = true ∧ okOp P ((FofE F0 E).only (o.looksAt ops)) o.op q.o.op = true)
    (huo : uoOk (bitAt m i) q.uo (E.map (fun e => (e.i, sees e.q.o.op))) 0 = true) (hfree0 : FreeIn ι0 h0 h') {l : OpH} (hl : q.o.op = .H l) (hg : gdv env0 E q.o = some true) {os : List Opd}
    (he : dOp q.o.op q.uo call (evE env0 E) (E.map En.log) (envE env0 E) h (nextD q.o os call E env0) = .ok x env' h')
    (hr : ∀ e ∈ o.after, Region.binds .any e = true → listed.getD e.on false = true) (hun : listed.getD i false = false) {K : Act → World → Prop}
    (hK : ∀ e a' w' ι' h1, e.key = (i, q) → e.o = o → DI D P ops pm N F0 env0 ι0 h0 w0 (e :: E) rem (listed.setIfInBounds i true) a' w' ι' h1 →
      opsD os call (vsE (e :: E)) ((e :: E).map En.log) (envE env0 (e :: E)) h1 = .ok x env' h' → K a' w')
    (hP : ∀ v, x = .pan v → ∀ v' ι' a' w', Chg ι0 h0 w0 ι' h' w' → vrel ι' v v' → a'.defers = D → Q (.panic [{ v := v', recovered := false }]) a' w') : wpOp P ops Q i K a w := by
  -- what it looks at
  have hA : ∀ y ∈ ([] : List En), ∀ t, y.o.dst = some t → t ∈ o.looksAt ops → listed.getD y.i false = false := fun y hy => by simp at hy
  have hB : ∀ y ∈ E, ∀ t, y.o.dst = some t → t ∈ o.looksAt ops → listed.getD y.i false = true := by
    intro y hy t hyt htl
    obtain ⟨B1, B2, hE⟩ := List.append_of_mem hy
    obtain ⟨hoy, _⟩ := d.ok B1 y B2 hE
    have h1 : List.Sublist [En.key y, (i, q)] pm := by
      rw [← d.split]
      exact (List.singleton_sublist.2 (by simp; exact ⟨y, hy, rfl⟩)).append (List.Sublist.cons_cons _ (List.nil_sublist _))
    have hp := List.pairwise_iff_forall_sublist.1 st.pairs h1 (.inr (apart_dst hoy ho hyt (.inl htl)))
    have h2 : List.Sublist [y.i, i] (pm.map (·.1)) := h1.map (fun x : Nat × Opd => x.1)
    have hne : y.i ≠ i := List.pairwise_iff_forall_sublist.1 st.nd h2
    exact bef_listed d.down ho hr hp hne
  have s : StR ι ((FofE F0 E).only (o.looksAt ops)) (vsE E) (envE env0 E) env0 a.tmps := ((r0.ofE E).only _).str (d.toDI0.holds st h00 hF0 (A := []) rfl hA hB)
  have hw := gdv_wanted s d.size hok.2.1 hg
  unfold wpOp
  rw [ho]
  simp only [hw]
  refine .inl ?_
  have hfree : FreeIn ι h h' := hfree0.right d.chg.ext
  have he : opK q.o.op call (evE env0 E) (envE env0 E) h (fun v h1 => Bool.rec .bad (nextD q.o os call E env0 .no v h1) (stills q.uo h1 (E.map En.log))) = .ok x env' h' := by rw [hl] at he ⊢; exact he
  refine wp_op hcs hcm d.chg.good s hok.2.2 he hfree (fun v h1 => ?_) (fun h1 v v' ι' w' e2 c hf2 hle hv => ?_) (fun v v' ι' w' ex _ c hv => hP v ex v' ι' a w' (d.chg.trans c ?_) hv d.defers)
  · cases stills q.uo h1 (E.map En.log) with
    | false => trivial
    | true => exact opsD_next hcm os _ _ _ _
  · cases hst : stills q.uo h1 (E.map En.log) with
    | false => rw [hst] at e2; cases e2
    | true =>
      rw [hst] at e2
      have hids := filterMap_ids (e := ⟨i, o, q, v, .no⟩) d.ids (fun e he id hid => (d.idlt e he id hid).2) (.inl rfl)
      obtain ⟨k1, k2⟩ := d.toDI0.cons st (e := ⟨i, o, q, v, .no⟩) rfl ⟨ho, hok⟩ hids
      obtain ⟨k3, k4⟩ := k1.done st (A := []) (B := E) rfl hr k2 c.ext.1 hv
      refine hK ⟨i, o, q, v, .no⟩ _ w' ι' h1 rfl rfl ⟨k3, fun A e B hE hl' => ?_, fun e hm' id hid => ?_, d.chg.trans c ?_⟩ e2
      · obtain ⟨hne, hl2⟩ := k4 _ hl'
        rcases cons_split hE with ⟨rfl, rfl, rfl⟩ | ⟨A', rfl, hE'⟩
        · exact absurd rfl hne
        · refine (d.pend A' e B hE' hl2).heavy (fun id hid hι => ?_) ?_
          · have hid2 := d.idlt e (by rw [hE']; simp) id hid
            cases hx : ι' id with
            | none => rfl
            | some B1 => have := c.ext.2.2 id hι (by rw [hx]; simp); omega
          · have huo' := huo
            rw [hE'] at huo'
            rcases uoOk_at A' e B 0 huo' with hs | hb | hu
            · exact .inl hs
            · exfalso
              have hi : i < m.length := by rw [hml]; exact (Array.getElem?_eq_some_iff.1 ho).1
              have := bef_listed d.down ho hr (hm i e.i hi hb) hne
              rw [hl2] at this; cases this
            · have := stills_at hst _ hu
              rw [hE', Nat.zero_add, logAt_mid] at this
              exact .inr this
      · have hle2 := c.ext.2.1
        rcases List.mem_cons.1 hm' with rfl | hm'
        · cases hid
        · have := d.idlt e hm' id hid; omega
      · exact fun b hb1 hb2 => hfree0 b hb1 (Nat.lt_of_lt_of_le hb2 (Nat.le_trans c.ext.2.1 hle))
  · exact fun b hb1 hb2 => hfree0 b hb1 (Nat.lt_of_lt_of_le hb2 c.ext.2.1)
end
end
end Go.Eng
namespace Go.Eng
variable {D : List Deferred}
noncomputable section
section
variable {P : Program} {ops : Array Oper} {pm : List (Nat × Opd)} {N : Nat} {F0 : Fct} {env0 : Env} {ι0 : Inj} {h0 : Heap} {w0 : World}
  {h' : Heap} {Q : Exit → Act → World → Prop} {call : CallT} {x : X} {env' : Env} {m : List Nat} {F' : Fct}

theorem wpAny_draw (st : Stat ops pm) (hm : BefsOk ops m) (hml : m.length = ops.size) (hcs : CallS P call) (hcm : CallMono call) (h00 : F0.n = 0) (hF0 : ∀ t s, F0.tmp t = some s → ∀ p, s ≠ .val p) (r0 : AbsR F0 [] env0 env0) (hfree : FreeIn ι0 h0 h')
    (hN : x = .nrm → ∀ ι' vs' a' w', Chg ι0 h0 w0 ι' h' w' → StR ι' F' vs' env' env0 a'.tmps → a'.tmps.size = N → a'.defers = D → Q .normal a' w')
    (hP : ∀ v, x = .pan v → ∀ v' ι' a' w', Chg ι0 h0 w0 ι' h' w' → vrel ι' v v' → a'.defers = D → Q (.panic [{ v := v', recovered := false }]) a' w') :
    ∀ (rem : List (Nat × Opd)) (E : List En) (h : Heap), chkD P N ops m rem (E.map (fun e => (e.i, sees e.q.o.op))) (FofE F0 E) = some F' → opsD (rem.map (·.2)) call (vsE E) (E.map En.log) (envE env0 E) h = .ok x env' h' →
      ∀ (fuel : Nat) (listed : Array Bool) (a : Act) (w : World) (ι : Inj), DI D P ops pm N F0 env0 ι0 h0 w0 E rem listed a w ι h → cnt listed E + rem.length ≤ fuel → wpAny P .any ops Q fuel listed a w := by
  intro rem
  induction rem with
  | nil =>
    intro E h hc he
    have hc : some (FofE F0 E) = some F' := hc
    cases hc
    have he : CR.ok .nrm (envE env0 E) h = .ok x env' h' := he
    cases he
    -- all have come by
    have fin : ∀ (listed : Array Bool) (a : Act) (w : World) (ι : Inj), DI D P ops pm N F0 env0 ι0 h0 w0 E [] listed a w ι h' → (∀ e ∈ E, listed.getD e.i false = true) → Q .normal a w := fun listed a w ι d hall =>
      hN rfl ι (vsE E) a w d.chg (d.toDI0.str h00 hF0 r0 hall) d.size d.defers
    have all_of : ∀ (listed : Array Bool) (a : Act) (w : World) (ι : Inj), DI D P ops pm N F0 env0 ι0 h0 w0 E [] listed a w ι h' → Region.ready .any ops listed = [] → ∀ e ∈ E, listed.getD e.i false = true := by
      intro listed a w ι d hr e he
      cases hl : listed.getD e.i false with
      | true => rfl
      | false =>
        obtain ⟨A, B, hE⟩ := List.append_of_mem he
        have ho := (d.ok A e B hE).1
        exact absurd hr (ready_ne st d.lsize (Array.getElem?_eq_some_iff.1 ho).1 hl)
    intro fuel
    induction fuel with
    | zero =>
      intro listed a w ι d hle
      have hall : ∀ e ∈ E, listed.getD e.i false = true := by
        intro e he
        cases hl : listed.getD e.i false with
        | true => rfl
        | false =>
          obtain ⟨A, B, rfl⟩ := List.append_of_mem he
          have ho := (d.ok A e B rfl).1
          have := cnt_lt (A := A) (B := B) (e := e) (listed := listed) (by rw [d.lsize]; exact (Array.getElem?_eq_some_iff.1 ho).1) hl
          simp at hle; omega
      refine ⟨?_, fin listed a w ι d hall⟩
      cases hr : Region.ready .any ops listed with
      | nil => rfl
      | cons j js =>
        exfalso
        obtain ⟨k1, o, ho, k2, k3⟩ := d.toDI0.ready st (j := j) (by rw [hr]; simp)
        rcases k3 with ⟨A, e, B, hE, rfl⟩ | ⟨y, hy, _⟩
        · rw [hall e (by rw [hE]; simp)] at k1; cases k1
        · simp at hy
    | succ fuel ih =>
      intro listed a w ι d hle
      refine ⟨fun hr => fin listed a w ι d (all_of listed a w ι d hr), fun j hj => ?_⟩
      obtain ⟨k1, o, ho, k2, k3⟩ := d.toDI0.ready st hj
      rcases k3 with ⟨A, e, B, hE, rfl⟩ | ⟨y, hy, _⟩
      · have hoe := (d.ok A e B hE).1
        have : o = e.o := by rw [ho] at hoe; exact Option.some.inj hoe
        subst this
        refine d.exec st h00 hF0 r0 hE k2 k1 (fun a' w' ι' d' => ih _ a' w' ι' d' ?_)
        have := cnt_lt (A := A) (B := B) (e := e) (listed := listed) (by rw [d.lsize]; exact (Array.getElem?_eq_some_iff.1 ho).1) k1
        rw [← hE] at this
        omega
      · simp at hy
  | cons iq rem ihr =>
    intro E h hc he
    obtain ⟨i, q⟩ := iq
    unfold chkD at hc
    cases ho : ops[i]? with
    | none => rw [ho] at hc; cases hc
    | some o =>
      rw [ho] at hc
      simp only at hc
      by_cases hcond : (dstOk N o.dst && (guardOk ((FofE F0 E).only (o.looksAt ops)) N ops o q.o.gd && (okOp P ((FofE F0 E).only (o.looksAt ops)) o.op q.o.op && (!isHeavy q.o.op || uoOk (bitAt m i) q.uo (E.map (fun e => (e.i, sees e.q.o.op))) 0)))) = true
      · rw [if_pos hcond] at hc
        have b1 := Bool.and_of hcond; have b2 := Bool.and_of b1.2; have b3 := Bool.and_of b2.2
        have hok : dstOk N o.dst = true ∧ guardOk ((FofE F0 E).only (o.looksAt ops)) N ops o q.o.gd = true ∧ okOp P ((FofE F0 E).only (o.looksAt ops)) o.op q.o.op = true := ⟨b1.1, b2.1, b3.1⟩
        have wait : ∀ (e : En) (h1 : Heap) (listed : Array Bool), e.key = (i, q) → e.o = o → listed.getD i false = false → cnt listed (e :: E) = cnt listed E + 1 := by
          intro e h1 listed hk _ hl
          have : e.i = i := congrArg (·.1) hk
          unfold cnt
          rw [List.countP_cons, this, hl]; rfl
        have hunl : ∀ (listed : Array Bool) (a : Act) (w : World) (ι : Inj), DI D P ops pm N F0 env0 ι0 h0 w0 E ((i, q) :: rem) listed a w ι h → listed.getD i false = false := by
          intro listed a w ι d
          exact (d.toDI0.cons st (e := ⟨i, o, q, un, .no⟩) rfl ⟨ho, hok⟩ (filterMap_ids d.ids (fun e he id hid => (d.idlt e he id hid).2) (.inl rfl))).2
        rcases opsD_cons he with ⟨hg, e2⟩ | ⟨hg, e2⟩
        · intro fuel listed a w ι d hle
          have d2 := d.addSkip st ho hok hg
          refine ihr (⟨i, o, q, un, .no⟩ :: E) h hc e2 fuel listed a w ι d2 ?_
          rw [wait ⟨i, o, q, un, .no⟩ h listed rfl rfl (hunl listed a w ι d)]
          simp at hle; omega
        · cases hop : q.o.op with
          | L l =>
            intro fuel listed a w ι d hle
            obtain ⟨e, h1, hk, heo, d2, e3⟩ := d.addLight st ho hok (hfree.right d.chg.ext) hop hg e2 hcm
            have hkq : e.q = q := congrArg (·.2) hk
            have hki : e.i = i := congrArg (·.1) hk
            refine ihr (e :: E) h1 ?_ e3 fuel listed a w ι d2 ?_
            · rw [List.map_cons, hki, hkq]; unfold FofE; rw [heo, hkq]; exact hc
            · rw [wait e h1 listed hk heo (hunl listed a w ι d)]
              simp at hle; omega
          | H l =>
            have huo : uoOk (bitAt m i) q.uo (E.map (fun e => (e.i, sees e.q.o.op))) 0 = true := by
              have := b3.2
              rw [hop] at this
              simpa [isHeavy] using this
            intro fuel
            induction fuel with
            | zero => intro listed a w ι d hle; simp at hle
            | succ fuel ih =>
              intro listed a w ι d hle
              have hun := hunl listed a w ι d
              have hi : i < ops.size := (Array.getElem?_eq_some_iff.1 ho).1
              refine ⟨fun hr => absurd hr (ready_ne st d.lsize hi hun), fun j hj => ?_⟩
              obtain ⟨k1, oj, hoj, k2, k3⟩ := d.toDI0.ready st hj
              rcases k3 with ⟨A, e, B, hE, rfl⟩ | ⟨y, hy, hyj⟩
              · have hoe := (d.ok A e B hE).1
                have : oj = e.o := by rw [hoj] at hoe; exact Option.some.inj hoe
                subst this
                refine d.exec st h00 hF0 r0 hE k2 k1 (fun a' w' ι' d' => ih _ a' w' ι' d' ?_)
                have := cnt_lt (A := A) (B := B) (e := e) (listed := listed) (by rw [d.lsize]; exact (Array.getElem?_eq_some_iff.1 hoj).1) k1
                rw [← hE] at this
                omega
              · by_cases hji : j = i
                · subst hji
                  rw [ho] at hoj; cases hoj
                  refine d.act st hm hml hcs hcm h00 hF0 r0 ho hok huo hfree hop hg e2 k2 hun (fun e a' w' ι' h1 hk heo d2 e3 => ?_) hP
                  have hkq : e.q = q := congrArg (·.2) hk
                  have hki : e.i = j := congrArg (·.1) hk
                  refine ihr (e :: E) h1 ?_ e3 fuel _ a' w' ι' d2 ?_
                  · rw [List.map_cons, hki, hkq]; unfold FofE; rw [heo, hkq]; exact hc
                  · have hls : j < listed.size := by rw [d.lsize]; exact hi
                    have h1 : cnt (listed.setIfInBounds j true) (e :: E) ≤ cnt listed E := by
                      unfold cnt
                      rw [List.countP_cons, hki, getD_set hls, if_pos rfl]
                      refine List.countP_mono_left fun x _ hx => ?_
                      rw [getD_set hls] at hx
                      by_cases c : x.i = j
                      · rw [if_pos c] at hx; cases hx
                      · rw [if_neg c] at hx; exact hx
                    simp at hle; omega
                · exfalso
                  rcases List.mem_cons.1 hy with rfl | hy
                  · exact hji hyj.symm
                  · have hb := d.toDI0.heavyBefore st hy (by rw [hop]; rfl)
                    rw [hyj] at hb
                    have := bef_listed d.down hoj k2 hb (Ne.symm hji)
                    rw [hun] at this; cases this
      · rw [if_neg hcond] at hc; cases hc
end
end
end Go.Eng
namespace Go.Eng
variable {D : List Deferred}
noncomputable section

/-! ### code -/
def optEnd (temps : List Nat) : Option Fct → Bool
  | some F => endOk F temps 0
  | none => false
def chkC (P : Program) (temps : List Nat) (N : Nat) : Code → C → Bool
  | .scope c, e => chkC P temps N c e
  | _, .stuck => true
  | .skip, .skip => true
  | .label _, .skip => true
  | .ret, .ret => true
  | .exit i, .exit j => i == j
  | .seq a b, .seq a' b' => chkC P temps N a a' && chkC P temps N b b'
  | .cond x a b, .cond x' a' b' => chkAt (Fct.start temps) x x' && (chkC P temps N a a' && chkC P temps N b b')
  | .block i c, .block j c' => i == j && chkC P temps N c c'
  | .loop c, .loop c' => chkC P temps N c c'
  | .region _ ops false, .reg acts l => optEnd temps (chkN P N acts ops ops.toList 0 l (Fct.start temps))
  | .region _ ops true, .draw pm l => (pm.length == l.length && decide (pm.length ≤ ops.size)) && (permOk ops (befs ops.toList []) (pm.zip l) && optEnd temps (chkD P N ops (befs ops.toList []) (pm.zip l) [] (Fct.start temps)))
  | _, _ => false

/-- what is asked at the end -/
def Post (D : List Deferred) (ι : Inj) (h : Heap) (w : World) (temps : List Nat) (N : Nat) (x : X) (env' : Env) (h' : Heap) (Q : Exit → Act → World → Prop) : Prop :=
  ∀ ι' a' w', Chg ι h w ι' h' w' → match x with
    | .nrm => ActR D ι' temps N env' a' → Q .normal a' w'
    | .ret => ActR D ι' temps N env' a' → Q .ret a' w'
    | .exit i => ActR D ι' temps N env' a' → Q (.exit i) a' w'
    | .pan v => ∀ v', vrel ι' v v' → a'.defers = D → Q (.panic [{ v := v', recovered := false }]) a' w'

section
variable {P : Program} {call : CallT} {temps : List Nat} {N : Nat}

theorem code_next (hcm : CallMono call) : ∀ (e : C) (n : Nat) (env : Env) (h : Heap), CR.next h (code e call n env h)
  | .skip, _, _, h => Nat.le_refl _
  | .ret, _, _, h => Nat.le_refl _
  | .exit _, _, _, h => Nat.le_refl _
  | .seq a b, n, env, h => by
    show CR.next h (CR.rec (fun x env h => X.rec (code b call n env h) (.ok .ret env h) (fun i => .ok (.exit i) env h) (fun v => .ok (.pan v) env h) x) .bad (code a call n env h) : CR)
    have h1 := code_next hcm a n env h
    cases hr : code a call n env h with
    | bad => trivial
    | ok x env1 h1' =>
      rw [hr] at h1
      cases x with
      | nrm => exact CR.next_le h1 (code_next hcm b n env1 h1')
      | ret => exact h1
      | exit i => exact h1
      | pan v => exact h1
  | .cond x a b, n, env, h => by
    show CR.next h (Option.rec .bad (fun t => Bool.rec (code b call n env h) (code a call n env h) t) (x.ev [] env).asBool : CR)
    cases (x.ev [] env).asBool with
    | none => trivial
    | some t => cases t with
      | false => exact code_next hcm b n env h
      | true => exact code_next hcm a n env h
  | .block id a, n, env, h => by
    show CR.next h (CR.rec (fun x env h => X.rec (.ok .nrm env h) (.ok .ret env h) (fun i => .ok (Bool.rec (.exit i) .nrm (i.beq id)) env h) (fun v => .ok (.pan v) env h) x) .bad (code a call n env h) : CR)
    have h1 := code_next hcm a n env h
    cases hr : code a call n env h with
    | bad => trivial
    | ok x env1 h1' => rw [hr] at h1; cases x <;> exact h1
  | .loop a, n, env, h => by
    show CR.next h (rounds (fun env h => code a call n env h) n env h)
    have key : ∀ k env h, CR.next h (rounds (fun env h => code a call n env h) k env h) := by
      intro k
      induction k with
      | zero => intro env h; trivial
      | succ k ih =>
        intro env h
        show CR.next h (CR.rec (fun x env h => X.rec (rounds (fun env h => code a call n env h) k env h) (.ok .ret env h) (fun i => .ok (.exit i) env h) (fun v => .ok (.pan v) env h) x) .bad (code a call n env h) : CR)
        have h1 := code_next hcm a n env h
        cases hr : code a call n env h with
        | bad => trivial
        | ok x env1 h1' =>
          rw [hr] at h1
          cases x with
          | nrm => exact CR.next_le h1 (ih env1 h1')
          | ret => exact h1
          | exit i => exact h1
          | pan v => exact h1
    exact key n env h
  | .reg _ l, _, env, h => opsN_next hcm l [] env h
  | .draw _ l, _, env, h => opsD_next hcm l [] [] env h
  | .stuck, _, _, _ => trivial

theorem Post.from_ {ι ι1 : Inj} {h h1 h' : Heap} {w w1 : World} {x : X} {env' : Env} {Q : Exit → Act → World → Prop} (p : Post D ι h w temps N x env' h' Q) (c : Chg ι h w ι1 h1 w1) (hf : FreeIn ι h h1) : Post D ι1 h1 w1 temps N x env' h' Q :=
  fun ι' a' w' c' => p ι' a' w' (c.trans c' hf)
theorem start_src {temps : List Nat} : ∀ t s, (Fct.start temps).tmp t = some s → ∀ p, s ≠ .val p := by
  intro t s ht p e
  subst e
  have ht : (match look t (slots temps 0) with | some s => s | none => none) = some (.val p) := ht
  cases hl : look t (slots temps 0) with
  | none => rw [hl] at ht; cases ht
  | some s' =>
    rw [hl] at ht
    obtain ⟨j, h1, h2⟩ := look_slots temps 0 hl
    subst h2; cases ht
theorem wp_draw (hmx : P.follows .mixedOrders = true) (hcs : CallS P call) (hcm : CallMono call) {id : Nat} {ops : Array Oper} {pm : List Nat} {l : List Opd} (hlen : pm.length = l.length) (hle : pm.length ≤ ops.size)
    (hp : permOk ops (befs ops.toList []) (pm.zip l) = true) (hc : optEnd temps (chkD P N ops (befs ops.toList []) (pm.zip l) [] (Fct.start temps)) = true)
    {ι : Inj} {h h' : Heap} {w : World} {env env' : Env} {a : Act} {x : X} {Q : Exit → Act → World → Prop} (he : opsD l call [] [] env h = .ok x env' h') (r : ActR D ι temps N env a) (g : Good ι h w) (hf : FreeIn ι h h')
    (p : Post D ι h w temps N x env' h' Q) : (Code.region id ops true).wp P Q a w := by
  obtain ⟨st, hb, hlt⟩ := stat_of hp
  refine wp_region_any hmx ?_
  cases hF : chkD P N ops (befs ops.toList []) (pm.zip l) [] (Fct.start temps) with
  | none => rw [hF] at hc; cases hc
  | some F' =>
    rw [hF] at hc
    have hc : endOk F' temps 0 = true := hc
    have g1 : Good ι h { w with drawn := w.drawn + 1 } := g.world (fun _ _ => rfl) (Nat.le_refl _)
    have c1 : Chg ι h w ι h { w with drawn := w.drawn + 1 } := ⟨g1, ⟨fun _ _ _ => rfl, Nat.le_refl _, rfl, rfl, rfl⟩, Ext.refl _ _, Sep.refl _ _ _⟩
    have s0 := r.start
    have hlm : (befs ops.toList []).length = ops.size := by rw [befs_length]; simp
    have d : DI D P ops (pm.zip l) N (Fct.start temps) env ι h w [] (pm.zip l) (Array.replicate ops.size false) a { w with drawn := w.drawn + 1 } ι h := by
      have hno : ∀ i, (Array.replicate ops.size false).getD i false = false := fun i => by
        simp only [Array.getD_eq_getD_getElem?, Array.getElem?_replicate]
        split <;> rfl
      refine ⟨⟨by simp, r.size, r.defers, by simp, fun k o hk => ?_, fun i hi => ?_, fun A e B hE => by simp at hE, List.nodup_nil, fun t e he => by simp at he, fun t _ s hs => ?_⟩, fun A e B hE => by simp at hE, fun e he => by simp at he, c1⟩
      · have hk : (Array.replicate ops.size false).getD k false = true := hk
        rw [hno] at hk; cases hk
      · rw [hno] at hi; cases hi
      · exact s0.tmps t s hs
    refine wpAny_draw st hb hlm hcs hcm rfl start_src ⟨rfl, s0.slots, s0.lt⟩ hf (F' := F') (x := x) (env' := env') (fun hx ι' vs' a' w' c s hs hd => ?_) (fun v hx v' ι' a' w' c hv hd => ?_) (pm.zip l) [] h hF ?_ _ _ a _ ι d ?_
    · subst hx; exact p ι' a' w' c (s.end hc hs hd)
    · subst hx; exact p ι' a' w' c v' hv hd
    · rw [show (pm.zip l).map (·.2) = l from List.map_snd_zip (by omega)]; exact he
    · have : (pm.zip l).length ≤ ops.size := by rw [List.length_zip]; omega
      show 0 + _ ≤ _
      omega
end
end
end Go.Eng
namespace Go.Eng
variable {D : List Deferred}
noncomputable section
section
variable {P : Program} {call : CallT} {temps : List Nat} {N : Nat}

/-- **Code is sound**: whatever the evaluator says of it, the machine does. -/
theorem wp_code (hmx : P.follows .mixedOrders = true) (hcs : CallS P call) (hcm : CallMono call) : ∀ (c : Code) (e : C), chkC P temps N c e = true →
    ∀ (n : Nat) {ι : Inj} {h h' : Heap} {w : World} {env env' : Env} {a : Act} {x : X} {Q : Exit → Act → World → Prop}, code e call n env h = .ok x env' h' → ActR D ι temps N env a → Good ι h w → FreeIn ι h h' →
      Post D ι h w temps N x env' h' Q → c.wp P Q a w
  | .scope c, e, hc => fun n ι h h' w env env' a x Q he r g hf p => by
    refine wp_scope_straight (wp_code hmx hcs hcm c e (by cases e <;> exact hc) n he r g hf fun ι' a' w' c => ?_)
    have := p ι' a' w' c
    cases x <;> exact this
  | c, .stuck, _ => fun n ι h h' w env env' a x Q he r g hf p => by cases he
  | .skip, .skip, _ => fun n ι h h' w env env' a x Q he r g hf p => by cases he; exact wp_skip (p ι a w (Chg.refl g) r)
  | .label _, .skip, _ => fun n ι h h' w env env' a x Q he r g hf p => by cases he; exact wp_label (p ι a w (Chg.refl g) r)
  | .ret, .ret, _ => fun n ι h h' w env env' a x Q he r g hf p => by cases he; exact wp_ret (p ι a w (Chg.refl g) r)
  | .exit i, .exit j, hc => fun n ι h h' w env env' a x Q he r g hf p => by
    have : i = j := by simpa [chkC] using hc
    subst this; cases he; exact wp_exit (p ι a w (Chg.refl g) r)
  | .seq a1 b1, .seq a2 b2, hc => fun n ι h h' w env env' a x Q he r g hf p => by
    have hc := Bool.and_of hc
    have he : (CR.rec (fun x env h => X.rec (code b2 call n env h) (.ok .ret env h) (fun i => .ok (.exit i) env h) (fun v => .ok (.pan v) env h) x) .bad (code a2 call n env h) : CR) = .ok x env' h' := he
    cases hr : code a2 call n env h with
    | bad => rw [hr] at he; cases he
    | ok x1 env1 h1 =>
      rw [hr] at he
      have hn1 := code_next hcm a2 n env h
      rw [hr] at hn1
      have hn1 : h.next ≤ h1.next := hn1
      refine wp_seq ?_
      cases x1 with
      | nrm =>
        have he : code b2 call n env1 h1 = .ok x env' h' := he
        have hn2 := code_next hcm b2 n env1 h1
        rw [he] at hn2
        have hf1 := hf.left (h1 := h1) hn2
        refine wp_code hmx hcs hcm a1 a2 hc.1 n hr r g hf1 fun ι' a' w' c' r' => ?_
        exact wp_code hmx hcs hcm b1 b2 hc.2 n he r' c'.good (hf.right c'.ext) (p.from_ c' hf1)
      | ret => cases he; exact wp_code hmx hcs hcm a1 a2 hc.1 n hr r g hf fun ι' a' w' c' => p ι' a' w' c'
      | exit i => cases he; exact wp_code hmx hcs hcm a1 a2 hc.1 n hr r g hf fun ι' a' w' c' => p ι' a' w' c'
      | pan v => cases he; exact wp_code hmx hcs hcm a1 a2 hc.1 n hr r g hf fun ι' a' w' c' => p ι' a' w' c'
  | .cond y a1 b1, .cond y' a2 b2, hc => fun n ι h h' w env env' a x Q he r g hf p => by
    have hc := Bool.and_of hc
    have hc2 := Bool.and_of hc.2
    have he : (Option.rec .bad (fun t => Bool.rec (code b2 call n env h) (code a2 call n env h) t) (y'.ev [] env).asBool : CR) = .ok x env' h' := he
    have hv := chkAt_rel r.start _ _ hc.1
    cases hb : (A.ev y' [] env).asBool with
    | none => rw [hb] at he; cases he
    | some t =>
      rw [hb] at he
      have heq : a.eval y = .bool t := by
        generalize A.ev y' [] env = u at hb hv
        cases u <;> first | (cases hb; done) | skip
        cases hb; exact hv
      refine wp_cond heq ?_
      cases t with
      | false => exact wp_code hmx hcs hcm b1 b2 hc2.2 n he r g hf p
      | true => exact wp_code hmx hcs hcm a1 a2 hc2.1 n he r g hf p
  | .block i c, .block j e, hc => fun n ι h h' w env env' a x Q he r g hf p => by
    have hc := Bool.and_of hc
    have : i = j := by simpa using hc.1
    subst this
    have he : (CR.rec (fun x env h => X.rec (.ok .nrm env h) (.ok .ret env h) (fun k => .ok (Bool.rec (.exit k) .nrm (k.beq i)) env h) (fun v => .ok (.pan v) env h) x) .bad (code e call n env h) : CR) = .ok x env' h' := he
    cases hr : code e call n env h with
    | bad => rw [hr] at he; cases he
    | ok x1 env1 h1 =>
      rw [hr] at he
      refine wp_block ?_
      cases x1 with
      | nrm => cases he; exact wp_code hmx hcs hcm c e hc.2 n hr r g hf fun ι' a' w' c' => p ι' a' w' c'
      | ret => cases he; exact wp_code hmx hcs hcm c e hc.2 n hr r g hf fun ι' a' w' c' => p ι' a' w' c'
      | pan v => cases he; exact wp_code hmx hcs hcm c e hc.2 n hr r g hf fun ι' a' w' c' => p ι' a' w' c'
      | exit k =>
        have he : CR.ok (Bool.rec (.exit k) .nrm (k.beq i)) env1 h1 = .ok x env' h' := he
        cases hk : k.beq i with
        | true =>
          rw [hk] at he; cases he
          have : k = i := Nat.eq_of_beq_eq_true hk
          subst this
          refine wp_code hmx hcs hcm c e hc.2 n hr r g hf fun ι' a' w' c' r' => ?_
          show if k = k then Q .normal a' w' else Q (.exit k) a' w'
          rw [if_pos rfl]; exact p ι' a' w' c' r'
        | false =>
          rw [hk] at he; cases he
          have : k ≠ i := fun h => by subst h; simp [nbeq] at hk
          refine wp_code hmx hcs hcm c e hc.2 n hr r g hf fun ι' a' w' c' r' => ?_
          show if k = i then Q .normal a' w' else Q (.exit k) a' w'
          rw [if_neg this]; exact p ι' a' w' c' r'
  | .loop c, .loop e, hc => fun n ι h h' w env env' a x Q he r g hf p => by
    have hc : chkC P temps N c e = true := hc
    have he : rounds (fun env h => code e call n env h) n env h = .ok x env' h' := he
    have hnx : ∀ k env h, CR.next h (rounds (fun env h => code e call n env h) k env h) := fun k env h => by
      have key : ∀ k env h, CR.next h (rounds (fun env h => code e call n env h) k env h) := by
        intro k
        induction k with
        | zero => intro env h; trivial
        | succ k ih =>
          intro env h
          show CR.next h (CR.rec (fun x env h => X.rec (rounds (fun env h => code e call n env h) k env h) (.ok .ret env h) (fun i => .ok (.exit i) env h) (fun v => .ok (.pan v) env h) x) .bad (code e call n env h) : CR)
          have h1 := code_next hcm e n env h
          cases hr : code e call n env h with
          | bad => trivial
          | ok x env1 h1' =>
            rw [hr] at h1
            cases x with
            | nrm => exact CR.next_le h1 (ih env1 h1')
            | ret => exact h1
            | exit i => exact h1
            | pan v => exact h1
      exact key k env h
    refine wp_loop_rounds n ?_
    have key : ∀ k {ι : Inj} {h : Heap} {w : World} {env : Env} {a : Act}, rounds (fun env h => code e call n env h) k env h = .ok x env' h' → ActR D ι temps N env a → Good ι h w → FreeIn ι h h' → Post D ι h w temps N x env' h' Q → Code.rounds P c Q k a w := by
      intro k
      induction k with
      | zero => intro ι h w env a he; cases he
      | succ k ih =>
        intro ι h w env a he r g hf p
        have he : (CR.rec (fun x env h => X.rec (rounds (fun env h => code e call n env h) k env h) (.ok .ret env h) (fun i => .ok (.exit i) env h) (fun v => .ok (.pan v) env h) x) .bad (code e call n env h) : CR) = .ok x env' h' := he
        rw [rounds_succ]
        cases hr : code e call n env h with
        | bad => rw [hr] at he; cases he
        | ok x1 env1 h1 =>
          rw [hr] at he
          cases x1 with
          | nrm =>
            have he : rounds (fun env h => code e call n env h) k env1 h1 = .ok x env' h' := he
            have hn2 := hnx k env1 h1
            rw [he] at hn2
            have hf1 := hf.left (h1 := h1) hn2
            exact wp_code hmx hcs hcm c e hc n hr r g hf1 fun ι' a' w' c' r' => ih he r' c'.good (hf.right c'.ext) (p.from_ c' hf1)
          | ret => cases he; exact wp_code hmx hcs hcm c e hc n hr r g hf fun ι' a' w' c' => p ι' a' w' c'
          | exit i => cases he; exact wp_code hmx hcs hcm c e hc n hr r g hf fun ι' a' w' c' => p ι' a' w' c'
          | pan v => cases he; exact wp_code hmx hcs hcm c e hc n hr r g hf fun ι' a' w' c' => p ι' a' w' c'
    exact key n he r g hf p
  | .region id ops false, .reg acts l, hc => fun n ι h h' w env env' a x Q he r g hf p => by
    have hc : optEnd temps (chkN P N acts ops ops.toList 0 l (Fct.start temps)) = true := hc
    have he : opsN l call [] env h = .ok x env' h' := he
    refine wp_region ?_
    cases hF : chkN P N acts ops ops.toList 0 l (Fct.start temps) with
    | none => rw [hF] at hc; cases hc
    | some F' =>
      rw [hF] at hc
      have hc : endOk F' temps 0 = true := hc
      have hw : wpList P ops Q ops.toList a w := by
        refine wpList_fixed hcs hcm ops.toList 0 l (Fct.start temps) [] env a w ι h hF he r.start r.size r.defers g hf (fun hx ι' vs' a' w' c s hs hd => ?_) (fun v hx v' ι' a' w' c hv hd _ _ => ?_)
        · subst hx; exact p ι' a' w' c (s.end hc hs hd)
        · subst hx; exact p ι' a' w' c v' hv hd
      have hl := wpOps_eq_wpList (P := P) (ops := ops) (Q := Q) ops.toList 0 (fun j => by simp)
      rw [List.range_eq_range', show ops.size = ops.toList.length by simp, hl]; exact hw
  | .region id ops true, .draw pm l, hc => fun n ι h h' w env env' a x Q he r g hf p => by
    have hc := Bool.and_of hc
    have hc1 := Bool.and_of hc.1
    have hc2 := Bool.and_of hc.2
    exact wp_draw hmx hcs hcm (by simpa using hc1.1) (by simpa using hc1.2) hc2.1 hc2.2 he r g hf p
end
end
end Go.Eng
