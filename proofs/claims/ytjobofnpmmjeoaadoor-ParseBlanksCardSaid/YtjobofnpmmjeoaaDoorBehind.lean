/- Part of a proof of a law, by an evaluator that the machine follows: rules, contracts of functions, what they come to. No condition of its own. -/
import Derived.Test.YtjobofnpmmjeoaaDoorSpec
namespace Go.Eng
noncomputable section
namespace Par
structure Two (ts ts' : List Tok) (m : Nat) : Prop where
 le : m ≤ ts.length
 le' : m ≤ ts'.length
 same : ∀ j, j < m → ts[j]? = ts'[j]?
 last : ∀ t, ts.getLast? = some t → t.kind = 0
section
variable {ts ts' : List Tok} {m : Nat} {α β : Type}
def Sim (ts ts' : List Tok) (m i k : Nat) (r r' : R α) : Prop :=
 (∃ x i1, r = .ok (x, ts.drop i1) ∧ i ≤ i1 ∧ k ≤ i1 ∧ i1 < ts.length ∧ (i1 < m → r' = .ok (x, ts'.drop i1))) ∨
 (∃ e j, r = .error (e, here (ts.drop j)) ∧ i ≤ j ∧ j < ts.length ∧ (j < m → r' = .error (e, here (ts.drop j))))
theorem Sim.mono {i i1 k k1 : Nat} {r r' : R α} (h : Sim ts ts' m i1 k1 r r') (hi : i ≤ i1) (hk : k ≤ k1) : Sim ts ts' m i k r r' := by
 rcases h with ⟨x, j, e, h1, h0, h2, h3⟩ | ⟨x, j, e, h1, h2, h3⟩
 ·exact Or.inl ⟨x, j, e, by omega, by omega, h2, h3⟩
 ·exact Or.inr ⟨x, j, e, by omega, h2, h3⟩
theorem Sim.weak {i k k1 : Nat} {r r' : R α} (h : Sim ts ts' m i k1 r r') (hk : k ≤ k1) : Sim ts ts' m i k r r' := h.mono (Nat.le_refl _) hk
theorem Sim.here {i k : Nat} {r r' : R α} (h : Sim ts ts' m i k r r') {j : Nat} (hj : j ≤ i) : Sim ts ts' m i j r r' := by
 rcases h with ⟨x, j, e, h1, h0, h2, h3⟩ | ⟨x, j, e, h1, h2, h3⟩
 ·exact Or.inl ⟨x, j, e, by omega, by omega, h2, h3⟩
 ·exact Or.inr ⟨x, j, e, by omega, h2, h3⟩
theorem Sim.any {i k : Nat} {r r' r2 : R α} (h : Sim ts ts' m i k r r') (hi : m ≤ i) : Sim ts ts' m i k r r2 := by
 rcases h with ⟨x, j, e, h1, h0, h2, h3⟩ | ⟨x, j, e, h1, h2, h3⟩
 ·exact Or.inl ⟨x, j, e, h1, h0, h2, fun h => by omega⟩
 ·exact Or.inr ⟨x, j, e, h1, h2, fun h => by omega⟩
theorem Sim.ret {i k i1 : Nat} {x x' : α} (h1 : i ≤ i1) (h0 : k ≤ i1) (h2 : i1 < ts.length) (h3 : i1 < m → x = x') : Sim ts ts' m i k (.ok (x, ts.drop i1)) (.ok (x', ts'.drop i1)) :=
 Or.inl ⟨x, i1, rfl, h1, h0, h2, fun h => by rw [h3 h]⟩
theorem Sim.bind {i k k2 : Nat} {r r' : R α} {f f' : α → List Tok → R β} (h : Sim ts ts' m i k r r') (K : ∀ x i1, i ≤ i1 → k ≤ i1 → i1 < ts.length → Sim ts ts' m i1 k2 (f x (ts.drop i1)) (f' x (ts'.drop i1))) :
  Sim ts ts' m i k2 (match (generalizing := false) r with | .error e => .error e | .ok (x, l) => f x l) (match (generalizing := false) r' with | .error e => .error e | .ok (x, l) => f' x l) := by
 rcases h with ⟨x, i1, rfl, h1, h0, h2, h3⟩ | ⟨e, j, rfl, h1, h2, h3⟩
 ·by_cases hm : i1 < m
  ·rw [h3 hm]; exact (K x i1 h1 h0 h2).mono h1 (Nat.le_refl _)
  ·exact ((K x i1 h1 h0 h2).any (by omega)).mono h1 (Nat.le_refl _)
 ·exact Or.inr ⟨e, j, rfl, h1, h2, fun hm => by rw [h3 hm]⟩
theorem Sim.ite {i k : Nat} {c c' : Prop} [Decidable c] [Decidable c'] {a a' b b' : R α} (hc : i < m → (c ↔ c')) (h1 : c → Sim ts ts' m i k a a') (h2 : ¬ c → Sim ts ts' m i k b b') : Sim ts ts' m i k (if c then a else b) (if c' then a' else b') := by
 by_cases hm : i < m
 ·by_cases h : c
  ·rw [if_pos h, if_pos ((hc hm).1 h)]; exact h1 h
  ·rw [if_neg h, if_neg fun h' => h ((hc hm).2 h')]; exact h2 h
 ·by_cases h : c
  ·rw [if_pos h]; exact (h1 h).any (by omega)
  ·rw [if_neg h]; exact (h2 h).any (by omega)
theorem Two.hd (T : Two ts ts' m) {i : Nat} (h : i < m) : hd (ts.drop i) = hd (ts'.drop i) := by
 have e := T.same i h
 have h1 := T.le; have h2 := T.le'
 rw [List.getElem?_eq_getElem (by omega), List.getElem?_eq_getElem (by omega)] at e
 rw [List.drop_eq_getElem_cons (l := ts) (i := i) (by omega), List.drop_eq_getElem_cons (l := ts') (i := i) (by omega)]
 exact Option.some.inj e
theorem Two.here (T : Two ts ts' m) {i : Nat} (h : i < m) : here (ts.drop i) = here (ts'.drop i) := by unfold Par.here; rw [T.hd h]
theorem Two.is (T : Two ts ts' m) {i : Nat} (h : i < m) (s : List UInt8) : is s (ts.drop i) = is s (ts'.drop i) := by unfold Par.is; rw [T.hd h]
theorem Two.find (T : Two ts ts' m) {i : Nat} (h : i < m) (ops : List Opn) : find ops (ts.drop i) = find ops (ts'.drop i) := by
 unfold Par.find; congr 1; funext o; rw [T.is h]
theorem Two.tail (T : Two ts ts' m) {i : Nat} (hi : i < ts.length) (hk : (Par.hd (ts.drop i)).kind ≠ 0) : i + 1 < ts.length := by
 apply Classical.byContradiction
 intro hn
 have e : i + 1 = ts.length := by omega
 apply hk
 rw [List.drop_eq_getElem_cons hi]
 show ts[i].kind = 0
 refine T.last _ ?_
 rw [List.getLast?_eq_getElem?, show ts.length - 1 = i by omega, List.getElem?_eq_getElem hi]
theorem is_kind {s : List UInt8} {l : List Tok} (h : is s l = true) : (Par.hd l).kind ≠ 0 := fun e => by simp [Par.is, e] at h
theorem Two.isTail (T : Two ts ts' m) {i : Nat} {s : List UInt8} (hi : i < ts.length) (h : Par.is s (ts.drop i) = true) : i + 1 < ts.length := T.tail hi (is_kind h)
theorem fail_sim (T : Two ts ts' m) {i k e : Nat} (hi : i < ts.length) : Sim ts ts' m i k (fail e (ts.drop i) : R α) (fail e (ts'.drop i)) :=
 Or.inr ⟨e, i, rfl, Nat.le_refl _, hi, fun h => by unfold fail; rw [T.here h]⟩
theorem tail_drop (l : List Tok) (i : Nat) : (l.drop i).tail = l.drop (i + 1) := by rw [List.tail_drop]
theorem must_sim (T : Two ts ts' m) {i : Nat} (s : List UInt8) (hi : i < ts.length) : Sim ts ts' m i (i + 1) (must s (ts.drop i)) (must s (ts'.drop i)) := by
 unfold must
 refine Sim.ite (fun h => by rw [T.is h]) (fun h => ?_) fun _ => fail_sim T hi
 rw [tail_drop, tail_drop]
 exact Sim.ret (by omega) (by omega) (T.isTail hi h) fun h => T.here (by omega)
theorem of_sim (T : Two ts ts' m) {i : Nat} {kd : Nat} (hk : kd ≠ 0) (hi : i < ts.length) : Sim ts ts' m i (i + 1) (of kd (ts.drop i)) (of kd (ts'.drop i)) := by
 unfold of
 refine Sim.ite (fun h => by rw [T.hd h]) (fun h => ?_) fun _ => fail_sim T hi
 rw [tail_drop, tail_drop]
 exact Sim.ret (by omega) (by omega) (T.tail hi (by rw [h]; exact hk)) fun h => T.hd (by omega)
theorem Sim.map {i k : Nat} {r r' : R α} (g : α → β) (h : Sim ts ts' m i k r r') : Sim ts ts' m i k (match (generalizing := false) r with | .ok (t, l) => .ok (g t, l) | .error e => .error e) (match (generalizing := false) r' with | .ok (t, l) => .ok (g t, l) | .error e => .error e) := by
 rcases h with ⟨x, i1, rfl, h1, h0, h2, h3⟩ | ⟨e, j, rfl, h1, h2, h3⟩
 ·exact Or.inl ⟨g x, i1, rfl, h1, h0, h2, fun hm => by rw [h3 hm]⟩
 ·exact Or.inr ⟨e, j, rfl, h1, h2, fun hm => by rw [h3 hm]⟩
def bnd (r : R α) (f : α → List Tok → R β) : R β := match r with
 | .error e => .error e
 | .ok (x, l) => f x l
def fnd (o : Option Opn) (a : R α) (g : Opn → R α) : R α := match o with
 | none => a
 | some o => g o
theorem Sim.bnd {i k k2 : Nat} {r r' : R α} {f f' : α → List Tok → R β} (h : Sim ts ts' m i k r r') (K : ∀ x i1, i ≤ i1 → k ≤ i1 → i1 < ts.length → Sim ts ts' m i1 k2 (f x (ts.drop i1)) (f' x (ts'.drop i1))) :
  Sim ts ts' m i k2 (Par.bnd r f) (Par.bnd r' f') := Sim.bind h K
theorem Sim.fnd (T : Two ts ts' m) {i k : Nat} {ops : List Opn} {a a' : R α} {g g' : Opn → R α} (hi : i < ts.length) (h0 : Sim ts ts' m i k a a') (h1 : ∀ o, i + 1 < ts.length → Sim ts ts' m i k (g o) (g' o)) :
  Sim ts ts' m i k (Par.fnd (find ops (ts.drop i)) a g) (Par.fnd (find ops (ts'.drop i)) a' g') := by
 have main : Sim ts ts' m i k (Par.fnd (find ops (ts.drop i)) a g) (Par.fnd (find ops (ts.drop i)) a' g') := by
  cases hf : find ops (ts.drop i) with
  | none => exact h0
  | some o =>
   have ho : is o.1 (ts.drop i) = true := List.find?_some (p := fun o : Opn => is o.1 (ts.drop i)) hf
   exact h1 o (T.isTail hi ho)
 by_cases hm : i < m
 ·rw [← T.find hm]; exact main
 ·exact main.any (by omega)
theorem Sim.at_ (T : Two ts ts' m) {i j k : Nat} {F F' : Nat → R α} (hj : j ≤ i) (h : ∀ a, Sim ts ts' m i k (F a) (F' a)) : Sim ts ts' m i k (F (Par.here (ts.drop j))) (F' (Par.here (ts'.drop j))) := by
 by_cases hm : i < m
 ·rw [← T.here (show j < m by omega)]; exact h _
 ·exact (h (Par.here (ts.drop j))).any (by omega)
theorem name_eq (l : List Tok) : name l = bnd (of 1 l) fun t l => .ok (t.text, l) := by kernel_rfl
theorem number_eq (l : List Tok) : number l = bnd (of 2 l) fun t l => .ok (Go.Eng.num t.text, l) := by kernel_rfl
theorem qname_eq (l : List Tok) : qname l = bnd (name l) fun a l => if is [46] l = true then bnd (name l.tail) fun b l => .ok ((a, b), l) else .ok (([], a), l) := by kernel_rfl
theorem chainL_eq (un : E) (ops : List Opn) (f d a : Nat) (l : List Tok) (ns : List Nd) : chainL un ops (f + 1) d l a ns = fnd (find ops l) (.ok ((a, ns), l)) fun o => bnd (un d l.tail ns) fun x l' => chainL un ops f d l' x.2.length (x.2 ++ [⟨o.2, 0, [], [], (a : Int), (x.1 : Int), here l⟩]) := by kernel_rfl
theorem chain_eq (un : E) (ops : List Opn) (d : Nat) (l : List Tok) (ns : List Nd) : chain un ops d l ns = bnd (un d l ns) fun x l' => chainL un ops l'.length d l' x.1 x.2 := by kernel_rfl
theorem whole_eq (un : E) (d : Nat) (l : List Tok) (ns : List Nd) : whole un d l ns = bnd (sum un d l ns) fun x l1 => fnd (find cmpOps l1) (.ok (x, l1)) fun o => bnd (sum un d l1.tail x.2) fun y l' => .ok ((y.2.length, y.2 ++ [⟨o.2, 0, [], [], (x.1 : Int), (y.1 : Int), here l1⟩]), l') := by kernel_rfl
theorem unaryS_eq (un : E) (d : Nat) (l : List Tok) (ns : List Nd) : unaryS un d l ns = fnd (find negOps l)
  (if is [40] l = true then (if 40 ≤ d then fail 12 l else bnd (whole un (d + 1) l.tail ns) fun x l' => bnd (must [41] l') fun _ l' => .ok (x, l'))
   else if (hd l).kind = 2 then bnd (number l) fun n l' => .ok ((ns.length, ns ++ [⟨1, (n : Int), [], [], -1, -1, here l⟩]), l')
   else bnd (qname l) fun q l' => .ok ((ns.length, ns ++ [⟨2, 0, q.1, q.2, -1, -1, here l⟩]), l'))
  fun o => if 40 ≤ d then fail 12 l else bnd (un (d + 1) l.tail ns) fun x l' => .ok ((x.2.length, x.2 ++ [⟨o.2, 0, [], [], (x.1 : Int), -1, here l⟩]), l') := by kernel_rfl
theorem expr_eq (d : Nat) (l : List Tok) : expr d l = bnd (whole (unary l.length) d l []) fun x l => .ok (x.2, l) := by kernel_rfl
theorem name_sim (T : Two ts ts' m) {i : Nat} (hi : i < ts.length) : Sim ts ts' m i (i + 1) (name (ts.drop i)) (name (ts'.drop i)) := by
 rw [name_eq, name_eq]
 exact Sim.bnd (of_sim T (by decide) hi) fun x i1 h1 h2 h3 => Sim.ret (Nat.le_refl _) h2 h3 fun _ => rfl
theorem number_sim (T : Two ts ts' m) {i : Nat} (hi : i < ts.length) : Sim ts ts' m i (i + 1) (number (ts.drop i)) (number (ts'.drop i)) := by
 rw [number_eq, number_eq]
 exact Sim.bnd (of_sim T (by decide) hi) fun x i1 h1 h2 h3 => Sim.ret (Nat.le_refl _) h2 h3 fun _ => rfl
theorem qname_sim (T : Two ts ts' m) {i : Nat} (hi : i < ts.length) : Sim ts ts' m i (i + 1) (qname (ts.drop i)) (qname (ts'.drop i)) := by
 rw [qname_eq, qname_eq]
 refine Sim.bnd (name_sim T hi) fun a i1 h1 h2 h3 => ?_
 refine Sim.ite (fun h => by rw [T.is h]) (fun h => ?_) fun _ => Sim.ret (Nat.le_refl _) h2 h3 fun _ => rfl
 rw [tail_drop, tail_drop]
 have ht := T.isTail h3 h
 refine (Sim.bnd (name_sim T ht) fun b i2 h4 h5 h6 => ?_).mono (Nat.le_succ _) (Nat.le_refl _)
 exact Sim.ret (Nat.le_refl _) (by omega) h6 fun _ => rfl
def UnSim (ts ts' : List Tok) (m : Nat) (un un' : E) (lo : Nat) : Prop := ∀ i d ns, lo ≤ i → i < ts.length → Sim ts ts' m i (i + 1) (un d (ts.drop i) ns) (un' d (ts'.drop i) ns)
theorem chainStep (T : Two ts ts' m) {un un' : E} {ops : List Opn} {lo d f f' : Nat} (U : UnSim ts ts' m un un' lo) (i a : Nat) (ns : List Nd) (IH : ∀ (j b : Nat) (ns : List Nd), i < j → j < ts.length → Sim ts ts' m j j (chainL un ops f d (ts.drop j) b ns) (chainL un' ops f' d (ts'.drop j) b ns)) (hl : lo ≤ i) (hi : i < ts.length) :
  Sim ts ts' m i i (chainL un ops (f + 1) d (ts.drop i) a ns) (chainL un' ops (f' + 1) d (ts'.drop i) a ns) := by
 rw [chainL_eq, chainL_eq]
 refine Sim.fnd T hi (Sim.ret (Nat.le_refl _) (Nat.le_refl _) hi fun _ => rfl) fun o ht => ?_
 rw [tail_drop, tail_drop]
 refine (Sim.bnd (U (i + 1) d ns (by omega) ht) fun x i2 h1 h2 h3 => ?_).mono (Nat.le_succ _) (Nat.le_refl _)
 exact Sim.at_ T (k := i) (j := i) (F := fun p => chainL un ops f d (ts.drop i2) x.2.length (x.2 ++ [⟨o.2, 0, [], [], (a : Int), (x.1 : Int), p⟩])) (F' := fun p => chainL un' ops f' d (ts'.drop i2) x.2.length (x.2 ++ [⟨o.2, 0, [], [], (a : Int), (x.1 : Int), p⟩])) (by omega) fun p => (IH i2 _ _ (by omega) h3).here (by omega)
theorem chainL_sim (T : Two ts ts' m) {un un' : E} {ops : List Opn} {lo d : Nat} (U : UnSim ts ts' m un un' lo) : ∀ (f f' i a : Nat) (ns : List Nd), lo ≤ i → i < ts.length → ts.length - i ≤ f → ts'.length - i ≤ f' →
  Sim ts ts' m i i (chainL un ops f d (ts.drop i) a ns) (chainL un' ops f' d (ts'.drop i) a ns)
 | 0, _, i, a, ns, _, hi, hf, _ => by omega
 | f + 1, 0, i, a, ns, hl, hi, hf, hf' =>
  Sim.any (r' := chainL un' ops (ts'.length + 1) d (ts'.drop i) a ns) (chainStep T U i a ns (fun j b ns hj hj2 => chainL_sim T U f ts'.length j b ns (by omega) hj2 (by omega) (by omega)) hl hi) (by have := T.le'; omega)
 | f + 1, f' + 1, i, a, ns, hl, hi, hf, hf' => chainStep T U i a ns (fun j b ns hj hj2 => chainL_sim T U f f' j b ns (by omega) hj2 (by omega) (by omega)) hl hi
theorem chain_sim (T : Two ts ts' m) {un un' : E} {ops : List Opn} {lo : Nat} (U : UnSim ts ts' m un un' lo) : UnSim ts ts' m (chain un ops) (chain un' ops) lo := by
 intro i d ns hl hi
 rw [chain_eq, chain_eq]
 refine Sim.bnd (U i d ns hl hi) fun x i1 h1 h2 h3 => ?_
 refine (chainL_sim T U _ _ i1 x.1 x.2 (by omega) h3 ?_ ?_).weak h2 <;> rw [List.length_drop] <;> exact Nat.le_refl _
theorem sum_sim (T : Two ts ts' m) {un un' : E} {lo : Nat} (U : UnSim ts ts' m un un' lo) : UnSim ts ts' m (sum un) (sum un') lo := chain_sim T (chain_sim T U)
theorem whole_sim (T : Two ts ts' m) {un un' : E} {lo : Nat} (U : UnSim ts ts' m un un' lo) : UnSim ts ts' m (whole un) (whole un') lo := by
 intro i d ns hl hi
 rw [whole_eq, whole_eq]
 refine Sim.bnd (sum_sim T U i d ns hl hi) fun x i1 h1 h2 h3 => ?_
 refine Sim.fnd T h3 (Sim.ret (Nat.le_refl _) h2 h3 fun _ => rfl) fun o ht => ?_
 rw [tail_drop, tail_drop]
 refine (Sim.bnd (sum_sim T U (i1 + 1) d x.2 (by omega) ht) fun y i2 h4 h5 h6 => ?_).mono (Nat.le_succ _) (Nat.le_refl _)
 exact Sim.ret (Nat.le_refl _) (by omega) h6 fun hm => by rw [T.here (show i1 < m by omega)]
theorem unaryS_sim (T : Two ts ts' m) {un un' : E} {lo : Nat} (U : UnSim ts ts' m un un' (lo + 1)) : UnSim ts ts' m (unaryS un) (unaryS un') lo := by
 intro i d ns hl hi
 rw [unaryS_eq, unaryS_eq]
 refine Sim.fnd T hi ?_ fun o ht => ?_
 ·refine Sim.ite (fun h => by rw [T.is h]) (fun h => ?_) fun _ => ?_
  ·refine Sim.ite (fun _ => Iff.rfl) (fun _ => fail_sim T hi) fun _ => ?_
   rw [tail_drop, tail_drop]
   refine (Sim.bnd (whole_sim T U (i + 1) (d + 1) ns (by omega) (T.isTail hi h)) fun x i1 h1 h2 h3 => ?_).mono (Nat.le_succ _) (Nat.le_refl _)
   refine Sim.bnd (must_sim T _ h3) fun _ i2 h4 h5 h6 => ?_
   exact Sim.ret (Nat.le_refl _) (by omega) h6 fun _ => rfl
  ·refine Sim.ite (fun h => by rw [T.hd h]) (fun h => ?_) fun _ => ?_
   ·refine Sim.bnd (number_sim T hi) fun n i1 h1 h2 h3 => ?_
    exact Sim.ret (Nat.le_refl _) h2 h3 fun hm => by rw [T.here (show i < m by omega)]
   ·refine Sim.bnd (qname_sim T hi) fun n i1 h1 h2 h3 => ?_
    exact Sim.ret (Nat.le_refl _) h2 h3 fun hm => by rw [T.here (show i < m by omega)]
 ·refine Sim.ite (fun _ => Iff.rfl) (fun _ => fail_sim T hi) fun _ => ?_
  rw [tail_drop, tail_drop]
  refine (Sim.bnd (U (i + 1) (d + 1) ns (by omega) ht) fun x i1 h1 h2 h3 => ?_).mono (Nat.le_succ _) (Nat.le_refl _)
  exact Sim.ret (Nat.le_refl _) (by omega) h3 fun hm => by rw [T.here (show i < m by omega)]
theorem unary_sim (T : Two ts ts' m) : ∀ (f f' lo : Nat), ts.length - lo ≤ f → ts'.length - lo ≤ f' → UnSim ts ts' m (unary f) (unary f') lo
 | 0, _, lo, hf, _ => fun i d ns hl hi => by omega
 | f + 1, 0, lo, hf, hf' => fun i d ns hl hi => Sim.any (unaryS_sim T (unary_sim T f ts'.length (lo + 1) (by omega) (by omega)) i d ns hl hi) (by have := T.le'; omega)
 | f + 1, f' + 1, lo, hf, hf' => unaryS_sim T (unary_sim T f f' (lo + 1) (by omega) (by omega))
theorem expr_sim (T : Two ts ts' m) {i d : Nat} (hi : i < ts.length) : Sim ts ts' m i (i + 1) (expr d (ts.drop i)) (expr d (ts'.drop i)) := by
 rw [expr_eq, expr_eq]
 refine Sim.bnd (whole_sim T (unary_sim T _ _ i (by rw [List.length_drop]; exact Nat.le_refl _) (by rw [List.length_drop]; exact Nat.le_refl _)) i d [] (Nat.le_refl _) hi) fun x i1 h1 h2 h3 => ?_
 exact Sim.ret (Nat.le_refl _) h2 h3 fun _ => rfl
end
end Par
end
end Go.Eng
namespace Go.Eng
noncomputable section
namespace Par
section
variable {ts ts' : List Tok} {m : Nat} {α β : Type}
theorem loop_sim (T : Two ts ts' m) {σ : Type} {g g' : Nat → List Tok → σ → R β} {lo : Nat}
  (step : ∀ f f' i s, lo ≤ i → i < ts.length → (∀ j s, i < j → j < ts.length → Sim ts ts' m j j (g f (ts.drop j) s) (g' f' (ts'.drop j) s)) → Sim ts ts' m i i (g (f + 1) (ts.drop i) s) (g' (f' + 1) (ts'.drop i) s)) :
  ∀ (f f' i : Nat) (s : σ), lo ≤ i → i < ts.length → ts.length - i ≤ f → ts'.length - i ≤ f' → Sim ts ts' m i i (g f (ts.drop i) s) (g' f' (ts'.drop i) s)
 | 0, _, i, s, _, hi, hf, _ => by omega
 | f + 1, 0, i, s, hl, hi, hf, hf' => Sim.any (step f ts'.length i s hl hi fun j s hj hj2 => loop_sim T step f ts'.length j s (by omega) hj2 (by omega) (by omega)) (by have := T.le'; omega)
 | f + 1, f' + 1, i, s, hl, hi, hf, hf' => step f f' i s hl hi fun j s hj hj2 => loop_sim T step f f' j s (by omega) hj2 (by omega) (by omega)
theorem loop_go (T : Two ts ts' m) {σ : Type} {g g' : Nat → List Tok → σ → R β} {lo : Nat}
  (step : ∀ f f' i s, lo ≤ i → i < ts.length → (∀ j s, i < j → j < ts.length → Sim ts ts' m j j (g f (ts.drop j) s) (g' f' (ts'.drop j) s)) → Sim ts ts' m i i (g (f + 1) (ts.drop i) s) (g' (f' + 1) (ts'.drop i) s))
  {i : Nat} (s : σ) (hl : lo ≤ i) (hi : i < ts.length) : Sim ts ts' m i i (g (ts.drop i).length (ts.drop i) s) (g' (ts'.drop i).length (ts'.drop i) s) :=
 loop_sim T step _ _ i s hl hi (by rw [List.length_drop]; exact Nat.le_refl _) (by rw [List.length_drop]; exact Nat.le_refl _)
theorem fin_eq (s : Sm) (l : List Tok) : fin s l = bnd (must [59] l) fun _ l' => .ok (s, l') := by kernel_rfl
theorem fin_sim (T : Two ts ts' m) {i : Nat} (s : Sm) (hi : i < ts.length) : Sim ts ts' m i (i + 1) (fin s (ts.drop i)) (fin s (ts'.drop i)) := by
 rw [fin_eq, fin_eq]
 exact Sim.bnd (must_sim T _ hi) fun _ i1 h1 h2 h3 => Sim.ret (Nat.le_refl _) h2 h3 fun _ => rfl
theorem argsL_nil (d f : Nat) (l : List Tok) : argsL d (f + 1) l [] = if is [41] l = true then .ok ([], l.tail) else bnd (expr d l) fun e l' => argsL d f l' [e] := by kernel_rfl
theorem argsL_cons (d f : Nat) (l : List Tok) (a : List Nd) (as : List (List Nd)) : argsL d (f + 1) l (a :: as) = if is [41] l = true then .ok (a :: as, l.tail) else bnd (must [44] l) fun _ l1 => bnd (expr d l1) fun e l' => argsL d f l' ((a :: as) ++ [e]) := by kernel_rfl
theorem closeTail (T : Two ts ts' m) {i : Nat} {s : List UInt8} {x : α} (hi : i < ts.length) (h : is s (ts.drop i) = true) : Sim ts ts' m i i (.ok (x, (ts.drop i).tail)) (.ok (x, (ts'.drop i).tail)) := by
 rw [tail_drop, tail_drop]
 exact Sim.ret (Nat.le_succ _) (Nat.le_succ _) (T.isTail hi h) fun _ => rfl
theorem argsL_sim (T : Two ts ts' m) {i d : Nat} (as : List (List Nd)) (hi : i < ts.length) : Sim ts ts' m i i (argsL d (ts.drop i).length (ts.drop i) as) (argsL d (ts'.drop i).length (ts'.drop i) as) := by
 refine loop_go T (lo := 0) (g := argsL d) (g' := argsL d) (fun f f' i as _ hi IH => ?_) as (Nat.zero_le _) hi
 cases as with
 | nil =>
  rw [argsL_nil, argsL_nil]
  refine Sim.ite (fun h => by rw [T.is h]) (fun h => closeTail T hi h) fun _ => ?_
  exact Sim.bnd (expr_sim T hi) fun e i1 h1 h2 h3 => (IH i1 _ (by omega) h3).here (by omega)
 | cons a as =>
  rw [argsL_cons, argsL_cons]
  refine Sim.ite (fun h => by rw [T.is h]) (fun h => closeTail T hi h) fun _ => ?_
  refine Sim.bnd (must_sim T _ hi) fun _ i1 h1 h2 h3 => ?_
  exact Sim.bnd (expr_sim T h3) fun e i2 h4 h5 h6 => (IH i2 _ (by omega) h6).here (by omega)
theorem callA_eq (d : Nat) (c : Cl) (l : List Tok) : callA d c l = bnd (must [40] l) fun _ l1 => bnd (argsL d l1.length l1 []) fun as l2 => .ok ({ c with args := as }, l2) := by kernel_rfl
theorem callA_sim (T : Two ts ts' m) {i d : Nat} (c : Cl) (hi : i < ts.length) : Sim ts ts' m i (i + 1) (callA d c (ts.drop i)) (callA d c (ts'.drop i)) := by
 rw [callA_eq, callA_eq]
 refine Sim.bnd (must_sim T _ hi) fun _ i1 h1 h2 h3 => ?_
 exact Sim.bnd (argsL_sim T [] h3) fun as i2 h4 h5 h6 => Sim.ret (Nat.le_refl _) (by omega) h6 fun _ => rfl
theorem call_eq (d : Nat) (l : List Tok) : call d l = bnd (qname l) fun q l1 => if is [61] l1 = true then bnd (qname l1.tail) fun r l2 => callA d ⟨true, q.1, q.2, r.1, r.2, []⟩ l2 else callA d ⟨false, [], [], q.1, q.2, []⟩ l1 := by kernel_rfl
theorem call_sim (T : Two ts ts' m) {i d : Nat} (hi : i < ts.length) : Sim ts ts' m i (i + 1) (call d (ts.drop i)) (call d (ts'.drop i)) := by
 rw [call_eq, call_eq]
 refine Sim.bnd (qname_sim T hi) fun q i1 h1 h2 h3 => ?_
 refine Sim.ite (fun h => by rw [T.is h]) (fun h => ?_) fun _ => (callA_sim T _ h3).weak (by omega)
 rw [tail_drop, tail_drop]
 refine (Sim.bnd (qname_sim T (T.isTail h3 h)) fun r i2 h4 h5 h6 => ?_).mono (Nat.le_succ _) (Nat.le_refl _)
 exact (callA_sim T _ h6).weak (by omega)
def BkSim (ts ts' : List Tok) (m : Nat) (blk blk' : Bk) (lo : Nat) : Prop := ∀ i d, lo ≤ i → i < ts.length → Sim ts ts' m i (i + 1) (blk d (ts.drop i)) (blk' d (ts'.drop i))
def StSim (ts ts' : List Tok) (m : Nat) (stm stm' : Nat → List Tok → R Sm) (lo : Nat) : Prop := ∀ i d, lo ≤ i → i < ts.length → Sim ts ts' m i (i + 1) (stm d (ts.drop i)) (stm' d (ts'.drop i))
theorem stIf_eq (blk : Bk) (d a : Nat) (l : List Tok) : stIf blk d a l = bnd (expr d l) fun e l1 => bnd (blk d l1) fun b l2 => if is [101, 108, 115, 101] l2 = true then bnd (blk d l2.tail) fun el l3 => .ok (.mk 5 a [] [] [] false [] [] e [] b el, l3) else .ok (.mk 5 a [] [] [] false [] [] e [] b [], l2) := by kernel_rfl
theorem stIf_sim (T : Two ts ts' m) {blk blk' : Bk} {lo i d : Nat} (a : Nat) (K : BkSim ts ts' m blk blk' lo) (hl : lo ≤ i) (hi : i < ts.length) : Sim ts ts' m i (i + 1) (stIf blk d a (ts.drop i)) (stIf blk' d a (ts'.drop i)) := by
 rw [stIf_eq, stIf_eq]
 refine Sim.bnd (expr_sim T hi) fun e i1 h1 h2 h3 => ?_
 refine Sim.bnd (K i1 d (by omega) h3) fun b i2 h4 h5 h6 => ?_
 refine Sim.ite (fun h => by rw [T.is h]) (fun h => ?_) fun _ => Sim.ret (Nat.le_refl _) (by omega) h6 fun _ => rfl
 rw [tail_drop, tail_drop]
 refine (Sim.bnd (K (i2 + 1) d (by omega) (T.isTail h6 h)) fun el i3 h7 h8 h9 => ?_).mono (Nat.le_succ _) (Nat.le_refl _)
 exact Sim.ret (Nat.le_refl _) (by omega) h9 fun _ => rfl
theorem stWhile_eq (blk : Bk) (d a : Nat) (l : List Tok) : stWhile blk d a l = bnd (expr d l) fun e l1 => bnd (blk d l1) fun b l2 => .ok (.mk 6 a [] [] [] false [] [] e [] b [], l2) := by kernel_rfl
theorem stWhile_sim (T : Two ts ts' m) {blk blk' : Bk} {lo i d : Nat} (a : Nat) (K : BkSim ts ts' m blk blk' lo) (hl : lo ≤ i) (hi : i < ts.length) : Sim ts ts' m i (i + 1) (stWhile blk d a (ts.drop i)) (stWhile blk' d a (ts'.drop i)) := by
 rw [stWhile_eq, stWhile_eq]
 refine Sim.bnd (expr_sim T hi) fun e i1 h1 h2 h3 => ?_
 refine Sim.bnd (K i1 d (by omega) h3) fun b i2 h4 h5 h6 => ?_
 exact Sim.ret (Nat.le_refl _) (by omega) h6 fun _ => rfl
theorem stLet_eq (d a : Nat) (l : List Tok) : stLet d a l = bnd (name l) fun n l1 => bnd (must [58] l1) fun _ l2 => bnd (name l2) fun lb l3 => bnd (must [61] l3) fun _ l4 => bnd (expr d l4) fun e l5 => fin (.mk 1 a [] n lb false [] [] e [] [] []) l5 := by kernel_rfl
theorem stLet_sim (T : Two ts ts' m) {i d : Nat} (a : Nat) (hi : i < ts.length) : Sim ts ts' m i (i + 1) (stLet d a (ts.drop i)) (stLet d a (ts'.drop i)) := by
 rw [stLet_eq, stLet_eq]
 refine Sim.bnd (name_sim T hi) fun n i1 h1 h2 h3 => ?_
 refine Sim.bnd (must_sim T _ h3) fun _ i2 h4 h5 h6 => ?_
 refine Sim.bnd (name_sim T h6) fun lb i3 g1 g2 g3 => ?_
 refine Sim.bnd (must_sim T _ g3) fun _ i4 g4 g5 g6 => ?_
 refine Sim.bnd (expr_sim T g6) fun e i5 k1 k2 k3 => ?_
 exact (fin_sim T _ k3).weak (by omega)
theorem stResult_eq (d a : Nat) (l : List Tok) : stResult d a l = bnd (must [61] l) fun _ l1 => bnd (expr d l1) fun e l2 => fin (.mk 3 a [] [] [] false [] [] e [] [] []) l2 := by kernel_rfl
theorem stResult_sim (T : Two ts ts' m) {i d : Nat} (a : Nat) (hi : i < ts.length) : Sim ts ts' m i (i + 1) (stResult d a (ts.drop i)) (stResult d a (ts'.drop i)) := by
 rw [stResult_eq, stResult_eq]
 refine Sim.bnd (must_sim T _ hi) fun _ i1 h1 h2 h3 => ?_
 refine Sim.bnd (expr_sim T h3) fun e i2 h4 h5 h6 => ?_
 exact (fin_sim T _ h6).weak (by omega)
theorem stCall_eq (d a : Nat) (l : List Tok) : stCall d a l = bnd (call d l) fun c l1 => fin (.mk 4 a c.mod c.name [] c.has c.tomod c.to [] c.args [] []) l1 := by kernel_rfl
theorem stCall_sim (T : Two ts ts' m) {i d : Nat} (a : Nat) (hi : i < ts.length) : Sim ts ts' m i (i + 1) (stCall d a (ts.drop i)) (stCall d a (ts'.drop i)) := by
 rw [stCall_eq, stCall_eq]
 refine Sim.bnd (call_sim T hi) fun c i1 h1 h2 h3 => ?_
 exact (fin_sim T _ h3).weak (by omega)
theorem stEmit_eq (a : Nat) (l : List Tok) : stEmit a l = bnd (name l) fun n l1 => fin (.mk 7 a [] n [] false [] [] [] [] [] []) l1 := by kernel_rfl
theorem stEmit_sim (T : Two ts ts' m) {i : Nat} (a : Nat) (hi : i < ts.length) : Sim ts ts' m i (i + 1) (stEmit a (ts.drop i)) (stEmit a (ts'.drop i)) := by
 rw [stEmit_eq, stEmit_eq]
 refine Sim.bnd (name_sim T hi) fun c i1 h1 h2 h3 => ?_
 exact (fin_sim T _ h3).weak (by omega)
theorem stSkip_sim (T : Two ts ts' m) {i : Nat} (a : Nat) (hi : i < ts.length) : Sim ts ts' m i (i + 1) (stSkip a (ts.drop i)) (stSkip a (ts'.drop i)) := fin_sim T _ hi
theorem stSet_eq (d a : Nat) (l : List Tok) : stSet d a l = bnd (qname l) fun q l1 => bnd (must [61] l1) fun _ l2 => bnd (expr d l2) fun e l3 => fin (.mk 2 a q.1 q.2 [] false [] [] e [] [] []) l3 := by kernel_rfl
theorem stSet_sim (T : Two ts ts' m) {i d : Nat} (a : Nat) (hi : i < ts.length) : Sim ts ts' m i (i + 1) (stSet d a (ts.drop i)) (stSet d a (ts'.drop i)) := by
 rw [stSet_eq, stSet_eq]
 refine Sim.bnd (qname_sim T hi) fun q i1 h1 h2 h3 => ?_
 refine Sim.bnd (must_sim T _ h3) fun _ i2 h4 h5 h6 => ?_
 refine Sim.bnd (expr_sim T h6) fun e i3 g1 g2 g3 => ?_
 exact (fin_sim T _ g3).weak (by omega)
theorem stmtS_sim (T : Two ts ts' m) {blk blk' : Bk} {lo : Nat} (K : BkSim ts ts' m blk blk' (lo + 1)) : StSim ts ts' m (stmtS blk) (stmtS blk') lo := by
 intro i d hl hi
 unfold stmtS
 have up : ∀ {s : List UInt8}, is s (ts.drop i) = true → i + 1 < ts.length := fun h => T.isTail hi h
 refine Sim.ite (fun h => by rw [T.is h]) (fun h => ?_) fun _ => ?_
 ·exact Sim.at_ T (j := i) (F := fun a => stIf blk d a (ts.drop i).tail) (F' := fun a => stIf blk' d a (ts'.drop i).tail) (Nat.le_refl _) fun a => by
   rw [tail_drop, tail_drop]; exact (stIf_sim T a K (by omega) (up h)).mono (Nat.le_succ _) (Nat.le_succ _)
 refine Sim.ite (fun h => by rw [T.is h]) (fun h => ?_) fun _ => ?_
 ·exact Sim.at_ T (j := i) (F := fun a => stWhile blk d a (ts.drop i).tail) (F' := fun a => stWhile blk' d a (ts'.drop i).tail) (Nat.le_refl _) fun a => by
   rw [tail_drop, tail_drop]; exact (stWhile_sim T a K (by omega) (up h)).mono (Nat.le_succ _) (Nat.le_succ _)
 refine Sim.ite (fun h => by rw [T.is h]) (fun h => ?_) fun _ => ?_
 ·exact Sim.at_ T (j := i) (F := fun a => stLet d a (ts.drop i).tail) (F' := fun a => stLet d a (ts'.drop i).tail) (Nat.le_refl _) fun a => by
   rw [tail_drop, tail_drop]; exact (stLet_sim T a (up h)).mono (Nat.le_succ _) (Nat.le_succ _)
 refine Sim.ite (fun h => by rw [T.is h]) (fun h => ?_) fun _ => ?_
 ·exact Sim.at_ T (j := i) (F := fun a => stResult d a (ts.drop i).tail) (F' := fun a => stResult d a (ts'.drop i).tail) (Nat.le_refl _) fun a => by
   rw [tail_drop, tail_drop]; exact (stResult_sim T a (up h)).mono (Nat.le_succ _) (Nat.le_succ _)
 refine Sim.ite (fun h => by rw [T.is h]) (fun h => ?_) fun _ => ?_
 ·exact Sim.at_ T (j := i) (F := fun a => stCall d a (ts.drop i).tail) (F' := fun a => stCall d a (ts'.drop i).tail) (Nat.le_refl _) fun a => by
   rw [tail_drop, tail_drop]; exact (stCall_sim T a (up h)).mono (Nat.le_succ _) (Nat.le_succ _)
 refine Sim.ite (fun h => by rw [T.is h]) (fun h => ?_) fun _ => ?_
 ·exact Sim.at_ T (j := i) (F := fun a => stEmit a (ts.drop i).tail) (F' := fun a => stEmit a (ts'.drop i).tail) (Nat.le_refl _) fun a => by
   rw [tail_drop, tail_drop]; exact (stEmit_sim T a (up h)).mono (Nat.le_succ _) (Nat.le_succ _)
 refine Sim.ite (fun h => by rw [T.is h]) (fun h => ?_) fun _ => ?_
 ·exact Sim.at_ T (j := i) (F := fun a => stSkip a (ts.drop i).tail) (F' := fun a => stSkip a (ts'.drop i).tail) (Nat.le_refl _) fun a => by
   rw [tail_drop, tail_drop]; exact (stSkip_sim T a (up h)).mono (Nat.le_succ _) (Nat.le_succ _)
 exact Sim.at_ T (j := i) (F := fun a => stSet d a (ts.drop i)) (F' := fun a => stSet d a (ts'.drop i)) (Nat.le_refl _) fun a => stSet_sim T a hi
theorem blockL_eq (stm : Nat → List Tok → R Sm) (d f : Nat) (l : List Tok) (ss : List Sm) : blockL stm d (f + 1) l ss = if is [125] l = true then .ok (ss, l.tail) else bnd (stm d l) fun s l' => blockL stm d f l' (ss ++ [s]) := by kernel_rfl
theorem blockS_sim (T : Two ts ts' m) {stm stm' : Nat → List Tok → R Sm} {lo : Nat} (K : StSim ts ts' m stm stm' (lo + 1)) : BkSim ts ts' m (blockS stm) (blockS stm') lo := by
 intro i d hl hi
 unfold blockS
 refine Sim.ite (fun h => by rw [T.is h]) (fun h => ?_) fun _ => fail_sim T hi
 refine Sim.ite (fun _ => Iff.rfl) (fun _ => fail_sim T hi) fun _ => ?_
 rw [tail_drop, tail_drop]
 refine (loop_go T (lo := lo + 1) (g := blockL stm (d + 1)) (g' := blockL stm' (d + 1)) (fun f f' i ss hl hi IH => ?_) [] (by omega) (T.isTail hi h)).mono (Nat.le_succ _) (Nat.le_refl _)
 rw [blockL_eq, blockL_eq]
 refine Sim.ite (fun h => by rw [T.is h]) (fun h => closeTail T hi h) fun _ => ?_
 exact Sim.bnd (K i (d + 1) hl hi) fun s i1 h1 h2 h3 => (IH i1 _ (by omega) h3).here (by omega)
theorem stmt_sim (T : Two ts ts' m) : ∀ (f f' lo : Nat), ts.length - lo ≤ f → ts'.length - lo ≤ f' → StSim ts ts' m (stmt f) (stmt f') lo
 | 0, _, lo, hf, _ => fun i d hl hi => by omega
 | f + 1, 0, lo, hf, hf' => fun i d hl hi => Sim.any (stmtS_sim T (blockS_sim T fun i d hl hi => stmt_sim T f ts'.length (lo + 1) (by omega) (by omega) i d (by omega) hi) i d hl hi) (by have := T.le'; omega)
 | f + 1, f' + 1, lo, hf, hf' => stmtS_sim T (blockS_sim T fun i d hl hi => stmt_sim T f f' (lo + 1) (by omega) (by omega) i d (by omega) hi)
theorem block_sim (T : Two ts ts' m) {i d : Nat} (hi : i < ts.length) : Sim ts ts' m i (i + 1) (block d (ts.drop i)) (block d (ts'.drop i)) := by
 unfold block
 refine blockS_sim T (lo := i) (fun j d hl hj => ?_) i d (Nat.le_refl _) hi
 exact stmt_sim T _ _ j (by rw [List.length_drop]; omega) (by rw [List.length_drop]; omega) j d (Nat.le_refl _) hj
theorem severalL_eq {x : α} (one : α → List Tok → R α) (e : List UInt8) (f n : Nat) (l : List Tok) : severalL one e (f + 1) n l x = if is e l = true then .ok (x, l.tail) else if n = 0 then bnd (one x l) fun y l' => severalL one e f 1 l' y else bnd (must [44] l) fun _ l1 => bnd (one x l1) fun y l' => severalL one e f (n + 1) l' y := by kernel_rfl
theorem several_sim (T : Two ts ts' m) {one : α → List Tok → R α} {e : List UInt8} (K : ∀ x i, i < ts.length → Sim ts ts' m i (i + 1) (one x (ts.drop i)) (one x (ts'.drop i))) {i : Nat} (x : α) (hi : i < ts.length) : Sim ts ts' m i i (several one e (ts.drop i) x) (several one e (ts'.drop i) x) := by
 unfold several
 refine loop_go T (lo := 0) (g := fun f l (s : Nat × α) => severalL one e f s.1 l s.2) (g' := fun f l (s : Nat × α) => severalL one e f s.1 l s.2) (fun f f' i s _ hi IH => ?_) (0, x) (Nat.zero_le _) hi
 obtain ⟨n, x⟩ := s
 simp only
 rw [severalL_eq, severalL_eq]
 refine Sim.ite (fun h => by rw [T.is h]) (fun h => closeTail T hi h) fun _ => ?_
 refine Sim.ite (fun _ => Iff.rfl) (fun _ => ?_) fun _ => ?_
 ·exact Sim.bnd (K x i hi) fun y i1 h1 h2 h3 => (IH i1 (1, y) (by omega) h3).here (by omega)
 ·refine Sim.bnd (must_sim T _ hi) fun _ i1 h1 h2 h3 => ?_
  exact Sim.bnd (K x i1 h3) fun y i2 h4 h5 h6 => (IH i2 (n + 1, y) (by omega) h6).here (by omega)
theorem parm_eq (x : List Pm) (l : List Tok) : parm x l = bnd (name l) fun n l1 => bnd (must [58] l1) fun _ l2 => bnd (name l2) fun b l3 => .ok (x ++ [⟨n, b, here l⟩], l3) := by kernel_rfl
theorem parm_sim (T : Two ts ts' m) (x : List Pm) (i : Nat) (hi : i < ts.length) : Sim ts ts' m i (i + 1) (parm x (ts.drop i)) (parm x (ts'.drop i)) := by
 rw [parm_eq, parm_eq]
 refine Sim.bnd (name_sim T hi) fun n i1 h1 h2 h3 => ?_
 refine Sim.bnd (must_sim T _ h3) fun _ i2 h4 h5 h6 => ?_
 refine Sim.bnd (name_sim T h6) fun b i3 g1 g2 g3 => ?_
 exact Sim.ret (Nat.le_refl _) (by omega) g3 fun hm => by rw [T.here (show i < m by omega)]
theorem use_eq (x : List (List UInt8)) (l : List Tok) : use x l = bnd (name l) fun n l1 => .ok (x ++ [n], l1) := by kernel_rfl
theorem use_sim (T : Two ts ts' m) (x : List (List UInt8)) (i : Nat) (hi : i < ts.length) : Sim ts ts' m i (i + 1) (use x (ts.drop i)) (use x (ts'.drop i)) := by
 rw [use_eq, use_eq]
 exact Sim.bnd (name_sim T hi) fun n i1 h1 h2 h3 => Sim.ret (Nat.le_refl _) h2 h3 fun _ => rfl
theorem procB_eq (d : Nat) (q : Pr) (l : List Tok) : procB d q l = bnd (must [112, 99] l) fun _ l1 => bnd (name l1) fun pc l2 => bnd (must [117, 115, 101, 115] l2) fun _ l3 => bnd (must [123] l3) fun _ l4 => bnd (several use [125] l4 []) fun us l5 => bnd (block d l5) fun b l6 => .ok ({ q with pc := pc, uses := us, body := b }, l6) := by kernel_rfl
theorem procB_sim (T : Two ts ts' m) {i d : Nat} (q : Pr) (hi : i < ts.length) : Sim ts ts' m i (i + 1) (procB d q (ts.drop i)) (procB d q (ts'.drop i)) := by
 rw [procB_eq, procB_eq]
 refine Sim.bnd (must_sim T _ hi) fun _ i1 h1 h2 h3 => ?_
 refine Sim.bnd (name_sim T h3) fun pc i2 h4 h5 h6 => ?_
 refine Sim.bnd (must_sim T _ h6) fun _ i3 g1 g2 g3 => ?_
 refine Sim.bnd (must_sim T _ g3) fun _ i4 g4 g5 g6 => ?_
 refine Sim.bnd (several_sim T (use_sim T) [] g6) fun us i5 k1 k2 k3 => ?_
 refine Sim.bnd (block_sim T k3) fun b i6 k4 k5 k6 => ?_
 exact Sim.ret (Nat.le_refl _) (by omega) k6 fun _ => rfl
theorem proc_eq (d : Nat) (l : List Tok) : proc d l = bnd (name l) fun n l1 => bnd (must [40] l1) fun _ l2 => bnd (several parm [41] l2 []) fun ps l3 => if is [45, 62] l3 = true then bnd (name l3.tail) fun r l4 => procB d ⟨n, ps, true, r, [], [], [], here l⟩ l4 else procB d ⟨n, ps, false, [], [], [], [], here l⟩ l3 := by kernel_rfl
theorem proc_sim (T : Two ts ts' m) {i d : Nat} (hi : i < ts.length) : Sim ts ts' m i (i + 1) (proc d (ts.drop i)) (proc d (ts'.drop i)) := by
 rw [proc_eq, proc_eq]
 refine Sim.bnd (name_sim T hi) fun n i1 h1 h2 h3 => ?_
 refine Sim.bnd (must_sim T _ h3) fun _ i2 h4 h5 h6 => ?_
 refine Sim.bnd (several_sim T (parm_sim T) [] h6) fun ps i3 g1 g2 g3 => ?_
 refine Sim.ite (fun h => by rw [T.is h]) (fun h => ?_) fun _ => ?_
 ·rw [tail_drop, tail_drop]
  refine (Sim.bnd (name_sim T (T.isTail g3 h)) fun r i4 g4 g5 g6 => ?_).mono (Nat.le_succ _) (Nat.le_refl _)
  exact Sim.at_ T (k := i + 1) (j := i) (F := fun a => procB d ⟨n, ps, true, r, [], [], [], a⟩ (ts.drop i4)) (F' := fun a => procB d ⟨n, ps, true, r, [], [], [], a⟩ (ts'.drop i4)) (by omega) fun a => (procB_sim T _ g6).weak (by omega)
 ·exact Sim.at_ T (k := i + 1) (j := i) (F := fun a => procB d ⟨n, ps, false, [], [], [], [], a⟩ (ts.drop i3)) (F' := fun a => procB d ⟨n, ps, false, [], [], [], [], a⟩ (ts'.drop i3)) (by omega) fun a => (procB_sim T _ g3).weak (by omega)
theorem varE_eq (n lb : List UInt8) (at_ : Nat) (neg : Bool) (l : List Tok) : varE n lb at_ neg l = bnd (number l) fun k l1 => bnd (must [59] l1) fun _ l2 => .ok (⟨n, lb, if neg then -(k : Int) else (k : Int), at_⟩, l2) := by kernel_rfl
theorem varE_sim (T : Two ts ts' m) {i : Nat} {n lb : List UInt8} {neg : Bool} (a : Nat) (hi : i < ts.length) : Sim ts ts' m i (i + 1) (varE n lb a neg (ts.drop i)) (varE n lb a neg (ts'.drop i)) := by
 rw [varE_eq, varE_eq]
 refine Sim.bnd (number_sim T hi) fun k i1 h1 h2 h3 => ?_
 exact Sim.bnd (must_sim T _ h3) fun _ i2 h4 h5 h6 => Sim.ret (Nat.le_refl _) (by omega) h6 fun _ => rfl
theorem varD_eq (l : List Tok) : varD l = bnd (name l) fun n l1 => bnd (must [58] l1) fun _ l2 => bnd (name l2) fun b l3 => bnd (must [61] l3) fun _ l4 => if is [45] l4 = true then varE n b (here l) true l4.tail else varE n b (here l) false l4 := by kernel_rfl
theorem varD_sim (T : Two ts ts' m) {i : Nat} (hi : i < ts.length) : Sim ts ts' m i (i + 1) (varD (ts.drop i)) (varD (ts'.drop i)) := by
 rw [varD_eq, varD_eq]
 refine Sim.bnd (name_sim T hi) fun n i1 h1 h2 h3 => ?_
 refine Sim.bnd (must_sim T _ h3) fun _ i2 h4 h5 h6 => ?_
 refine Sim.bnd (name_sim T h6) fun b i3 g1 g2 g3 => ?_
 refine Sim.bnd (must_sim T _ g3) fun _ i4 g4 g5 g6 => ?_
 refine Sim.ite (fun h => by rw [T.is h]) (fun h => ?_) fun _ => ?_
 ·rw [tail_drop, tail_drop]
  exact Sim.at_ T (k := i + 1) (j := i) (F := fun a => varE n b a true (ts.drop (i4 + 1))) (F' := fun a => varE n b a true (ts'.drop (i4 + 1))) (by omega) fun a => (varE_sim T a (T.isTail g6 h)).mono (by omega) (by omega)
 ·exact Sim.at_ T (k := i + 1) (j := i) (F := fun a => varE n b a false (ts.drop i4)) (F' := fun a => varE n b a false (ts'.drop i4)) (by omega) fun a => (varE_sim T a g6).weak (by omega)
theorem impsL_eq (f : Nat) (l : List Tok) (x : List Im) : impsL (f + 1) l x = if is [105, 109, 112, 111, 114, 116] l = true then bnd (name l.tail) fun n l1 => bnd (must [59] l1) fun _ l2 => impsL f l2 (x ++ [⟨n, here l.tail⟩]) else .ok (x, l) := by kernel_rfl
theorem impsL_sim (T : Two ts ts' m) {i : Nat} (x : List Im) (hi : i < ts.length) : Sim ts ts' m i i (impsL (ts.drop i).length (ts.drop i) x) (impsL (ts'.drop i).length (ts'.drop i) x) := by
 refine loop_go T (lo := 0) (g := impsL) (g' := impsL) (fun f f' i x _ hi IH => ?_) x (Nat.zero_le _) hi
 rw [impsL_eq, impsL_eq]
 refine Sim.ite (fun h => by rw [T.is h]) (fun h => ?_) fun _ => Sim.ret (Nat.le_refl _) (Nat.le_refl _) hi fun _ => rfl
 rw [tail_drop, tail_drop]
 refine (Sim.bnd (name_sim T (T.isTail hi h)) fun n i1 h1 h2 h3 => ?_).mono (Nat.le_succ _) (Nat.le_refl _)
 refine Sim.bnd (must_sim T _ h3) fun _ i2 h4 h5 h6 => ?_
 exact Sim.at_ T (k := i) (j := i + 1) (F := fun a => impsL f (ts.drop i2) (x ++ [⟨n, a⟩])) (F' := fun a => impsL f' (ts'.drop i2) (x ++ [⟨n, a⟩])) (by omega) fun a => (IH i2 _ (by omega) h6).here (by omega)
theorem declsL_eq (d f : Nat) (l : List Tok) (vs : List Vr) (ps : List Pr) : declsL d (f + 1) l vs ps = if (hd l).kind = 0 then .ok ((vs, ps), l) else if is [118, 97, 114] l = true then bnd (varD l.tail) fun v l1 => declsL d f l1 (vs ++ [v]) ps else bnd (must [112, 114, 111, 99] l) fun _ l1 => bnd (proc d l1) fun p l2 => declsL d f l2 vs (ps ++ [p]) := by kernel_rfl
theorem declsL_sim (T : Two ts ts' m) {i d : Nat} (x : List Vr × List Pr) (hi : i < ts.length) : Sim ts ts' m i i (declsL d (ts.drop i).length (ts.drop i) x.1 x.2) (declsL d (ts'.drop i).length (ts'.drop i) x.1 x.2) := by
 refine loop_go T (lo := 0) (g := fun f l (x : List Vr × List Pr) => declsL d f l x.1 x.2) (g' := fun f l (x : List Vr × List Pr) => declsL d f l x.1 x.2) (fun f f' i x _ hi IH => ?_) x (Nat.zero_le _) hi
 obtain ⟨vs, ps⟩ := x
 simp only
 rw [declsL_eq, declsL_eq]
 refine Sim.ite (fun h => by rw [T.hd h]) (fun _ => Sim.ret (Nat.le_refl _) (Nat.le_refl _) hi fun _ => rfl) fun _ => ?_
 refine Sim.ite (fun h => by rw [T.is h]) (fun h => ?_) fun _ => ?_
 ·rw [tail_drop, tail_drop]
  exact (Sim.bnd (varD_sim T (T.isTail hi h)) fun v i1 h1 h2 h3 => (IH i1 (vs ++ [v], ps) (by omega) h3).here (by omega)).mono (Nat.le_succ _) (Nat.le_refl _)
 ·refine Sim.bnd (must_sim T _ hi) fun _ i1 h1 h2 h3 => ?_
  exact Sim.bnd (proc_sim T h3) fun p i2 h4 h5 h6 => (IH i2 (vs, ps ++ [p]) (by omega) h6).here (by omega)
theorem modul_eq (d : Nat) (l : List Tok) : modul d l = bnd (must [109, 111, 100, 117, 108, 101] l) fun _ l1 => bnd (name l1) fun n l2 => bnd (must [59] l2) fun _ l3 => bnd (impsL l3.length l3 []) fun is l4 => bnd (declsL d l4.length l4 [] []) fun x l5 => .ok (⟨n, here l1, is, x.1, x.2⟩, l5) := by kernel_rfl
theorem modul_sim (T : Two ts ts' m) {d : Nat} (hi : 0 < ts.length) : Sim ts ts' m 0 0 (modul d ts) (modul d ts') := by
 have hh : Sim ts ts' m 0 0 (modul d (ts.drop 0)) (modul d (ts'.drop 0)) := by
  rw [modul_eq, modul_eq]
  refine Sim.bnd (must_sim T _ hi) fun _ i1 h1 h2 h3 => ?_
  refine Sim.bnd (name_sim T h3) fun n i2 h4 h5 h6 => ?_
  refine Sim.bnd (must_sim T _ h6) fun _ i3 g1 g2 g3 => ?_
  refine Sim.bnd (impsL_sim T [] g3) fun is i4 g4 g5 g6 => ?_
  refine Sim.bnd (declsL_sim T ([], []) g6) fun x i5 k1 k2 k3 => ?_
  exact Sim.ret (Nat.le_refl _) (by omega) k3 fun hm => by rw [T.here (show i1 < m by omega)]
 exact hh
end
end Par
end
end Go.Eng
namespace Go.Eng
noncomputable section
/-! ### what stands behind a token changes nothing of the tokens up to it -/
namespace Lex
def cutl : List UInt8 → List UInt8
  | [] => []
  | c :: r => if blank c then [c] else if c.toNat = 35 then (c :: r).takeWhile notNl else if small c then (c :: r).takeWhile within else if digit c then (c :: r).takeWhile digit else sign (c :: r)
def cls : List UInt8 → Option (Nat × Nat)
  | [] => none
  | c :: r => if blank c then none else if c.toNat = 35 then none else if small c then some (word ((c :: r).takeWhile within)) else
    if digit c then some (number ((c :: r).takeWhile digit) ((c :: r).drop ((c :: r).takeWhile digit).length)) else some (if sign (c :: r) = [] then (4, 10) else (4, 0))
def go (t : Option (Nat × Nat)) (w : List UInt8) (pos : Nat) (out : List Tok) (k : List Tok → Except (Nat × Nat) (List Tok)) : Except (Nat × Nat) (List Tok) := match t with
  | none => k out
  | some t => put t w pos out k
theorem all_eq (f pos : Nat) (c : UInt8) (r : List UInt8) (out : List Tok) :
    all (f + 1) pos (c :: r) out = go (cls (c :: r)) (cutl (c :: r)) pos out (all f (pos + (cutl (c :: r)).length) ((c :: r).drop (cutl (c :: r)).length)) := by
  simp only [all, cls, cutl]
  by_cases h1 : blank c = true
  · simp only [if_pos h1]; rfl
  simp only [if_neg h1]
  by_cases h2 : c.toNat = 35
  · simp only [if_pos h2]; rfl
  simp only [if_neg h2]
  by_cases h3 : small c = true
  · simp only [if_pos h3]; rfl
  simp only [if_neg h3]
  by_cases h4 : digit c = true
  · simp only [if_pos h4]; rfl
  simp only [if_neg h4]; rfl
theorem tw_app {f : UInt8 → Bool} : ∀ {w r : List UInt8}, (∀ b ∈ w, f b = true) → (∀ c, r.head? = some c → f c = false) → (w ++ r).takeWhile f = w
  | [], [], _, _ => rfl
  | [], c :: r, _, h => by rw [List.nil_append, List.takeWhile_cons, if_neg (by rw [h c rfl]; decide)]
  | a :: w, r, h1, h2 => by
    rw [List.cons_append, List.takeWhile_cons, if_pos (h1 a (by simp)), tw_app (fun b hb => h1 b (by simp [hb])) h2]
theorem tw_rest {f : UInt8 → Bool} : ∀ (l : List UInt8) {c : UInt8}, (l.drop (l.takeWhile f).length).head? = some c → f c = false
  | [], c, h => by simp at h
  | a :: l, c, h => by
    rw [List.takeWhile_cons] at h
    by_cases ha : f a = true
    · rw [if_pos ha] at h; exact tw_rest l (by simpa using h)
    · rw [if_neg ha] at h; simp at h; subst h; simpa using ha
theorem tw_split {f : UInt8 → Bool} (l : List UInt8) : l.takeWhile f ++ l.drop (l.takeWhile f).length = l := by
  induction l with
  | nil => rfl
  | cons a l ih =>
    rw [List.takeWhile_cons]
    by_cases ha : f a = true
    · rw [if_pos ha]; simpa using ih
    · rw [if_neg ha]; rfl
theorem sign_pre (l : List UInt8) : sign l = l.take (sign l).length := by
  unfold sign
  cases e : twos.find? (isPre · l) with
  | some t =>
    have := List.find?_some e
    simp [isPre] at this; exact this.2.symm
  | none =>
    cases l with
    | nil => rfl
    | cons c r => simp only; split <;> simp
theorem sign_two (l : List UInt8) : (sign l).length ≤ 2 := by
  unfold sign
  cases e : twos.find? (isPre · l) with
  | some t =>
    have := List.mem_of_find?_eq_some e
    simp [twos] at this
    rcases this with rfl | rfl | rfl <;> simp
  | none =>
    cases l with
    | nil => simp
    | cons c r => simp only; split <;> simp
theorem isPre_two {t l l' : List UInt8} (ht : t ∈ twos) (h : l.take 2 = l'.take 2) : isPre t l = isPre t l' := by
  have h2 : t.length = 2 := by simp [twos] at ht; rcases ht with rfl | rfl | rfl <;> rfl
  have hl : (2 ≤ l.length) ↔ (2 ≤ l'.length) := by
    have := congrArg List.length h
    simp at this; omega
  simp only [isPre, h2, h, hl]
theorem find_congr {α : Type} {p q : α → Bool} : ∀ {l : List α}, (∀ x ∈ l, p x = q x) → l.find? p = l.find? q
  | [], _ => rfl
  | a :: l, h => by rw [List.find?_cons, List.find?_cons, h a (by simp), find_congr fun x hx => h x (by simp [hx])]
theorem sign_congr {l l' : List UInt8} (h : l.take 2 = l'.take 2) : sign l = sign l' := by
  unfold sign
  rw [find_congr (q := (isPre · l')) fun t ht => isPre_two ht h]
  have hh : l.head? = l'.head? := by
    have := congrArg List.head? h
    simpa [List.head?_take] using this
  cases twos.find? (isPre · l') with
  | some t => rfl
  | none =>
    cases l with
    | nil => cases l' with
      | nil => rfl
      | cons a l' => cases hh
    | cons b l => cases l' with
      | nil => cases hh
      | cons a l' => cases hh; rfl
/-- what the piece at the head is hangs on it and on the byte behind it alone -/
structure Piece (l w r : List UInt8) : Prop where
  split : l = w ++ r
  cut : cutl l = w
theorem take_two {w r r' : List UInt8} (hw : w ≠ []) (h : r.head? = r'.head?) : (w ++ r).take 2 = (w ++ r').take 2 := by
  cases w with
  | nil => exact absurd rfl hw
  | cons a w =>
    cases w with
    | cons b w => rfl
    | nil =>
      cases r with
      | nil => cases r' with
        | nil => rfl
        | cons a r' => cases h
      | cons b r => cases r' with
        | nil => cases h
        | cons a r' => cases h; simp
theorem number_head {w r r' : List UInt8} (h : r.head? = r'.head?) : number w r = number w r' := by
  unfold number
  cases r with
  | nil => cases r' with
    | nil => rfl
    | cons a r' => cases h
  | cons b r => cases r' with
    | nil => cases h
    | cons a r' => cases h; rfl
theorem number_ok {w f : List UInt8} (h : (number w f).2 = 0) : number w f = (2, 0) := by
  unfold number at *
  by_cases h1 : w.length > 9
  · rw [if_pos h1] at h; cases h
  rw [if_neg h1] at h ⊢
  by_cases h2 : w.head? = some 48 ∧ w.length > 1
  · rw [if_pos h2] at h; cases h
  rw [if_neg h2] at h ⊢
  cases f with
  | nil => rfl
  | cons c f =>
    simp only at h ⊢
    by_cases h3 : within c = true
    · rw [if_pos h3] at h; cases h
    · rw [if_neg h3]
def Bl (r : List UInt8) : Prop := ∃ b, r.head? = some b ∧ blank b = true
theorem Bl.four {r : List UInt8} (h : Bl r) : ∃ m, r = 32 :: m ∨ r = 9 :: m ∨ r = 10 :: m ∨ r = 13 :: m := by
  obtain ⟨b, h1, h2⟩ := h
  cases r with
  | nil => cases h1
  | cons a m =>
    cases h1
    refine ⟨m, ?_⟩
    simp [blank] at h2
    rcases h2 with h2 | h2 | h2 | h2
    · exact Or.inl (by rw [show b = 32 from UInt8.toNat_inj.1 h2])
    · exact Or.inr (Or.inl (by rw [show b = 9 from UInt8.toNat_inj.1 h2]))
    · exact Or.inr (Or.inr (Or.inl (by rw [show b = 10 from UInt8.toNat_inj.1 h2])))
    · exact Or.inr (Or.inr (Or.inr (by rw [show b = 13 from UInt8.toNat_inj.1 h2])))
theorem number_blank {w f f' : List UInt8} (h : (number w f).2 = 0) (hf : Bl f') : number w f' = number w f := by
  rw [number_ok h]
  unfold number at *
  by_cases h1 : w.length > 9
  · rw [if_pos h1] at h; cases h
  rw [if_neg h1] at h ⊢
  by_cases h2 : w.head? = some 48 ∧ w.length > 1
  · rw [if_pos h2] at h; cases h
  rw [if_neg h2]
  obtain ⟨m, rfl | rfl | rfl | rfl⟩ := hf.four <;> rfl
theorem sign_blank {c : UInt8} {r r' : List UInt8} (hne : sign (c :: r) ≠ []) (hf : Bl r') : sign (sign (c :: r) ++ r') = sign (c :: r) := by
  have hp := sign_pre (c :: r)
  have h2 := sign_two (c :: r)
  have h1 := List.length_pos_iff.2 hne
  by_cases hl : (sign (c :: r)).length = 2
  · refine sign_congr ?_
    rw [← hl, ← hp, List.take_left']; rfl
  · have hs : sign (c :: r) = [c] := by
      rw [hp, show (sign (c :: r)).length = 1 by omega]; rfl
    have hone : 0 ≤ Lib.indexByte ones c := by
      unfold sign at hs
      cases e : twos.find? (isPre · (c :: r)) with
      | some t =>
        have ht := List.mem_of_find?_eq_some e
        rw [e] at hs
        simp only at hs
        subst hs
        simp [twos] at ht
      | none =>
        rw [e] at hs
        simp only at hs
        by_cases h0 : 0 ≤ Lib.indexByte ones c
        · exact h0
        · rw [if_neg h0] at hs; cases hs
    rw [hs]
    have main : ∀ (b : UInt8) (m : List UInt8), b ≠ 61 → b ≠ 62 → sign (c :: b :: m) = [c] := by
      intro b m h61 h62
      unfold sign
      have hf : twos.find? (isPre · (c :: b :: m)) = none := by
        rw [List.find?_eq_none]
        intro t ht
        simp [twos] at ht
        rcases ht with rfl | rfl | rfl <;> simp [isPre, h61, h62]
      rw [hf]
      simp only
      rw [if_pos hone]
    obtain ⟨m, rfl | rfl | rfl | rfl⟩ := hf.four <;> exact main _ m (by decide) (by decide)
theorem tw_ne {f : UInt8 → Bool} {c : UInt8} {r : List UInt8} (h : f c = true) : (c :: r).takeWhile f = c :: r.takeWhile f := by rw [List.takeWhile_cons, if_pos h]
theorem small_in {c : UInt8} (h : small c = true) : within c = true := by unfold within; rw [h]; rfl
theorem not35 {c : UInt8} (h : c.toNat = 35) : notNl c = true := by unfold notNl; rw [h]; rfl
/-- the byte behind it may be another one of the same kind, or a blank -/
theorem local_ {c : UInt8} {r r' : List UInt8} (hne : cutl (c :: r) ≠ []) (hr : (r'.head? = ((c :: r).drop (cutl (c :: r)).length).head?) ∨ (Bl r' ∧ ∃ t, cls (c :: r) = some t ∧ t.2 = 0)) :
    cls (cutl (c :: r) ++ r') = cls (c :: r) ∧ cutl (cutl (c :: r) ++ r') = cutl (c :: r) := by
  by_cases h1 : blank c = true
  · have e : cutl (c :: r) = [c] := by simp only [cutl, if_pos h1]
    rw [e]
    simp only [List.singleton_append, cls, cutl, if_pos h1, and_self]
  by_cases h2 : c.toNat = 35
  · have e : ∀ x, cutl (c :: x) = (c :: x).takeWhile notNl := fun x => by simp only [cutl, if_neg h1, if_pos h2]
    have g : ∀ x, cls (c :: x) = none := fun x => by simp only [cls, if_neg h1, if_pos h2]
    rw [e] at hr ⊢
    have hw : ((c :: r).takeWhile notNl ++ r').takeWhile notNl = (c :: r).takeWhile notNl := by
      refine tw_app (fun b hb => mem_takeWhile hb) fun b hb => ?_
      rcases hr with hr | ⟨_, t, ht, _⟩
      · rw [hr] at hb; exact tw_rest (c :: r) hb
      · rw [g] at ht; cases ht
    rw [tw_ne (not35 h2)] at hw ⊢
    rw [List.cons_append] at hw ⊢
    rw [g, g, e]; exact ⟨rfl, hw⟩
  by_cases h3 : small c = true
  · have e : ∀ x, cutl (c :: x) = (c :: x).takeWhile within := fun x => by simp only [cutl, if_neg h1, if_neg h2, if_pos h3]
    have g : ∀ x, cls (c :: x) = some (word ((c :: x).takeWhile within)) := fun x => by simp only [cls, if_neg h1, if_neg h2, if_pos h3]
    rw [e] at hr ⊢
    have hw : ((c :: r).takeWhile within ++ r').takeWhile within = (c :: r).takeWhile within := by
      refine tw_app (fun b hb => mem_takeWhile hb) fun b hb => ?_
      rcases hr with hr | ⟨hr, _⟩
      · rw [hr] at hb; exact tw_rest (c :: r) hb
      · obtain ⟨m, rfl | rfl | rfl | rfl⟩ := hr.four <;> cases hb <;> rfl
    rw [g]
    rw [tw_ne (small_in h3)] at hw ⊢
    rw [List.cons_append] at hw ⊢
    rw [g, e, hw]; exact ⟨rfl, rfl⟩
  by_cases h4 : digit c = true
  · have e : ∀ x, cutl (c :: x) = (c :: x).takeWhile digit := fun x => by simp only [cutl, if_neg h1, if_neg h2, if_neg h3, if_pos h4]
    have g : ∀ x, cls (c :: x) = some (number ((c :: x).takeWhile digit) ((c :: x).drop ((c :: x).takeWhile digit).length)) := fun x => by simp only [cls, if_neg h1, if_neg h2, if_neg h3, if_pos h4]
    rw [e] at hr ⊢
    have hw : ((c :: r).takeWhile digit ++ r').takeWhile digit = (c :: r).takeWhile digit := by
      refine tw_app (fun b hb => mem_takeWhile hb) fun b hb => ?_
      rcases hr with hr | ⟨hr, _⟩
      · rw [hr] at hb; exact tw_rest (c :: r) hb
      · obtain ⟨m, rfl | rfl | rfl | rfl⟩ := hr.four <;> cases hb <;> rfl
    have hn : number ((c :: r).takeWhile digit) r' = number ((c :: r).takeWhile digit) ((c :: r).drop ((c :: r).takeWhile digit).length) := by
      rcases hr with hr | ⟨hr, t, ht, h0⟩
      · exact number_head hr
      · rw [g] at ht; cases ht; exact number_blank h0 hr
    rw [g]
    obtain ⟨x, hx⟩ : ∃ x, (c :: r).takeWhile digit ++ r' = c :: x := ⟨_, by rw [tw_ne h4, List.cons_append]⟩
    rw [hx, g, e, ← hx, hw, List.drop_left' rfl, hn]; exact ⟨rfl, rfl⟩
  · have e : ∀ x, cutl (c :: x) = sign (c :: x) := fun x => by simp only [cutl, if_neg h1, if_neg h2, if_neg h3, if_neg h4]
    have g : ∀ x, cls (c :: x) = some (if sign (c :: x) = [] then (4, 10) else (4, 0)) := fun x => by simp only [cls, if_neg h1, if_neg h2, if_neg h3, if_neg h4]
    rw [e] at hr hne ⊢
    have hs : sign (sign (c :: r) ++ r') = sign (c :: r) := by
      rcases hr with hr | ⟨hr, _⟩
      · refine sign_congr ?_
        have hsp : c :: r = sign (c :: r) ++ (c :: r).drop (sign (c :: r)).length := by
          conv => lhs; rw [← List.take_append_drop (sign (c :: r)).length (c :: r)]
          rw [← sign_pre]
        conv => rhs; rw [hsp]
        exact take_two hne hr
      · exact sign_blank hne hr
    obtain ⟨x, hx⟩ : ∃ x, sign (c :: r) ++ r' = c :: x := by
      have hp := sign_pre (c :: r)
      have h1 := List.length_pos_iff.2 hne
      obtain ⟨n, hn⟩ : ∃ n, (sign (c :: r)).length = n + 1 := ⟨(sign (c :: r)).length - 1, by omega⟩
      rw [hn, List.take_succ_cons] at hp
      rw [hp]; exact ⟨_, rfl⟩
    rw [g, hx, g, e, ← hx, hs]; exact ⟨rfl, rfl⟩
theorem all_eq' {f pos : Nat} {l : List UInt8} {out : List Tok} (h : l ≠ []) : all (f + 1) pos l out = go (cls l) (cutl l) pos out (all f (pos + (cutl l).length) (l.drop (cutl l).length)) := by
  cases l with
  | nil => exact absurd rfl h
  | cons c r => exact all_eq ..
theorem go_ok {t : Option (Nat × Nat)} {w : List UInt8} {pos : Nat} {out ts : List Tok} {k : List Tok → Except (Nat × Nat) (List Tok)} (h : go t w pos out k = .ok ts) : (t = none ∧ k out = .ok ts) ∨ ∃ u, t = some u ∧ u.2 = 0 ∧ k (out ++ [⟨u.1, w, pos⟩]) = .ok ts := by
  cases t with
  | none => exact Or.inl ⟨rfl, h⟩
  | some u =>
    obtain ⟨h1, h2⟩ := put_ok h
    exact Or.inr ⟨u, rfl, h1, h2⟩
theorem go_mk {u : Nat × Nat} {w : List UInt8} {pos : Nat} {out : List Tok} {k : List Tok → Except (Nat × Nat) (List Tok)} (h : u.2 = 0) : go (some u) w pos out k = k (out ++ [⟨u.1, w, pos⟩]) := by
  show put u w pos out k = _
  unfold put
  rw [if_neg (by rw [h]; decide)]
theorem cut_ne {c : UInt8} {r : List UInt8} (h : cls (c :: r) = none ∨ ∃ u, cls (c :: r) = some u ∧ u.2 = 0) : cutl (c :: r) ≠ [] := by
  by_cases h1 : blank c = true
  · simp only [cutl, if_pos h1]; simp
  by_cases h2 : c.toNat = 35
  · simp only [cutl, if_neg h1, if_pos h2]; rw [tw_ne (not35 h2)]; simp
  by_cases h3 : small c = true
  · simp only [cutl, if_neg h1, if_neg h2, if_pos h3]; rw [tw_ne (small_in h3)]; simp
  by_cases h4 : digit c = true
  · simp only [cutl, if_neg h1, if_neg h2, if_neg h3, if_pos h4]; rw [tw_ne h4]; simp
  · simp only [cls, if_neg h1, if_neg h2, if_neg h3, if_neg h4] at h
    simp only [cutl, if_neg h1, if_neg h2, if_neg h3, if_neg h4]
    intro e
    rw [if_pos e] at h
    rcases h with h | ⟨u, h, h0⟩
    · cases h
    · cases h; cases h0
theorem cut_split (l : List UInt8) : cutl l ++ l.drop (cutl l).length = l := by
  cases l with
  | nil => rfl
  | cons c r =>
    by_cases h1 : blank c = true
    · simp only [cutl, if_pos h1]; rfl
    by_cases h2 : c.toNat = 35
    · simp only [cutl, if_neg h1, if_pos h2]; exact tw_split _
    by_cases h3 : small c = true
    · simp only [cutl, if_neg h1, if_neg h2, if_pos h3]; exact tw_split _
    by_cases h4 : digit c = true
    · simp only [cutl, if_neg h1, if_neg h2, if_neg h3, if_pos h4]; exact tw_split _
    · simp only [cutl, if_neg h1, if_neg h2, if_neg h3, if_neg h4]
      conv => lhs; arg 1; rw [sign_pre]
      exact List.take_append_drop ..
theorem all_ext : ∀ {f pos : Nat} {r : List UInt8} {out ts : List Tok}, all f pos r out = .ok ts → ∃ vs, ts = out ++ vs
  | 0, _, _, _, _, h => by cases h
  | f + 1, pos, [], out, ts, h => by simp only [all] at h; cases h; exact ⟨_, rfl⟩
  | f + 1, pos, c :: r, out, ts, h => by
    rw [all_eq] at h
    rcases go_ok h with ⟨_, h⟩ | ⟨u, _, _, h⟩
    · exact all_ext h
    · obtain ⟨vs, e⟩ := all_ext h
      exact ⟨_ :: vs, by rw [e, List.append_assoc]; rfl⟩
theorem all_shift : ∀ {f pos : Nat} {r : List UInt8} {out ts : List Tok}, all f pos r out = .ok ts → ∀ (f' pos' : Nat) (out' : List Tok), r.length < f' → ∃ vs, all f' pos' r out' = .ok vs
  | 0, _, _, _, _, h => by cases h
  | f + 1, pos, [], out, ts, h => fun f' pos' out' hf => by
    obtain ⟨n, rfl⟩ : ∃ n, f' = n + 1 := ⟨f' - 1, by omega⟩
    exact ⟨_, rfl⟩
  | f + 1, pos, c :: r, out, ts, h => fun f' pos' out' hf => by
    obtain ⟨n, rfl⟩ : ∃ n, f' = n + 1 := ⟨f' - 1, by omega⟩
    rw [all_eq] at h
    rw [all_eq]
    have len : 0 < (cutl (c :: r)).length → ((c :: r).drop (cutl (c :: r)).length).length < n := fun h => Nat.lt_of_lt_of_le (by rw [List.length_drop]; exact Nat.sub_lt (Nat.succ_pos _) h) (Nat.le_of_lt_succ hf)
    rcases go_ok h with ⟨e, h⟩ | ⟨u, e, h0, h⟩
    · have hp := len (List.length_pos_iff.2 (cut_ne (Or.inl e)))
      rw [e]
      exact all_shift h _ _ _ hp
    · have hp := len (List.length_pos_iff.2 (cut_ne (Or.inr ⟨u, e, h0⟩)))
      rw [e, go_mk h0]
      exact all_shift h _ _ _ hp
theorem head_take {x : Nat} {l m : List UInt8} (hx : 0 < x) (hl : 0 < l.length) : (l.take x ++ m).head? = l.head? := by
  cases l with
  | nil => simp at hl
  | cons a l =>
    obtain ⟨n, rfl⟩ : ∃ n, x = n + 1 := ⟨x - 1, by omega⟩
    rfl
theorem take_split {l w r : List UInt8} (h : w ++ r = l) : l.take w.length = w := by subst h; exact List.take_left' rfl
theorem all_cut {more : List UInt8} (M : ∀ {f' pos' : Nat} {out' : List Tok}, more.length < f' → ∃ vs, all f' pos' more out' = .ok vs) : ∀ {f pos : Nat} {r : List UInt8} {out ts : List Tok}, all f pos r out = .ok ts → ∀ (k : Nat) (t : Tok), out.length ≤ k → k + 1 < ts.length → ts[k]? = some t →
    pos ≤ t.at_ ∧ 0 < t.text.length ∧ t.at_ + t.text.length ≤ pos + r.length ∧ ∀ {f' : Nat}, (r.take (t.at_ + t.text.length - pos) ++ 32 :: more).length < f' → ∃ vs, all f' pos (r.take (t.at_ + t.text.length - pos) ++ 32 :: more) out = .ok vs ∧ vs.take (k + 1) = ts.take (k + 1)
  | 0, _, _, _, _, h => by cases h
  | f + 1, pos, [], out, ts, h => fun k t h1 h2 h3 => by
    have h : (Except.ok (out ++ [⟨0, [], pos⟩]) : Except (Nat × Nat) (List Tok)) = .ok ts := h
    cases h; simp at h2; omega
  | f + 1, pos, c :: r, out, ts, h => fun k t h1 h2 h3 => by
    rw [all_eq] at h
    have hsp := cut_split (c :: r)
    -- it goes on behind the piece
    have on : ∀ out', (cutl (c :: r)) ≠ [] → (∀ r' n, r'.head? = ((c :: r).drop (cutl (c :: r)).length).head? → all (n + 1) pos (cutl (c :: r) ++ r') out = all n (pos + (cutl (c :: r)).length) r' out') →
        all f (pos + (cutl (c :: r)).length) ((c :: r).drop (cutl (c :: r)).length) out' = .ok ts → out'.length ≤ k →
        pos ≤ t.at_ ∧ 0 < t.text.length ∧ t.at_ + t.text.length ≤ pos + (c :: r).length ∧ ∀ {f' : Nat}, ((c :: r).take (t.at_ + t.text.length - pos) ++ 32 :: more).length < f' → ∃ vs, all f' pos ((c :: r).take (t.at_ + t.text.length - pos) ++ 32 :: more) out = .ok vs ∧ vs.take (k + 1) = ts.take (k + 1) := by
      intro out' hne go1 h hk
      obtain ⟨i1, i2, i3, i4⟩ := all_cut M h k t hk h2 h3
      generalize cutl (c :: r) = w at *
      have hw := List.length_pos_iff.2 hne
      have hl : w.length ≤ (c :: r).length := by rw [← hsp]; simp
      have hdl : ((c :: r).drop w.length).length = (c :: r).length - w.length := List.length_drop
      refine ⟨by omega, i2, by omega, fun {f'} hf => ?_⟩
      have et : (c :: r).take (t.at_ + t.text.length - pos) = w ++ ((c :: r).drop w.length).take (t.at_ + t.text.length - (pos + w.length)) := by
        conv => lhs; rw [← hsp]
        rw [List.take_append, List.take_of_length_le (by omega)]
        congr 2; omega
      rw [et, List.append_assoc] at hf ⊢
      obtain ⟨n, rfl⟩ : ∃ n, f' = n + 1 := ⟨f' - 1, by omega⟩
      rw [go1 _ n (head_take (by omega) (by omega))]
      rw [List.length_append] at hf
      exact i4 (by omega)
    rcases go_ok h with ⟨e, h⟩ | ⟨u, e, h0, h⟩
    · have hne := cut_ne (Or.inl e)
      refine on out hne (fun r' n hr => ?_) h h1
      obtain ⟨l1, l2⟩ := local_ hne (Or.inl hr)
      rw [all_eq' (by simp [hne]), l1, l2, e, List.drop_left' rfl]; rfl
    · have hne := cut_ne (Or.inr ⟨u, e, h0⟩)
      by_cases hk : k = out.length
      · obtain ⟨vs, ev⟩ := all_ext h
        have et : t = ⟨u.1, cutl (c :: r), pos⟩ := by
          rw [ev, hk] at h3
          simp at h3; exact h3.symm
        subst et
        have hl : (cutl (c :: r)).length ≤ (c :: r).length := by conv => rhs; rw [← hsp]
                                                                 simp
        refine ⟨Nat.le_refl _, List.length_pos_iff.2 hne, by show pos + (cutl (c :: r)).length ≤ _; omega, fun {f'} hf => ?_⟩
        have eq : (c :: r).take (pos + (cutl (c :: r)).length - pos) = cutl (c :: r) := by
          rw [Nat.add_sub_cancel_left]
          exact take_split hsp
        simp only [eq] at hf ⊢
        obtain ⟨l1, l2⟩ := local_ (r' := 32 :: more) hne (Or.inr ⟨⟨32, rfl, rfl⟩, u, e, h0⟩)
        rw [List.length_append, List.length_cons] at hf
        have hw := List.length_pos_iff.2 hne
        obtain ⟨n, rfl⟩ : ∃ n, f' = n + 2 := ⟨f' - 2, by omega⟩
        rw [all_eq' (by simp [hne]), l1, l2, e, go_mk h0, List.drop_left' rfl]
        have hb : all (n + 1) (pos + (cutl (c :: r)).length) (32 :: more) (out ++ [⟨u.1, cutl (c :: r), pos⟩]) = all n (pos + (cutl (c :: r)).length + 1) more (out ++ [⟨u.1, cutl (c :: r), pos⟩]) := by
          simp only [all]; rw [if_pos (by decide)]
        rw [hb]
        obtain ⟨us, hu⟩ := M (f' := n) (pos' := pos + (cutl (c :: r)).length + 1) (out' := out ++ [⟨u.1, cutl (c :: r), pos⟩]) (by omega)
        obtain ⟨ws, ew⟩ := all_ext hu
        refine ⟨us, hu, ?_⟩
        rw [ew, ev, hk, List.take_left' (by simp), List.take_left' (by simp)]
      · refine on (out ++ [⟨u.1, cutl (c :: r), pos⟩]) hne (fun r' n hr => ?_) h (by simp; omega)
        obtain ⟨l1, l2⟩ := local_ hne (Or.inl hr)
        rw [all_eq' (by simp [hne]), l1, l2, e, go_mk h0, List.drop_left' rfl]
end Lex
end
end Go.Eng
namespace Go.Eng
noncomputable section
theorem lex_last {s : List UInt8} {ts : List Tok} (h : Lex.lex s = .ok ts) : ∃ us a, ts = us ++ [⟨0, [], a⟩] := by
 unfold Lex.lex at h
 by_cases hs : 8192 < s.length
 ·rw [if_pos hs] at h; cases h
 ·rw [if_neg hs] at h
  obtain ⟨us, a, e, _⟩ := Lex.all_ok h (fun t ht => by simp at ht)
  exact ⟨us, a, e⟩
theorem lex_all {s : List UInt8} {ts : List Tok} (h : Lex.lex s = .ok ts) : Lex.all (s.length + 1) 0 s [] = .ok ts := by
 unfold Lex.lex at h
 by_cases hs : 8192 < s.length
 ·rw [if_pos hs] at h; cases h
 ·rw [if_neg hs] at h; exact h
theorem err_place {s : List UInt8} {ts : List Tok} {e a : Nat} (hs : Lex.lex s = .ok ts) (he : Par.modul 0 ts = .error (e, a)) : ∃ (j : Nat) (t : Tok), ts[j]? = some t ∧ t.at_ = a := by
 obtain ⟨us, b, rfl⟩ := lex_last hs
 have T : Par.Two (us ++ [⟨0, [], b⟩]) (us ++ [⟨0, [], b⟩]) 0 := ⟨Nat.zero_le _, Nat.zero_le _, fun _ _ => rfl, fun (t : Tok) ht => by simp at ht; subst ht; rfl⟩
 rcases Par.modul_sim T (d := 0) (by simp) with ⟨x, i, h, _⟩ | ⟨e', j, h, _, h2, _⟩
 ·rw [h] at he; cases he
 ·rw [h] at he; cases he
  refine ⟨j, (us ++ [⟨0, [], b⟩])[j], List.getElem?_eq_getElem h2, ?_⟩
  rw [List.drop_eq_getElem_cons h2]; rfl
theorem err_stays {s more : List UInt8} {ts us : List Tok} {e a k : Nat} {t : Tok} (hs : Lex.lex s = .ok ts) (hm : Lex.lex more = .ok us) (hl : s.length ≤ 1000) (hl2 : more.length ≤ 1000) (he : Par.modul 0 ts = .error (e, a))
  (hk : k + 1 < ts.length) (ht : ts[k]? = some t) (hlast : ∀ j u, ts[j]? = some u → u.at_ = a → j ≤ k) (hta : t.at_ = a) :
  a + t.text.length ≤ s.length ∧ ∃ ts', Lex.lex (s.take (a + t.text.length) ++ 32 :: more) = .ok ts' ∧ Par.modul 0 ts' = .error (e, a) := by
 have ha := lex_all hs
 have hma := lex_all hm
 obtain ⟨c1, c2, c3, c4⟩ := Lex.all_cut (more := more) (fun {f'} {pos'} {out'} hf => Lex.all_shift hma f' pos' out' hf) ha k t (Nat.zero_le _) hk ht
 rw [Nat.sub_zero, hta] at c4
 rw [hta] at c3
 have hlen : (s.take (a + t.text.length) ++ 32 :: more).length ≤ 2001 := by simp; omega
 obtain ⟨ts', h1, h2⟩ := c4 (Nat.lt_succ_self _)
 have hlex : Lex.lex (s.take (a + t.text.length) ++ 32 :: more) = .ok ts' := by
  unfold Lex.lex
  rw [if_neg (by omega)]; exact h1
 refine ⟨by omega, ts', hlex, ?_⟩
 obtain ⟨ws, b, ets⟩ := lex_last hs
 have hle : k + 1 ≤ ts'.length := by
  have := congrArg List.length h2
  simp at this; omega
 have T : Par.Two ts ts' (k + 1) := by
  refine ⟨by omega, hle, fun j hj => ?_, fun u hu => ?_⟩
  ·have := congrArg (fun l => l[j]?) h2
   simp only [List.getElem?_take, if_pos hj] at this
   exact this.symm
  ·rw [ets] at hu; simp at hu; subst hu; rfl
 rcases Par.modul_sim T (d := 0) (by omega) with ⟨x, i, h, _⟩ | ⟨e', j, h, _, g2, g3⟩
 ·rw [h] at he; cases he
 ·rw [h] at he; cases he
  have hj : j ≤ k := hlast j _ (List.getElem?_eq_getElem g2) (by rw [List.drop_eq_getElem_cons g2]; rfl)
  exact g3 (by omega)
end
end Go.Eng
