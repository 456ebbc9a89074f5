/- Part of a proof of a law, by an evaluator that the machine follows: rules, contracts of functions, what they come to. No condition of its own. -/
import Derived.Test.YtmcjcbldmoijiaaGreatDoorSymC
import Derived.Test.YtmcjcbldmoijiaaGreatDoorEngG
import Derived.Test.YtmcjcbldmoijiaaGreatDoorSymA
import Derived.Test.YtmcjcbldmoijiaaGreatDoorSymB
set_option linter.unusedVariables false
set_option linter.unusedSimpArgs false
namespace Go.Eng
noncomputable section
/-- slices.Grow of nothing, by its summary: nothing, with room -/
theorem grow_runs {c : Ctx} {f0 : Nat} (hc : ∀ args h r, moreGrow f0 f0 args h = r → r ≠ .bad → Runs c f0 args h r) {fs : List Fact} {h : Heap} {n : Nat} (hn : n ≤ 4294967296) (st : St fs h) :
    RunP c f0 [.slN, .int .i64 (n : Int)] h fun v h1 => ∃ bs f, (n = 0 → v = .slN) ∧ St (.acu bs f 1 v [] :: fs) h1 := by
  have hf : f0.beq f0 = true := Nat.beq_refl _
  have s := st.acu0 1
  cases n with
  | zero =>
    refine ⟨.slN, h, hc _ _ _ ?_ (by simp), [], 0, fun _ => rfl, s⟩
    unfold moreGrow; rw [hf]
  | succ n =>
    have w := s.wf
    have hfn : T.get h.next h.fams = none := by
      cases e : T.get h.next h.fams with
      | none => rfl
      | some F => have := w.f h.next (by rw [e]; simp); omega
    have hmk : mk h (growO h (n + 1)) (.sl h.next 0 0 none) = .ok (.sl h.next 0 0 none) (h.add (growO h (n + 1))) := by
      show (Bool.rec .bad (h.newC (growO h (n + 1)) fun h' => .ok (.sl h.next 0 0 none) h') (okSize (growO h (n + 1))) : OR) = _
      rw [show okSize (growO h (n + 1)) = true from rfl]
      show h.newC (growO h (n + 1)) (fun h' => OR.ok (.sl h.next 0 0 none) h') = _
      rw [newC_eq]
    refine ⟨.sl h.next 0 0 none, h.add (growO h (n + 1)), hc _ _ _ ?_ (by simp), [h.next], h.next, fun e => absurd e (by omega), ?_⟩
    · unfold moreGrow; rw [hf]
      show (if n < 4294967296 then mk h (growO h (n + 1)) (.sl h.next 0 0 none) else .bad) = _
      rw [if_pos (by omega), hmk]
    · have hz : (zerosV (n + 1)) = ((List.replicate (n + 1) [V.str 0 0]).flatten) := by
        unfold zerosV
        generalize n + 1 = m
        induction m with
        | zero => rfl
        | succ m ih => rw [List.replicate_succ, List.replicate_succ, List.flatten_cons, ← ih]; rfl
      refine s.turn (Fr.add h _ |>.wf w) (Nat.le_succ _) rfl rfl (fun b hb _ => get_add_old hb) (fun _ _ _ => rfl) (fun b hb => .inr (by simp [Fact.own] at hb; omega)) (by simp [Fact.own]) fun Z => ⟨?_, fun b hb => ?_⟩
      · have hlen : (([] : List (List V)).length + (List.replicate (n + 1) [V.str 0 0]).length) * 1 = (n + 1) * 1 := by simp
        refine AcuV.row (rows := []) (hid := List.replicate (n + 1) [V.str 0 0]) w.lim (by simp) (by simp) (by rw [get_add_new, hlen]; rfl) (fun i row hi => ?_) (fun row hm => by rw [List.nil_append] at hm; rw [List.eq_of_mem_replicate hm]; rfl) (fun F hF => ?_)
        · rw [List.nil_append] at hi
          have hlt := (List.getElem?_eq_some_iff.1 hi).1
          have hl2 : i < n + 1 := by simpa using hlt
          rw [hz, setRowsP_get 1 _ 0 _ T.e i (by simp) (by simp), if_pos ⟨by omega, by omega⟩, Nat.sub_zero, flatten_row i (fun r hr => by rw [List.eq_of_mem_replicate hr]; rfl) hi]
        · have hF : T.get h.next h.fams = some F := hF
          rw [hfn] at hF; cases hF
      · have : b = h.next := by simpa using hb
        subst this; rw [get_add_new]; simp
end
end Go.Eng
namespace Go.Eng
noncomputable section
section
variable {ev : Ev} {h : Heap}
theorem L.mksl {r bytes n : Nat} {zero : List V} {x y : A} (hx : ev x = .int .i64 (n : Int)) (hy : ev y = .int .i64 (n : Int)) (hfit : n * bytes ≤ 1099511627776) :
    light (.mksl r zero bytes x y) ev h = .new (.cells r h.next 0 (n * r) (setRowsP r n 0 (rep n zero) T.e)) (.sl h.next 0 n (some n)) := by
  show (match (ev x).asNat, (ev y).asNat with
    | some n, some m => force h.next fun b => bif n.ble m && (Nat.mul m bytes).ble 1099511627776 then setRows r m 0 (rep m zero) T.e fun t => LR.new (.cells r b 0 (Nat.mul m r) t) (.sl b 0 n (some m)) else .bad
    | _, _ => .bad) = _
  rw [hx, hy]
  show (force h.next fun b => bif n.ble n && (Nat.mul n bytes).ble 1099511627776 then setRows r n 0 (rep n zero) T.e fun t => LR.new (.cells r b 0 (Nat.mul n r) t) (.sl b 0 n (some n)) else .bad) = _
  have e1 : (n.ble n && (Nat.mul n bytes).ble 1099511627776) = true := by
    rw [show n.ble n = true from Nat.ble_eq_true_of_le (Nat.le_refl _), show (Nat.mul n bytes).ble 1099511627776 = true from Nat.ble_eq_true_of_le hfit]; rfl
  rw [force_eq, e1, cond_true, setRows_eq]; rfl
end
theorem rows_rep {r : Nat} {z : List V} (hr : 0 < r) (hz : z.length = r) (n : Nat) : ∀ i row, (List.replicate n z)[i]? = some row → T.get i (setRowsP r n 0 (rep n z) (T.e : T (List V))) = some row ∧ row.length = r := by
  intro i row hi
  have hlt := (List.getElem?_eq_some_iff.1 hi).1
  rw [List.length_replicate] at hlt
  rw [List.getElem?_replicate, if_pos hlt] at hi
  cases hi
  rw [setRowsP_get r _ _ _ _ i (by omega) (by omega), if_pos ⟨by omega, by omega⟩, rep_eq, Nat.sub_zero]
  refine ⟨congrArg some ?_, hz⟩
  exact flatten_row i (l := List.replicate n z) (fun row hm => by rw [(List.mem_replicate.1 hm).2]; exact hz) (by rw [List.getElem?_replicate, if_pos hlt])
section
variable {c : Ctx} {Q : QT} {env : Env} {h : Heap} {fs : List Fact} {vs : List V} {i j : D8}
/-- make of a slice: a block of its own -/
theorem WO.mkslF {l : List Opr} {r bytes n : Nat} {zero : List V} {x y : A} (st : St fs h) (hx : x.ev vs env = .int .i64 (n : Int)) (hy : y.ev vs env = .int .i64 (n : Int)) (hr : 0 < r) (hz : zero.length = r) (hfit : n * bytes ≤ 1099511627776)
    (K : ∀ b h1, St (.cel b r (List.replicate n zero) :: fs) h1 → WO c l Q (.sl b 0 n (some n) :: vs) env h1) : WO c (.p (.L (.mksl r zero bytes x y)) :: l) Q vs env h := by
  refine WO.new (L.mksl hx hy hfit) (okSize_cl hr) (K _ _ ?_)
  have := st.cel (r := r) (rows := List.replicate n zero) hr (rows_rep hr hz n)
  rw [List.length_replicate] at this; exact this
theorem WO.mkslFS {l : List Opr} {r bytes n : Nat} {zero : List V} {x y : A} (st : St fs h) (hx : x.ev vs env = .int .i64 (n : Int)) (hy : y.ev vs env = .int .i64 (n : Int)) (hr : 0 < r) (hz : zero.length = r) (hfit : n * bytes ≤ 1099511627776)
    (K : ∀ b h1, St (.cel b r (List.replicate n zero) :: fs) h1 → WO c l Q (.sl b 0 n (some n) :: vs) (Env.set i j (.sl b 0 n (some n)) env) h1) : WO c (.s i j (.L (.mksl r zero bytes x y)) :: l) Q vs env h := by
  refine WO.newS (L.mksl hx hy hfit) (okSize_cl hr) (K _ _ ?_)
  have := st.cel (r := r) (rows := List.replicate n zero) hr (rows_rep hr hz n)
  rw [List.length_replicate] at this; exact this
theorem WD.mkslF {l : List Opd} {lg : List Log} {uo : List Nat} {r bytes n : Nat} {zero : List V} {x y : A} (st : St fs h) (hx : x.ev vs env = .int .i64 (n : Int)) (hy : y.ev vs env = .int .i64 (n : Int)) (hr : 0 < r) (hz : zero.length = r) (hfit : n * bytes ≤ 1099511627776)
    (K : ∀ b h1 lo, St (.cel b r (List.replicate n zero) :: fs) h1 → WD c l Q (.sl b 0 n (some n) :: vs) (lo :: lg) env h1) : WD c (⟨.p (.L (.mksl r zero bytes x y)), uo⟩ :: l) Q vs lg env h := by
  refine WD.new (L.mksl hx hy hfit) (okSize_cl hr) (K _ _ _ ?_)
  have := st.cel (r := r) (rows := List.replicate n zero) hr (rows_rep hr hz n)
  rw [List.length_replicate] at this; exact this
end
section
variable {c : Ctx} {Q : QT} {env : Env} {h : Heap} {fs : List Fact} {vs : List V} {l : List Opr}
/-- one element of a block of its own is written -/
theorem WO.storeCelF {b k : Nat} {x y : A} {v : V} {rows : List (List V)} (st : St (.cel b 1 rows :: fs) h) (hx : x.ev vs env = .ptr b (0 + k * 1)) (hy : (y.ev vs env).asCells = some [v]) (hk : k < rows.length)
    (K : ∀ h1, St (.cel b 1 (rows.set k [v]) :: fs) h1 → WO c l Q (un :: vs) env h1) : WO c (.p (.H (.store 1 x y)) :: l) Q vs env h := by
  obtain ⟨t, h8, h1, h2, s3⟩ := St.putCel (v := v) (i := k) st hk
  exact WO.act (fun _ => L.storeC_ok (v := v) hx hy h8 h1 h2 hk) (K _ s3)
end
theorem St.snocG {gs l fs : List Fact} {x : Fact} {h : Heap} (s : St (x :: (gs ++ (l ++ fs))) h) : St (gs ++ ((l ++ [x]) ++ fs)) h := by
  refine s.perm ?_
  rw [List.append_assoc]
  exact (List.perm_middle (a := x) (l₁ := gs) (l₂ := l ++ fs)).symm.trans (List.Perm.append_left gs (List.perm_middle (a := x) (l₁ := l) (l₂ := fs)).symm)
theorem St.stb_app {gs fs : List Fact} {h : Heap} {P : Heap → Prop} (s : St (gs ++ fs) h) (k : Nat) (hk : fs[k]? = some (.stb P)) : P h :=
  s.stb_at (gs.length + k) (by rw [List.getElem?_append_right (Nat.le_add_right _ _), Nat.add_sub_cancel_left]; exact hk)
theorem acc_sl {f r n : Nat} {h : Heap} {v : V} {rows : List (List V)} (a : AccV f r h v rows) (hl : rows.length = n) (hn : n ≠ 0) : ∃ b, v = .sl b 0 n none := by
  subst hl
  cases a with
  | nil => exact absurd rfl hn
  | row a => exact ⟨_, rfl⟩
theorem acu_sl {bs : List Nat} {f r n : Nat} {h : Heap} {v : V} {rows : List (List V)} (a : AcuV bs f r h v rows) (hl : rows.length = n) (hn : n ≠ 0) : ∃ b, v = .sl b 0 n none := by
  subst hl
  cases a with
  | nil => exact absurd rfl hn
  | row => exact ⟨_, rfl⟩
theorem Rows.cap {r b o n : Nat} {h : Heap} {cap cap' : Option Nat} {rows : List (List V)} (a : Rows r h (.sl b o n cap) rows) : Rows r h (.sl b o n cap') rows := by
  cases a with
  | row hr hob ho hrow hsz hlen => exact .row hr hob ho hrow hsz hlen
/-! ### many facts ahead of others, turned about -/
theorem St.rot {gs l fs : List Fact} {t : Fact} {h : Heap} (s : St (gs ++ (t :: (l ++ fs))) h) : St (t :: (l ++ (fs ++ gs))) h := by
  have := s.perm (List.perm_append_comm (l₁ := gs) (l₂ := t :: (l ++ fs)))
  rw [List.cons_append, List.append_assoc] at this; exact this
theorem St.unrot {gs l fs : List Fact} {t : Fact} {h : Heap} (s : St (t :: (l ++ (fs ++ gs))) h) : St (gs ++ (t :: (l ++ fs))) h := by
  rw [← List.append_assoc, ← List.cons_append] at s
  exact s.perm List.perm_append_comm
theorem tabF_snoc {bs : List Nat} {M : List (List Bool)} (hl : bs.length = M.length) (b : Nat) (r : List Bool) : tabF (bs ++ [b]) (M ++ [r]) = tabF bs M ++ [celB b r] := by
  unfold tabF
  rw [List.zipWith_append hl]; rfl
/-- tables of truths, frozen -/
def bv (x : Bool) : List V := [.bool x]
def BRows (h : Heap) : List (List Bool) → List V → Prop
  | [], [] => True
  | r :: J, v :: vs => Rows 1 h v (r.map bv) ∧ BRows h J vs
  | _, _ => False
theorem BRows.at {h : Heap} : ∀ {J : List (List Bool)} {vs : List V}, BRows h J vs → ∀ {i : Nat} {r : List Bool}, J[i]? = some r → ∃ v, vs[i]? = some v ∧ Rows 1 h v (r.map bv)
  | [], [], _, i, r, hi => by simp at hi
  | [], _ :: _, h, _, _, _ => h.elim
  | _ :: _, [], h, _, _, _ => h.elim
  | a :: J, v :: vs, h, 0, r, hi => by simp at hi; subst hi; exact ⟨v, rfl, h.1⟩
  | a :: J, v :: vs, h, i + 1, r, hi => by
    obtain ⟨w, h1, h2⟩ := h.2.at (i := i) (r := r) (by simpa using hi)
    exact ⟨w, by simpa using h1, h2⟩
theorem BRows.len {h : Heap} : ∀ {J : List (List Bool)} {vs : List V}, BRows h J vs → vs.length = J.length
  | [], [], _ => rfl
  | [], _ :: _, h => h.elim
  | _ :: _, [], h => h.elim
  | _ :: _, _ :: _, h => by simp [h.2.len]
def BTab (h : Heap) (v : V) (J : List (List Bool)) : Prop := ∃ vs : List V, Rows 1 h v (vs.map fun x => [x]) ∧ BRows h J vs
theorem tab_freeze {n : Nat} : ∀ {bs : List Nat} {M : List (List Bool)} {fs : List Fact} {h : Heap}, bs.length = M.length → (∀ r ∈ M, r.length = n) → St (tabF bs M ++ fs) h → St (.stb (fun h => BRows h M (bs.map fun b => .sl b 0 n (some n))) :: fs) h
  | [], [], fs, h, _, _, s => s.triv fun h => trivial
  | [], _ :: _, _, _, hl, _, _ => by simp at hl
  | _ :: _, [], _, _, hl, _, _ => by simp at hl
  | b :: bs, r :: M, fs, h, hl, hr, s => by
    have s1 : St (.cel b 1 (r.map bv) :: (tabF bs M ++ fs)) h := s
    have s2 := s1.celStill (some n)
    rw [List.length_map, hr r (by simp)] at s2
    have s3 : St (tabF bs M ++ .stb (fun h => Rows 1 h (.sl b 0 n (some n)) (r.map bv)) :: fs) h := s2.in_
    have s4 := tab_freeze (n := n) (by simpa using hl) (fun r hm => hr r (by simp [hm])) s3
    have s5 := (s4.pick 1 rfl).and
    exact s5
theorem MatV.of {h : Heap} {lb lo n : Nat} {cap : Option Nat} {M : List (List Bool)} (sq : Sq n M) (t : BTab h (.sl lb lo n cap) M) : MatV lb lo n M h := by
  obtain ⟨vs, hv, hb⟩ := t
  intro a ha
  obtain ⟨r, hr, hl⟩ := sq.at ha
  obtain ⟨v, h1, h2⟩ := hb.at hr
  have h3 := hv.load1 (i := a) (x := v) (by rw [List.getElem?_map, h1]; rfl)
  have hv2 := h2
  have hlen := h2.len
  rw [List.length_map, hl] at hlen
  rcases hlen with ⟨rfl, e⟩ | ⟨rb, ro, rcap, rfl⟩
  · have : r = [] := by simpa using e
    subst this; simp at hl; omega
  · refine ⟨rb, ro, rcap, h3, fun b hb' => ?_⟩
    obtain ⟨x, hx⟩ : ∃ x, r[b]? = some x := ⟨r[b]'(by omega), List.getElem?_eq_getElem (by omega)⟩
    have := h2.load1 (i := b) (x := .bool x) (by rw [List.getElem?_map, hx]; rfl)
    rw [this, Lab.at2_some hr, hx]; rfl
/-! ### pairs that are read: a name, a label, a place -/
abbrev Prm := Lab.Txt × Lab.Txt × Int
def prow (p : Prm) : List V := [L.str p.1, L.str p.2.1, .int .i64 p.2.2]
def pr (l : List Prm) : List (Lab.Txt × Lab.Txt) := l.map fun p => (p.1, p.2.1)
def PRows (h : Heap) (v : V) (ps : List Prm) : Prop := (v = .slN ∧ ps = []) ∨ ∃ b o cap, v = .sl b o ps.length cap ∧ ∀ i p, ps[i]? = some p → h.load b (o + i * 3) 3 = some (prow p) ∧ ∀ j x, (prow p)[j]? = some x → h.load1 b (o + i * 3 + j) = some x
theorem PRows.sl {h : Heap} {v : V} {ps : List Prm} (a : PRows h v ps) {i : Nat} (hi : i < ps.length) : v = .sl (slB v) (slO v) ps.length (slC v) := by
  rcases a with ⟨_, rfl⟩ | ⟨b, o, cap, rfl, _⟩
  · simp at hi
  · rfl
theorem L.llenP {h : Heap} {v : V} {ps : List Prm} {ev : Ev} {x : A} (hx : ev x = v) (a : PRows h v ps) : light (.len false x) ev h = .val (.int .i64 (ps.length : Int)) := by
  rcases a with ⟨rfl, rfl⟩ | ⟨b, o, cap, rfl, _⟩
  · exact L.llenN hx
  · exact L.llen hx
theorem L.iaddrP {h : Heap} {v : V} {ps : List Prm} (a : PRows h v ps) {i : Nat} (hi : i < ps.length) {ev : Ev} {x y : A} (hx : ev x = v) (hy : ev y = .int .i64 (i : Int)) : light (.iaddr 3 x y) ev h = .val (.ptr (slB v) (slO v + i * 3)) :=
  L.iaddr (hx.trans (a.sl hi)) hy hi
theorem PRows.at {h : Heap} {v : V} {ps : List Prm} (a : PRows h v ps) {i : Nat} {p : Prm} (hp : ps[i]? = some p) : h.load (slB v) (slO v + i * 3) 3 = some (prow p) := by
  rcases a with ⟨_, rfl⟩ | ⟨b, o, cap, rfl, ha⟩
  · simp at hp
  · exact (ha i p hp).1
theorem PRows.at1 {h : Heap} {v x : V} {ps : List Prm} (a : PRows h v ps) {i j : Nat} {p : Prm} (hp : ps[i]? = some p) (hj : (prow p)[j]? = some x) : h.load1 (slB v) (slO v + i * 3 + j) = some x := by
  rcases a with ⟨_, rfl⟩ | ⟨b, o, cap, rfl, ha⟩
  · simp at hp
  · exact (ha i p hp).2 j x hj
theorem PRows.of {h : Heap} {v : V} {ps : List Prm} (a : Rows 3 h v (ps.map prow)) : PRows h v ps := by
  have hl := a.len
  rw [List.length_map] at hl
  rcases hl with ⟨rfl, e⟩ | ⟨b, o, cap, rfl⟩
  · exact .inl ⟨rfl, by simpa using e⟩
  · exact .inr ⟨b, o, cap, rfl, fun i p hp => ⟨a.loadn (by rw [List.getElem?_map, hp]; rfl), fun j x hj => a.load1F (row := prow p) (by rw [List.getElem?_map, hp]; rfl) hj⟩⟩
namespace Lab
theorem raw_take {ps : List Prm} {i : Nat} {p : Prm} (h : ps[i]? = some p) : raw (pr (ps.take (i + 1))) = raw (pr (ps.take i)) ++ (if p.2.1 = [] then [p.1] else [p.1, p.2.1]) := by
  unfold raw pr
  rw [List.take_add_one, h, List.map_append, List.flatMap_append]
  simp
theorem raw_len (l : List (Txt × Txt)) : (raw l).length ≤ 2 * l.length := by
  unfold raw
  induction l with
  | nil => exact Nat.le_refl _
  | cons p l ih =>
    rw [List.flatMap_cons, List.length_append, List.length_cons]
    split
    · rw [List.length_singleton]; omega
    · rw [show [p.1, p.2].length = 2 from rfl]; omega
def tableK (ns : List Txt) (l : List (Txt × Txt)) : List (List Bool) := table ns l
theorem table_take {ns : List Txt} {ps : List Prm} {i : Nat} {p : Prm} (h : ps[i]? = some p) : table ns (pr (ps.take (i + 1))) = putP ns (table ns (pr (ps.take i))) (p.1, p.2.1) := by
  unfold table pr
  rw [List.take_add_one, h, List.map_append, List.foldl_append]
  rfl
def unitK (n k : Nat) : List (List Bool) := (List.range k).map fun a => (List.replicate n false).set a true
theorem unitK_succ (n k : Nat) : unitK n (k + 1) = unitK n k ++ [(List.replicate n false).set k true] := by unfold unitK; rw [List.range_succ, List.map_append]; rfl
theorem unitK_len (n k : Nat) : (unitK n k).length = k := by simp [unitK]
theorem names_len (l : List (Txt × Txt)) : (names l).length ≤ (raw l).length := by
  have := uniq_len (sortB (raw l))
  rw [(sortB_perm (raw l)).length_eq] at this; exact this
end Lab
end
end Go.Eng
namespace Go.Eng
noncomputable section
/-! ### lattices in memory; rows of bytes -/
structure Lat where
  ns : List Lab.Txt
  M : List (List Bool)
  J : List (List Nat)
  K : List (List Nat)
  lo : Nat
  hi : Nat
def Lat.none : Lat := ⟨[], [], [], [], 0, 0⟩
def Lat.num (t : Lat) (vN vL vJ vK : V) : List V := [vN, vL, vJ, vK, .int .i64 (t.lo : Int), .int .i64 (t.hi : Int)]
structure LatR (h : Heap) (vN vL vJ vK : V) (t : Lat) : Prop where
  N : Rows 1 h vN (SR t.ns)
  L : BTab h vL t.M
  J : ITab h vJ t.J
  K : ITab h vK t.K
def smallT {α : Type} (l : List (List α)) : Prop := l.length < 4294967296 ∧ ∀ r ∈ l, r.length < 4294967296
structure Lat.small (t : Lat) : Prop where
  N : t.ns.length < 4294967296
  L : smallT t.M
  J : smallT t.J
  K : smallT t.K
theorem LatR.none (h : Heap) : LatR h .slN .slN .slN .slN Lat.none := ⟨.nil, ⟨[], .nil, trivial⟩, ⟨[], .nil, trivial⟩, ⟨[], .nil, trivial⟩⟩
theorem Lat.none_small : Lat.none.small := ⟨by decide, ⟨by decide, fun r hr => by cases hr⟩, ⟨by decide, fun r hr => by cases hr⟩, ⟨by decide, fun r hr => by cases hr⟩⟩
section
variable {h : Heap} {v : V}
theorem BTab.at {M : List (List Bool)} (t : BTab h v M) {i : Nat} {r : List Bool} (hr : M[i]? = some r) : ∃ u, h.load1 (slB v) (slO v + i * 1) = some u ∧ Rows 1 h u (r.map bv) := by
  obtain ⟨vs, hv, hb⟩ := t
  obtain ⟨u, h1, h2⟩ := hb.at hr
  exact ⟨u, hv.load1Z (by rw [List.getElem?_map, h1]; rfl), h2⟩
theorem ITab.at {M : List (List Nat)} (t : ITab h v M) {i : Nat} {r : List Nat} (hr : M[i]? = some r) : ∃ u, h.load1 (slB v) (slO v + i * 1) = some u ∧ Rows 1 h u (r.map iv) := by
  obtain ⟨vs, hv, hb⟩ := t
  obtain ⟨u, h1, h2⟩ := hb.at hr
  exact ⟨u, hv.load1Z (by rw [List.getElem?_map, h1]; rfl), h2⟩
variable {ev : Ev} {x y : A}
theorem L.iaddrZ {rows : List (List V)} (R : Rows 1 h v rows) {k : Nat} (hk : k < rows.length) (hx : ev x = v) (hy : ev y = .int .i64 (k : Int)) : light (.iaddr 1 x y) ev h = .val (.ptr (slB v) (slO v + k * 1)) := L.iaddr (hx.trans (R.sl hk)) hy hk
theorem L.llenBT {M : List (List Bool)} (hx : ev x = v) (t : BTab h v M) : light (.len false x) ev h = .val (.int .i64 (M.length : Int)) := by
  obtain ⟨vs, hv, hb⟩ := t
  exact L.llenRn hx hv (by rw [List.length_map, hb.len])
theorem L.llenIT {M : List (List Nat)} (hx : ev x = v) (t : ITab h v M) : light (.len false x) ev h = .val (.int .i64 (M.length : Int)) := by
  obtain ⟨vs, hv, hb⟩ := t
  exact L.llenRn hx hv (by rw [List.length_map, hb.len])
theorem L.iaddrBT {M : List (List Bool)} (t : BTab h v M) {k : Nat} (hk : k < M.length) (hx : ev x = v) (hy : ev y = .int .i64 (k : Int)) : light (.iaddr 1 x y) ev h = .val (.ptr (slB v) (slO v + k * 1)) := by
  obtain ⟨vs, hv, hb⟩ := t
  exact L.iaddrZ hv (by rw [List.length_map, hb.len]; exact hk) hx hy
theorem L.iaddrIT {M : List (List Nat)} (t : ITab h v M) {k : Nat} (hk : k < M.length) (hx : ev x = v) (hy : ev y = .int .i64 (k : Int)) : light (.iaddr 1 x y) ev h = .val (.ptr (slB v) (slO v + k * 1)) := by
  obtain ⟨vs, hv, hb⟩ := t
  exact L.iaddrZ hv (by rw [List.length_map, hb.len]; exact hk) hx hy
/-- a row of bytes that is read alone -/
def ByRows (h : Heap) (v : V) (l : List UInt8) : Prop := (v = .slN ∧ l = []) ∨ ∃ b o cap, v = .sl b o l.length cap ∧ ∀ i x, l[i]? = some x → h.load1 b (o + i * 1) = some (byV x)
theorem ByRows.sl {l : List UInt8} (a : ByRows h v l) {i : Nat} (hi : i < l.length) : v = .sl (slB v) (slO v) l.length (slC v) := by
  rcases a with ⟨_, rfl⟩ | ⟨b, o, cap, rfl, _⟩
  · simp at hi
  · rfl
theorem L.llenBy {l : List UInt8} (hx : ev x = v) (a : ByRows h v l) : light (.len false x) ev h = .val (.int .i64 (l.length : Int)) := by
  rcases a with ⟨rfl, rfl⟩ | ⟨b, o, cap, rfl, _⟩
  · exact L.llenN hx
  · exact L.llen hx
theorem L.iaddrBy {l : List UInt8} (a : ByRows h v l) {i : Nat} (hi : i < l.length) (hx : ev x = v) (hy : ev y = .int .i64 (i : Int)) : light (.iaddr 1 x y) ev h = .val (.ptr (slB v) (slO v + i * 1)) := L.iaddr (hx.trans (a.sl hi)) hy hi
theorem ByRows.at {l : List UInt8} (a : ByRows h v l) {i : Nat} {b : UInt8} (hp : l[i]? = some b) : h.load1 (slB v) (slO v + i * 1) = some (.int .u8 (b.toNat : Int)) := by
  rcases a with ⟨_, rfl⟩ | ⟨b, o, cap, rfl, ha⟩
  · simp at hp
  · exact ha i _ hp
theorem ByRows.of {l : List UInt8} {a : V} {o : Obj} (hb : BArg 0 l a o) {h : Heap} (ho : T.get 0 h.t = some o) : ByRows h a l := by
  cases hb with
  | nil => exact .inl ⟨rfl, rfl⟩
  | zero => exact .inr ⟨0, 0, none, rfl, fun i x hx => by simp at hx⟩
  | some hne cap => exact .inr ⟨0, 0, some cap, rfl, fun i x hx => by rw [Nat.mul_one, Nat.zero_add]; exact barg_load ho hx⟩
/-! ### LabelOrders' pairs -/
namespace Lab
def lt (ns : List UInt8) (i : Nat) : Txt := [UInt8.ofNat (97 + (ns[i]?.getD 0).toNat % 6)]
def pairsK (ns : List UInt8) (k : Nat) : List (Txt × Txt) := (List.range k).map fun j => (lt ns (2 * j), lt ns (2 * j + 1))
def pairs (ns : List UInt8) : List (Txt × Txt) := pairsK ns (ns.length / 2)
theorem pairsK_succ (ns : List UInt8) (k : Nat) : pairsK ns (k + 1) = pairsK ns k ++ [(lt ns (2 * k), lt ns (2 * k + 1))] := by unfold pairsK; rw [List.range_succ, List.map_append]; rfl
theorem pairsK_len (ns : List UInt8) (k : Nat) : (pairsK ns k).length = k := by simp [pairsK]
theorem lt_at {ns : List UInt8} {i : Nat} {b : UInt8} (h : ns[i]? = some b) : lt ns i = [UInt8.ofNat (97 + b.toNat % 6)] := by unfold lt; rw [h]; rfl
theorem pairs_two (ns : List UInt8) : ∀ p ∈ pairs ns, p.2 ≠ [] := by
  intro p hp
  obtain ⟨j, _, rfl⟩ := List.mem_map.1 hp
  exact List.cons_ne_nil _ _
/-- the other way round, twice: those from j on -/
def downP (l : List (Txt × Txt)) (j : Nat) : List (Txt × Txt) := (l.drop j).reverse.flatMap fun p => [p, p]
theorem downP_all (l : List (Txt × Txt)) : downP l l.length = [] := by unfold downP; rw [List.drop_length]; rfl
theorem downP_step {l : List (Txt × Txt)} {q : Nat} {p : Txt × Txt} (h : l[q]? = some p) : downP l q = downP l (q + 1) ++ [p, p] := by
  unfold downP
  obtain ⟨hl, rfl⟩ := List.getElem?_eq_some_iff.1 h
  rw [List.drop_eq_getElem_cons hl, List.reverse_cons, List.flatMap_append]; rfl
theorem downP_len (l : List (Txt × Txt)) (j : Nat) : (downP l j).length ≤ 2 * l.length := by
  unfold downP
  have : ∀ m : List (Txt × Txt), (m.flatMap fun p => [p, p]).length = 2 * m.length := fun m => by
    induction m with
    | nil => rfl
    | cons a m ih => rw [List.flatMap_cons, List.length_append, ih, List.length_cons]; simp only [List.length_cons, List.length_nil]; omega
  rw [this, List.length_reverse, List.length_drop]; omega
def folQ (l : List (Txt × Txt)) (p : Txt × Txt) (k : Nat) : List (Txt × Txt) := (l.take k).flatMap fun q => if p.2 = q.1 then [(p.1, q.2)] else []
def folP (l : List (Txt × Txt)) (i : Nat) : List (Txt × Txt) := (l.take i).flatMap fun p => folQ l p l.length
theorem folQ_step {l : List (Txt × Txt)} {p q : Txt × Txt} {k : Nat} (h : l[k]? = some q) : folQ l p (k + 1) = folQ l p k ++ (if p.2 = q.1 then [(p.1, q.2)] else []) := by
  unfold folQ
  rw [List.take_add_one, h, List.flatMap_append]; simp
theorem folP_step {l : List (Txt × Txt)} {p : Txt × Txt} {i : Nat} (h : l[i]? = some p) : folP l (i + 1) = folP l i ++ folQ l p l.length := by
  unfold folP
  rw [List.take_add_one, h, List.flatMap_append]; simp
theorem flat_le {α β : Type} {f : α → List β} {n : Nat} : ∀ {l : List α}, (∀ x ∈ l, (f x).length ≤ n) → (l.flatMap f).length ≤ l.length * n
  | [], _ => Nat.zero_le _
  | a :: l, h => by
    have h1 := h a (by simp)
    have h2 := flat_le (l := l) (fun x hx => h x (by simp [hx]))
    rw [List.flatMap_cons, List.length_append, List.length_cons, Nat.add_mul]; omega
theorem folQ_len (l : List (Txt × Txt)) (p : Txt × Txt) (k : Nat) : (folQ l p k).length ≤ l.length := by
  have := flat_le (l := l.take k) (f := fun q => if p.2 = q.1 then [(p.1, q.2)] else []) (n := 1) (fun x _ => by split <;> simp)
  rw [List.length_take] at this
  unfold folQ; omega
theorem folP_len (l : List (Txt × Txt)) (i : Nat) : (folP l i).length ≤ l.length * l.length := by
  have h1 := flat_le (l := l.take i) (f := fun p => folQ l p l.length) (n := l.length) (fun x _ => folQ_len l x _)
  have h2 : (l.take i).length * l.length ≤ l.length * l.length := Nat.mul_le_mul_right _ (by rw [List.length_take]; omega)
  unfold folP; omega
theorem turned_is (l : List (Txt × Txt)) : downP l 0 ++ folP l l.length = turned l := by
  unfold turned downP folP follow folQ
  rw [List.drop_zero, List.take_length]
end Lab
/-- pairs with no place -/
def p0 (l : List (Lab.Txt × Lab.Txt)) : List Prm := l.map fun p => (p.1, p.2, 0)
theorem pr_p0 (l : List (Lab.Txt × Lab.Txt)) : pr (p0 l) = l := by unfold pr p0; rw [List.map_map]; exact List.map_id _
theorem p0_len (l : List (Lab.Txt × Lab.Txt)) : (p0 l).length = l.length := List.length_map _
theorem p0_at {l : List (Lab.Txt × Lab.Txt)} {i : Nat} {p : Lab.Txt × Lab.Txt} (h : l[i]? = some p) : (p0 l)[i]? = some (p.1, p.2, 0) := by unfold p0; rw [List.getElem?_map, h]; rfl
/-- rows of pairs -/
def QPr (l : List (Lab.Txt × Lab.Txt)) : List (List V) := (p0 l).map prow
theorem QPr_len (l : List (Lab.Txt × Lab.Txt)) : (QPr l).length = l.length := by unfold QPr p0; rw [List.length_map, List.length_map]
theorem QPr_app (a b : List (Lab.Txt × Lab.Txt)) : QPr (a ++ b) = QPr a ++ QPr b := by unfold QPr p0; rw [List.map_append, List.map_append]
theorem QPr_two (p q : Lab.Txt × Lab.Txt) : QPr [p, q] = [prow (p.1, p.2, 0), prow (q.1, q.2, 0)] := rfl
theorem QPr_one (x y : Lab.Txt) : QPr [(x, y)] = [[L.str x, L.str y, .int .i64 0]] := rfl
/-- what pairs come to: a lattice, or none and why -/
def mkLat (l : List (Lab.Txt × Lab.Txt)) : Lat := match (Lab.made l).2 with
  | some x => ⟨Lab.names l, Lab.order l, Lab.joinT (Lab.names l).length (Lab.order l) (Lab.names l).length, Lab.meetT (Lab.names l).length (Lab.order l) (Lab.names l).length, x.1, x.2⟩
  | none => Lat.none
theorem mkLat_small (l : List (Lab.Txt × Lab.Txt)) : (mkLat l).small := by
  unfold mkLat
  cases h : (Lab.made l).2 with
  | none => exact Lat.none_small
  | some x =>
    have hn : (Lab.names l).length ≤ 12 := by
      unfold Lab.made at h
      split at h
      · cases h
      · split at h
        · cases h
        · omega
    have sq := Lab.closed_sq (Lab.table_sq (Lab.names l) l) _ (Nat.le_refl _)
    have e1 : ∀ r ∈ Lab.order l, r.length = (Lab.names l).length := sq.row
    have e2 : (Lab.order l).length = (Lab.names l).length := sq.len
    refine ⟨by show (Lab.names l).length < _; omega, ⟨by show (Lab.order l).length < _; omega, fun r hr => by rw [e1 r hr]; omega⟩, ⟨?_, fun r hr => ?_⟩, ⟨?_, fun r hr => ?_⟩⟩
    · show (Lab.joinT _ _ _).length < _
      unfold Lab.joinT; rw [List.length_map, List.length_range]; omega
    · obtain ⟨a, _, rfl⟩ := List.mem_map.1 hr
      unfold Lab.joinRow; rw [List.length_map, List.length_range]; omega
    · show (Lab.meetT _ _ _).length < _
      unfold Lab.meetT; rw [List.length_map, List.length_range]; omega
    · obtain ⟨a, _, rfl⟩ := List.mem_map.1 hr
      unfold Lab.meetRow; rw [List.length_map, List.length_range]; omega
theorem mkLat_turned {l : List (Lab.Txt × Lab.Txt)} (hl : ∀ p ∈ l, p.2 ≠ []) : mkLat (Lab.turned l) = mkLat l := by
  unfold mkLat; rw [Lab.turned_made hl, Lab.turned_order hl, Lab.turned_names hl]
end
end
end Go.Eng
namespace Go.Eng
noncomputable section
/-! ### a law with an argument that is a slice of rows of cells, only read -/
inductive FArg (j : Nat) : List (List V) → V → Obj → Prop where
  | nil : FArg j [] .slN .dead
  | zero : FArg j [] (.sl j 0 0 none) .dead
  | some {l : List (List V)} (h : l ≠ []) (cap : Nat) : FArg j l (.sl j 0 l.length (some cap)) (.box l.flatten)
theorem flat_at {r : Nat} {l : List (List V)} (hl : ∀ row ∈ l, row.length = r) {i k : Nat} {row : List V} (hi : l[i]? = some row) (hk : k < r) : l.flatten[i * r + k]? = row[k]? := by
  have := congrArg (fun x : List V => x[k]?) (flatten_row i hl hi)
  simp only [List.getElem?_take, List.getElem?_drop, if_pos hk] at this
  exact this
/-- a slice of such rows in memory, none of its cells frozen -/
def Flat {α : Type} (r : Nat) (val : α → List Value) (w : World) (v : Value) : Prop := v = .slice none 0 0 ∨ ∃ (a : Addr) (len cap : Nat), v = .slice (some a) len cap ∧ len ≤ cap ∧ (0 < cap → a.spot = none ∧ a.block < w.heap.size) ∧
  ∀ i, i < len → ∃ x : α, ∀ k, k < r → ∃ y, (val x)[k]? = some y ∧ w.cell? ⟨a.block, a.off + (i * r + k), none⟩ = some y ∧ w.frozen? ⟨a.block, a.off + (i * r + k), none⟩ = false
structure FEnc {α : Type} (r : Nat) (en : α → List V) (val : α → List Value) : Prop where
  pos : 0 < r
  len : ∀ x, (en x).length = r
  rel : ∀ (x : α) (k : Nat) (u : V) (y : Value), (en x)[k]? = some u → (val x)[k]? = some y → (∀ ι, vrel ι u y) ∧ y.oneCell' = true
theorem flat_arg {α : Type} {r : Nat} {en : α → List V} {val : α → List Value} (he : FEnc r en val) {w : World} (hw : 0 < w.heap.size) (j : Nat) {v : Value} (hv : Flat r val w v) : ∃ (l : List α) (a : V) (o : Obj) (B : Option Blk), FArg j (l.map en) a o ∧ Arg w j v a o B := by
  rcases hv with rfl | ⟨a, len, cap, rfl, hle, hspot, hc⟩
  · exact ⟨[], .slN, .dead, none, .nil, fun ι _ => rfl, fun _ B' e => (by cases e), fun B' e => (by cases e), fun B' e => (by cases e)⟩
  by_cases h0 : len = 0
  · subst h0
    by_cases hcap : cap = 0
    · subst hcap
      refine ⟨[], _, _, some ⟨0, 0, 0, 1, 0, j, 0⟩, .zero, fun ι e => ⟨_, _, _, e, rfl, ?_⟩, fun _ B' e => trivial, fun B' e => ?_, fun B' e => ?_⟩
      · exact ⟨by simp, by simp, Nat.one_pos, Nat.le_refl _, .inr rfl⟩
      · cases e; exact hw
      · cases e; rfl
    · obtain ⟨hs, hb⟩ := hspot (by omega)
      refine ⟨[], _, _, some ⟨a.block, a.off, 0, 1, cap, j, 0⟩, .zero, fun ι e => ⟨_, _, _, e, rfl, ?_⟩, fun _ B' e => trivial, fun B' e => ?_, fun B' e => ?_⟩
      · refine ⟨by simp, by simp, Nat.one_pos, Nat.zero_le _, .inl ?_⟩
        obtain ⟨x, y, z⟩ := a
        cases hs; rfl
      · cases e; exact hb
      · cases e; rfl
  obtain ⟨hs, hb⟩ := hspot (by omega)
  obtain ⟨x0, _⟩ := hc 0 (by omega)
  haveI : Inhabited α := ⟨x0⟩
  obtain ⟨f, hf⟩ := Go.Deep.choose_lt (α := α) hc
  have ha : (⟨a.block, a.off, none⟩ : Addr) = a := by obtain ⟨x, y, z⟩ := a; cases hs; rfl
  have hpos := he.pos
  have hat : ∃ cs el fr, w.heap[a.block]? = some (.cells cs el fr) ∧ ∀ i k, i < len → k < r → ∃ y, (val (f i))[k]? = some y ∧ cs[a.off + (i * r + k)]? = some y := by
    obtain ⟨y0, _, e0, _⟩ := hf 0 (by omega) 0 hpos
    obtain ⟨cs, el, fr, e1, _⟩ := cells_of w e0
    refine ⟨cs, el, fr, e1, fun i k hi hk => ?_⟩
    obtain ⟨y, ey, e2, _⟩ := hf i hi k hk
    obtain ⟨cs', el', fr', e1', e2'⟩ := cells_of w e2
    rw [e1] at e1'; cases e1'
    exact ⟨y, ey, e2'⟩
  obtain ⟨cs, el, fr, e1, hat⟩ := hat
  let l := (List.range len).map f
  have hl : (l.map en).length = len := by simp [l]
  have hrow : ∀ row ∈ l.map en, row.length = r := fun row hm => by obtain ⟨x, _, rfl⟩ := List.mem_map.1 hm; exact he.len x
  have hflen : (l.map en).flatten.length = len * r := by rw [flatten_len hrow, hl]
  have hfl : ∀ i k, i < len → k < r → (l.map en).flatten[i * r + k]? = (en (f i))[k]? := fun i k hi hk => flat_at hrow (by simp [l, hi]) hk
  have hlt : ∀ m, m < len * r → m / r < len ∧ m % r < r ∧ m = m / r * r + m % r := fun m hm => ⟨(Nat.div_lt_iff_lt_mul hpos).2 hm, Nat.mod_lt _ hpos, (Nat.div_add_mod' m r).symm⟩
  refine ⟨l, .sl j 0 (l.map en).length (some cap), .box (l.map en).flatten, some ⟨a.block, a.off, len * r, 0, 0, j, 0⟩, .some (fun e => by rw [e] at hl; simp at hl; omega) cap, fun ι e => ?_, fun ι B' e => ?_, fun B' e => ?_, fun B' e => ?_⟩
  · rw [hl]; exact ⟨_, _, _, e, rfl, rfl, ha.symm, hle⟩
  · cases e
    refine ⟨cs, el, fr, e1, ?_, hflen.symm, ?_, trivial, fun i v hi => ?_⟩
    · show (if isBox (.box _) then _ else _)
      rw [if_pos (show isBox (.box _) = true from rfl)]
      intro k k1 k2 k3
      have k2 : k < a.off + (l.map en).flatten.length := k2
      rw [hflen] at k2
      have k1 : a.off ≤ k := k1
      obtain ⟨m1, m2, m3⟩ := hlt (k - a.off) (by omega)
      obtain ⟨y, _, _, hz⟩ := hf _ m1 _ m2
      rw [← m3, show a.off + (k - a.off) = k by omega] at hz
      simp only [World.frozen?, e1] at hz
      simp at hz
      have := hz k3.1
      omega
    · show a.off + (l.map en).flatten.length ≤ cs.size
      rw [hflen]
      obtain ⟨m1, m2, m3⟩ := hlt (len * r - 1) (by have := Nat.mul_pos (show 0 < len by omega) hpos; omega)
      obtain ⟨y, _, hy⟩ := hat _ _ m1 m2
      rw [← m3] at hy
      have := (Array.getElem?_eq_some_iff.1 hy).1
      have := Nat.mul_pos (show 0 < len by omega) hpos
      omega
    · have hi2 : (l.map en).flatten[i]? = some v := hi
      have hi' : i < len * r := by have := (List.getElem?_eq_some_iff.1 hi2).1; omega
      obtain ⟨m1, m2, m3⟩ := hlt i hi'
      obtain ⟨y, ey, hy⟩ := hat _ _ m1 m2
      rw [m3, hfl _ _ m1 m2] at hi2
      obtain ⟨k1, k2⟩ := he.rel _ _ _ _ hi2 ey
      refine ⟨y, ?_, k2, k1 ι⟩
      rw [m3]; exact hy
  · cases e; exact hb
  · cases e; rfl
theorem law_runsF {α : Type} {r : Nat} {en : α → List V} {val : α → List Value} (hec : FEnc r en val) {P : Program} {w : World} (hmx : P.follows .mixedOrders = true) {funs : T Fun} {dfuns : T FunD} {more : Nat → List V → Heap → OR} (hf : allT (chkF P) funs = true) (hd : allT (chkFD P) dfuns = true) (hm : MoreOk P more)
    {f : Nat} (he : ∀ (l : List α) (a : V) (o : Obj), FArg 0 (l.map en) a o → RunP (Ctx.of funs dfuns more) f [a] (heap1 o) fun v _ => v = .bool true) (hw : 0 < w.heap.size) {v : Value} (hv : Flat r val w v) :
    Calls P f #[v] w fun e w' => e = .returned (.bool true) ∧ Kept w w' := by
  obtain ⟨l, a, o, B, hb, ha⟩ := flat_arg hec hw 0 hv
  exact law_runsA hmx hf hd hm inj1_lt (good1 ha) (he l a o hb) ⟨v, [], rfl, ha.rel _ rfl, rfl⟩
/-! ### names, labels, places -/
def pval (p : Prm) : List Value := [.string ⟨p.1.toArray⟩, .string ⟨p.2.1.toArray⟩, .int .i64 p.2.2]
theorem str_rel (ι : Inj) (s : List UInt8) : vrel ι (L.str s) (.string ⟨s.toArray⟩) := ⟨_, rfl, by show s.toArray.toList.length = _; simp, by show enc s.toArray.toList = _; simp⟩
theorem penc : FEnc 3 prow pval := ⟨by decide, fun _ => rfl, fun x k u y hu hy => by
  match k with
  | 0 => cases hu; cases hy; exact ⟨fun ι => str_rel ι _, rfl⟩
  | 1 => cases hu; cases hy; exact ⟨fun ι => str_rel ι _, rfl⟩
  | 2 => cases hu; cases hy; exact ⟨fun ι => rfl, rfl⟩
  | k + 3 => simp [prow] at hu⟩
theorem PRows.arg {ps : List Prm} {a : V} {o : Obj} (hb : FArg 0 (ps.map prow) a o) {h : Heap} (ho : T.get 0 h.t = some o) : PRows h a ps := by
  generalize hl : ps.map prow = l at hb
  cases hb with
  | nil => exact .inl ⟨rfl, by simpa using hl⟩
  | zero =>
    obtain rfl : ps = [] := by simpa using hl
    exact .inr ⟨0, 0, none, rfl, fun i p hp => by simp at hp⟩
  | some hne cap =>
    have hlen : l.length = ps.length := by rw [← hl, List.length_map]
    rw [hlen]
    have hrow : ∀ row ∈ l, row.length = 3 := fun row hm => by rw [← hl] at hm; obtain ⟨x, _, rfl⟩ := List.mem_map.1 hm; rfl
    refine .inr ⟨0, 0, some cap, rfl, fun i p hp => ?_⟩
    have hi : l[i]? = some (prow p) := by rw [← hl, List.getElem?_map, hp]; rfl
    have hil := (List.getElem?_eq_some_iff.1 hi).1
    have hfl := flatten_len hrow
    rw [Nat.zero_add]
    refine ⟨L.load_box ho rfl (by rw [lenV_eq, hfl]; exact Nat.ble_eq_true_of_le (by show i * 3 + 3 ≤ _; omega)) (by rw [dropV_eq, takeV_eq]; exact flatten_row i hrow hi), fun j x hj => L.load1_box ho ?_⟩
    have hj3 : j < 3 := by have := (List.getElem?_eq_some_iff.1 hj).1; simpa [prow] using this
    rw [hd_eq, dropV_eq, List.head?_drop, flat_at hrow hi hj3]; exact hj
end
end Go.Eng
namespace Go.Eng
noncomputable section
namespace Lab
/-! ### the reference's lattice; its names -/
theorem least_some {n : Nat} {le : Nat → Nat → Bool} {is : Nat → Bool} {x : Nat} (h : least n le is = some x) : x < n ∧ is x = true ∧ ∀ d, d < n → is d = true → le x d = true := by
  unfold least at h
  have h1 := List.find?_some h
  have h2 := List.mem_of_find?_eq_some h
  rw [Bool.and_eq_true] at h1
  refine ⟨List.mem_range.1 h2, h1.1, fun d hd hi => ?_⟩
  have := h1.2
  unfold lower at this
  rw [List.all_eq_true] at this
  have := this d (List.mem_range.2 hd)
  rw [hi] at this; simpa using this
theorem least_none {n : Nat} {le : Nat → Nat → Bool} {is : Nat → Bool} (h : least n le is = none) {x : Nat} (hx : x < n) (hi : is x = true) : lower n le is x = false := by
  unfold least at h
  rw [List.find?_eq_none] at h
  have := h x (List.mem_range.2 hx)
  rw [hi] at this; simpa using this
def tr (n : Nat) (M : List (List Bool)) : List (List Bool) := (List.range n).map fun i => (List.range n).map fun k => at2 M k i
theorem tr_sq (n : Nat) (M : List (List Bool)) : Sq n (tr n M) := ⟨by simp [tr], fun r hr => by
  obtain ⟨i, _, rfl⟩ := List.mem_map.1 hr
  simp⟩
theorem at2_tr {n : Nat} {M : List (List Bool)} (s : Sq n M) (a b : Nat) : at2 (tr n M) a b = at2 M b a := by
  by_cases h : a < n ∧ b < n
  · have h1 : (tr n M)[a]? = some ((List.range n).map fun k => at2 M k a) := by unfold tr; rw [List.getElem?_map, List.getElem?_range h.1]; rfl
    rw [at2_some h1, List.getElem?_map, List.getElem?_range h.2]; rfl
  · cases h1 : at2 (tr n M) a b with
    | true => exact absurd (at2_lt (tr_sq n M) h1) h
    | false =>
      cases h2 : at2 M b a with
      | true => exact absurd ((at2_lt s h2).symm) h
      | false => rfl
theorem join_tr {n : Nat} {M : List (List Bool)} (s : Sq n M) (a b : Nat) : join n (tr n M) a b = meet n M a b := by
  unfold join meet
  congr 1
  · funext x y; exact at2_tr s x y
  · funext x; rw [at2_tr s, at2_tr s]
theorem joinT_tr {n : Nat} {M : List (List Bool)} (s : Sq n M) (k : Nat) : joinT n (tr n M) k = meetT n M k := by
  unfold joinT meetT joinRow meetRow
  simp only [join_tr s]
def okJr (n : Nat) (M : List (List Bool)) (a k : Nat) : Bool := (List.range k).all fun b => (join n M a b).isSome
def okJ (n : Nat) (M : List (List Bool)) (k : Nat) : Bool := (List.range k).all fun a => okJr n M a n
theorem okJr_succ (n : Nat) (M : List (List Bool)) (a k : Nat) : okJr n M a (k + 1) = (okJr n M a k && (join n M a k).isSome) := by unfold okJr; rw [List.range_succ, List.all_append]; simp
theorem okJ_succ (n : Nat) (M : List (List Bool)) (k : Nat) : okJ n M (k + 1) = (okJ n M k && okJr n M k n) := by unfold okJ; rw [List.range_succ, List.all_append]; simp
theorem okJ_no {n : Nat} {M : List (List Bool)} {a b k : Nat} (ha : a < k) (hb : b < n) (h : join n M a b = none) : okJ n M k = false := by
  rw [Bool.eq_false_iff]; intro ht
  unfold okJ okJr at ht
  rw [List.all_eq_true] at ht
  have := ht a (List.mem_range.2 ha)
  rw [List.all_eq_true] at this
  have := this b (List.mem_range.2 hb)
  rw [h] at this; cases this
def anti (n : Nat) (M : List (List Bool)) : Prop := ∀ a b, a < n → b < n → a ≠ b → ¬ (at2 M a b = true ∧ at2 M b a = true)
theorem okT_iff {n : Nat} {M : List (List Bool)} (s : Sq n M) : okT n M n = true ↔ (anti n M ∧ okJ n M n = true ∧ okJ n (tr n M) n = true) := by
  unfold okT okR okJ okJr anti
  simp only [List.all_eq_true, List.mem_range, join_tr s]
  unfold okC
  simp only [Bool.and_eq_true, Bool.not_eq_true', Bool.and_eq_false_iff, decide_eq_false_iff_not]
  constructor
  · intro h
    refine ⟨fun a b ha hb hne ⟨h1, h2⟩ => ?_, fun a ha b hb => (h a ha b hb).2.1, fun a ha b hb => (h a ha b hb).2.2⟩
    rcases (h a ha b hb).1 with h | h | h
    · exact h hne
    · rw [h1] at h; cases h
    · rw [h2] at h; cases h
  · rintro ⟨h1, h2, h3⟩ a ha b hb
    refine ⟨?_, h2 a ha b hb, h3 a ha b hb⟩
    by_cases hne : a = b
    · exact .inl (fun h => h hne)
    · by_cases h4 : at2 M a b = true
      · by_cases h5 : at2 M b a = true
        · exact absurd ⟨h4, h5⟩ (h1 a b ha hb hne)
        · exact .inr (.inr (by simpa using h5))
      · exact .inr (.inl (by simpa using h4))
def hiF (n : Nat) (M : List (List Bool)) (k : Nat) : Nat := (List.range k).foldl (fun h a => (join n M h a).getD 0) 0
def loF (n : Nat) (M : List (List Bool)) (k : Nat) : Nat := (List.range k).foldl (fun h a => (meet n M h a).getD 0) 0
theorem hiF_succ (n : Nat) (M : List (List Bool)) (k : Nat) : hiF n M (k + 1) = (join n M (hiF n M k) k).getD 0 := by unfold hiF; rw [List.range_succ, List.foldl_append]; rfl
theorem loF_succ (n : Nat) (M : List (List Bool)) (k : Nat) : loF n M (k + 1) = (meet n M (loF n M k) k).getD 0 := by unfold loF; rw [List.range_succ, List.foldl_append]; rfl
theorem okC_of {n : Nat} {M : List (List Bool)} (h : okT n M n = true) {a b : Nat} (ha : a < n) (hb : b < n) : okC n M a b = true := by
  unfold okT okR at h
  simp only [List.all_eq_true, List.mem_range] at h
  exact h a ha b hb
theorem hiF_top {n : Nat} {M : List (List Bool)} (h0 : 0 < n) (tr_ : ∀ a b c, at2 M a b = true → at2 M b c = true → at2 M a c = true) (h : okT n M n = true) : ∀ k, k ≤ n → hiF n M k < n ∧ ∀ a, a < k → at2 M a (hiF n M k) = true
  | 0, _ => ⟨h0, fun a ha => absurd ha (by omega)⟩
  | k + 1, hk => by
    obtain ⟨i1, i2⟩ := hiF_top h0 tr_ h k (by omega)
    have hc := okC_of h i1 (show k < n by omega)
    unfold okC at hc
    rw [Bool.and_eq_true, Bool.and_eq_true] at hc
    obtain ⟨x, hx⟩ := Option.isSome_iff_exists.1 hc.2.1
    obtain ⟨p1, p2, _⟩ := least_some hx
    rw [Bool.and_eq_true] at p2
    rw [hiF_succ, hx]
    refine ⟨p1, fun a ha => ?_⟩
    by_cases e : a = k
    · subst e; exact p2.2
    · exact tr_ _ _ _ (i2 a (by omega)) p2.1
theorem loF_bot {n : Nat} {M : List (List Bool)} (h0 : 0 < n) (tr_ : ∀ a b c, at2 M a b = true → at2 M b c = true → at2 M a c = true) (h : okT n M n = true) : ∀ k, k ≤ n → loF n M k < n ∧ ∀ a, a < k → at2 M (loF n M k) a = true
  | 0, _ => ⟨h0, fun a ha => absurd ha (by omega)⟩
  | k + 1, hk => by
    obtain ⟨i1, i2⟩ := loF_bot h0 tr_ h k (by omega)
    have hc := okC_of h i1 (show k < n by omega)
    unfold okC at hc
    rw [Bool.and_eq_true, Bool.and_eq_true] at hc
    obtain ⟨x, hx⟩ := Option.isSome_iff_exists.1 hc.2.2
    obtain ⟨p1, p2, _⟩ := least_some hx
    rw [Bool.and_eq_true] at p2
    rw [loF_succ, hx]
    refine ⟨p1, fun a ha => ?_⟩
    by_cases e : a = k
    · subst e; exact p2.2
    · exact tr_ _ _ _ p2.1 (i2 a (by omega))
theorem least_is {n : Nat} {le : Nat → Nat → Bool} {is : Nat → Bool} {x : Nat} (hx : x < n) (hi : is x = true) (hl : ∀ d, d < n → is d = true → le x d = true) (hu : ∀ y, y < n → is y = true → le y x = true → le x y = true → y = x) : least n le is = some x := by
  cases h : least n le is with
  | none =>
    have := least_none h hx hi
    rw [Bool.eq_false_iff] at this
    exact absurd (by unfold lower; rw [List.all_eq_true]; intro d hd; cases hd2 : is d with | false => rfl | true => simp [hl d (List.mem_range.1 hd) hd2]) this
  | some y =>
    obtain ⟨y1, y2, y3⟩ := least_some h
    rw [hu y y1 y2 (y3 x hx hi) (hl y y1 y2)]
theorem complete_is {n : Nat} {M : List (List Bool)} (s : Sq n M) (h0 : 0 < n) (tr_ : ∀ a b c, at2 M a b = true → at2 M b c = true → at2 M a c = true) : complete n M = if okT n M n = true then some (loF n M n, hiF n M n) else none := by
  by_cases h : okT n M n = true
  · rw [if_pos h]
    obtain ⟨an, _, _⟩ := (okT_iff s).1 h
    obtain ⟨h1, h2⟩ := hiF_top h0 tr_ h n (Nat.le_refl _)
    obtain ⟨l1, l2⟩ := loF_bot h0 tr_ h n (Nat.le_refl _)
    have eq : ∀ x y, x < n → y < n → at2 M x y = true → at2 M y x = true → y = x := fun x y hx hy e1 e2 => by
      by_cases e : y = x
      · exact e
      · exact absurd ⟨e2, e1⟩ (an y x hy hx e)
    have eh : high n M = some (hiF n M n) := least_is (le := fun x y => at2 M y x) h1 rfl (fun d hd _ => h2 d hd) (fun y hy _ e1 e2 => eq _ _ h1 hy e1 e2)
    have el : low n M = some (loF n M n) := least_is (le := at2 M) l1 rfl (fun d hd _ => l2 d hd) (fun y hy _ e1 e2 => eq _ _ l1 hy e2 e1)
    unfold complete; rw [h, eh, el]; rfl
  · rw [if_neg h]
    unfold complete
    rw [Bool.not_eq_true] at h; rw [h]; rfl
/-- a text put into a rising list, once -/
def Ins (S : List Txt) (s : Txt) (S' : List Txt) : Prop := ∃ i, i ≤ S.length ∧ (∀ x ∈ S.take i, x < s) ∧ (∀ x, S[i]? = some x → ¬ x < s) ∧ S' = if S[i]? = some s then S else S.take i ++ s :: S.drop i
theorem Ins.mem {S S' : List Txt} {s : Txt} (h : Ins S s S') (z : Txt) : z ∈ S' ↔ (z ∈ S ∨ z = s) := by
  obtain ⟨i, hi, _, _, rfl⟩ := h
  by_cases e : S[i]? = some s
  · rw [if_pos e]
    have := List.mem_of_getElem? e
    constructor
    · exact .inl
    · rintro (h | rfl)
      · exact h
      · exact this
  · rw [if_neg e, List.mem_append, List.mem_cons]
    have : z ∈ S ↔ (z ∈ S.take i ∨ z ∈ S.drop i) := by rw [← List.mem_append, List.take_append_drop]
    rw [this]
    constructor
    · rintro (h | h | h)
      · exact .inl (.inl h)
      · exact .inr h
      · exact .inl (.inr h)
    · rintro ((h | h) | h)
      · exact .inl h
      · exact .inr (.inr h)
      · exact .inr (.inl h)
theorem Ins.len {S S' : List Txt} {s : Txt} (h : Ins S s S') : S'.length ≤ S.length + 1 ∧ S.length ≤ S'.length := by
  obtain ⟨i, hi, _, _, rfl⟩ := h
  split
  · omega
  · simp; omega
theorem Ins.rises {S S' : List Txt} {s : Txt} (h : Ins S s S') (hs : S.Pairwise (· < ·)) : S'.Pairwise (· < ·) := by
  obtain ⟨i, hi, h1, h2, rfl⟩ := h
  by_cases e : S[i]? = some s
  · rw [if_pos e]; exact hs
  · rw [if_neg e]
    have hs2 : (S.take i ++ S.drop i).Pairwise (· < ·) := by rw [List.take_append_drop]; exact hs
    rw [List.pairwise_append] at hs2
    obtain ⟨a1, a2, a3⟩ := hs2
    have hgt : ∀ y ∈ S.drop i, s < y := by
      intro y hy
      have hne : S.drop i ≠ [] := fun hn => by rw [hn] at hy; cases hy
      have hil : i < S.length := by
        rcases Nat.lt_or_ge i S.length with h | h
        · exact h
        · exact absurd (List.drop_of_length_le h) hne
      have hx := h2 _ (List.getElem?_eq_getElem hil)
      have hxs : s ≤ S[i] := hx
      have hlt : s < S[i] := lt_of_le_ne hxs fun e2 => e (by rw [List.getElem?_eq_getElem hil, ← e2])
      rw [List.drop_eq_getElem_cons hil] at hy a2
      rcases List.mem_cons.1 hy with rfl | hy
      · exact hlt
      · exact List.lt_trans hlt ((List.pairwise_cons.1 a2).1 y hy)
    rw [List.pairwise_append]
    refine ⟨a1, List.pairwise_cons.2 ⟨hgt, a2⟩, fun x hx y hy => ?_⟩
    rcases List.mem_cons.1 hy with rfl | hy
    · exact h1 x hx
    · exact List.lt_trans (h1 x hx) (hgt y hy)
/-- what was put in so far -/
structure Seen (ps : List (Txt × Txt)) (S : List Txt) : Prop where
  rises : S.Pairwise (· < ·)
  mem : ∀ z, z ∈ S ↔ z ∈ raw ps
theorem Seen.nil : Seen [] [] := ⟨List.Pairwise.nil, fun z => Iff.rfl⟩
theorem Seen.is {ps : List (Txt × Txt)} {S : List Txt} (h : Seen ps S) : S = names ps := rises_ext h.rises (names_rises ps) fun z => (h.mem z).trans (names_mem ps z).symm
theorem raw_snoc (ps : List (Txt × Txt)) (p : Txt × Txt) : raw (ps ++ [p]) = raw ps ++ (if p.2 = [] then [p.1] else [p.1, p.2]) := by
  unfold raw; rw [List.flatMap_append]; simp
theorem Seen.one {ps : List (Txt × Txt)} {S S' : List Txt} {p : Txt × Txt} (h : Seen ps S) (hi : Ins S p.1 S') (he : p.2 = []) : Seen (ps ++ [p]) S' := by
  refine ⟨hi.rises h.rises, fun z => ?_⟩
  rw [hi.mem, h.mem, raw_snoc, if_pos he, List.mem_append, List.mem_singleton]
theorem Seen.two {ps : List (Txt × Txt)} {S S' S2 : List Txt} {p : Txt × Txt} (h : Seen ps S) (hi : Ins S p.1 S') (hj : Ins S' p.2 S2) (he : p.2 ≠ []) : Seen (ps ++ [p]) S2 := by
  refine ⟨hj.rises (hi.rises h.rises), fun z => ?_⟩
  rw [hj.mem, hi.mem, h.mem, raw_snoc, if_neg he, List.mem_append, List.mem_cons, List.mem_singleton, or_assoc]
theorem rises_le : ∀ {a b : List Txt}, a.Pairwise (· < ·) → (∀ z, z ∈ a → z ∈ b) → a.length ≤ b.length := by
  intro a
  induction a with
  | nil => intro b _ _; exact Nat.zero_le _
  | cons x a ih =>
    intro b ha h
    obtain ⟨h1, h2⟩ := List.pairwise_cons.1 ha
    have hx : x ∈ b := h x (by simp)
    have := ih (b := b.erase x) h2 fun z hz => by
      have hne : z ≠ x := fun e => by subst e; exact absurd (h1 z hz) (List.lt_irrefl _)
      exact (List.mem_erase_of_ne hne).2 (h z (by simp [hz]))
    rw [List.length_erase_of_mem hx] at this
    have hb : 0 < b.length := List.length_pos_of_mem hx
    rw [List.length_cons]; omega
theorem Seen.many {ps rest : List (Txt × Txt)} {S : List Txt} (h : Seen ps S) : S.length ≤ (names (ps ++ rest)).length := by
  refine rises_le h.rises fun z hz => (names_mem _ z).2 ?_
  unfold raw; rw [List.flatMap_append, List.mem_append]
  exact .inl ((h.mem z).1 hz)
end Lab
theorem mat_row {h : Heap} {v : V} {n : Nat} {M : List (List Bool)} (sq : Sq n M) (t : BTab h v M) {a : Nat} (ha : a < n) : ∃ (u : V) (r : List Bool), h.load1 (slB v) (slO v + a * 1) = some u ∧ Rows 1 h u (r.map bv) ∧ r.length = n ∧ ∀ b, b < n → r[b]? = some (Lab.at2 M a b) := by
  obtain ⟨r, hr, hl⟩ := sq.at ha
  obtain ⟨u, h1, h2⟩ := t.at hr
  refine ⟨u, r, h1, h2, hl, fun b hb => ?_⟩
  obtain ⟨x, hx⟩ : ∃ x, r[b]? = some x := ⟨r[b]'(by omega), List.getElem?_eq_getElem (by omega)⟩
  rw [hx, Lab.at2_some hr, hx]; rfl
theorem bv_at {h : Heap} {u : V} {r : List Bool} {b : Nat} {x : Bool} (R : Rows 1 h u (r.map bv)) (hx : r[b]? = some x) : h.load1 (slB u) (slO u + b * 1) = some (.bool x) := R.load1Z (by rw [List.getElem?_map, hx]; rfl)
/-- the least, as a number -/
def leastZ (o : Option Nat) : Int := match o with
  | none => -1
  | some x => (x : Int)
namespace Lab
def okP (n : Nat) (M : List (List Bool)) (is : Nat → Bool) (i k : Nat) : Bool := is i && (List.range k).all fun d => !is d || at2 M i d
theorem okP_succ (n : Nat) (M : List (List Bool)) (is : Nat → Bool) (i k : Nat) : okP n M is i (k + 1) = (okP n M is i k && (!is k || at2 M i k)) := by
  unfold okP; rw [List.range_succ, List.all_append, ← Bool.and_assoc]; simp
theorem find_range {p : Nat → Bool} {n i : Nat} (hi : i < n) (hp : p i = true) (hno : ∀ j, j < i → p j = false) : (List.range n).find? p = some i := by
  rw [show n = i + (n - i) by omega, List.range_add, List.find?_append]
  have e1 : (List.range i).find? p = none := by
    rw [List.find?_eq_none]; intro x hx
    rw [hno x (List.mem_range.1 hx)]; simp
  rw [e1]
  obtain ⟨m, hm⟩ : ∃ m, n - i = m + 1 := ⟨n - i - 1, by omega⟩
  rw [hm, List.range_succ_eq_map]
  simp [hp]
theorem least_found {n : Nat} {M : List (List Bool)} {is : Nat → Bool} {i : Nat} (hi : i < n) (h : okP n M is i n = true) (hno : ∀ j, j < i → okP n M is j n = false) : least n (at2 M) is = some i := find_range hi h hno
theorem least_not {n : Nat} {M : List (List Bool)} {is : Nat → Bool} (hno : ∀ j, j < n → okP n M is j n = false) : least n (at2 M) is = none := by
  unfold least; rw [List.find?_eq_none]; intro x hx
  have := hno x (List.mem_range.1 hx)
  unfold okP at this
  unfold lower
  rw [this]; simp
end Lab
theorem bool_or (b : Bool) : b = false ∨ b = true := by cases b <;> simp
theorem no_step {p : Nat → Bool} {i : Nat} (hno : ∀ j, j < i → p j = false) (h : p i = false) : ∀ j, j < i + 1 → p j = false := fun j hj => by
  by_cases e : j = i
  · subst e; exact h
  · exact hno j (by omega)
section
variable {ev : Ev} {h : Heap} {x y : A}
theorem L.slss {l m : List UInt8} (hx : ev x = L.str l) (hy : ev y = L.str m) : light (.bins .lss x y) ev h = .val (.bool (decide (l < m))) := by
  show (ev x).onStr (fun n a => (ev y).onStr fun m b => _) = _
  rw [hx, hy]
  rw [← bytesLess_iff, ← sLess_eq, ← sBytes_eq, ← sBytes_eq]; rfl
theorem L.llenBTn {v : V} {n : Nat} {M : List (List Bool)} (hx : ev x = v) (t : BTab h v M) (hn : M.length = n) : light (.len false x) ev h = .val (.int .i64 (n : Int)) := hn ▸ L.llenBT hx t
end
end
end Go.Eng
namespace Go.Eng
noncomputable section
/-! ### rows of texts that are read alone; appended whole -/
def SRows (h : Heap) (v : V) (l : List Lab.Txt) : Prop := (v = .slN ∧ l = []) ∨ ∃ b o cap, v = .sl b o l.length cap ∧ h.load b o (Nat.mul l.length 1) = some (SR l).flatten ∧ ∀ i x, l[i]? = some x → h.load1 b (o + i * 1) = some (L.str x)
section
variable {h : Heap} {v : V} {l : List Lab.Txt} {ev : Ev} {x y : A}
theorem Rows.sr (a : Rows 1 h v (SR l)) : SRows h v l := by
  generalize hR : SR l = R at a
  have a0 := a
  cases a with
  | nil => exact .inl ⟨rfl, by simpa [SR] using hR⟩
  | @row b o f ap sz cap t rows hr hob ho hrow hsz hlen =>
    have hl : R.length = l.length := by rw [← hR, SR_len]
    refine .inr ⟨b, o, cap, by rw [hl], by rw [← hl, hR]; exact a0.loadAll, fun i x hx => ?_⟩
    have := a0.load1Z (i := i) (x := L.str x) (by rw [← hR]; exact SR_at hx)
    exact this
theorem SRows.sl (a : SRows h v l) {i : Nat} (hi : i < l.length) : v = .sl (slB v) (slO v) l.length (slC v) := by
  rcases a with ⟨_, rfl⟩ | ⟨b, o, cap, rfl, _⟩
  · simp at hi
  · rfl
theorem SRows.one (a : SRows h v l) : v.asCells = some [v] := by
  rcases a with ⟨rfl, _⟩ | ⟨b, o, cap, rfl, _⟩ <;> rfl
theorem L.llenS (hx : ev x = v) (a : SRows h v l) : light (.len false x) ev h = .val (.int .i64 (l.length : Int)) := by
  rcases a with ⟨rfl, rfl⟩ | ⟨b, o, cap, rfl, _⟩
  · exact L.llenN hx
  · exact L.llen hx
theorem L.iaddrS (a : SRows h v l) {i : Nat} (hi : i < l.length) (hx : ev x = v) (hy : ev y = .int .i64 (i : Int)) : light (.iaddr 1 x y) ev h = .val (.ptr (slB v) (slO v + i * 1)) := L.iaddr (hx.trans (a.sl hi)) hy hi
theorem SRows.at (a : SRows h v l) {i : Nat} {s : Lab.Txt} (hp : l[i]? = some s) : h.load1 (slB v) (slO v + i * 1) = some (L.str s) := by
  rcases a with ⟨_, rfl⟩ | ⟨b, o, cap, rfl, _, ha⟩
  · simp at hp
  · exact ha i _ hp
theorem SRows.of {j : Nat} {a : V} {o : Obj} (hb : FArg j (SR l) a o) (ho : T.get j h.t = some o) : SRows h a l := by
  generalize hl : SR l = LL at hb
  cases hb with
  | nil => exact .inl ⟨rfl, by simpa [SR] using hl⟩
  | zero =>
    obtain rfl : l = [] := by simpa [SR] using hl
    exact .inr ⟨j, 0, none, rfl, rfl, fun i p hp => by simp at hp⟩
  | some hne cap =>
    have hlen : LL.length = l.length := by rw [← hl, SR_len]
    rw [hlen]
    have hrow : ∀ row ∈ LL, row.length = 1 := fun row hm => by rw [← hl] at hm; obtain ⟨x, _, rfl⟩ := List.mem_map.1 hm; rfl
    have hfl := flatten_len hrow
    refine .inr ⟨j, 0, some cap, rfl, ?_, fun i x hx => L.load1_box ho ?_⟩
    · rw [hl]
      by_cases h0 : l.length = 0
      · exact absurd (List.length_eq_zero_iff.1 (hlen.trans h0)) hne
      · refine L.load_box ho ?_ (by rw [lenV_eq, hfl, hlen]; exact Nat.ble_eq_true_of_le (by show 0 + Nat.mul l.length 1 ≤ l.length * 1; rw [show Nat.mul l.length 1 = l.length * 1 from rfl]; omega)) ?_
        · rw [nbeq, show Nat.mul l.length 1 = l.length * 1 from rfl]; exact decide_eq_false (by omega)
        · rw [dropV_eq, takeV_eq, List.drop_zero, List.take_of_length_le (by rw [hfl, hlen]; exact Nat.le_refl _)]
    · have hi : LL[i]? = some [L.str x] := by rw [← hl]; exact SR_at hx
      have := flat_at hrow hi (k := 0) (by decide)
      rw [Nat.add_zero] at this
      rw [hd_eq, dropV_eq, List.head?_drop, Nat.zero_add, this]; rfl
theorem L.appendS {call : CallT} {s : A} {bytes : Nat} {w xv : V} {new : List Lab.Txt} {out : OR} (hs : ev s = w) (hx : ev x = xv) (hn : SRows h xv new) (ho : appendTo h 1 bytes w (SR new).flatten new.length = out) : heavy (.append 1 bytes s x) call ev h = out := by
  subst ho hs hx
  show (match ev x with
    | .slN => appendTo h 1 bytes (ev s) [] 0
    | .sl b o m _ => (Option.rec .bad (fun new => appendTo h 1 bytes (ev s) new m) (h.load b o (Nat.mul m 1)) : OR)
    | .str m a => bif Nat.beq 1 1 then appendTo h 1 bytes (ev s) (strCells (sBytes m a)) m else .bad
    | _ => .bad) = _
  rcases hn with ⟨e, rfl⟩ | ⟨b, o, cap, e, hl, _⟩
  · rw [e]; rfl
  · rw [e]
    simp only [hl]
theorem SR_flat1 (l : List Lab.Txt) : ∀ row ∈ SR l, row.length = 1 := fun row hm => by obtain ⟨x, _, rfl⟩ := List.mem_map.1 hm; rfl
end
section
variable {c : Ctx} {Q : QT} {env : Env} {h : Heap} {fs : List Fact} {vs : List V} {l : List Opr} {i j : D8} {bs : List Nat} {f bytes : Nat} {v xv : V} {old new : List Lab.Txt}
theorem St.appendZ (st : St (.acu bs f 1 v (SR old) :: fs) h) (hfit : (old.length + new.length) * bytes ≤ 1099511627776) :
    ∃ bs' f' v' h', appendTo h 1 bytes v (SR new).flatten new.length = .ok v' h' ∧ (new = [] → v' = v) ∧ St (.acu bs' f' 1 v' (SR (old ++ new)) :: fs) h' := by
  by_cases h0 : new = []
  · subst h0
    obtain ⟨_, _, a⟩ := st.acu_own
    refine ⟨bs, f, v, h, ?_, fun _ => rfl, by rw [List.append_nil]; exact st⟩
    generalize SR old = R at a
    cases a with
    | nil => rfl
    | row a => rfl
  · obtain ⟨bs', f', v', h', e, s'⟩ := st.appendU (r := 1) (bytes := bytes) (new := SR new) (by decide) (SR_flat1 new) (by rw [SR_len, SR_len]; exact hfit)
    rw [SR_len] at e
    exact ⟨bs', f', v', h', e, fun e => absurd e h0, by rw [SR_app]; exact s'⟩
theorem WO.appZS {s x : A} (st : St (.acu bs f 1 v (SR old) :: fs) h) (hs : s.ev vs env = v) (hx : x.ev vs env = xv) (hn : SRows h xv new) (hfit : (old.length + new.length) * bytes ≤ 1099511627776)
    (K : ∀ bs' f' v' h1, (new = [] → v' = v) → St (.acu bs' f' 1 v' (SR (old ++ new)) :: fs) h1 → WO c l Q (v' :: vs) (Env.set i j v' env) h1) : WO c (.s i j (.H (.append 1 bytes s x)) :: l) Q vs env h := by
  obtain ⟨bs', f', v', h', e, e0, s'⟩ := st.appendZ (bytes := bytes) (new := new) hfit
  exact WO.actS (fun _ => L.appendS (ev := fun a => a.ev vs env) hs hx hn e) (K _ _ _ _ e0 s')
theorem WO.appZ {s x : A} (st : St (.acu bs f 1 v (SR old) :: fs) h) (hs : s.ev vs env = v) (hx : x.ev vs env = xv) (hn : SRows h xv new) (hfit : (old.length + new.length) * bytes ≤ 1099511627776)
    (K : ∀ bs' f' v' h1, (new = [] → v' = v) → St (.acu bs' f' 1 v' (SR (old ++ new)) :: fs) h1 → WO c l Q (v' :: vs) env h1) : WO c (.p (.H (.append 1 bytes s x)) :: l) Q vs env h := by
  obtain ⟨bs', f', v', h', e, e0, s'⟩ := st.appendZ (bytes := bytes) (new := new) hfit
  exact WO.act (fun _ => L.appendS (ev := fun a => a.ev vs env) hs hx hn e) (K _ _ _ _ e0 s')
theorem WO.appEZS {b : Nat} {s x : A} (st : St fs h) (hs : s.ev vs env = .sl b 0 0 (some 0)) (hb : 8 ≤ b) (hx : x.ev vs env = xv) (hn : SRows h xv new) (hne : 0 < new.length) (hfit : new.length * bytes ≤ 1099511627776)
    (K : ∀ bs f v h1, St (.acu bs f 1 v (SR new) :: fs) h1 → WO c l Q (v :: vs) (Env.set i j v env) h1) : WO c (.s i j (.H (.append 1 bytes s x)) :: l) Q vs env h := by
  have hld : h.load b 0 (Nat.mul 0 1) = some [] := rfl
  have e := append1_lit (h := h) (r := 1) (bytes := bytes) (b := b) (n := 0) (m := new.length) (old := []) (new := (SR new).flatten) hb hld hne (by rw [Nat.zero_add]; exact hfit)
  rw [Nat.zero_add, List.nil_append] at e
  obtain ⟨bs, f, v, h', e2, s'⟩ := (st.acu0 1).appendU (bytes := bytes) (by decide) (SR_flat1 new) (by rw [SR_len]; simpa using hfit)
  rw [SR_len] at e2
  rw [List.nil_append] at s'
  exact WO.actS (fun _ => L.appendS (ev := fun a => a.ev vs env) hs hx hn (e.trans e2)) (K _ _ _ _ s')
end
/-- several rows of texts -/
def SAll (h : Heap) (vs : List V) (LS : List (List Lab.Txt)) : Prop := ∀ (i : Nat) (v : V) (l : List Lab.Txt), vs[i]? = some v → LS[i]? = some l → SRows h v l
theorem sall_two {h : Heap} {va vb : V} {A B : List Lab.Txt} (ha : SRows h va A) (hb : SRows h vb B) : SAll h [va, vb] [A, B] := by
  intro i v l hv hl
  match i with
  | 0 => cases hv; cases hl; exact ha
  | 1 => cases hv; cases hl; exact hb
  | i + 2 => simp at hv
theorem fill_two {ev : Ev} {x y : A} {a b p q : V} (hx : (ev x).asCells = some [a]) (hy : (ev y).asCells = some [b]) : fill [(0, 1, x), (1, 1, y)] ev [p, q] = some [a, b] := by
  show (Option.rec none (fun l => bif (lenV l).beq 1 && (Nat.add 0 1).ble (lenV [p, q]) then fill [(1, 1, y)] ev (overV 0 l [p, q]) else none) (ev x).asCells : Option (List V)) = _
  rw [hx]
  show (Option.rec none (fun l => bif (lenV l).beq 1 && (Nat.add 1 1).ble (lenV [a, q]) then fill [] ev (overV 1 l [a, q]) else none) (ev y).asCells : Option (List V)) = _
  rw [hy]; rfl
theorem flat_next {LS : List (List Lab.Txt)} {i : Nat} {l : List Lab.Txt} (h : LS[i]? = some l) : (LS.take (i + 1)).flatten = (LS.take i).flatten ++ l := by
  rw [List.take_add_one, h]; simp
theorem flat_take_le (LS : List (List Lab.Txt)) (i : Nat) : (LS.take i).flatten.length ≤ LS.flatten.length := by
  have : LS.flatten = (LS.take i).flatten ++ (LS.drop i).flatten := by rw [← List.flatten_append, List.take_append_drop]
  rw [this, List.length_append]; omega
/-- is each of a in b? -/
def subB (a b : List Lab.Txt) : Bool := a.all fun x => decide (x ∈ b)
theorem subB_no {a b : List Lab.Txt} {x : Lab.Txt} (ha : x ∈ a) (hb : x ∉ b) : subB a b = false := by
  cases e : subB a b with
  | false => rfl
  | true => exact absurd (of_decide_eq_true (List.all_eq_true.1 e x ha)) hb
theorem subB_yes {a b : List Lab.Txt} (h : ∀ x ∈ a, x ∈ b) : subB a b = true := List.all_eq_true.2 fun x hx => decide_eq_true (h x hx)
theorem subB_all {a b : List Lab.Txt} (h : subB a b = true) : ∀ x ∈ a, x ∈ b := fun x hx => of_decide_eq_true (List.all_eq_true.1 h x hx)
/-- the texts of a list, rising, once -/
def risen (l : List Lab.Txt) : List Lab.Txt := Lab.uniq (sortB l)
theorem risen_mem (l : List Lab.Txt) (z : Lab.Txt) : z ∈ risen l ↔ z ∈ l := (Lab.uniq_mem _ z).trans (sortB_perm _).mem_iff
theorem risen_rises (l : List Lab.Txt) : (risen l).Pairwise (· < ·) := Lab.uniq_rises _ (sortB_sorted _)
theorem risen_len (l : List Lab.Txt) : (risen l).length ≤ l.length := Nat.le_trans (Lab.uniq_len _) (by rw [(sortB_perm l).length_eq]; exact Nat.le_refl _)
def pr0 (l : List Lab.Txt) : List (Lab.Txt × Lab.Txt) := l.map fun x => (x, [])
theorem raw_pr0 : ∀ l : List Lab.Txt, Lab.raw (pr0 l) = l
  | [] => rfl
  | x :: l => by
    have := raw_pr0 l
    unfold Lab.raw pr0 at this ⊢
    rw [List.map_cons, List.flatMap_cons, this]; simp
theorem names_pr0 (l : List Lab.Txt) : Lab.names (pr0 l) = risen l := by unfold Lab.names; rw [raw_pr0]; rfl
theorem pr0_take {l : List Lab.Txt} {i : Nat} {x : Lab.Txt} (h : l[i]? = some x) : pr0 (l.take (i + 1)) = pr0 (l.take i) ++ [(x, [])] := by
  unfold pr0; rw [List.take_add_one, h, List.map_append]; rfl
theorem take_mem {P : Lab.Txt → Prop} {l : List Lab.Txt} {k : Nat} {x : Lab.Txt} (h : ∀ y ∈ l.take k, P y) (hx : l[k]? = some x) (hp : P x) : ∀ y ∈ l.take (k + 1), P y := by
  intro y hy
  rw [List.take_add_one, hx] at hy
  rcases List.mem_append.1 hy with hy | hy
  · exact h y hy
  · have : y = x := by simpa using hy
    exact this ▸ hp
/-- a text as an argument's element -/
def sval (x : Lab.Txt) : List Value := [.string ⟨x.toArray⟩]
theorem senc : FEnc 1 (fun x : Lab.Txt => [L.str x]) sval := ⟨by decide, fun _ => rfl, fun x k u y hu hy => by
  match k with
  | 0 => cases hu; cases hy; exact ⟨fun ι => str_rel ι _, rfl⟩
  | k + 1 => simp at hu⟩
theorem St.heap2 (o0 o1 : Obj) : St [.stb fun h => T.get 0 h.t = some o0, .stb fun h => T.get 1 h.t = some o1] (heap2 o0 o1) := by
  have e0 : T.get 0 (Go.Eng.heap2 o0 o1).t = some o0 := by rw [heap2_get]; rfl
  have e1 : T.get 1 (Go.Eng.heap2 o0 o1).t = some o1 := by rw [heap2_get]; rfl
  refine ⟨fun b => b = 0 ∨ b = 1, ⟨fun b hb => ?_, fun b hb => absurd (T.get_e b) hb, Nat.le_refl _⟩, fun b hb => ?_, fun b hb => by simp [owns, Fact.own] at hb, by simp [owns, Fact.own], by simp [fams, Fact.fam], fun b hb => by simp [owns, Fact.own] at hb, fun x hx => ?_⟩
  · rw [heap2_get] at hb
    show b < 8
    by_cases e : b = 0
    · omega
    · by_cases e1 : b = 1
      · omega
      · rw [if_neg e, if_neg e1] at hb; exact absurd rfl hb
  · rcases hb with rfl | rfl
    · rw [e0]; simp
    · rw [e1]; simp
  · simp at hx
    rcases hx with rfl | rfl
    · intro h' hh; rw [hh 0 (.inl rfl)]; exact e0
    · intro h' hh; rw [hh 1 (.inr rfl)]; exact e1
theorem law_runsS2 {P : Program} {w : World} (hmx : P.follows .mixedOrders = true) {funs : T Fun} {dfuns : T FunD} {more : Nat → List V → Heap → OR} (hf : allT (chkF P) funs = true) (hd : allT (chkFD P) dfuns = true) (hm : MoreOk P more)
    {f : Nat} (he : ∀ (A B : List Lab.Txt) (a b : V) (h : Heap), St [.stb (fun h => SRows h a A), .stb (fun h => SRows h b B)] h → RunP (Ctx.of funs dfuns more) f [a, b] h fun v _ => v = .bool true) (hw : 0 < w.heap.size) {v0 v1 : Value} (h0 : Flat 1 sval w v0) (h1 : Flat 1 sval w v1) :
    Calls P f #[v0, v1] w fun e w' => e = .returned (.bool true) ∧ Kept w w' := by
  obtain ⟨l0, a0, o0, B0, hb0, ha0⟩ := flat_arg senc hw 0 h0
  obtain ⟨l1, a1, o1, B1, hb1, ha1⟩ := flat_arg senc hw 1 h1
  refine law_runsA hmx hf hd hm inj1_lt (good2 ha0 ha1) (he l0 l1 a0 a1 _ ?_) ⟨v0, [v1], rfl, ha0.rel _ rfl, v1, [], rfl, ha1.rel _ rfl, rfl⟩
  have s := St.heap2 o0 o1
  have s1 := s.imp0 fun h ho => SRows.of hb0 ho
  have s2 := (s1.pick 1 rfl).imp0 fun h ho => SRows.of hb1 ho
  exact s2.pick 1 rfl
end
end Go.Eng
