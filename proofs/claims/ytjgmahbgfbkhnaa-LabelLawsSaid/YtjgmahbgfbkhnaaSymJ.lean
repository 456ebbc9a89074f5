/- Part of a proof of a law, by an evaluator that the machine follows: rules, contracts of functions, what they come to. No condition of its own. -/
import Derived.Test.YtjgmahbgfbkhnaaSymG
import Derived.Test.YtjgmahbgfbkhnaaSymI
import Derived.Test.YtjgmahbgfbkhnaaSymD
set_option linter.unusedVariables false
set_option linter.unusedSimpArgs false
namespace Go.Eng
noncomputable section
/-! ### a law with an argument that is a slice of rows of cells, only read -/
inductive FArg (j : Nat) : List (List V) → V → Obj → Prop where
  | nil : FArg j [] .slN .dead
  | zero : FArg j [] (.sl j 0 0 none) .dead
  | some {l : List (List V)} (h : l ≠ []) (cap : Nat) : FArg j l (.sl j 0 l.length (some cap)) (.box l.flatten)
structure FEnc {α : Type} (r : Nat) (en : α → List V) (val : α → List Value) : Prop where
  pos : 0 < r
  len : ∀ x, (en x).length = r
  rel : ∀ (x : α) (k : Nat) (u : V) (y : Value), (en x)[k]? = some u → (val x)[k]? = some y → (∀ ι, vrel ι u y) ∧ y.oneCell' = true
/-! ### names, labels, places -/
end
end Go.Eng
namespace Go.Eng
noncomputable section
namespace Lab
/-! ### the laws of a lattice -/
structure Good (n : Nat) (M : List (List Bool)) : Prop where
  sq : Sq n M
  refl : ∀ a, a < n → at2 M a a = true
  trans : ∀ a b c, at2 M a b = true → at2 M b c = true → at2 M a c = true
  ok : okT n M n = true
def jv (n : Nat) (M : List (List Bool)) (a b : Nat) : Nat := (join n M a b).getD 0
def mv (n : Nat) (M : List (List Bool)) (a b : Nat) : Nat := (meet n M a b).getD 0
section
variable {n : Nat} {M : List (List Bool)} (g : Good n M) {a b c d : Nat}
include g
theorem Good.anti (ha : a < n) (hb : b < n) (h1 : at2 M a b = true) (h2 : at2 M b a = true) : a = b := by
  by_cases e : a = b
  · exact e
  · exact absurd ⟨h1, h2⟩ (((okT_iff g.sq).1 g.ok).1 a b ha hb e)
theorem Good.jspec (ha : a < n) (hb : b < n) : jv n M a b < n ∧ at2 M a (jv n M a b) = true ∧ at2 M b (jv n M a b) = true ∧ ∀ d, d < n → at2 M a d = true → at2 M b d = true → at2 M (jv n M a b) d = true := by
  have hc := okC_of g.ok ha hb
  unfold okC at hc
  rw [Bool.and_eq_true, Bool.and_eq_true] at hc
  obtain ⟨x, hx⟩ := Option.isSome_iff_exists.1 hc.2.1
  obtain ⟨p1, p2, p3⟩ := least_some hx
  rw [Bool.and_eq_true] at p2
  unfold jv; rw [hx]
  exact ⟨p1, p2.1, p2.2, fun d hd h1 h2 => p3 d hd (by rw [h1, h2]; rfl)⟩
theorem Good.mspec (ha : a < n) (hb : b < n) : mv n M a b < n ∧ at2 M (mv n M a b) a = true ∧ at2 M (mv n M a b) b = true ∧ ∀ d, d < n → at2 M d a = true → at2 M d b = true → at2 M d (mv n M a b) = true := by
  have hc := okC_of g.ok ha hb
  unfold okC at hc
  rw [Bool.and_eq_true, Bool.and_eq_true] at hc
  obtain ⟨x, hx⟩ := Option.isSome_iff_exists.1 hc.2.2
  obtain ⟨p1, p2, p3⟩ := least_some hx
  rw [Bool.and_eq_true] at p2
  unfold mv; rw [hx]
  exact ⟨p1, p2.1, p2.2, fun d hd h1 h2 => p3 d hd (by rw [h1, h2]; rfl)⟩
theorem Good.jlt (ha : a < n) (hb : b < n) : jv n M a b < n := (g.jspec ha hb).1
theorem Good.mlt (ha : a < n) (hb : b < n) : mv n M a b < n := (g.mspec ha hb).1
theorem Good.jcomm (ha : a < n) (hb : b < n) : jv n M a b = jv n M b a := by
  obtain ⟨p1, p2, p3, p4⟩ := g.jspec ha hb
  obtain ⟨q1, q2, q3, q4⟩ := g.jspec hb ha
  exact g.anti p1 q1 (p4 _ q1 q3 q2) (q4 _ p1 p3 p2)
theorem Good.mcomm (ha : a < n) (hb : b < n) : mv n M a b = mv n M b a := by
  obtain ⟨p1, p2, p3, p4⟩ := g.mspec ha hb
  obtain ⟨q1, q2, q3, q4⟩ := g.mspec hb ha
  exact g.anti p1 q1 (q4 _ p1 p3 p2) (p4 _ q1 q3 q2)
theorem Good.jassoc (ha : a < n) (hb : b < n) (hc : c < n) : jv n M (jv n M a b) c = jv n M a (jv n M b c) := by
  obtain ⟨p1, p2, p3, p4⟩ := g.jspec ha hb
  obtain ⟨q1, q2, q3, q4⟩ := g.jspec hb hc
  obtain ⟨r1, r2, r3, r4⟩ := g.jspec p1 hc
  obtain ⟨s1, s2, s3, s4⟩ := g.jspec ha q1
  exact g.anti r1 s1 (r4 _ s1 (p4 _ s1 s2 (g.trans _ _ _ q2 s3)) (g.trans _ _ _ q3 s3)) (s4 _ r1 (g.trans _ _ _ p2 r2) (q4 _ r1 (g.trans _ _ _ p3 r2) r3))
theorem Good.massoc (ha : a < n) (hb : b < n) (hc : c < n) : mv n M (mv n M a b) c = mv n M a (mv n M b c) := by
  obtain ⟨p1, p2, p3, p4⟩ := g.mspec ha hb
  obtain ⟨q1, q2, q3, q4⟩ := g.mspec hb hc
  obtain ⟨r1, r2, r3, r4⟩ := g.mspec p1 hc
  obtain ⟨s1, s2, s3, s4⟩ := g.mspec ha q1
  exact g.anti r1 s1 (s4 _ r1 (g.trans _ _ _ r2 p2) (q4 _ r1 (g.trans _ _ _ r2 p3) r3)) (r4 _ s1 (p4 _ s1 s2 (g.trans _ _ _ s3 q2)) (g.trans _ _ _ s3 q3))
theorem Good.le_j (ha : a < n) (hb : b < n) : at2 M a b = decide (jv n M a b = b) := by
  obtain ⟨p1, p2, p3, p4⟩ := g.jspec ha hb
  rw [Bool.eq_iff_iff, decide_eq_true_iff]
  constructor
  · intro h; exact g.anti p1 hb (p4 _ hb h (g.refl b hb)) p3
  · intro h; rw [h] at p2; exact p2
theorem Good.le_m (ha : a < n) (hb : b < n) : at2 M a b = decide (mv n M a b = a) := by
  obtain ⟨p1, p2, p3, p4⟩ := g.mspec ha hb
  rw [Bool.eq_iff_iff, decide_eq_true_iff]
  constructor
  · intro h; exact g.anti p1 ha p2 (p4 _ ha (g.refl a ha) h)
  · intro h; rw [h] at p3; exact p3
theorem Good.absj (ha : a < n) (hb : b < n) : jv n M a (mv n M a b) = a := by
  obtain ⟨p1, p2, p3, p4⟩ := g.mspec ha hb
  obtain ⟨q1, q2, q3, q4⟩ := g.jspec ha p1
  exact g.anti q1 ha (q4 _ ha (g.refl a ha) p2) q2
theorem Good.absm (ha : a < n) (hb : b < n) : mv n M a (jv n M a b) = a := by
  obtain ⟨p1, p2, p3, p4⟩ := g.jspec ha hb
  obtain ⟨q1, q2, q3, q4⟩ := g.mspec ha p1
  exact g.anti q1 ha q2 (q4 _ ha (g.refl a ha) p2)
theorem Good.low (ha : a < n) : at2 M (loF n M n) a = true := (loF_bot (by omega) g.trans g.ok n (Nat.le_refl _)).2 a ha
theorem Good.high (ha : a < n) : at2 M a (hiF n M n) = true := (hiF_top (by omega) g.trans g.ok n (Nat.le_refl _)).2 a ha
theorem Good.closed : closed n M = M := by
  refine sq_ext (closed_sq g.sq n (Nat.le_refl _)) g.sq fun a b => ?_
  rw [Bool.eq_iff_iff]
  exact ⟨closed_le (R := fun a b => at2 M a b = true) g.sq (fun _ _ _ => g.trans _ _ _) (fun _ _ h => h) n (Nat.le_refl _) a b, fun h => closed_ext g.sq h n (Nat.le_refl _)⟩
theorem Good.complete (h0 : 0 < n) : complete n M = some (loF n M n, hiF n M n) := by rw [complete_is g.sq h0 g.trans, if_pos g.ok]
end
structure LatOK (t : Lat) : Prop where
  pos : 0 < t.ns.length
  few : t.ns.length ≤ 12
  rises : t.ns.Pairwise (· < ·)
  good : Good t.ns.length t.M
  J : t.J = joinT t.ns.length t.M t.ns.length
  K : t.K = meetT t.ns.length t.M t.ns.length
  lo : t.lo = loF t.ns.length t.M t.ns.length
  hi : t.hi = hiF t.ns.length t.M t.ns.length
theorem made_ok {l : List (Txt × Txt)} : ((made l).1 = 0 ∧ LatOK (mkLat l)) ∨ ((made l).1 ≠ 0 ∧ mkLat l = Lat.none) := by
  unfold mkLat
  cases hm : (made l).2 with
  | none =>
    refine .inr ⟨?_, rfl⟩
    unfold made at hm ⊢
    split
    · simp
    · split
      · simp
      · rename_i h0 h1
        rw [if_neg h0, if_neg h1] at hm
        split
        · simp
        · rename_i x hx; rw [hx] at hm; cases hm
  | some x =>
    have hm0 := hm
    unfold made at hm
    split at hm
    · cases hm
    · split at hm
      · cases hm
      · rename_i h0 h1
        split at hm
        · cases hm
        · rename_i y hy
          cases hm
          have sq0 := table_sq (names l) l
          have sq := closed_sq sq0 _ (Nat.le_refl _)
          have tr_ : ∀ a b c, at2 (order l) a b = true → at2 (order l) b c = true → at2 (order l) a c = true := fun a b c => closed_trans sq0
          have hci := complete_is sq (Nat.pos_of_ne_zero h0) tr_
          have hok : okT (names l).length (order l) (names l).length = true := by
            cases h : okT (names l).length (order l) (names l).length with
            | true => rfl
            | false =>
              have hci : complete (names l).length (order l) = if okT (names l).length (order l) (names l).length = true then _ else none := hci
              rw [h, if_neg (by decide), hy] at hci; cases hci
          have hci : complete (names l).length (order l) = if okT (names l).length (order l) (names l).length = true then some (loF (names l).length (order l) (names l).length, hiF (names l).length (order l) (names l).length) else none := hci
          rw [hok, if_pos rfl, hy] at hci
          have hx := Option.some.inj hci
          refine .inl ⟨by unfold made; rw [if_neg h0, if_neg h1, hy], ⟨Nat.pos_of_ne_zero h0, by show (names l).length ≤ 12; omega, names_rises l, ⟨sq, fun a ha => closed_ext sq0 ((at2_table _ _ names_has a a).2 (.inl ⟨rfl, ha⟩)) _ (Nat.le_refl _), tr_, hok⟩, rfl, rfl, by show x.1 = _; rw [hx], by show x.2 = _; rw [hx]⟩⟩
end Lab
theorem Lat.OK.small {t : Lat} (h : Lab.LatOK t) : t.small := by
  have h12 := h.few
  refine ⟨by omega, ⟨by rw [h.good.sq.len]; omega, fun r hr => by rw [h.good.sq.row r hr]; omega⟩, ⟨by rw [h.J, Lab.joinT_len]; omega, fun r hr => ?_⟩, ⟨by rw [h.K, Lab.meetT_len]; omega, fun r hr => ?_⟩⟩
  · rw [h.J] at hr
    obtain ⟨a, _, rfl⟩ := List.mem_map.1 hr
    rw [Lab.joinRow_len]; omega
  · rw [h.K] at hr
    obtain ⟨a, _, rfl⟩ := List.mem_map.1 hr
    rw [Lab.meetRow_len]; omega
section
variable {ev : Ev} {h : Heap} {x y : A}
theorem L.eqBool_same {b : Bool} (hx : ev x = .bool b) (hy : ev y = .bool b) : light (.eq false .bool x y) ev h = .val (.bool true) := by
  show (Option.rec .bad (fun b => .val (.bool (b != false))) (Eq1.eq .bool (ev x) (ev y)) : LR) = _
  rw [hx, hy]; cases b <;> rfl
theorem L.sleq {l m : List UInt8} (hx : ev x = L.str l) (hy : ev y = L.str m) : light (.bins .leq x y) ev h = .val (.bool (decide (l ≤ m))) := by
  show (ev x).onStr (fun n a => (ev y).onStr fun m b => LR.of (binS .leq n a m b)) = _
  rw [hx, hy]
  show LR.of (some (.bool (bnot (sLess (sBytes m.length (enc m)) (sBytes l.length (enc l)))))) = _
  rw [sBytes_eq, sBytes_eq, sLess_eq, bytesLess_iff]
  by_cases h : m < l
  · have : ¬ l ≤ m := fun h2 => h2 h
    simp [h, this]; rfl
  · have : l ≤ m := h
    simp [h, this]; rfl
end
theorem tab_freezeC {n : Nat} (cap : Option Nat) : ∀ {bs : List Nat} {M : List (List Bool)} {fs : List Fact} {h : Heap}, bs.length = M.length → (∀ r ∈ M, r.length = n) → St (tabF bs M ++ fs) h → St (.stb (fun h => BRows h M (bs.map fun b => .sl b 0 n cap)) :: fs) h
  | [], [], fs, h, _, _, s => s.triv fun h => trivial
  | [], _ :: _, _, _, hl, _, _ => by simp at hl
  | _ :: _, [], _, _, hl, _, _ => by simp at hl
  | b :: bs, r :: M, fs, h, hl, hr, s => by
    have s1 : St (.cel b 1 (r.map bv) :: (tabF bs M ++ fs)) h := s
    have s2 := s1.celStill cap
    rw [List.length_map, hr r (by simp)] at s2
    have s3 : St (tabF bs M ++ .stb (fun h => Rows 1 h (.sl b 0 n cap) (r.map bv)) :: fs) h := s2.in_
    have s4 := tab_freezeC (n := n) cap (by simpa using hl) (fun r hm => hr r (by simp [hm])) s3
    exact ((s4.pick 1 rfl).and)
theorem St.appendE {fs : List Fact} {h : Heap} {r bytes b : Nat} {new : List (List V)} (s : St fs h) (hb : 8 ≤ b) (hr : 0 < r) (hl : ∀ row ∈ new, row.length = r) (hne : 0 < new.length) (hfit : new.length * bytes ≤ 1099511627776) :
    ∃ nb h', appendTo h r bytes (.sl b 0 0 (some 0)) new.flatten new.length = .ok (.sl nb 0 new.length none) h' ∧ St (.cel nb r new :: fs) h' := by
  have hld : h.load b 0 (Nat.mul 0 r) = some [] := by rw [show Nat.mul 0 r = 0 from Nat.zero_mul r]; rfl
  have e := append1_lit (h := h) (r := r) (bytes := bytes) (b := b) (n := 0) (m := new.length) (old := []) (new := new.flatten) hb hld hne (by rw [Nat.zero_add]; exact hfit)
  rw [Nat.zero_add, List.nil_append] at e
  have hb0 : Nat.beq new.length 0 = false := by
    cases e : Nat.beq new.length 0 with
    | false => rfl
    | true => have := Nat.eq_of_beq_eq_true e; omega
  have h1 : (Nat.mul new.length bytes).ble 1099511627776 = true := by
    rw [nble]; simpa using hfit
  have hs : okSize (.cells r h.next 0 (new.length * r) (setRowsP r new.length 0 new.flatten T.e)) = true := by show Nat.blt 0 r = true; rw [nblt]; simpa using hr
  refine ⟨h.next, h.add (.cells r h.next 0 (new.length * r) (setRowsP r new.length 0 new.flatten T.e)), ?_, ?_⟩
  · rw [e]; unfold appendTo
    simp only [hb0, cond_false, h1, cond_true, force_eq, setRows_eq]
    show (Bool.rec .bad (h.newC (.cells r h.next 0 (Nat.mul new.length r) (setRowsP r new.length 0 new.flatten T.e)) fun h2 => .ok (.sl h.next 0 new.length none) h2) (okSize (.cells r h.next 0 (Nat.mul new.length r) (setRowsP r new.length 0 new.flatten T.e))) : OR) = _
    rw [show okSize (.cells r h.next 0 (Nat.mul new.length r) (setRowsP r new.length 0 new.flatten T.e)) = true from hs, newC_eq]; rfl
  · refine s.cel hr fun i row hi => ⟨?_, hl row (List.mem_of_getElem? hi)⟩
    have hlt := (List.getElem?_eq_some_iff.1 hi).1
    rw [setRowsP_get r _ 0 _ T.e i (by omega) (by omega), if_pos ⟨by omega, by omega⟩, Nat.sub_zero, flatten_row i hl hi]
end
end Go.Eng
namespace Go.Eng
noncomputable section
section
variable {ev : Ev} {h : Heap} {x y : A}
theorem L.slnn {b o n : Nat} {cap : Option Nat} (hx : ev x = .sl b o n cap) (hy : ev y = .slN) : light (.eq false .sl x y) ev h = .val (.bool false) := by
  show (Option.rec .bad (fun b => .val (.bool (b != false))) (Eq1.eq .sl (ev x) (ev y)) : LR) = _
  rw [hx, hy]; rfl
theorem L.sleqF {l m : List UInt8} (hx : ev x = L.str l) (hy : ev y = L.str m) (e : m < l) : light (.bins .leq x y) ev h = .val (.bool false) := by
  rw [L.sleq hx hy, decide_eq_false (fun h2 => h2 e)]
end
section
variable {t : Lat} (ok : Lab.LatOK t) {h : Heap} {vN vL vJ vK : V} {a : Nat}
include ok
theorem Lab.LatOK.mlen : t.M.length = t.ns.length := ok.good.sq.len
theorem Lab.LatOK.jlen : t.J.length = t.ns.length := by rw [ok.J, Lab.joinT_len]
theorem Lab.LatOK.klen : t.K.length = t.ns.length := by rw [ok.K, Lab.meetT_len]
theorem Lab.LatOK.jr : ∀ r ∈ t.J, r.length = t.ns.length := fun r hr => by
  rw [ok.J] at hr
  obtain ⟨a, _, rfl⟩ := List.mem_map.1 hr
  exact Lab.joinRow_len _ _ _ _
theorem Lab.LatOK.kr : ∀ r ∈ t.K, r.length = t.ns.length := fun r hr => by
  rw [ok.K] at hr
  obtain ⟨a, _, rfl⟩ := List.mem_map.1 hr
  exact Lab.meetRow_len _ _ _ _
theorem Lab.LatOK.lol : t.lo < t.ns.length := by rw [ok.lo]; exact (Lab.loF_bot ok.pos ok.good.trans ok.good.ok _ (Nat.le_refl _)).1
theorem Lab.LatOK.hil : t.hi < t.ns.length := by rw [ok.hi]; exact (Lab.hiF_top ok.pos ok.good.trans ok.good.ok _ (Nat.le_refl _)).1
theorem Lab.LatOK.up {i : Nat} {x y : Lab.Txt} (h0 : 0 < i) (hx : t.ns[i]? = some x) (hy : t.ns[i - 1]? = some y) : y < x := by
  obtain ⟨h1, rfl⟩ := List.getElem?_eq_some_iff.1 hx
  obtain ⟨h2, rfl⟩ := List.getElem?_eq_some_iff.1 hy
  exact List.pairwise_iff_getElem.1 ok.rises _ _ _ _ (by omega)
theorem Lab.LatOK.jrow (R : LatR h vN vL vJ vK t) (ha : a < t.ns.length) : ∃ (u : V) (r : List Nat), h.load1 (slB vJ) (slO vJ + a * 1) = some u ∧ Rows 1 h u (r.map iv) ∧ r.length = t.ns.length ∧ ∀ b, b < t.ns.length → r[b]? = some (Lab.jv t.ns.length t.M a b) := by
  obtain ⟨u, h1, h2⟩ := R.J.at (i := a) (by rw [ok.J]; exact Lab.joinT_at ha)
  exact ⟨u, _, h1, h2, Lab.joinRow_len _ _ _ _, fun b hb => Lab.joinRow_at hb⟩
theorem Lab.LatOK.krow (R : LatR h vN vL vJ vK t) (ha : a < t.ns.length) : ∃ (u : V) (r : List Nat), h.load1 (slB vK) (slO vK + a * 1) = some u ∧ Rows 1 h u (r.map iv) ∧ r.length = t.ns.length ∧ ∀ b, b < t.ns.length → r[b]? = some (Lab.mv t.ns.length t.M a b) := by
  obtain ⟨u, h1, h2⟩ := R.K.at (i := a) (by rw [ok.K]; exact Lab.meetT_at ha)
  exact ⟨u, _, h1, h2, Lab.meetRow_len _ _ _ _, fun b hb => Lab.meetRow_at hb⟩
theorem Lab.LatOK.nsl (R : LatR h vN vL vJ vK t) : vN = .sl (slB vN) (slO vN) t.ns.length (slC vN) := by
  have := R.N.sl (i := 0) (by rw [SR_len]; exact ok.pos)
  rw [SR_len] at this; exact this
omit ok in
theorem BTab.slB {v : V} {M : List (List Bool)} (T : BTab h v M) (h0 : 0 < M.length) : v = .sl (slB v) (slO v) M.length (slC v) := by
  obtain ⟨vs, h1, h2⟩ := T
  have := h1.sl (i := 0) (by rw [List.length_map, h2.len]; exact h0)
  rw [List.length_map, h2.len] at this; exact this
theorem Lab.LatOK.lsl (R : LatR h vN vL vJ vK t) : vL = .sl (slB vL) (slO vL) t.ns.length (slC vL) := by
  have := BTab.slB R.L (by rw [ok.mlen]; exact ok.pos)
  rw [ok.mlen] at this; exact this
end
section
variable {c : Ctx} {Q : QT} {env : Env} {h : Heap} {fs : List Fact} {l : List Opr} {vs : List V} {i j : D8}
theorem WO.bslL {r n : Nat} {zero : List V} {ps : List (Nat × Nat × A)} {rows : List (List V)} (st : St fs h) (hf : fill ps (fun a => a.ev vs env) (rep n zero) = some rows.flatten) (hr : 0 < r) (hn : rows.length = n) (hl : ∀ row ∈ rows, row.length = r)
    (K : ∀ b h1, 8 ≤ b → St (.stb (fun h => Rows r h (.sl b 0 n (some n)) rows) :: fs) h1 → WO c l Q (.sl b 0 n (some n) :: vs) env h1) : WO c (.p (.L (.bsl r n zero ps)) :: l) Q vs env h :=
  WO.new (L.bsl hf) (okSize_cl hr) (K _ _ st.wf.lim (st.frozen _ fun h' hg => rows_new hr hn hl hg))
theorem WO.appES {r bytes b : Nat} {s x : A} {xv : V} {new : List (List V)} (st : St fs h) (hs : s.ev vs env = .sl b 0 0 (some 0)) (hb : 8 ≤ b) (hx : x.ev vs env = xv) (hn : Rows r h xv new) (hr : 0 < r) (hne : 0 < new.length) (hfit : new.length * bytes ≤ 1099511627776)
    (K : ∀ nb h1, St (.cel nb r new :: fs) h1 → WO c l Q (.sl nb 0 new.length none :: vs) (Env.set i j (.sl nb 0 new.length none) env) h1) : WO c (.s i j (.H (.append r bytes s x)) :: l) Q vs env h := by
  have hl : ∀ row ∈ new, row.length = r := by
    cases hn with
    | nil => intro row hm; simp at hm
    | row _ _ _ _ _ hlen => exact hlen
  obtain ⟨nb, h', e, s'⟩ := st.appendE (bytes := bytes) hb hr hl hne hfit
  exact WO.actS (fun _ => L.append (ev := fun a => a.ev vs env) hs hx hn e) (K _ _ s')
end
theorem BRows.row {h : Heap} {J : List (List Bool)} {vs : List V} (B : BRows h J vs) {i : Nat} {r : List Bool} {u : V} (hi : J[i]? = some r) (hu : vs[i]? = some u) : Rows 1 h u (r.map bv) := by
  obtain ⟨w, h1, h2⟩ := B.at hi
  rw [hu] at h1; cases h1; exact h2
theorem St.exB {v : V} {M : List (List Bool)} {fs : List Fact} {h : Heap} (s : St (.stb (fun h => BTab h v M) :: fs) h) : ∃ vs : List V, vs.length = M.length ∧ St (.stb (fun h => Rows 1 h v (vs.map fun x => [x])) :: .stb (fun h => BRows h M vs) :: fs) h := by
  obtain ⟨rows, s1⟩ := St.exRows (Q := fun h rows => ∃ vs : List V, rows = (vs.map fun x => [x]) ∧ BRows h M vs) (s.imp0 fun h ⟨vs, h1, h2⟩ => ⟨_, h1, vs, rfl, h2⟩)
  obtain ⟨vs, rfl, h2⟩ := s1.stb_at 1 rfl
  exact ⟨vs, h2.len, (((s1.pick 1 rfl).imp0 (Q := fun h => BRows h M vs) fun h hx => by
    obtain ⟨ws, e, hw⟩ := hx
    have e2 : vs = ws := by
      have := congrArg (List.flatMap id) e
      simpa [List.flatMap_map] using this
    rw [e2]; exact hw).pick 1 rfl)⟩
def cpyR (n i : Nat) (bl : List Nat) : List (List V) := (bl.map fun b => [V.sl b 0 n none]) ++ List.replicate (n - i) [V.slN]
theorem cpyR_len {n i : Nat} {bl : List Nat} (hb : bl.length = i) (hi : i ≤ n) : (cpyR n i bl).length = n := by unfold cpyR; simp; omega
theorem cpyR_set {n i nb : Nat} {bl : List Nat} (hb : bl.length = i) (hi : i < n) : (cpyR n i bl).set i [V.sl nb 0 n none] = cpyR n (i + 1) (bl ++ [nb]) := by
  unfold cpyR
  rw [List.set_append_right _ _ (by simp; omega), List.length_map, hb, Nat.sub_self, show n - i = (n - (i + 1)) + 1 by omega, List.replicate_succ]
  simp
theorem cpyR_all {n : Nat} {bl : List Nat} : cpyR n n bl = (bl.map fun b => V.sl b 0 n none).map fun x => [x] := by
  unfold cpyR; simp
theorem take_snoc {α : Type} {l : List α} {i : Nat} {x : α} (h : l[i]? = some x) : l.take (i + 1) = l.take i ++ [x] := by rw [List.take_add_one, h]; rfl
end
end Go.Eng
