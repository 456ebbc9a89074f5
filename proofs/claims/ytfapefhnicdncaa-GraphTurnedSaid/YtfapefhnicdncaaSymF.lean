/- Part of a proof of a law, by an evaluator that the machine follows: rules, contracts of functions, what they come to. No condition of its own. -/
import Derived.Test.YtfapefhnicdncaaSymE
set_option linter.unusedVariables false
set_option linter.unusedSimpArgs false
namespace Go.Eng
noncomputable section
/-! ### a slice that is closed up in place -/
theorem St.appendCut {fs : List Fact} {h : Heap} {bs : List Nat} {f r bytes b n k m : Nat} {rows new : List (List V)} (s : St (.acu bs f r (.sl b 0 n none) rows :: fs) h) (hr : 0 < r) (hm : new.length = m) (hm0 : 0 < m) (hl : ∀ row ∈ new, row.length = r) (hkm : k + m ≤ n) (hfit : n * bytes ≤ 1099511627776) :
    ∃ h', appendTo h r bytes (.sl b 0 k none) new.flatten m = .ok (.sl b 0 (k + m) none) h' ∧ St (.acu bs f r (.sl b 0 n none) (rows.take k ++ new ++ rows.drop (k + m)) :: fs) h' := by
  obtain ⟨_, _, a⟩ := s.acu_own
  cases a with
  | row ge hb hf ob hrow len mem =>
    rename_i ap hid t
    obtain ⟨h', e, s'⟩ := s.putU hr (i := k) (k := m) hm0 hm hl hkm
    refine ⟨h', ?_, s'⟩
    have hb0 : Nat.beq m 0 = false := by rw [nbeq]; exact decide_eq_false (by omega)
    have h1 : (Nat.mul (k + m) bytes).ble 1099511627776 = true := by
      rw [nble]
      have : (k + m) * bytes ≤ rows.length * bytes := Nat.mul_le_mul_right _ hkm
      have : (k + m) * bytes ≤ 1099511627776 := by omega
      simpa using this
    have h2 : Nat.ble 8 b = true := by rw [nble]; simpa using ge
    have h3 : (Nat.add 0 (Nat.mul (k + m) r)).ble ((rows.length + hid.length) * r) = true := by
      rw [nble]
      have : (k + m) * r ≤ (rows.length + hid.length) * r := Nat.mul_le_mul_right _ (by omega)
      simpa using this
    have h4 : (r.beq r && (Nat.mod 0 r).beq 0) = true := by
      rw [Nat.beq_refl, show Nat.mod 0 r = 0 from Nat.zero_mod r]; rfl
    show (bif m.beq 0 then OR.ok (.sl b 0 k none) h else append1 h r bytes b 0 k none new.flatten m) = _
    rw [hb0]
    show append1 h r bytes b 0 k none new.flatten m = _
    unfold append1
    rw [force_eq, force_eq]
    show (bif (Nat.mul (k + m) bytes).ble 1099511627776 && Nat.ble 8 b then Obj.cells? OR.bad (fun r' f ap sz rows => bif r'.beq r && (Nat.mod 0 r).beq 0 then
        bif (Nat.add 0 (Nat.mul (k + m) r)).ble sz then h.storeC b (Nat.add 0 (Nat.mul k r)) (Nat.mul m r) new.flatten .bad fun h => OR.ok (.sl b 0 (k + m) none) h
        else _ else _) (h.obj b) else OR.bad) = _
    rw [h1, h2, show h.obj b = _ from ob]
    show (bif r.beq r && (Nat.mod 0 r).beq 0 then
        bif (Nat.add 0 (Nat.mul (k + m) r)).ble ((rows.length + hid.length) * r) then h.storeC b (Nat.add 0 (Nat.mul k r)) (Nat.mul m r) new.flatten .bad fun h => OR.ok (.sl b 0 (k + m) none) h
        else _ else _) = _
    rw [h4, cond_true, h3, cond_true]
    have := e OR.bad fun h => OR.ok (.sl b 0 (k + m) none) h
    rw [← this, show Nat.add 0 (Nat.mul k r) = k * r from Nat.zero_add _]; rfl
theorem St.acuBlk {fs : List Fact} {h : Heap} {bs : List Nat} {f r b n : Nat} {rows : List (List V)} (s : St (.acu bs f r (.sl b 0 n none) rows :: fs) h) : ∃ f' ap sz t, T.get b h.t = some (.cells r f' ap sz t) ∧ n * r ≤ sz ∧ rows.length = n := by
  obtain ⟨_, _, a⟩ := s.acu_own
  cases a with
  | row ge hb hf ob hrow len mem => exact ⟨_, _, _, _, ob, Nat.mul_le_mul_right _ (by omega), rfl⟩
section
variable {ev : Ev} {h : Heap} {x : A} {lo hi : Option A} {r b n i j : Nat}
/-- beyond the length -/
theorem L.sslB {f ap sz : Nat} {t : T (List V)} (hx : ev x = .sl b 0 n none) (hob : T.get b h.t = some (.cells r f ap sz t)) (hhi : optNat hi ev n = some j) (hlo : optNat lo ev 0 = some i) (hij : i ≤ j) (hjn : j * r ≤ sz) : light (.ssl r x lo hi none) ev h = .val (.sl b (0 + i * r) (j - i) none) := by
  show (match ev x with
    | .slN => match optNat hi ev 0, optNat lo ev 0, optNat none ev 0 with
      | some 0, some 0, some 0 => LR.val .slN
      | _, _, _ => .bad
    | .sl b o n cap => match optNat hi ev n, optNat lo ev 0 with
      | some j, some i => ssl1 r b o n cap i j (Option.rec none (fun x => some (ev x).asNat) none) h
      | _, _ => .bad
    | _ => .bad) = _
  rw [hx]
  simp only [hhi, hlo]
  show ssl1 r b 0 n none i j none h = _
  unfold ssl1
  simp only [Heap.obj, hob]
  have e1 : (r.beq r && (i.ble j && (j.ble n || (Nat.add 0 (Nat.mul j r)).ble sz))) = true := by
    rw [Nat.beq_refl, show i.ble j = true from Nat.ble_eq_true_of_le hij, show (Nat.add 0 (Nat.mul j r)).ble sz = true from by rw [nble]; simpa using hjn]; simp
  rw [e1, cond_true]
  unfold slF
  simp
end
section
variable {c : Ctx} {Q : QT} {env : Env} {h : Heap} {fs : List Fact} {vs : List V} {l : List Opd} {lg : List Log} {uo : List Nat} {bs : List Nat} {f r : Nat}
/-- what stands behind a cut is moved up -/
theorem WD.appCut {bytes b n k m : Nat} {s x : A} {xv : V} {rows new : List (List V)} (st : St (.acu bs f r (.sl b 0 n none) rows :: fs) h) (hs : s.ev vs env = .sl b 0 k none) (hx : x.ev vs env = xv) (hn : Rows r h xv new) (hr : 0 < r) (hm : new.length = m) (hkm : k + m ≤ n) (hfit : n * bytes ≤ 1099511627776)
    (hst : ∀ h1, St (.acu bs f r (.sl b 0 n none) (rows.take k ++ new ++ rows.drop (k + m)) :: fs) h1 → stills uo h1 lg = true) (K : ∀ h1, St (.acu bs f r (.sl b 0 n none) (rows.take k ++ new ++ rows.drop (k + m)) :: fs) h1 → WD c l Q (.sl b 0 (k + m) none :: vs) (.no :: lg) env h1) : WD c (⟨.p (.H (.append r bytes s x)), uo⟩ :: l) Q vs lg env h := by
  have hl : ∀ row ∈ new, row.length = r := by
    cases hn with
    | nil => intro row hm; simp at hm
    | row _ _ _ _ _ hlen => exact hlen
  by_cases h0 : m = 0
  · subst h0
    obtain rfl : new = [] := List.length_eq_zero_iff.1 hm
    have e : rows.take k ++ [] ++ rows.drop (k + 0) = rows := by rw [List.append_nil, Nat.add_zero, List.take_append_drop]
    refine WD.act (fun _ => L.append (ev := fun a => a.ev vs env) hs hx hn rfl) (hst h (by rw [e]; exact st)) (K h (by rw [e]; exact st))
  · subst hm
    obtain ⟨h', e, s'⟩ := st.appendCut (bytes := bytes) hr rfl (by omega) hl hkm hfit
    exact WD.act (fun _ => L.append (ev := fun a => a.ev vs env) hs hx hn e) (hst _ s') (K _ s')
end
/-- rows from a place on -/
theorem Rows.drop {r b n : Nat} {h : Heap} {rows : List (List V)} (R : Rows r h (.sl b 0 n none) rows) {k : Nat} (hk : k ≤ n) : Rows r h (.sl b (0 + k * r) (n - k) none) (rows.drop k) := by
  cases R with
  | row hr hob ho hrow hsz hlen =>
    have e : (rows.drop k).length = rows.length - k := List.length_drop
    rw [← e]
    refine .row hr hob (by rw [Nat.zero_add]; exact Nat.mul_mod_left k r) (fun i row hi => ?_) (by rw [e, Nat.zero_add, Nat.sub_mul]; have : k * r ≤ rows.length * r := Nat.mul_le_mul_right _ hk; omega) fun row hm => hlen row (List.mem_of_mem_drop hm)
    rw [List.getElem?_drop] at hi
    rw [Nat.zero_add, Nat.mul_div_cancel k hr]
    have := hrow (k + i) row hi
    rw [Nat.zero_div, Nat.zero_add] at this; exact this
end
end Go.Eng
