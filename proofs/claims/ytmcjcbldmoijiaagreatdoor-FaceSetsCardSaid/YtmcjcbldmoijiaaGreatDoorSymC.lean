/- Part of a proof of a law, by an evaluator that the machine follows: rules, contracts of functions, what they come to. No condition of its own. -/
import Derived.Test.YtmcjcbldmoijiaaGreatDoorSymB
import Derived.Test.YtmcjcbldmoijiaaGreatDoorEngF
import Derived.Test.YtmcjcbldmoijiaaGreatDoorSymA
set_option linter.unusedVariables false
set_option linter.unusedSimpArgs false
namespace Go.Eng
noncomputable section

/-! ### a slice of one's own: written, appended to, cut -/
theorem St.turn {x y : Fact} {fs : List Fact} {h h' : Heap} (s : St (x :: fs) h) (hw : Wf h') (hn : h.next ≤ h'.next) (hxf : x.fam = []) (hyf : y.fam = [])
    (kt : ∀ b, b < h.next → b ∉ x.own → T.get b h'.t = T.get b h.t) (kf : ∀ b, b < h.next → b ∉ x.own → T.get b h'.fams = T.get b h.fams)
    (hyo : ∀ b ∈ y.own, b ∈ x.own ∨ h.next ≤ b) (hyn : y.own.Nodup) (hh : ∀ Z, y.holds Z h') : St (y :: fs) h' := by
  obtain ⟨Z, s⟩ := s
  have hxo : ∀ b ∈ x.own, ¬ Z b ∧ 8 ≤ b := fun b hb => s.oz b (by rw [owns_cons]; exact List.mem_append_left _ hb)
  have hnb := s.nb
  rw [owns_cons, List.nodup_append] at hnb
  obtain ⟨_, n2, n3⟩ := hnb
  have hz : ∀ b, Z b → T.get b h'.t = T.get b h.t := fun b hb => kt b (z_lt s hb) fun hm => (hxo b hm).1 hb
  have hlt : ∀ b ∈ owns fs, b < h.next := fun b hb => owns_lt s (by rw [owns_cons]; exact List.mem_append_right _ hb)
  have hno : ∀ b ∈ owns fs, b ∉ x.own := fun b hb hm => n3 b hm b hb rfl
  have hfl : ∀ b ∈ fams fs, b < h.next := fun b hb => fams_lt s (by rw [fams_cons]; exact List.mem_append_right _ hb)
  have hfo : ∀ b ∈ fams fs, b ∉ x.own := fun b hb hm => s.nd b (by rw [owns_cons]; exact List.mem_append_left _ hm) (by rw [fams_cons]; exact List.mem_append_right _ hb)
  refine ⟨Z, hw, fun b hb => by rw [hz b hb]; exact s.z b hb, fun b hb => ?_, ?_, ?_, fun b hb hf => ?_, fun w hw' => ?_⟩
  · rw [owns_cons] at hb
    rcases List.mem_append.1 hb with hb | hb
    · rcases hyo b hb with hb | hb
      · exact hxo b hb
      · exact ⟨fun e => absurd (z_lt s e) (by omega), by have := s.wf.lim; omega⟩
    · exact s.oz b (by rw [owns_cons]; exact List.mem_append_right _ hb)
  · rw [owns_cons]
    refine List.nodup_append.2 ⟨hyn, n2, fun a ha b hb e => ?_⟩
    subst e
    rcases hyo a ha with ha | ha
    · exact n3 a ha a hb rfl
    · have := hlt a hb; omega
  · rw [fams_cons, hyf]; have := s.nf; rw [fams_cons, hxf] at this; exact this
  · rw [fams_cons, hyf] at hf
    rw [owns_cons] at hb
    rcases List.mem_append.1 hb with hb | hb
    · rcases hyo b hb with hb | hb
      · exact s.nd b (by rw [owns_cons]; exact List.mem_append_left _ hb) (by rw [fams_cons]; exact List.mem_append_right _ hf)
      · have := hfl b hf; omega
    · exact s.nd b (by rw [owns_cons]; exact List.mem_append_right _ hb) (by rw [fams_cons]; exact List.mem_append_right _ hf)
  · rcases List.mem_cons.1 hw' with rfl | hw'
    · exact hh Z
    · exact Fact.stay (s.all w (by simp [hw'])) (fun b hb => ⟨hb, hz b hb⟩) (fun b hb => kt b (hlt b (mem_owns hw' hb)) (hno b (mem_owns hw' hb))) (fun b hb => kf b (hlt b (mem_owns hw' hb)) (hno b (mem_owns hw' hb))) fun g hg => kf g (hfl g (mem_fams hw' hg)) (hfo g (mem_fams hw' hg))
theorem St.acu_at {fs : List Fact} {h : Heap} (s : St fs h) (k : Nat) {bs : List Nat} {f r : Nat} {v : V} {rows : List (List V)} (hk : fs[k]? = some (.acu bs f r v rows)) : AcuV bs f r h v rows := by
  obtain ⟨Z, s⟩ := s
  exact (s.all (.acu bs f r v rows) (List.mem_of_getElem? hk)).1
theorem AcuV.rows {bs : List Nat} {f r : Nat} {h : Heap} {v : V} {rows : List (List V)} (hr : 0 < r) (a : AcuV bs f r h v rows) : Rows r h v rows := by
  cases a with
  | nil => exact .nil
  | row ge hb hf ob hrow len mem =>
    refine .row hr ob (Nat.zero_mod r) (fun i row hi => ?_) (by rw [Nat.zero_add]; exact Nat.mul_le_mul_right _ (by omega)) fun row hm => len row (List.mem_append_left _ hm)
    rw [Nat.zero_div, Nat.zero_add]
    refine hrow i row ?_
    rw [List.getElem?_append_left (List.getElem?_eq_some_iff.1 hi).1]; exact hi
theorem St.acuRows {fs : List Fact} {h : Heap} (s : St fs h) (k : Nat) {bs : List Nat} {f r : Nat} {v : V} {rows : List (List V)} (hk : fs[k]? = some (.acu bs f r v rows)) (hr : 0 < r) : Rows r h v rows := (s.acu_at k hk).rows hr
theorem St.acu0 {fs : List Fact} {h : Heap} (s : St fs h) (r : Nat) : St (.acu [] 0 r .slN [] :: fs) h := by
  obtain ⟨Z, s⟩ := s
  refine ⟨Z, s.wf, s.z, s.oz, s.nb, s.nf, s.nd, fun x hx => ?_⟩
  rcases List.mem_cons.1 hx with rfl | hx
  · exact ⟨.nil rfl, fun b hb => by simp at hb⟩
  · exact s.all x hx
/-- from now on it is read alone -/
theorem St.shutU {fs : List Fact} {h : Heap} {bs : List Nat} {f r : Nat} {v : V} {rows : List (List V)} (s : St (.acu bs f r v rows :: fs) h) (hr : 0 < r) : St (.stb (fun h => Rows r h v rows) :: fs) h := by
  obtain ⟨Z, s⟩ := s
  obtain ⟨a, hbs⟩ := s.all (.acu bs f r v rows) (by simp)
  have hno : ∀ b ∈ bs, b ∉ owns fs := fun b hb hm => by
    have := s.nb; rw [owns_cons, List.nodup_append] at this
    exact this.2.2 b hb b hm rfl
  refine ⟨fun b => Z b ∨ b ∈ bs, s.wf, fun b hb => hb.elim (s.z b) (hbs b), fun b hb => ⟨fun e => e.elim (s.oz b (by rw [owns_cons]; exact List.mem_append_right _ hb)).1 fun hm => hno b hm hb, (s.oz b (by rw [owns_cons]; exact List.mem_append_right _ hb)).2⟩, ?_, s.nf, fun b hb hf => s.nd b (by rw [owns_cons]; exact List.mem_append_right _ hb) hf, fun x hx => ?_⟩
  · have := s.nb; rw [owns_cons, List.nodup_append] at this
    exact this.2.1
  · rcases List.mem_cons.1 hx with rfl | hx
    · intro h' hz
      cases a with
      | nil => exact .nil
      | row ge hb hf ob hrow len mem =>
        refine .row hr ((hz _ (.inr hb)).trans ob) (Nat.zero_mod r) (fun i row hi => ?_) (by rw [Nat.zero_add]; exact Nat.mul_le_mul_right _ (by omega)) fun row hm => len row (List.mem_append_left _ hm)
        rw [Nat.zero_div, Nat.zero_add]
        refine hrow i row ?_
        rw [List.getElem?_append_left (List.getElem?_eq_some_iff.1 hi).1]; exact hi
    · exact Fact.stay (s.all x (by simp [hx])) (fun b hb => ⟨.inl hb, rfl⟩) (fun _ _ => rfl) (fun _ _ => rfl) fun _ _ => rfl
/-- the last rows go -/
theorem AcuV.cut {bs : List Nat} {f r b m n : Nat} {h : Heap} {cap : Option Nat} {rows : List (List V)} (a : AcuV bs f r h (.sl b m n cap) rows) {k : Nat} (hk : k ≤ n) : AcuV bs f r h (.sl b m k cap) (rows.take k) := by
  cases a with
  | row ge hb hf ob hrow len mem =>
    rename_i ap hid t
    have e : (rows.take k).length = k := by rw [List.length_take]; omega
    have := AcuV.row (rows := rows.take k) (hid := rows.drop k ++ hid) (ap := ap) (t := t) (bs := bs) (f := f) (r := r) (h := h) ge hb hf (by rw [ob]; congr 3; simp; omega) (fun i row hi => hrow i row (by rw [← List.append_assoc, List.take_append_drop] at hi; exact hi)) (fun row hm => len row (by rw [← List.append_assoc, List.take_append_drop] at hm; exact hm)) mem
    rw [e] at this; exact this
theorem St.cutU {fs : List Fact} {h : Heap} {bs : List Nat} {f r b m n : Nat} {cap : Option Nat} {rows : List (List V)} (s : St (.acu bs f r (.sl b m n cap) rows :: fs) h) {k : Nat} (hk : k ≤ n) : St (.acu bs f r (.sl b m k cap) (rows.take k) :: fs) h := by
  obtain ⟨Z, s⟩ := s
  refine ⟨Z, s.wf, s.z, s.oz, s.nb, s.nf, s.nd, fun x hx => ?_⟩
  rcases List.mem_cons.1 hx with rfl | hx
  · obtain ⟨a, hz⟩ := s.all (.acu bs f r (.sl b m n cap) rows) (by simp)
    exact ⟨a.cut hk, hz⟩
  · exact s.all x (by simp [hx])
theorem killAll_keep (lo hi but : Nat) : ∀ (l : List Nat) (h : Heap) (b : Nat), b ∉ l → T.get b (killAllP lo hi but l h).t = T.get b h.t
  | [], _, _, _ => rfl
  | m :: l, h, b, hb => by
    have h1 : b ≠ m := fun e => hb (by rw [e]; simp)
    have h2 : b ∉ l := fun e => hb (by simp [e])
    rw [killAllP, killAll_keep lo hi but l _ b h2]
    split
    · rfl
    · unfold kill1P kill1 Obj.cells? Heap.obj
      cases T.get m h.t with
      | none => rfl
      | some ob =>
        cases ob with
        | cells r f a n t =>
          simp only
          cases (a.blt hi && lo.blt (Nat.add a n)) with
          | false => rfl
          | true => simp only [putC_eq, id]; rw [T.get_set (Nat.zero_le _) (Nat.zero_le _), if_neg h1]
        | _ => rfl
theorem killAll_some (lo hi but : Nat) (l : List Nat) (h : Heap) (b : Nat) : T.get b (killAllP lo hi but l h).t ≠ none ↔ T.get b h.t ≠ none := by
  rcases killAllP_falls lo hi but l h (fun _ _ => Nat.zero_le _) with ⟨h1, _⟩ | h4
  · rcases h1.at_ b (Nat.zero_le _) with e | ⟨e, e2⟩
    · rw [e]
    · rw [e]; simp [e2]
  · exact absurd (Nat.zero_le _) h4
theorem killP_keep {h : Heap} {f lo hi but b : Nat} (hm : ∀ F, T.get f h.fams = some F → b ∉ F.mem) : T.get b (killP h f lo hi but).t = T.get b h.t := by
  unfold killP
  cases e : T.get f h.fams with
  | none => rfl
  | some F => exact killAll_keep lo hi but F.mem h b (hm F e)
theorem killP_some (h : Heap) (f lo hi but b : Nat) : T.get b (killP h f lo hi but).t ≠ none ↔ T.get b h.t ≠ none := by
  unfold killP
  cases T.get f h.fams with
  | none => exact Iff.rfl
  | some F => exact killAll_some lo hi but F.mem h b
theorem over_rows {r i k : Nat} {new : List (List V)} (hr : 0 < r) (hk : 0 < k) (hn : new.length = k) (hl : ∀ row ∈ new, row.length = r) (t : T (List V)) :
    ∃ t', (∀ {R : Type} (d : R) (c : T (List V) → R), over d r (i * r) (k * r) new.flatten t c = c t') ∧ ∀ j, T.get j t' = if i ≤ j ∧ j < i + k then new[j - i]? else T.get j t := by
  have hm : (i * r).mod r = 0 := Nat.mul_mod_left i r
  have hd : (i * r).div r = i := Nat.mul_div_cancel i hr
  by_cases h1 : k = 1
  · subst h1
    obtain ⟨row, rfl⟩ := List.length_eq_one_iff.1 hn
    have hrow : row.length = r := hl row (by simp)
    refine ⟨T.set i row t, fun d c => ?_, fun j => ?_⟩
    · unfold over
      rw [hm, show ((1 * r).beq r && Nat.beq 0 0) = true by rw [Nat.one_mul, Nat.beq_refl]; rfl, cond_true, forceL_eq, hd]
      simp
    · rw [T.get_set (Nat.zero_le _) (Nat.zero_le _)]
      by_cases e : j = i
      · subst e; simp
      · rw [if_neg e, if_neg (by omega)]
  · refine ⟨setRowsP r k i new.flatten t, fun d c => ?_, fun j => ?_⟩
    · unfold over
      have e1 : (k * r).beq r = false := by
        rw [nbeq]; have : k * r ≠ r := fun e => h1 (Nat.eq_of_mul_eq_mul_right hr (e.trans (Nat.one_mul r).symm)); simp [this]
      have e2 : (Nat.add 0 (k * r)).ble r = false := by
        rw [nble]
        have : ¬ 0 + k * r ≤ r := by
          have : 2 * r ≤ k * r := Nat.mul_le_mul_right _ (by omega)
          omega
        simpa using this
      have e3 : (k * r).mod r = 0 := Nat.mul_mod_left k r
      have e4 : (k * r).div r = k := Nat.mul_div_cancel k hr
      rw [hm, e1, e2, e3, e4, hd]
      simp
    · rw [setRowsP_get r _ _ _ t j (by omega) (by omega)]
      by_cases hj : i ≤ j ∧ j < i + k
      · rw [if_pos hj, if_pos hj]
        have hlt : j - i < new.length := by omega
        rw [List.getElem?_eq_getElem hlt, flatten_row (j - i) hl (List.getElem?_eq_getElem hlt)]
      · rw [if_neg hj, if_neg hj]
/-- rows are written -/
theorem St.putU {fs : List Fact} {h : Heap} {bs : List Nat} {f r b m n : Nat} {cap : Option Nat} {rows new : List (List V)} (s : St (.acu bs f r (.sl b m n cap) rows :: fs) h) (hr : 0 < r) {i k : Nat} (hk : 0 < k) (hnew : new.length = k) (hl : ∀ row ∈ new, row.length = r) (hi : i + k ≤ rows.length) :
    ∃ h', (∀ {R : Type} (d : R) (K : Heap → R), h.storeC b (i * r) (k * r) new.flatten d K = K h') ∧ St (.acu bs f r (.sl b m n cap) (rows.take i ++ new ++ rows.drop (i + k)) :: fs) h' := by
  obtain ⟨a, hbs⟩ : AcuV bs f r h (.sl b m n cap) rows ∧ ∀ b ∈ bs, T.get b h.t ≠ none := by
    obtain ⟨Z, s⟩ := s
    exact s.all (.acu bs f r (.sl b m n cap) rows) (by simp)
  have hwf := s.wf
  cases a with
  | row ge hb hf ob hrow len mem =>
    rename_i ap hid t
    obtain ⟨t', hov, hget⟩ := over_rows (i := i) hr hk hnew hl t
    have hlen : (rows.take i ++ new ++ rows.drop (i + k)).length = rows.length := by simp; omega
    let h1 := killP h f (ap + i * r) (ap + i * r + k * r) b
    have hfl : Falls h h1 := (killP_falls h f _ _ b (fun _ _ _ _ => Nat.zero_le _) (Nat.zero_le _)).1
    refine ⟨⟨T.set b (.cells r f ap ((rows.length + hid.length) * r) t') h1.t, h.next, h.fams, h.ds, h.pc⟩, fun d K => ?_, ?_⟩
    · unfold Heap.storeC
      have e0 : (k * r).beq 0 = false := by rw [nbeq]; have : 0 < k * r := Nat.mul_pos hk hr; simp; omega
      rw [e0, show b.blt 8 = false by rw [nblt]; simpa using ge, show h.obj b = _ from ob]
      show (bif (Nat.add (i * r) (k * r)).ble ((rows.length + hid.length) * r) then over d r (i * r) (k * r) new.flatten t (fun rows' => h.killC f (Nat.add ap (i * r)) (Nat.add (Nat.add ap (i * r)) (k * r)) b fun h => h.putC b (.cells r f ap ((rows.length + hid.length) * r) rows') K) else d) = _
      have e1 : (Nat.add (i * r) (k * r)).ble ((rows.length + hid.length) * r) = true := by
        rw [nble]
        have : i * r + k * r ≤ (rows.length + hid.length) * r := by rw [← Nat.add_mul]; exact Nat.mul_le_mul_right _ (by omega)
        simpa using this
      rw [e1, cond_true, hov, killC_eq, putC_eq]
      show K ⟨T.set b _ h1.t, h1.next, h1.fams, h1.ds, h1.pc⟩ = _
      rw [hfl.next, hfl.fams, hfl.ds, hfl.pc]
    · have hgb : ∀ c, T.get c (T.set b (.cells r f ap ((rows.length + hid.length) * r) t') h1.t) = if c = b then some (.cells r f ap ((rows.length + hid.length) * r) t') else T.get c h1.t := fun c => T.get_set (Nat.zero_le _) (Nat.zero_le _) ..
      have hsome : ∀ c, T.get c (T.set b (.cells r f ap ((rows.length + hid.length) * r) t') h1.t) ≠ none ↔ T.get c h.t ≠ none := fun c => by
        rw [hgb]
        by_cases e : c = b
        · subst e; rw [if_pos rfl]; simp [ob]
        · rw [if_neg e]; exact killP_some h f _ _ b c
      have hnd : bs.Nodup := by
        obtain ⟨Z, s⟩ := s
        have := s.nb; rw [owns_cons, List.nodup_append] at this
        exact this.1
      refine s.turn ⟨fun c hc => hwf.t c ((hsome c).1 hc), hwf.f, hwf.lim⟩ (Nat.le_refl _) rfl rfl (fun c hc hm => ?_) (fun _ _ _ => rfl) (fun c hc => .inl hc) hnd fun Z => ⟨?_, fun c hc => (hsome c).2 (hbs c hc)⟩
      · show T.get c (T.set b _ h1.t) = _
        rw [hgb, if_neg (fun e => hm (by rw [e]; exact hb))]
        exact killP_keep fun F hF hmem => hm (mem F hF c hmem)
      · have := AcuV.row (bs := bs) (f := f) (r := r) (ap := ap) (hid := hid) (t := t') (h := ⟨T.set b (.cells r f ap ((rows.length + hid.length) * r) t') h1.t, h.next, h.fams, h.ds, h.pc⟩) (rows := rows.take i ++ new ++ rows.drop (i + k)) ge hb hf (by rw [hlen]; exact (hgb b).trans (if_pos rfl)) (fun j row hj => ?_) (fun row hm => ?_) mem
        · rw [hlen] at this; exact this
        · rw [hget]
          rw [List.append_assoc, List.append_assoc] at hj
          by_cases c1 : j < i
          · rw [if_neg (by omega)]
            rw [List.getElem?_append_left (by rw [List.length_take]; omega), List.getElem?_take_of_lt c1] at hj
            exact hrow j row (by rw [List.getElem?_append_left (by omega)]; exact hj)
          · rw [List.getElem?_append_right (by rw [List.length_take]; omega), List.length_take, Nat.min_eq_left (by omega)] at hj
            by_cases c2 : j < i + k
            · rw [if_pos ⟨by omega, c2⟩]
              rw [List.getElem?_append_left (by omega)] at hj
              exact hj.symm ▸ rfl
            · rw [if_neg (by omega)]
              rw [List.getElem?_append_right (by omega), hnew] at hj
              refine hrow j row ?_
              by_cases c3 : j < rows.length
              · rw [List.getElem?_append_left (by rw [List.length_drop]; omega), List.getElem?_drop] at hj
                rw [List.getElem?_append_left c3, ← hj]; congr 1; omega
              · rw [List.getElem?_append_right (by rw [List.length_drop]; omega), List.length_drop] at hj
                rw [List.getElem?_append_right (by omega), ← hj]; congr 1; omega
        · rcases List.mem_append.1 hm with hm | hm
          · rcases List.mem_append.1 hm with hm | hm
            · rcases List.mem_append.1 hm with hm | hm
              · exact len row (List.mem_append_left _ (List.mem_of_mem_take hm))
              · exact hl row hm
            · exact len row (List.mem_append_left _ (List.mem_of_mem_drop hm))
          · exact len row (List.mem_append_right _ hm)
end
end Go.Eng
namespace Go.Eng
noncomputable section

theorem St.acu_own {fs : List Fact} {h : Heap} {bs : List Nat} {f r : Nat} {v : V} {rows : List (List V)} (s : St (.acu bs f r v rows :: fs) h) : bs.Nodup ∧ (∀ b ∈ bs, T.get b h.t ≠ none) ∧ AcuV bs f r h v rows := by
  obtain ⟨Z, s⟩ := s
  have := s.nb; rw [owns_cons, List.nodup_append] at this
  obtain ⟨a, hz⟩ := s.all (.acu bs f r v rows) (by simp)
  exact ⟨this.1, hz, a⟩
theorem St.acu_to {fs : List Fact} {h : Heap} {bs : List Nat} {f r : Nat} {v v' : V} {rows rows' : List (List V)} (s : St (.acu bs f r v rows :: fs) h) (ha : AcuV bs f r h v' rows') : St (.acu bs f r v' rows' :: fs) h := by
  obtain ⟨Z, s⟩ := s
  refine ⟨Z, s.wf, s.z, s.oz, s.nb, s.nf, s.nd, fun x hx => ?_⟩
  rcases List.mem_cons.1 hx with rfl | hx
  · exact ⟨ha, (s.all (.acu bs f r v rows) (by simp)).2⟩
  · exact s.all x (by simp [hx])
theorem grownP_next (h : Heap) (b f ap sz e top : Nat) : (grownP h b f ap sz e top).next = h.next ∧ (grownP h b f ap sz e top).ds = h.ds ∧ (grownP h b f ap sz e top).pc = h.pc := by
  unfold grownP; split <;> exact ⟨rfl, rfl, rfl⟩
theorem grownP_fams (h : Heap) (b f ap sz e top k : Nat) (hk : k ≠ f) : T.get k (grownP h b f ap sz e top).fams = T.get k h.fams := by
  unfold grownP; split <;> exact (T.get_set (Nat.zero_le _) (Nat.zero_le _) ..).trans (if_neg hk)
theorem grownP_keep {h : Heap} {b f ap sz e top k : Nat} (hb : k ≠ b) (hm : ∀ F, T.get f h.fams = some F → k ∉ F.mem) : T.get k (grownP h b f ap sz e top).t = T.get k h.t := by
  unfold grownP
  split
  · show T.get k (if e < ap + sz then (⟨T.set b .dead h.t, h.next, h.fams, h.ds, h.pc⟩ : Heap) else h).t = _
    split
    · exact (T.get_set (Nat.zero_le _) (Nat.zero_le _) ..).trans (if_neg hb)
    · rfl
  · rename_i F hF
    show T.get k (if F.last ≤ e then h else killAllP e (F.last + top) h.next F.mem h).t = _
    split
    · rfl
    · exact killAll_keep _ _ _ _ _ _ (hm F hF)
theorem grownP_some {h : Heap} {b f ap sz e top : Nat} (hb : T.get b h.t ≠ none) (k : Nat) : T.get k (grownP h b f ap sz e top).t ≠ none ↔ T.get k h.t ≠ none := by
  unfold grownP
  split
  · show T.get k (if e < ap + sz then (⟨T.set b .dead h.t, h.next, h.fams, h.ds, h.pc⟩ : Heap) else h).t ≠ none ↔ _
    split
    · show T.get k (T.set b .dead h.t) ≠ none ↔ _
      rw [T.get_set (Nat.zero_le _) (Nat.zero_le _)]
      by_cases e : k = b
      · subst e; simp [hb]
      · rw [if_neg e]
    · exact Iff.rfl
  · rename_i F hF
    show T.get k (if F.last ≤ e then h else killAllP e (F.last + top) h.next F.mem h).t ≠ none ↔ _
    split
    · exact Iff.rfl
    · exact killAll_some _ _ _ _ _ _
theorem grownP_fam (h : Heap) (b f ap sz e top : Nat) : ∃ F, T.get f (grownP h b f ap sz e top).fams = some F ∧ ∀ m ∈ F.mem, m = h.next ∨ m = b ∨ ∃ F0, T.get f h.fams = some F0 ∧ m ∈ F0.mem := by
  unfold grownP
  split
  · exact ⟨_, T.get_set_same _ _ _, fun m hm => by simp at hm; rcases hm with h | h <;> simp [h]⟩
  · rename_i F hF
    exact ⟨_, T.get_set_same _ _ _, fun m hm => by
      rcases List.mem_cons.1 hm with h | h
      · exact .inl h
      · exact .inr (.inr ⟨F, hF, h⟩)⟩
/-- rows behind a slice of one's own -/
theorem St.appendU {fs : List Fact} {h : Heap} {bs : List Nat} {f r bytes : Nat} {v : V} {rows new : List (List V)} (s : St (.acu bs f r v rows :: fs) h) (hr : 0 < r) (hl : ∀ row ∈ new, row.length = r) (hfit : (rows.length + new.length) * bytes ≤ 1099511627776) :
    ∃ bs' f' v' h', appendTo h r bytes v new.flatten new.length = .ok v' h' ∧ St (.acu bs' f' r v' (rows ++ new) :: fs) h' := by
  obtain ⟨hnd, hbs, a⟩ := s.acu_own
  have w := s.wf
  by_cases hm0 : new.length = 0
  · obtain rfl : new = [] := by simpa using hm0
    refine ⟨bs, f, v, h, ?_, by rw [List.append_nil]; exact s⟩
    cases a with
    | nil => rfl
    | row a => rfl
  have hb0 : Nat.beq new.length 0 = false := by
    cases e : Nat.beq new.length 0 with
    | false => rfl
    | true => exact absurd (Nat.eq_of_beq_eq_true e) hm0
  have hfn : T.get h.next h.fams = none := by
    cases e : T.get h.next h.fams with
    | none => rfl
    | some F => have := w.f h.next (by rw [e]; simp); omega
  have htn : T.get h.next h.t = none := by
    cases e : T.get h.next h.t with
    | none => rfl
    | some F => have := w.t h.next (by rw [e]; simp); omega
  cases a with
  | nil hbe =>
    subst hbe
    have hok : okSize (.cells r h.next 0 (new.length * r) (setRowsP r new.length 0 new.flatten T.e)) = true := by show Nat.blt 0 r = true; rw [nblt]; simpa using hr
    refine ⟨[h.next], h.next, .sl h.next 0 new.length none, h.add (.cells r h.next 0 (new.length * r) (setRowsP r new.length 0 new.flatten T.e)), ?_, ?_⟩
    · unfold appendTo
      have h1 : (Nat.mul new.length bytes).ble 1099511627776 = true := by
        rw [nble]; have : new.length * bytes ≤ 1099511627776 := by simpa using hfit
        simpa using this
      simp only [hb0, cond_false, h1, cond_true, force_eq, setRows_eq]
      show (Bool.rec .bad (h.newC (.cells r h.next 0 (Nat.mul new.length r) (setRowsP r new.length 0 new.flatten T.e)) fun h2 => .ok (.sl h.next 0 new.length none) h2) (okSize (.cells r h.next 0 (Nat.mul new.length r) (setRowsP r new.length 0 new.flatten T.e))) : OR) = _
      rw [show okSize (.cells r h.next 0 (Nat.mul new.length r) (setRowsP r new.length 0 new.flatten T.e)) = true from hok, newC_eq]; rfl
    · refine s.turn (Fr.add h _ |>.wf w) (Nat.le_succ _) rfl rfl (fun b hb _ => get_add_old hb) (fun _ _ _ => rfl) (fun b hb => .inr (by simp [Fact.own] at hb; omega)) (by simp [Fact.own]) fun Z => ⟨?_, fun b hb => ?_⟩
      · have := AcuV.row (bs := [h.next]) (f := h.next) (r := r) (h := h.add (.cells r h.next 0 (new.length * r) (setRowsP r new.length 0 new.flatten T.e))) (rows := new) (hid := []) w.lim (by simp) (by simp) (by rw [get_add_new, List.length_nil, Nat.add_zero]) (fun i row hi => ?_) (fun row hm => hl row (by simpa using hm)) (fun F hF => ?_)
        · rw [List.nil_append]; exact this
        · rw [List.append_nil] at hi
          rw [setRowsP_get r _ 0 _ T.e i (by omega) (by omega), if_pos ⟨by omega, by have := (List.getElem?_eq_some_iff.1 hi).1; omega⟩, Nat.sub_zero, flatten_row i hl hi]
        · have hF : T.get h.next h.fams = some F := hF
          rw [hfn] at hF; cases hF
      · have : b = h.next := by simpa using hb
        subst this; rw [get_add_new]; simp
  | row ge hb hf ob hrow len mem =>
    rename_i b ap hid t
    have e0 : ∀ X : OR, (bif (Nat.mul (Nat.add rows.length new.length) bytes).ble 1099511627776 && Nat.ble 8 b then X else .bad) = X := fun X => by
      have h1 : (Nat.mul (Nat.add rows.length new.length) bytes).ble 1099511627776 = true := by rw [nble]; simpa using hfit
      have h2 : Nat.ble 8 b = true := Nat.ble_eq_true_of_le ge
      rw [h1, h2]; rfl
    have run0 : appendTo h r bytes (.sl b 0 rows.length none) new.flatten new.length = (bif (Nat.add 0 (Nat.mul (Nat.add rows.length new.length) r)).ble ((rows.length + hid.length) * r) then h.storeC b (Nat.add 0 (Nat.mul rows.length r)) (Nat.mul new.length r) new.flatten OR.bad fun h => OR.ok (.sl b 0 (Nat.add rows.length new.length) none) h
          else bif (Nat.add 0 (Nat.mul rows.length r)).ble ((rows.length + hid.length) * r) then
            grown h b f ap ((rows.length + hid.length) * r) (Nat.add (Nat.add ap 0) (Nat.mul rows.length r)) (Nat.add (Nat.add ap 0) (Nat.mul (Nat.add rows.length new.length) r)) fun h3 => setRows r new.length rows.length new.flatten t fun t => mk h3 (.cells r f ap (Nat.mul (Nat.add rows.length new.length) r) t) (.sl h.next 0 (Nat.add rows.length new.length) none)
          else .bad) := by
      unfold appendTo Go.Eng.append1
      simp only [hb0, cond_false, force_eq]
      rw [e0]
      show (Obj.cells? .bad _ (h.obj b) : OR) = _
      rw [show h.obj b = some (.cells r f ap ((rows.length + hid.length) * r) t) from ob]
      have c1 : (r.beq r && (Nat.mod 0 r).beq 0) = true := by
        have : Nat.mod 0 r = 0 := Nat.zero_mod r
        rw [this, Nat.beq_refl]; rfl
      show (bif (r.beq r && (Nat.mod 0 r).beq 0) then _ else _) = _
      rw [c1, cond_true]; rfl
    rw [run0]
    by_cases hin : new.length ≤ hid.length
    · have c2 : (Nat.add 0 (Nat.mul (Nat.add rows.length new.length) r)).ble ((rows.length + hid.length) * r) = true := by
        rw [nble]
        have : 0 + (rows.length + new.length) * r ≤ (rows.length + hid.length) * r := by rw [Nat.zero_add]; exact Nat.mul_le_mul_right _ (by omega)
        simpa using this
      rw [c2, cond_true]
      have wide : AcuV bs f r h (.sl b 0 (rows ++ hid).length none) (rows ++ hid) := AcuV.row (hid := []) ge hb hf (by rw [ob]; congr 3; simp) (by rw [List.append_nil]; exact hrow) (by rw [List.append_nil]; exact len) mem
      have s1 := s.acu_to wide
      obtain ⟨h', hst, s2⟩ := s1.putU hr (i := rows.length) (k := new.length) (by omega) rfl hl (by simp; omega)
      refine ⟨bs, f, .sl b 0 (rows.length + new.length) none, h', ?_, ?_⟩
      · show h.storeC b (0 + rows.length * r) (new.length * r) new.flatten OR.bad (fun h => OR.ok (.sl b 0 (rows.length + new.length) none) h) = _
        rw [Nat.zero_add, hst]
      · have s3 := s2.cutU (k := rows.length + new.length) (by simp; omega)
        have e : ((rows ++ hid).take rows.length ++ new ++ (rows ++ hid).drop (rows.length + new.length)).take (rows.length + new.length) = rows ++ new := by
          rw [List.take_left' rfl, List.take_left' (by simp)]
        rw [e] at s3; exact s3
    · have c2 : (Nat.add 0 (Nat.mul (Nat.add rows.length new.length) r)).ble ((rows.length + hid.length) * r) = false := by
        rw [nble]
        have : ¬ (0 + (rows.length + new.length) * r ≤ (rows.length + hid.length) * r) := by
          rw [Nat.zero_add]; intro hc
          have := Nat.le_of_mul_le_mul_right hc hr
          omega
        simpa using this
      have c3 : (Nat.add 0 (Nat.mul rows.length r)).ble ((rows.length + hid.length) * r) = true := by
        rw [nble]
        have : 0 + rows.length * r ≤ (rows.length + hid.length) * r := by rw [Nat.zero_add]; exact Nat.mul_le_mul_right _ (by omega)
        simpa using this
      rw [c2, cond_false, c3, cond_true, grown_eq _ _ _ _ _ _ _ _ (fun _ _ _ _ => Nat.zero_le _) (Nat.zero_le _), setRows_eq]
      generalize hg : grownP h b f ap ((rows.length + hid.length) * r) (Nat.add (Nat.add ap 0) (Nat.mul rows.length r)) (Nat.add (Nat.add ap 0) (Nat.mul (Nat.add rows.length new.length) r)) = g
      have g1 := grownP_next h b f ap ((rows.length + hid.length) * r) (Nat.add (Nat.add ap 0) (Nat.mul rows.length r)) (Nat.add (Nat.add ap 0) (Nat.mul (Nat.add rows.length new.length) r))
      have g2 := grownP_fams h b f ap ((rows.length + hid.length) * r) (Nat.add (Nat.add ap 0) (Nat.mul rows.length r)) (Nat.add (Nat.add ap 0) (Nat.mul (Nat.add rows.length new.length) r))
      have g3 := @grownP_keep h b f ap ((rows.length + hid.length) * r) (Nat.add (Nat.add ap 0) (Nat.mul rows.length r)) (Nat.add (Nat.add ap 0) (Nat.mul (Nat.add rows.length new.length) r))
      have g4 := @grownP_some h b f ap ((rows.length + hid.length) * r) (Nat.add (Nat.add ap 0) (Nat.mul rows.length r)) (Nat.add (Nat.add ap 0) (Nat.mul (Nat.add rows.length new.length) r)) (hbs b hb)
      obtain ⟨F, g5, g6⟩ := grownP_fam h b f ap ((rows.length + hid.length) * r) (Nat.add (Nat.add ap 0) (Nat.mul rows.length r)) (Nat.add (Nat.add ap 0) (Nat.mul (Nat.add rows.length new.length) r))
      rw [hg] at g1 g2 g3 g4 g5
      have hs : okSize (.cells r f ap (Nat.mul (Nat.add rows.length new.length) r) (setRowsP r new.length rows.length new.flatten t)) = true := by show Nat.blt 0 r = true; rw [nblt]; simpa using hr
      have hbl : ∀ c ∈ bs, c < h.next := fun c hc => w.t c (hbs c hc)
      refine ⟨h.next :: bs, f, .sl h.next 0 (rows.length + new.length) none, g.add (.cells r f ap ((rows.length + new.length) * r) (setRowsP r new.length rows.length new.flatten t)), ?_, ?_⟩
      · show (Bool.rec .bad (g.newC (.cells r f ap (Nat.mul (Nat.add rows.length new.length) r) (setRowsP r new.length rows.length new.flatten t)) fun h2 => .ok (.sl h.next 0 (Nat.add rows.length new.length) none) h2) (okSize (.cells r f ap (Nat.mul (Nat.add rows.length new.length) r) (setRowsP r new.length rows.length new.flatten t))) : OR) = _
        rw [hs, newC_eq]; rfl
      · have gn : g.next = h.next := g1.1
        have ga : ∀ k, T.get k (g.add (.cells r f ap ((rows.length + new.length) * r) (setRowsP r new.length rows.length new.flatten t))).t = if k = h.next then some (.cells r f ap ((rows.length + new.length) * r) (setRowsP r new.length rows.length new.flatten t)) else T.get k g.t := fun k => by rw [get_add, gn]
        have hne : ∀ k, k < h.next → k ≠ h.next := fun k hk => by omega
        refine s.turn ⟨fun k hk => ?_, fun k hk => ?_, ?_⟩ (by show h.next ≤ g.next + 1; omega) rfl rfl (fun k hk hm => ?_) (fun k hk hm => ?_) (fun k hk => ?_) ?_ fun Z => ⟨?_, fun k hk => ?_⟩
        · show k < g.next + 1
          rw [ga] at hk
          by_cases e : k = h.next
          · omega
          · rw [if_neg e] at hk
            have := w.t k ((g4 k).1 hk); omega
        · show k < g.next + 1
          have hk : T.get k g.fams ≠ none := hk
          by_cases e : k = f
          · have := hbl f hf; omega
          · rw [g2 k e] at hk; have := w.f k hk; omega
        · show 8 ≤ g.next + 1
          have := w.lim; omega
        · rw [ga, if_neg (hne k hk)]
          exact g3 (fun e => hm (by rw [e]; exact hb)) fun F hF hmem => hm (mem F hF k hmem)
        · exact g2 k fun e => hm (by rw [e]; exact hf)
        · rcases List.mem_cons.1 hk with rfl | hk
          · exact .inr (Nat.le_refl _)
          · exact .inl hk
        · exact List.nodup_cons.2 ⟨fun hm => by have := hbl _ hm; omega, hnd⟩
        · have hlen : (rows ++ new).length = rows.length + new.length := by simp
          have := AcuV.row (bs := h.next :: bs) (f := f) (r := r) (ap := ap) (h := g.add (.cells r f ap ((rows.length + new.length) * r) (setRowsP r new.length rows.length new.flatten t))) (b := h.next) (rows := rows ++ new) (hid := []) w.lim (by simp) (by simp [hf]) (by rw [ga, if_pos rfl, hlen]; rfl) (fun i row hi => ?_) (fun row hm => ?_) (fun F' hF' m hm => ?_)
          · rw [hlen] at this; exact this
          · rw [List.append_nil] at hi
            rw [setRowsP_get r _ _ _ t i (by omega) (by omega)]
            have hi1 := (List.getElem?_eq_some_iff.1 hi).1
            rw [hlen] at hi1
            by_cases hlt : i < rows.length
            · rw [if_neg (by omega)]
              rw [List.getElem?_append_left hlt] at hi
              exact hrow i row (by rw [List.getElem?_append_left hlt]; exact hi)
            · rw [if_pos ⟨by omega, by omega⟩]
              rw [List.getElem?_append_right (by omega)] at hi
              rw [flatten_row _ hl hi]
          · rw [List.append_nil] at hm
            rcases List.mem_append.1 hm with hm | hm
            · exact len row (List.mem_append_left _ hm)
            · exact hl row hm
          · have hF' : T.get f g.fams = some F' := hF'
            rw [g5] at hF'; cases hF'
            rcases g6 m hm with rfl | rfl | ⟨F0, hF0, hm0⟩
            · simp
            · simp [hb]
            · exact List.mem_cons_of_mem _ (mem F0 hF0 m hm0)
        · rw [ga]
          rcases List.mem_cons.1 hk with rfl | hk
          · rw [if_pos rfl]; simp
          · rw [if_neg (hne k (hbl k hk))]; exact (g4 k).2 (hbs k hk)
section
variable {c : Ctx} {Q : QT} {env : Env} {h : Heap} {fs : List Fact} {vs : List V} {l : List Opr} {i j : D8} {bs : List Nat} {f r bytes : Nat} {v xv : V} {rows new : List (List V)}
theorem WO.appU {s x : A} (st : St (.acu bs f r v rows :: fs) h) (hs : s.ev vs env = v) (hx : x.ev vs env = xv) (hn : Rows r h xv new) (hr : 0 < r) (hfit : (rows.length + new.length) * bytes ≤ 1099511627776)
    (K : ∀ bs' f' v' h1, St (.acu bs' f' r v' (rows ++ new) :: fs) h1 → WO c l Q (v' :: vs) env h1) : WO c (.p (.H (.append r bytes s x)) :: l) Q vs env h := by
  have hl : ∀ row ∈ new, row.length = r := by
    cases hn with
    | nil => intro row hm; simp at hm
    | row _ _ _ _ _ hlen => exact hlen
  obtain ⟨bs', f', v', h', e, s'⟩ := st.appendU hr hl hfit
  exact WO.act (fun _ => L.append (ev := fun a => a.ev vs env) hs hx hn e) (K _ _ _ _ s')
theorem WO.appUS {s x : A} (st : St (.acu bs f r v rows :: fs) h) (hs : s.ev vs env = v) (hx : x.ev vs env = xv) (hn : Rows r h xv new) (hr : 0 < r) (hfit : (rows.length + new.length) * bytes ≤ 1099511627776)
    (K : ∀ bs' f' v' h1, St (.acu bs' f' r v' (rows ++ new) :: fs) h1 → WO c l Q (v' :: vs) (Env.set i j v' env) h1) : WO c (.s i j (.H (.append r bytes s x)) :: l) Q vs env h := by
  have hl : ∀ row ∈ new, row.length = r := by
    cases hn with
    | nil => intro row hm; simp at hm
    | row _ _ _ _ _ hlen => exact hlen
  obtain ⟨bs', f', v', h', e, s'⟩ := st.appendU hr hl hfit
  exact WO.actS (fun _ => L.append (ev := fun a => a.ev vs env) hs hx hn e) (K _ _ _ _ s')
/-- one element is written -/
theorem St.put1U {b m n k : Nat} {cap : Option Nat} {cs : List V} (s : St (.acu bs f r (.sl b m n cap) rows :: fs) h) (hr : 0 < r) (hk : k < rows.length) (hc : cs.length = r) :
    ∃ h', (∀ {R : Type} (d : R) (K : Heap → R), h.storeC b (k * r) r cs d K = K h') ∧ St (.acu bs f r (.sl b m n cap) (rows.set k cs) :: fs) h' := by
  obtain ⟨h', e, s'⟩ := s.putU hr (i := k) (k := 1) (new := [cs]) (by omega) rfl (by simpa using hc) (by omega)
  refine ⟨h', fun d K => ?_, ?_⟩
  · have := e d K
    rw [Nat.one_mul] at this
    simpa using this
  · rw [List.set_eq_take_append_cons_drop, if_pos hk, ← List.singleton_append (x := cs), ← List.append_assoc]; exact s'
theorem WO.storeU {b n k : Nat} {cap : Option Nat} {x y : A} {cs : List V} (st : St (.acu bs f r (.sl b 0 n cap) rows :: fs) h) (hx : x.ev vs env = .ptr b (0 + k * r)) (hy : (y.ev vs env).asCells = some cs) (hr : 0 < r) (hk : k < rows.length) (hc : cs.length = r)
    (K : ∀ h1, St (.acu bs f r (.sl b 0 n cap) (rows.set k cs) :: fs) h1 → WO c l Q (un :: vs) env h1) : WO c (.p (.H (.store r x y)) :: l) Q vs env h := by
  obtain ⟨h', e, s'⟩ := st.put1U hr hk hc
  refine WO.act (fun call => ?_) (K h' s')
  show (Option.rec .bad (fun p => Option.rec .bad (fun l => Bool.rec .bad (h.storeC p.1 p.2 r l .bad fun h => .ok un h) ((lenV l).beq r)) (y.ev vs env).asCells) (x.ev vs env).asPtr : OR) = _
  rw [hx, hy]
  show (Bool.rec .bad (h.storeC b (0 + k * r) r cs .bad fun h => OR.ok un h) ((lenV cs).beq r) : OR) = _
  rw [lenV_eq, hc, Nat.beq_refl]
  show h.storeC b (0 + k * r) r cs .bad (fun h => OR.ok un h) = _
  rw [Nat.zero_add, e]
end
theorem flat_strs : ∀ ss : List (List UInt8), (ss.map fun s => [L.str s]).flatten = ss.map sV
  | [] => rfl
  | a :: l => by rw [List.map_cons, List.flatten_cons, flat_strs l]; rfl
/-- slices.Sort of texts, by its summary -/
theorem sort_runs {c : Ctx} {f0 : Nat} (hc : ∀ args h r, moreSort f0 f0 args h = r → r ≠ .bad → Runs c f0 args h r) {fs : List Fact} {h : Heap} {bs : List Nat} {f : Nat} {v : V} {ss : List (List UInt8)} (hn : ss.length < 4294967296) (st : St (.acu bs f 1 v (ss.map fun s => [L.str s]) :: fs) h) :
    RunP c f0 [v] h fun _ h1 => St (.acu bs f 1 v ((sortB ss).map fun s => [L.str s]) :: fs) h1 := by
  obtain ⟨_, _, a⟩ := st.acu_own
  have hf : f0.beq f0 = true := Nat.beq_refl _
  have hrows := a.rows (by decide)
  generalize hR : (ss.map fun s => [L.str s]) = R at st a hrows
  cases a with
  | nil =>
    obtain rfl : ss = [] := by simpa using hR
    refine ⟨.tup [], h, hc _ _ _ ?_ (by simp), st⟩
    unfold moreSort; rw [hf]
  | row ge hb hfb ob hrow len mem =>
    rename_i b ap hid t
    have hRl : R.length = ss.length := by rw [← hR, List.length_map]
    have hload : h.load b 0 R.length = some (ss.map sV) := by
      have := hrows.loadAll
      rw [show Nat.mul R.length 1 = R.length from Nat.mul_one _] at this
      rw [this, ← hR, flat_strs]
    have hstr : ∀ l : List (List UInt8), strsV (l.map sV) = true := fun l => by
      induction l with
      | nil => rfl
      | cons a l ih => exact ih
    have hsl : (sortB ss).length = ss.length := (sortB_perm ss).length_eq
    have hlt : (R.length).blt 4294967296 = true := by rw [nblt]; simp; omega
    by_cases h0 : ss.length = 0
    · obtain rfl : ss = [] := by simpa using h0
      obtain rfl : R = [] := by simpa using hR.symm
      refine ⟨.tup [], h, hc _ _ _ ?_ (by simp), st⟩
      unfold moreSort; rw [hf]
      show (Option.rec .bad (fun l => Bool.rec .bad (h.storeC b 0 0 (sortV l) .bad fun h => .ok (.tup []) h) ((strsV l).and (Nat.blt 0 4294967296))) (h.load b 0 0) : OR) = _
      rfl
    · obtain ⟨h', e, s'⟩ := st.putU (i := 0) (k := ss.length) (new := (sortB ss).map fun s => [L.str s]) (by decide) (by omega) (by rw [List.length_map, hsl]) (fun row hm => by obtain ⟨s, _, rfl⟩ := List.mem_map.1 hm; rfl) (by omega)
      refine ⟨.tup [], h', hc _ _ _ ?_ (by simp), ?_⟩
      · unfold moreSort; rw [hf]
        show (Option.rec .bad (fun l => Bool.rec .bad (h.storeC b 0 R.length (sortV l) .bad fun h => .ok (.tup []) h) ((strsV l).and ((R.length).blt 4294967296))) (h.load b 0 R.length) : OR) = _
        rw [hload]
        show (Bool.rec .bad (h.storeC b 0 R.length (sortV (ss.map sV)) .bad fun h => .ok (.tup []) h) ((strsV (ss.map sV)).and ((R.length).blt 4294967296)) : OR) = _
        rw [hstr, hlt]
        show h.storeC b 0 R.length (sortV (ss.map sV)) .bad (fun h => OR.ok (.tup []) h) = _
        have := e (.bad : OR) (fun h => .ok (.tup []) h)
        rw [Nat.zero_mul, Nat.mul_one] at this
        rw [sortV_eq, hRl]
        rw [flat_strs] at this; exact this
      · have e3 : R.take 0 ++ ((sortB ss).map fun s => [L.str s]) ++ R.drop (0 + ss.length) = (sortB ss).map fun s => [L.str s] := by
          rw [Nat.zero_add, List.drop_of_length_le (by omega)]; simp
        rw [e3] at s'; exact s'
end
end Go.Eng
namespace Go.Eng
noncomputable section

/-! ### tables of truths -/
def celB (b : Nat) (row : List Bool) : Fact := .cel b 1 (row.map fun x => [.bool x])
def tabF (bs : List Nat) (M : List (List Bool)) : List Fact := List.zipWith celB bs M
/-- the slice that leads to the rows -/
def TabV (ob oo n : Nat) (bs : List Nat) (h : Heap) : Prop := ∀ a b, bs[a]? = some b → ∃ cap, h.load1 ob (oo + a * 1) = some (.sl b 0 n cap)
structure Sq (n : Nat) (M : List (List Bool)) : Prop where
  len : M.length = n
  row : ∀ r ∈ M, r.length = n
theorem Sq.at {n : Nat} {M : List (List Bool)} (s : Sq n M) {a : Nat} (ha : a < n) : ∃ r, M[a]? = some r ∧ r.length = n :=
  ⟨M[a]'(by rw [s.len]; exact ha), List.getElem?_eq_getElem (by rw [s.len]; exact ha), s.row _ (List.getElem_mem _)⟩
theorem tabF_at {bs : List Nat} {M : List (List Bool)} {a b : Nat} {r : List Bool} (hb : bs[a]? = some b) (hr : M[a]? = some r) : (tabF bs M)[a]? = some (celB b r) := by
  unfold tabF; rw [List.getElem?_zipWith, hb, hr]
theorem tabF_set {bs : List Nat} {M : List (List Bool)} {a b : Nat} (r : List Bool) (hb : bs[a]? = some b) : (tabF bs M).set a (celB b r) = tabF bs (M.set a r) := by
  unfold tabF
  apply List.ext_getElem?
  intro i
  rw [List.getElem?_zipWith]
  by_cases e : a = i
  · subst e
    rw [List.getElem?_set, if_pos rfl, hb]
    by_cases hl : a < M.length
    · rw [if_pos (by rw [List.length_zipWith]; have := (List.getElem?_eq_some_iff.1 hb).1; omega), List.getElem?_set, if_pos rfl, if_pos hl]
    · rw [if_neg (by simp [List.length_zipWith]; omega), List.getElem?_set, if_pos rfl, if_neg hl]
  · rw [List.getElem?_set, if_neg e, List.getElem?_zipWith, List.getElem?_set, if_neg e]
theorem cel_load {h : Heap} {b : Nat} {row : List Bool} (a : Rows 1 h (.sl b 0 (row.map fun x => [V.bool x]).length none) (row.map fun x => [V.bool x])) {j : Nat} {x : Bool} (hj : row[j]? = some x) : h.load1 b (0 + j * 1) = some (.bool x) :=
  a.load1 (by rw [List.getElem?_map, hj]; rfl)
/-- one truth is read -/
theorem tab_at {fs : List Fact} {h : Heap} {ob oo n : Nat} {bs : List Nat} {M : List (List Bool)} (st : St (.stb (TabV ob oo n bs) :: (tabF bs M ++ fs)) h) {a b : Nat} {r : List Bool} (hb : bs[a]? = some b) (hr : M[a]? = some r) :
    (∃ cap, h.load1 ob (oo + a * 1) = some (.sl b 0 n cap)) ∧ ∀ j x, r[j]? = some x → h.load1 b (0 + j * 1) = some (.bool x) := by
  refine ⟨st.stb_at 0 rfl a b hb, fun j x hj => ?_⟩
  have s2 := st.tail.at_ (tabF_at hb hr)
  exact cel_load (s2.celRows 0 rfl) hj
/-- one truth is written -/
theorem tab_put {fs : List Fact} {h : Heap} {ob oo n : Nat} {bs : List Nat} {M : List (List Bool)} (st : St (.stb (TabV ob oo n bs) :: (tabF bs M ++ fs)) h) {a b j : Nat} {r : List Bool} (hb : bs[a]? = some b) (hr : M[a]? = some r) (hj : j < r.length) (x : Bool) :
    ∃ t, 8 ≤ b ∧ T.get b h.t = some (.cells 1 b 0 (r.length * 1) t) ∧ T.get b h.fams = none ∧ St (.stb (TabV ob oo n bs) :: (tabF bs (M.set a (r.set j x)) ++ fs)) (h.put b (.cells 1 b 0 (r.length * 1) (T.set j [.bool x] t))) := by
  have s1 : St (tabF bs M ++ .stb (TabV ob oo n bs) :: fs) h := st.in_
  have s2 := s1.at_ (tabF_at hb hr)
  obtain ⟨t, h8, h1, h2, s3⟩ := St.putCel (v := .bool x) s2 (i := j) (by simpa using hj)
  have hl : (r.map fun x => [V.bool x]).length = r.length := List.length_map ..
  rw [hl] at h1 s3
  refine ⟨t, h8, h1, h2, ?_⟩
  have e : (r.map fun x => [V.bool x]).set j [.bool x] = (r.set j x).map fun x => [V.bool x] := by rw [List.map_set]
  rw [e] at s3
  have s4 : St ((tabF bs M).set a (celB b (r.set j x)) ++ .stb (TabV ob oo n bs) :: fs) _ := St.back (y := celB b (r.set j x)) s3 (tabF_at hb hr)
  rw [tabF_set _ hb] at s4
  exact s4.out

namespace Lab
/-! ### ways of two steps are one -/
def at2 (M : List (List Bool)) (a b : Nat) : Bool := ((M[a]?.getD [])[b]?).getD false
def orRow (r s : List Bool) : List Bool := List.zipWith (· || ·) r s
def clRow (k : Nat) (M : List (List Bool)) (row : List Bool) : List Bool := if (row[k]?).getD false then orRow row (M[k]?.getD []) else row
def clStep (M : List (List Bool)) (k : Nat) : List (List Bool) := M.map (clRow k M)
def closed (n : Nat) (M : List (List Bool)) : List (List Bool) := (List.range n).foldl clStep M
def clPart (k a : Nat) (M : List (List Bool)) : List (List Bool) := (M.take a).map (clRow k M) ++ M.drop a
def rowPart (b : Nat) (r s : List Bool) : List Bool := (orRow r s).take b ++ r.drop b
theorem orRow_self (r : List Bool) : orRow r r = r := by
  unfold orRow
  induction r with
  | nil => rfl
  | cons a r ih => rw [List.zipWith_cons_cons, ih]; cases a <;> rfl
theorem orRow_len {r s : List Bool} {n : Nat} (hr : r.length = n) (hs : s.length = n) : (orRow r s).length = n := by unfold orRow; rw [List.length_zipWith, hr, hs, Nat.min_self]
theorem clRow_len {k n : Nat} {M : List (List Bool)} {row : List Bool} (s : Sq n M) (hk : k < n) (hr : row.length = n) : (clRow k M row).length = n := by
  obtain ⟨r, h1, h2⟩ := s.at hk
  unfold clRow
  rw [h1]
  split
  · exact orRow_len hr h2
  · exact hr
theorem clStep_sq {k n : Nat} {M : List (List Bool)} (s : Sq n M) (hk : k < n) : Sq n (clStep M k) := by
  refine ⟨by unfold clStep; rw [List.length_map, s.len], fun r hr => ?_⟩
  obtain ⟨r0, h0, rfl⟩ := List.mem_map.1 hr
  exact clRow_len s hk (s.row r0 h0)
theorem closed_succ (n : Nat) (M : List (List Bool)) : closed (n + 1) M = clStep (closed n M) n := by
  unfold closed; rw [List.range_succ, List.foldl_append]; rfl
theorem closed_sq {n : Nat} {M : List (List Bool)} (s : Sq n M) : ∀ k, k ≤ n → Sq n (closed k M)
  | 0, _ => s
  | k + 1, h => by rw [closed_succ]; exact clStep_sq (closed_sq s k (by omega)) (by omega)
theorem clPart_zero (k : Nat) (M : List (List Bool)) : clPart k 0 M = M := by unfold clPart; simp
theorem clPart_all {k n : Nat} {M : List (List Bool)} (s : Sq n M) : clPart k n M = clStep M k := by
  unfold clPart clStep
  rw [List.take_of_length_le (by rw [s.len]; exact Nat.le_refl _), List.drop_of_length_le (by rw [s.len]; exact Nat.le_refl _), List.append_nil]
theorem clPart_at {k a i n : Nat} {M : List (List Bool)} (s : Sq n M) (ha : a ≤ n) : (clPart k a M)[i]? = (M[i]?).map fun r => if i < a then clRow k M r else r := by
  unfold clPart
  by_cases h : i < a
  · rw [List.getElem?_append_left (by rw [List.length_map, List.length_take, s.len]; omega), List.getElem?_map, List.getElem?_take_of_lt h]
    cases M[i]? with
    | none => rfl
    | some r => simp [h]
  · rw [List.getElem?_append_right (by rw [List.length_map, List.length_take, s.len]; omega), List.length_map, List.length_take, s.len, List.getElem?_drop]
    have : a + (i - min a n) = i := by omega
    rw [this]
    cases M[i]? with
    | none => rfl
    | some r => simp [h]
theorem clPart_succ {k a n : Nat} {M : List (List Bool)} {r : List Bool} (s : Sq n M) (ha : a < n) (hr : M[a]? = some r) : (clPart k a M).set a (clRow k M r) = clPart k (a + 1) M := by
  apply List.ext_getElem?
  intro i
  rw [List.getElem?_set, clPart_at s (by omega)]
  have hlen : (clPart k a M).length = n := by unfold clPart; rw [List.length_append, List.length_map, List.length_take, List.length_drop, s.len]; omega
  by_cases e : a = i
  · subst e
    rw [if_pos rfl, hlen, if_pos ha, clPart_at s (by omega), hr]; simp
  · rw [if_neg e, clPart_at s (by omega)]
    cases M[i]? with
    | none => rfl
    | some q => simp; congr 1; simp; omega
/-- the row k itself stays -/
theorem clRow_self {k : Nat} {M : List (List Bool)} {r : List Bool} (hr : M[k]? = some r) : clRow k M r = r := by
  unfold clRow; rw [hr]; split
  · exact orRow_self r
  · rfl
theorem rowPart_zero (r s : List Bool) : rowPart 0 r s = r := by unfold rowPart; simp
theorem rowPart_all {n : Nat} {r s : List Bool} (hr : r.length = n) (hs : s.length = n) : rowPart n r s = orRow r s := by
  unfold rowPart; rw [List.take_of_length_le (by rw [orRow_len hr hs]; exact Nat.le_refl _), List.drop_of_length_le (by rw [hr]; exact Nat.le_refl _), List.append_nil]
theorem rowPart_len {b n : Nat} {r s : List Bool} (hr : r.length = n) (hs : s.length = n) (hb : b ≤ n) : (rowPart b r s).length = n := by
  unfold rowPart; rw [List.length_append, List.length_take, List.length_drop, orRow_len hr hs, hr]; omega
theorem rowPart_at {b n i : Nat} {r s : List Bool} (hr : r.length = n) (hs : s.length = n) (hb : b ≤ n) : (rowPart b r s)[i]? = if i < b then (orRow r s)[i]? else r[i]? := by
  unfold rowPart
  by_cases h : i < b
  · rw [if_pos h, List.getElem?_append_left (by rw [List.length_take, orRow_len hr hs]; omega), List.getElem?_take_of_lt h]
  · rw [if_neg h, List.getElem?_append_right (by rw [List.length_take, orRow_len hr hs]; omega), List.length_take, orRow_len hr hs, List.getElem?_drop]
    congr 1; omega
theorem rowPart_succ {b n : Nat} {r s : List Bool} {x y : Bool} (hr : r.length = n) (hs : s.length = n) (hb : b < n) (hx : r[b]? = some x) (hy : s[b]? = some y) : (rowPart b r s).set b (x || y) = rowPart (b + 1) r s := by
  apply List.ext_getElem?
  intro i
  rw [List.getElem?_set, rowPart_len hr hs (by omega), rowPart_at hr hs (by omega), rowPart_at hr hs (by omega)]
  by_cases e : b = i
  · subst e
    rw [if_pos rfl, if_pos hb, if_pos (by omega)]
    unfold orRow; rw [List.getElem?_zipWith, hx, hy]
  · rw [if_neg e]
    by_cases h : i < b
    · rw [if_pos h, if_pos (by omega)]
    · rw [if_neg h, if_neg (by omega)]
theorem rowPart_self (b : Nat) (r : List Bool) : rowPart b r r = r := by unfold rowPart; rw [orRow_self, List.take_append_drop]
end Lab
end
end Go.Eng
namespace Go.Eng
noncomputable section

/-! ### tables of numbers, frozen; the lattice of a table -/
def iv (x : Nat) : List V := [.int .i64 (x : Int)]
def IRows (h : Heap) : List (List Nat) → List V → Prop
  | [], [] => True
  | r :: J, v :: vs => Rows 1 h v (r.map iv) ∧ IRows h J vs
  | _, _ => False
theorem IRows.snoc {h : Heap} : ∀ {J : List (List Nat)} {vs : List V} {r : List Nat} {v : V}, IRows h J vs → Rows 1 h v (r.map iv) → IRows h (J ++ [r]) (vs ++ [v])
  | [], [], _, _, _, hr => ⟨hr, trivial⟩
  | [], _ :: _, _, _, h, _ => h.elim
  | _ :: _, [], _, _, h, _ => h.elim
  | _ :: _, _ :: _, _, _, h, hr => ⟨h.1, h.2.snoc hr⟩
theorem IRows.len {h : Heap} : ∀ {J : List (List Nat)} {vs : List V}, IRows h J vs → vs.length = J.length
  | [], [], _ => rfl
  | [], _ :: _, h => h.elim
  | _ :: _, [], h => h.elim
  | _ :: _, _ :: _, h => by simp [h.2.len]
theorem IRows.at {h : Heap} : ∀ {J : List (List Nat)} {vs : List V}, IRows h J vs → ∀ {i : Nat} {r : List Nat}, J[i]? = some r → ∃ v, vs[i]? = some v ∧ Rows 1 h v (r.map iv)
  | [], [], _, i, r, hi => by simp at hi
  | [], _ :: _, h, _, _, _ => h.elim
  | _ :: _, [], h, _, _, _ => h.elim
  | a :: J, v :: vs, h, 0, r, hi => by simp at hi; subst hi; exact ⟨v, rfl, h.1⟩
  | a :: J, v :: vs, h, i + 1, r, hi => by
    obtain ⟨w, h1, h2⟩ := h.2.at (i := i) (r := r) (by simpa using hi)
    exact ⟨w, by simpa using h1, h2⟩
def ITab (h : Heap) (v : V) (J : List (List Nat)) : Prop := ∃ vs : List V, Rows 1 h v (vs.map fun x => [x]) ∧ IRows h J vs
/-- a table of truths that is read alone -/
def MatV (lb lo n : Nat) (M : List (List Bool)) (h : Heap) : Prop := ∀ a, a < n → ∃ rb ro rcap, h.load1 lb (lo + a * 1) = some (.sl rb ro n rcap) ∧ ∀ b, b < n → h.load1 rb (ro + b * 1) = some (.bool (Lab.at2 M a b))
theorem St.triv {fs : List Fact} {h : Heap} {P : Heap → Prop} (s : St fs h) (hp : ∀ h, P h) : St (.stb P :: fs) h := (St.pure s (Q := True) trivial).imp0 fun h _ => hp h

namespace Lab
/-- is it below all that are so? -/
def lower (n : Nat) (le : Nat → Nat → Bool) (is : Nat → Bool) (x : Nat) : Bool := (List.range n).all fun d => !is d || le x d
def least (n : Nat) (le : Nat → Nat → Bool) (is : Nat → Bool) : Option Nat := (List.range n).find? fun x => is x && lower n le is x
def join (n : Nat) (M : List (List Bool)) (a b : Nat) : Option Nat := least n (at2 M) fun x => at2 M a x && at2 M b x
def meet (n : Nat) (M : List (List Bool)) (a b : Nat) : Option Nat := least n (fun x y => at2 M y x) fun x => at2 M x a && at2 M x b
def okC (n : Nat) (M : List (List Bool)) (a b : Nat) : Bool := !(decide (a ≠ b) && (at2 M a b && at2 M b a)) && ((join n M a b).isSome && (meet n M a b).isSome)
def joinRow (n : Nat) (M : List (List Bool)) (a k : Nat) : List Nat := (List.range k).map fun b => (join n M a b).getD 0
def meetRow (n : Nat) (M : List (List Bool)) (a k : Nat) : List Nat := (List.range k).map fun b => (meet n M a b).getD 0
def joinT (n : Nat) (M : List (List Bool)) (k : Nat) : List (List Nat) := (List.range k).map fun a => joinRow n M a n
def meetT (n : Nat) (M : List (List Bool)) (k : Nat) : List (List Nat) := (List.range k).map fun a => meetRow n M a n
def okR (n : Nat) (M : List (List Bool)) (a k : Nat) : Bool := (List.range k).all fun b => okC n M a b
def okT (n : Nat) (M : List (List Bool)) (k : Nat) : Bool := (List.range k).all fun a => okR n M a n
def low (n : Nat) (M : List (List Bool)) : Option Nat := least n (at2 M) fun _ => true
def high (n : Nat) (M : List (List Bool)) : Option Nat := least n (fun x y => at2 M y x) fun _ => true
/-- the tables, the lowest, the highest; none: it is no lattice -/
def complete (n : Nat) (M : List (List Bool)) : Option (Nat × Nat) := if okT n M n && ((low n M).isSome && (high n M).isSome) then some ((low n M).getD 0, (high n M).getD 0) else none
theorem joinRow_succ (n : Nat) (M : List (List Bool)) (a k : Nat) : joinRow n M a (k + 1) = joinRow n M a k ++ [(join n M a k).getD 0] := by unfold joinRow; rw [List.range_succ, List.map_append]; rfl
theorem meetRow_succ (n : Nat) (M : List (List Bool)) (a k : Nat) : meetRow n M a (k + 1) = meetRow n M a k ++ [(meet n M a k).getD 0] := by unfold meetRow; rw [List.range_succ, List.map_append]; rfl
theorem joinT_succ (n : Nat) (M : List (List Bool)) (k : Nat) : joinT n M (k + 1) = joinT n M k ++ [joinRow n M k n] := by unfold joinT; rw [List.range_succ, List.map_append]; rfl
theorem meetT_succ (n : Nat) (M : List (List Bool)) (k : Nat) : meetT n M (k + 1) = meetT n M k ++ [meetRow n M k n] := by unfold meetT; rw [List.range_succ, List.map_append]; rfl
theorem okR_succ (n : Nat) (M : List (List Bool)) (a k : Nat) : okR n M a (k + 1) = (okR n M a k && okC n M a k) := by unfold okR; rw [List.range_succ, List.all_append]; simp
theorem okT_succ (n : Nat) (M : List (List Bool)) (k : Nat) : okT n M (k + 1) = (okT n M k && okR n M k n) := by unfold okT; rw [List.range_succ, List.all_append]; simp
theorem okR_no {n : Nat} {M : List (List Bool)} {a b k : Nat} (hb : b < k) (h : okC n M a b = false) : okR n M a k = false := by
  unfold okR; rw [Bool.eq_false_iff]; intro ht
  rw [List.all_eq_true] at ht
  rw [ht b (List.mem_range.2 hb)] at h; cases h
theorem okT_no {n : Nat} {M : List (List Bool)} {a b k : Nat} (ha : a < k) (hb : b < n) (h : okC n M a b = false) : okT n M k = false := by
  unfold okT; rw [Bool.eq_false_iff]; intro ht
  rw [List.all_eq_true] at ht
  have := ht a (List.mem_range.2 ha)
  rw [okR_no hb h] at this; cases this
theorem complete_no {n : Nat} {M : List (List Bool)} {a b : Nat} (ha : a < n) (hb : b < n) (h : okC n M a b = false) : complete n M = none := by
  unfold complete; rw [okT_no ha hb h]; rfl
end Lab
end
end Go.Eng
namespace Go.Eng
noncomputable section
namespace Lab
/-! ### ways of any steps; names in order, once -/
theorem at2_some {M : List (List Bool)} {a : Nat} {r : List Bool} (h : M[a]? = some r) (b : Nat) : at2 M a b = (r[b]?).getD false := by unfold at2; rw [h]; rfl
theorem at2_none {M : List (List Bool)} {a : Nat} (h : M[a]? = none) (b : Nat) : at2 M a b = false := by unfold at2; rw [h]; rfl
theorem at2_lt {n : Nat} {M : List (List Bool)} (s : Sq n M) {a b : Nat} (h : at2 M a b = true) : a < n ∧ b < n := by
  cases ha : M[a]? with
  | none => rw [at2_none ha] at h; cases h
  | some r =>
    rw [at2_some ha] at h
    obtain ⟨h1, rfl⟩ := List.getElem?_eq_some_iff.1 ha
    refine ⟨s.len ▸ h1, ?_⟩
    rcases Nat.lt_or_ge b (M[a].length) with hb | hb
    · rw [s.row _ (List.getElem_mem h1)] at hb; exact hb
    · rw [List.getElem?_eq_none hb] at h; cases h
theorem at2_clStep {n k : Nat} {M : List (List Bool)} (s : Sq n M) (hk : k < n) (a b : Nat) : at2 (clStep M k) a b = (at2 M a b || (at2 M a k && at2 M k b)) := by
  obtain ⟨rk, hrk, hlk⟩ := s.at hk
  cases ha : M[a]? with
  | none =>
    have : (clStep M k)[a]? = none := by unfold clStep; rw [List.getElem?_map, ha]; rfl
    rw [at2_none this, at2_none ha, at2_none ha]; rfl
  | some r =>
    have hl : r.length = n := s.row r (List.mem_of_getElem? ha)
    have : (clStep M k)[a]? = some (clRow k M r) := by unfold clStep; rw [List.getElem?_map, ha]; rfl
    rw [at2_some this, at2_some ha, at2_some ha, at2_some hrk]
    unfold clRow
    rw [hrk]
    by_cases hb : b < n
    · obtain ⟨x, hx⟩ : ∃ x, r[b]? = some x := ⟨r[b]'(by omega), List.getElem?_eq_getElem (by omega)⟩
      obtain ⟨y, hy⟩ : ∃ y, rk[b]? = some y := ⟨rk[b]'(by omega), List.getElem?_eq_getElem (by omega)⟩
      cases (r[k]?).getD false with
      | false => simp
      | true =>
        simp only [if_true, Option.getD_some]
        unfold orRow
        rw [List.getElem?_zipWith, hx, hy]; rfl
    · have e1 : r[b]? = none := List.getElem?_eq_none (by omega)
      have e2 : rk[b]? = none := List.getElem?_eq_none (by omega)
      rw [e1, e2]
      split
      · have : (orRow r ((some rk).getD []))[b]? = none := List.getElem?_eq_none (by rw [orRow_len hl (by exact hlk)]; omega)
        rw [this]; simp
      · rw [e1]; simp
theorem closed_ext {n : Nat} {M : List (List Bool)} (s : Sq n M) {a b : Nat} (h : at2 M a b = true) : ∀ k, k ≤ n → at2 (closed k M) a b = true
  | 0, _ => h
  | k + 1, hk => by rw [closed_succ, at2_clStep (closed_sq s k (by omega)) (by omega), closed_ext s h k (by omega)]; rfl
theorem closed_le {n : Nat} {M : List (List Bool)} (s : Sq n M) {R : Nat → Nat → Prop} (tr : ∀ a b c, R a b → R b c → R a c) (hM : ∀ a b, at2 M a b = true → R a b) : ∀ k, k ≤ n → ∀ a b, at2 (closed k M) a b = true → R a b
  | 0, _, a, b, h => hM a b h
  | k + 1, hk, a, b, h => by
    rw [closed_succ, at2_clStep (closed_sq s k (by omega)) (by omega), Bool.or_eq_true, Bool.and_eq_true] at h
    rcases h with h | ⟨h1, h2⟩
    · exact closed_le s tr hM k (by omega) a b h
    · exact tr _ _ _ (closed_le s tr hM k (by omega) _ _ h1) (closed_le s tr hM k (by omega) _ _ h2)
theorem closed_by {n : Nat} {M : List (List Bool)} (s : Sq n M) : ∀ k, k ≤ n → ∀ j, j < k → ∀ a b, at2 (closed k M) a j = true → at2 (closed k M) j b = true → at2 (closed k M) a b = true
  | 0, _, j, hj, _, _, _, _ => absurd hj (by omega)
  | k + 1, hk, j, hj, a, b, h1, h2 => by
    have sk := closed_sq s k (by omega)
    have ih := closed_by s k (by omega)
    simp only [closed_succ, at2_clStep sk (show k < n by omega), Bool.or_eq_true, Bool.and_eq_true] at h1 h2 ⊢
    by_cases e : j = k
    · subst e
      have h1 : at2 (closed j M) a j = true := by rcases h1 with h | h; exact h; exact h.1
      have h2 : at2 (closed j M) j b = true := by rcases h2 with h | h; exact h; exact h.2
      exact .inr ⟨h1, h2⟩
    · have hjk : j < k := by omega
      rcases h1 with h1 | ⟨h1, h1'⟩ <;> rcases h2 with h2 | ⟨h2, h2'⟩
      · exact .inl (ih j hjk a b h1 h2)
      · exact .inr ⟨ih j hjk a k h1 h2, h2'⟩
      · exact .inr ⟨h1, ih j hjk k b h1' h2⟩
      · exact .inr ⟨h1, h2'⟩
theorem closed_trans {n : Nat} {M : List (List Bool)} (s : Sq n M) {a b c : Nat} (h1 : at2 (closed n M) a b = true) (h2 : at2 (closed n M) b c = true) : at2 (closed n M) a c = true :=
  closed_by s n (Nat.le_refl _) b (at2_lt (closed_sq s n (Nat.le_refl _)) h1).2 a c h1 h2
theorem sq_ext {n : Nat} {A B : List (List Bool)} (sa : Sq n A) (sb : Sq n B) (h : ∀ a b, at2 A a b = at2 B a b) : A = B := by
  apply List.ext_getElem (by rw [sa.len, sb.len])
  intro a h1 h2
  have la := sa.row _ (List.getElem_mem h1)
  have lb := sb.row _ (List.getElem_mem h2)
  apply List.ext_getElem (by rw [la, lb])
  intro b h3 h4
  have := h a b
  rw [at2_some (List.getElem?_eq_getElem h1), at2_some (List.getElem?_eq_getElem h2), List.getElem?_eq_getElem h3, List.getElem?_eq_getElem h4] at this
  exact this
theorem closed_same {n : Nat} {A B : List (List Bool)} (sa : Sq n A) (sb : Sq n B) (hab : ∀ a b, at2 A a b = true → at2 (closed n B) a b = true) (hba : ∀ a b, at2 B a b = true → at2 (closed n A) a b = true) : closed n A = closed n B := by
  refine sq_ext (closed_sq sa n (Nat.le_refl _)) (closed_sq sb n (Nat.le_refl _)) fun a b => ?_
  rw [Bool.eq_iff_iff]
  exact ⟨closed_le (R := fun a b => at2 (closed n B) a b = true) sa (fun _ _ _ => closed_trans sb) hab n (Nat.le_refl _) a b, closed_le (R := fun a b => at2 (closed n A) a b = true) sb (fun _ _ _ => closed_trans sa) hba n (Nat.le_refl _) a b⟩

abbrev Txt := List UInt8
/-- no text twice beside itself -/
def uniq : List Txt → List Txt
  | [] => []
  | x :: l => match l with
    | [] => [x]
    | y :: _ => if x = y then uniq l else x :: uniq l
theorem uniq_mem : ∀ (l : List Txt) (z : Txt), z ∈ uniq l ↔ z ∈ l
  | [], z => Iff.rfl
  | [x], z => Iff.rfl
  | x :: y :: l, z => by
    have ih := uniq_mem (y :: l) z
    by_cases h : x = y
    · rw [show uniq (x :: y :: l) = uniq (y :: l) from if_pos h, ih, h]; simp
    · rw [show uniq (x :: y :: l) = x :: uniq (y :: l) from if_neg h, List.mem_cons, ih]; simp
theorem uniq_len : ∀ l : List Txt, (uniq l).length ≤ l.length
  | [] => Nat.le_refl _
  | [x] => Nat.le_refl _
  | x :: y :: l => by
    have ih := uniq_len (y :: l)
    by_cases h : x = y
    · rw [show uniq (x :: y :: l) = uniq (y :: l) from if_pos h]; simp at ih ⊢; omega
    · rw [show uniq (x :: y :: l) = x :: uniq (y :: l) from if_neg h]; simp at ih ⊢; omega
theorem lt_of_le_ne {x y : Txt} (h : x ≤ y) (hn : x ≠ y) : x < y := by
  rcases List.le_iff_lt_or_eq.1 h with h | h
  · exact h
  · exact absurd h hn
theorem uniq_rises : ∀ l : List Txt, l.Pairwise (· ≤ ·) → (uniq l).Pairwise (· < ·)
  | [], _ => List.Pairwise.nil
  | [x], _ => by simp [uniq]
  | x :: y :: l, h => by
    obtain ⟨h1, h2⟩ := List.pairwise_cons.1 h
    have ih := uniq_rises (y :: l) h2
    by_cases e : x = y
    · rw [show uniq (x :: y :: l) = uniq (y :: l) from if_pos e]; exact ih
    · rw [show uniq (x :: y :: l) = x :: uniq (y :: l) from if_neg e]
      refine List.pairwise_cons.2 ⟨fun z hz => ?_, ih⟩
      have hz := (uniq_mem _ _).1 hz
      have hxy : x < y := lt_of_le_ne (h1 y (by simp)) e
      rcases List.mem_cons.1 hz with rfl | hz
      · exact hxy
      · exact List.not_le.1 fun hzx => List.not_le.2 hxy (List.le_trans ((List.pairwise_cons.1 h2).1 z hz) hzx)
theorem rises_ext : ∀ {a b : List Txt}, a.Pairwise (· < ·) → b.Pairwise (· < ·) → (∀ z, z ∈ a ↔ z ∈ b) → a = b
  | [], [], _, _, _ => rfl
  | [], y :: b, _, _, h => absurd ((h y).2 (by simp)) (by simp)
  | x :: a, [], _, _, h => absurd ((h x).1 (by simp)) (by simp)
  | x :: a, y :: b, ha, hb, h => by
    obtain ⟨a1, a2⟩ := List.pairwise_cons.1 ha
    obtain ⟨b1, b2⟩ := List.pairwise_cons.1 hb
    have hxy : x = y := by
      rcases List.mem_cons.1 ((h x).1 (by simp)) with e | e
      · exact e
      · rcases List.mem_cons.1 ((h y).2 (by simp)) with e' | e'
        · exact e'.symm
        · exact absurd (List.lt_trans (b1 x e) (a1 y e')) (List.lt_irrefl _)
    subst hxy
    congr 1
    refine rises_ext a2 b2 fun z => ⟨fun hz => ?_, fun hz => ?_⟩
    · rcases List.mem_cons.1 ((h z).1 (by simp [hz])) with e | e
      · subst e; exact absurd (a1 z hz) (List.lt_irrefl _)
      · exact e
    · rcases List.mem_cons.1 ((h z).2 (by simp [hz])) with e | e
      · subst e; exact absurd (b1 z hz) (List.lt_irrefl _)
      · exact e
/-- the names of pairs, as they come -/
def raw (l : List (Txt × Txt)) : List Txt := l.flatMap fun p => if p.2 = [] then [p.1] else [p.1, p.2]
def names (l : List (Txt × Txt)) : List Txt := uniq (sortB (raw l))
theorem names_mem (l : List (Txt × Txt)) (z : Txt) : z ∈ names l ↔ z ∈ raw l := (uniq_mem _ z).trans (sortB_perm _).mem_iff
theorem names_rises (l : List (Txt × Txt)) : (names l).Pairwise (· < ·) := uniq_rises _ (sortB_sorted _)
/-- each below itself -/
def unit (n : Nat) : List (List Bool) := (List.range n).map fun a => (List.replicate n false).set a true
def put (M : List (List Bool)) (i j : Nat) : List (List Bool) := M.set i ((M[i]?.getD []).set j true)
def putP (ns : List Txt) (M : List (List Bool)) (p : Txt × Txt) : List (List Bool) := if p.2 = [] then M else put M (ns.idxOf p.1) (ns.idxOf p.2)
def table (ns : List Txt) (l : List (Txt × Txt)) : List (List Bool) := l.foldl (putP ns) (unit ns.length)
theorem unit_sq (n : Nat) : Sq n (unit n) := ⟨by simp [unit], fun r hr => by
  obtain ⟨a, _, rfl⟩ := List.mem_map.1 hr
  simp⟩
theorem put_sq {n : Nat} {M : List (List Bool)} (s : Sq n M) {i j : Nat} : Sq n (put M i j) := by
  refine ⟨by simp [put, s.len], fun r hr => ?_⟩
  unfold put at hr
  cases h : M[i]? with
  | none =>
    rw [List.set_eq_of_length_le (by rw [List.getElem?_eq_none_iff] at h; exact h)] at hr
    exact s.row r hr
  | some q =>
    rw [h] at hr
    rcases List.mem_or_eq_of_mem_set hr with hr | rfl
    · exact s.row r hr
    · simp [s.row q (List.mem_of_getElem? h)]
theorem putP_sq {n : Nat} {M : List (List Bool)} {ns : List Txt} (s : Sq n M) (p : Txt × Txt) : Sq n (putP ns M p) := by
  unfold putP; split
  · exact s
  · exact put_sq s
theorem fold_sq {n : Nat} {ns : List Txt} : ∀ (l : List (Txt × Txt)) {M : List (List Bool)}, Sq n M → Sq n (l.foldl (putP ns) M)
  | [], _, s => s
  | p :: l, _, s => fold_sq l (putP_sq s p)
theorem table_sq (ns : List Txt) (l : List (Txt × Txt)) : Sq ns.length (table ns l) := fold_sq l (unit_sq _)
theorem at2_unit (n a b : Nat) : at2 (unit n) a b = decide (a = b ∧ a < n) := by
  by_cases ha : a < n
  · have : (unit n)[a]? = some ((List.replicate n false).set a true) := by unfold unit; rw [List.getElem?_map, List.getElem?_range ha]; rfl
    rw [at2_some this, List.getElem?_set]
    by_cases e : a = b
    · subst e; simp [ha]
    · rw [if_neg e, List.getElem?_replicate]
      split <;> simp [e]
  · have : (unit n)[a]? = none := List.getElem?_eq_none (by simp [unit]; omega)
    rw [at2_none this]; simp [ha]
theorem at2_put {n : Nat} {M : List (List Bool)} (s : Sq n M) {i j : Nat} (hi : i < n) (hj : j < n) (a b : Nat) : at2 (put M i j) a b = (at2 M a b || decide (a = i ∧ b = j)) := by
  obtain ⟨r, hr, hl⟩ := s.at hi
  by_cases e : i = a
  · subst e
    have : (put M i j)[i]? = some (r.set j true) := by unfold put; rw [hr, List.getElem?_set, if_pos rfl, if_pos (by rw [s.len]; exact hi)]; rfl
    rw [at2_some this, at2_some hr, List.getElem?_set]
    by_cases e2 : j = b
    · subst e2; simp [hl, hj]
    · rw [if_neg e2]; simp [Ne.symm e2]
  · have : (put M i j)[a]? = M[a]? := by unfold put; rw [List.getElem?_set, if_neg e]
    have h2 : at2 (put M i j) a b = at2 M a b := by unfold at2; rw [this]
    rw [h2]; simp [Ne.symm e]
theorem at2_fold {n : Nat} {ns : List Txt} (hn : ns.length = n) : ∀ (l : List (Txt × Txt)) {M : List (List Bool)}, Sq n M → (∀ p ∈ l, p.2 ≠ [] → p.1 ∈ ns ∧ p.2 ∈ ns) → ∀ a b, at2 (l.foldl (putP ns) M) a b = true ↔ (at2 M a b = true ∨ ∃ p ∈ l, p.2 ≠ [] ∧ ns.idxOf p.1 = a ∧ ns.idxOf p.2 = b)
  | [], M, s, _, a, b => by simp
  | p :: l, M, s, hm, a, b => by
    rw [List.foldl_cons, at2_fold hn l (putP_sq s p) (fun q hq => hm q (by simp [hq]))]
    have hp := hm p (by simp)
    unfold putP
    by_cases e : p.2 = []
    · rw [if_pos e]
      constructor
      · rintro (h | ⟨q, hq, h⟩)
        · exact .inl h
        · exact .inr ⟨q, by simp [hq], h⟩
      · rintro (h | ⟨q, hq, h⟩)
        · exact .inl h
        · rcases List.mem_cons.1 hq with rfl | hq
          · exact absurd e h.1
          · exact .inr ⟨q, hq, h⟩
    · obtain ⟨h1, h2⟩ := hp e
      rw [if_neg e, at2_put s (hn ▸ List.idxOf_lt_length_of_mem h1) (hn ▸ List.idxOf_lt_length_of_mem h2)]
      constructor
      · rintro (h | ⟨q, hq, h⟩)
        · rcases Bool.or_eq_true _ _ ▸ h with h | h
          · exact .inl h
          · obtain ⟨rfl, rfl⟩ := of_decide_eq_true h
            exact .inr ⟨p, by simp, e, rfl, rfl⟩
        · exact .inr ⟨q, by simp [hq], h⟩
      · rintro (h | ⟨q, hq, h⟩)
        · exact .inl (by rw [h]; rfl)
        · rcases List.mem_cons.1 hq with rfl | hq
          · refine .inl ?_
            rw [Bool.or_eq_true]
            exact .inr (by simp [h.2.1, h.2.2])
          · exact .inr ⟨q, hq, h⟩
theorem at2_table (ns : List Txt) (l : List (Txt × Txt)) (h : ∀ p ∈ l, p.2 ≠ [] → p.1 ∈ ns ∧ p.2 ∈ ns) (a b : Nat) : at2 (table ns l) a b = true ↔ ((a = b ∧ a < ns.length) ∨ ∃ p ∈ l, p.2 ≠ [] ∧ ns.idxOf p.1 = a ∧ ns.idxOf p.2 = b) := by
  unfold table
  rw [at2_fold rfl l (unit_sq _) h, at2_unit, decide_eq_true_iff]
theorem raw_mem {l : List (Txt × Txt)} {p : Txt × Txt} (hp : p ∈ l) : p.1 ∈ raw l ∧ (p.2 ≠ [] → p.2 ∈ raw l) := by
  unfold raw
  constructor
  · exact List.mem_flatMap.2 ⟨p, hp, by split <;> simp⟩
  · intro h; exact List.mem_flatMap.2 ⟨p, hp, by rw [if_neg h]; simp⟩
theorem names_has {l : List (Txt × Txt)} : ∀ p ∈ l, p.2 ≠ [] → p.1 ∈ names l ∧ p.2 ∈ names l := fun p hp h => ⟨(names_mem l _).2 (raw_mem hp).1, (names_mem l _).2 ((raw_mem hp).2 h)⟩
/-- the order of pairs: its names, and its table -/
def order (l : List (Txt × Txt)) : List (List Bool) := closed (names l).length (table (names l) l)
/-- what pairs come to: an error's number, or the lowest and the highest place -/
def made (l : List (Txt × Txt)) : Nat × Option (Nat × Nat) :=
  if (names l).length = 0 then (13, none) else if 12 < (names l).length then (14, none) else match complete (names l).length (order l) with
    | none => (13, none)
    | some x => (0, some x)

theorem made_none {l : List (Txt × Txt)} (h : (names l).length = 0) : made l = (13, none) := if_pos h
theorem made_many {l : List (Txt × Txt)} (h : 12 < (names l).length) : made l = (14, none) := by unfold made; rw [if_neg (by omega), if_pos h]
theorem made_no {l : List (Txt × Txt)} (h0 : ¬ (names l).length = 0) (h1 : ¬ 12 < (names l).length) (h : complete (names l).length (order l) = none) : made l = (13, none) := by unfold made; rw [if_neg h0, if_neg h1, h]
theorem made_some {l : List (Txt × Txt)} {x : Nat × Nat} (h0 : ¬ (names l).length = 0) (h1 : ¬ 12 < (names l).length) (h : complete (names l).length (order l) = some x) : made l = (0, some x) := by unfold made; rw [if_neg h0, if_neg h1, h]

/-! ### LabelOrders: pairs the other way round, twice; and those that follow -/
def follow (l : List (Txt × Txt)) : List (Txt × Txt) := l.flatMap fun p => l.flatMap fun q => if p.2 = q.1 then [(p.1, q.2)] else []
def turned (l : List (Txt × Txt)) : List (Txt × Txt) := (l.reverse.flatMap fun p => [p, p]) ++ follow l
theorem follow_mem {l : List (Txt × Txt)} {z : Txt × Txt} : z ∈ follow l ↔ ∃ p ∈ l, ∃ q ∈ l, p.2 = q.1 ∧ z = (p.1, q.2) := by
  unfold follow
  simp only [List.mem_flatMap]
  constructor
  · rintro ⟨p, hp, q, hq, hz⟩
    split at hz
    · rename_i e; exact ⟨p, hp, q, hq, e, by simpa using hz⟩
    · simp at hz
  · rintro ⟨p, hp, q, hq, e, rfl⟩
    exact ⟨p, hp, q, hq, by rw [if_pos e]; simp⟩
theorem turned_mem {l : List (Txt × Txt)} {z : Txt × Txt} : z ∈ turned l ↔ (z ∈ l ∨ ∃ p ∈ l, ∃ q ∈ l, p.2 = q.1 ∧ z = (p.1, q.2)) := by
  unfold turned
  rw [List.mem_append, follow_mem, List.mem_flatMap]
  simp only [List.mem_reverse]
  constructor
  · rintro (⟨p, hp, hz⟩ | h)
    · have : z = p := by simpa using hz
      exact .inl (this ▸ hp)
    · exact .inr h
  · rintro (h | h)
    · exact .inl ⟨z, h, by simp⟩
    · exact .inr h
theorem raw_all {l : List (Txt × Txt)} (hl : ∀ p ∈ l, p.2 ≠ []) (z : Txt) : z ∈ raw l ↔ ∃ p ∈ l, z = p.1 ∨ z = p.2 := by
  unfold raw
  simp only [List.mem_flatMap]
  constructor
  · rintro ⟨p, hp, hz⟩
    rw [if_neg (hl p hp)] at hz
    exact ⟨p, hp, by simpa using hz⟩
  · rintro ⟨p, hp, hz⟩
    exact ⟨p, hp, by rw [if_neg (hl p hp)]; simpa using hz⟩
theorem turned_two {l : List (Txt × Txt)} (hl : ∀ p ∈ l, p.2 ≠ []) : ∀ p ∈ turned l, p.2 ≠ [] := by
  intro p hp
  rcases turned_mem.1 hp with h | ⟨p', _, q, hq, _, rfl⟩
  · exact hl p h
  · exact hl q hq
theorem turned_names {l : List (Txt × Txt)} (hl : ∀ p ∈ l, p.2 ≠ []) : names (turned l) = names l := by
  refine rises_ext (names_rises _) (names_rises _) fun z => ?_
  rw [names_mem, names_mem, raw_all (turned_two hl), raw_all hl]
  constructor
  · rintro ⟨p, hp, hz⟩
    rcases turned_mem.1 hp with h | ⟨p', hp', q, hq, _, rfl⟩
    · exact ⟨p, h, hz⟩
    · rcases hz with rfl | rfl
      · exact ⟨p', hp', .inl rfl⟩
      · exact ⟨q, hq, .inr rfl⟩
  · rintro ⟨p, hp, hz⟩
    exact ⟨p, turned_mem.2 (.inl hp), hz⟩
theorem turned_order {l : List (Txt × Txt)} (hl : ∀ p ∈ l, p.2 ≠ []) : order (turned l) = order l := by
  unfold order
  rw [turned_names hl]
  have hm : ∀ p ∈ turned l, p.2 ≠ [] → p.1 ∈ names l ∧ p.2 ∈ names l := fun p hp h => by rw [← turned_names hl]; exact names_has p hp h
  refine closed_same (table_sq _ _) (table_sq _ _) (fun a b h => ?_) fun a b h => ?_
  · rcases (at2_table _ _ hm a b).1 h with h | ⟨p, hp, h1, h2, h3⟩
    · exact closed_ext (table_sq _ _) ((at2_table _ _ names_has a b).2 (.inl h)) _ (Nat.le_refl _)
    · rcases turned_mem.1 hp with hp | ⟨p', hp', q, hq, e, rfl⟩
      · exact closed_ext (table_sq _ _) ((at2_table _ _ names_has a b).2 (.inr ⟨p, hp, h1, h2, h3⟩)) _ (Nat.le_refl _)
      · have i1 := closed_ext (table_sq (names l) l) ((at2_table _ _ names_has a _).2 (.inr ⟨p', hp', hl p' hp', h2, rfl⟩)) _ (Nat.le_refl _)
        have i2 := closed_ext (table_sq (names l) l) ((at2_table _ _ names_has _ b).2 (.inr ⟨q, hq, hl q hq, rfl, h3⟩)) _ (Nat.le_refl _)
        rw [e] at i1
        exact closed_trans (table_sq _ _) i1 i2
  · refine closed_ext (table_sq _ _) ((at2_table _ _ hm a b).2 ?_) _ (Nat.le_refl _)
    rcases (at2_table _ _ names_has a b).1 h with h | ⟨p, hp, h⟩
    · exact .inl h
    · exact .inr ⟨p, turned_mem.2 (.inl hp), h⟩
theorem turned_made {l : List (Txt × Txt)} (hl : ∀ p ∈ l, p.2 ≠ []) : made (turned l) = made l := by
  unfold made
  rw [turned_order hl, turned_names hl]
end Lab
end
end Go.Eng
namespace Go.Eng
noncomputable section
/-! ### slices of slices; clear; rows of texts -/
theorem Rows.celB {r b o n : Nat} {h : Heap} {cap : Option Nat} {rows : List (List V)} (a : Rows r h (.sl b o n cap) rows) : ∃ f ap sz t, T.get b h.t = some (.cells r f ap sz t) := by
  cases a with
  | row _ hob _ _ _ _ => exact ⟨_, _, _, _, hob⟩
section
variable {ev : Ev} {h : Heap} {x : A} {lo hi mx : Option A} {r b o n i j m : Nat}
theorem L.ssl {rows : List (List V)} (hx : ev x = .sl b o n none) (a : Rows r h (.sl b o n none) rows) (hhi : optNat hi ev n = some j) (hlo : optNat lo ev 0 = some i) (hij : i ≤ j) (hjn : j ≤ n) : light (.ssl r x lo hi none) ev h = .val (.sl b (o + i * r) (j - i) none) := by
  obtain ⟨f, ap, sz, t, hob⟩ := a.celB
  show (match ev x with
    | .slN => match optNat hi ev 0, optNat lo ev 0, optNat none ev 0 with
      | some 0, some 0, some 0 => LR.val .slN
      | _, _, _ => .bad
    | .sl b o n cap => match optNat hi ev n, optNat lo ev 0 with
      | some j, some i => ssl1 r b o n cap i j (Option.rec none (fun x => some (ev x).asNat) none) h
      | _, _ => .bad
    | _ => .bad) = _
  rw [hx]
  simp only [hhi, hlo]
  show ssl1 r b o n none i j none h = _
  unfold ssl1
  simp only [Heap.obj, hob]
  have e1 : (r.beq r && (i.ble j && (j.ble n || (Nat.add o (Nat.mul j r)).ble sz))) = true := by
    rw [Nat.beq_refl, show i.ble j = true from Nat.ble_eq_true_of_le hij, show j.ble n = true from Nat.ble_eq_true_of_le hjn]; rfl
  rw [e1, cond_true]
  unfold slF
  simp
theorem L.sslM {mxa : A} (hx : ev x = .sl b o n none) (hhi : optNat hi ev n = some j) (hlo : optNat lo ev 0 = some i) (hm : (ev mxa).asNat = some m) (h0 : 0 < n) (hij : i ≤ j) (hjm : j ≤ m) (hmn : m ≤ n) (him : i < m) : light (.ssl r x lo hi (some mxa)) ev h = .val (.sl b (o + i * r) (j - i) (some (m - i))) := by
  show (match ev x with
    | .slN => match optNat hi ev 0, optNat lo ev 0, optNat (some mxa) ev 0 with
      | some 0, some 0, some 0 => LR.val .slN
      | _, _, _ => .bad
    | .sl b o n cap => match optNat hi ev n, optNat lo ev 0 with
      | some j, some i => ssl1 r b o n cap i j (Option.rec none (fun x => some (ev x).asNat) (some mxa)) h
      | _, _ => .bad
    | _ => .bad) = _
  rw [hx]
  simp only [hhi, hlo, hm]
  unfold ssl1
  have e1 : (Nat.blt 0 n && (i.ble j && (j.ble m && m.ble n))) = true := by
    rw [show Nat.blt 0 n = true from by rw [nblt]; simpa using h0, show i.ble j = true from Nat.ble_eq_true_of_le hij, show j.ble m = true from Nat.ble_eq_true_of_le hjm, show m.ble n = true from Nat.ble_eq_true_of_le hmn]; rfl
  simp only [e1, cond_true]
  unfold slTo slF
  have e2 : (Nat.sub m i).beq 0 = false := by
    rw [nbeq]
    exact decide_eq_false (show ¬ (m - i = 0) by omega)
  simp only [force_eq]
  rw [e2]; rfl
end
section
variable {c : Ctx} {Q : QT} {env : Env} {h : Heap} {fs : List Fact} {vs : List V} {l : List Opr} {i j : D8} {bs : List Nat} {f r : Nat} {v xv : V} {rows new : List (List V)}
theorem WO.clearU {b n k m : Nat} {cap cap' : Option Nat} {x : A} {z : List V} (st : St (.acu bs f r (.sl b 0 n cap) rows :: fs) h) (hx : x.ev vs env = .sl b (0 + k * r) m cap') (hr : 0 < r) (hz : z.length = r) (hm : 0 < m) (hk : k + m = rows.length)
    (K : ∀ h1, St (.acu bs f r (.sl b 0 n cap) (rows.take k ++ List.replicate m z) :: fs) h1 → WO c l Q (un :: vs) env h1) : WO c (.p (.H (.clear z x)) :: l) Q vs env h := by
  obtain ⟨h', e, s'⟩ := st.putU hr (i := k) (k := m) (new := List.replicate m z) hm (by simp) (fun row hm => by rw [(List.mem_replicate.1 hm).2]; exact hz) (by omega)
  refine WO.act (fun call => ?_) (K h' ?_)
  · show hClear z x call (fun a => a.ev vs env) h = _
    have hx' : (fun a : A => a.ev vs env) x = .sl b (0 + k * r) m cap' := hx
    unfold hClear
    rw [hx']
    show h.storeC b (0 + k * r) (Nat.mul m (lenV z)) (rep m z) .bad (fun h => OR.ok un h) = _
    rw [lenV_eq, hz, rep_eq, Nat.zero_add]
    exact e _ _
  · rw [List.drop_of_length_le (by omega), List.append_nil] at s'; exact s'
end
/-- rows of texts -/
def SR (l : List (List UInt8)) : List (List V) := l.map fun s => [L.str s]
theorem SR_len (l : List (List UInt8)) : (SR l).length = l.length := List.length_map _
theorem SR_at {l : List (List UInt8)} {i : Nat} {s : List UInt8} (h : l[i]? = some s) : (SR l)[i]? = some [L.str s] := by unfold SR; rw [List.getElem?_map, h]; rfl
theorem SR_app (l m : List (List UInt8)) : SR (l ++ m) = SR l ++ SR m := List.map_append
theorem SR_set (l : List (List UInt8)) (i : Nat) (s : List UInt8) : (SR l).set i [L.str s] = SR (l.set i s) := by unfold SR; rw [List.map_set]
theorem SR_take (l : List (List UInt8)) (i : Nat) : (SR l).take i = SR (l.take i) := by unfold SR; rw [List.map_take]
namespace Lab
theorem uniq_snoc : ∀ (l : List Txt) (y : Txt), uniq (l ++ [y]) = if l.getLast? = some y then uniq l else uniq l ++ [y]
  | [], y => by simp [uniq]
  | [x], y => by
    by_cases h : x = y
    · subst h; simp [uniq]
    · simp [uniq, h]
  | x :: x2 :: l, y => by
    have ih := uniq_snoc (x2 :: l) y
    have e : (x :: x2 :: l).getLast? = (x2 :: l).getLast? := by simp [List.getLast?_cons_cons]
    rw [e]
    by_cases h : x = x2
    · rw [show uniq (x :: x2 :: l ++ [y]) = uniq (x2 :: l ++ [y]) from if_pos h, ih, show uniq (x :: x2 :: l) = uniq (x2 :: l) from if_pos h]
    · rw [show uniq (x :: x2 :: l ++ [y]) = x :: uniq (x2 :: l ++ [y]) from if_neg h, ih, show uniq (x :: x2 :: l) = x :: uniq (x2 :: l) from if_neg h]
      split <;> rfl
theorem uniq_take {S : List Txt} {m : Nat} {x y : Txt} (hx : S[m]? = some x) (hy : S[m + 1]? = some y) : uniq (S.take (m + 2)) = if y = x then uniq (S.take (m + 1)) else uniq (S.take (m + 1)) ++ [y] := by
  have e1 : S.take (m + 2) = S.take (m + 1) ++ [y] := by
    rw [show m + 2 = (m + 1) + 1 from rfl, List.take_add_one, hy]; rfl
  have e2 : (S.take (m + 1)).getLast? = some x := by
    rw [List.take_add_one, hx]; simp
  rw [e1, uniq_snoc, e2]
  by_cases h : y = x
  · subst h; simp
  · rw [if_neg h, if_neg (fun e => h (Option.some.inj e).symm)]
/-- slices.Compact on its way: k is the first that stands twice, j so many behind it were seen, q are kept -/
structure CInv (S R : List Txt) (k j q : Nat) : Prop where
  k1 : 1 ≤ k
  j1 : 1 ≤ j
  le : k + j ≤ S.length
  len : R.length = S.length
  qe : q = (uniq (S.take (k + j))).length
  tk : R.take q = uniq (S.take (k + j))
  dr : R.drop (k + j - 1) = S.drop (k + j - 1)
  ql : q + 1 ≤ k + j
theorem CInv.start {S : List Txt} {k : Nat} {x : Txt} (hk : 1 ≤ k) (hu : uniq (S.take k) = S.take k) (hx : S[k]? = some x) (hy : S[k - 1]? = some x) : CInv S S k 1 k := by
  obtain ⟨m, rfl⟩ : ∃ m, k = m + 1 := ⟨k - 1, by omega⟩
  have hlt := (List.getElem?_eq_some_iff.1 hx).1
  have e : uniq (S.take (m + 1 + 1)) = S.take (m + 1) := by rw [uniq_take (by simpa using hy) hx, if_pos rfl, hu]
  exact ⟨hk, Nat.le_refl _, by omega, rfl, by rw [e, List.length_take]; omega, e.symm, rfl, by omega⟩
theorem CInv.at {S R : List Txt} {k j q i : Nat} (c : CInv S R k j q) (hi : k + j - 1 ≤ i) : R[i]? = S[i]? := by
  have := congrArg (fun l : List Txt => l[i - (k + j - 1)]?) c.dr
  simp only [List.getElem?_drop] at this
  rw [show k + j - 1 + (i - (k + j - 1)) = i by omega] at this; exact this
theorem CInv.skip {S R : List Txt} {k j q : Nat} {x : Txt} (c : CInv S R k j q) (hx : S[k + j]? = some x) (hy : S[k + j - 1]? = some x) : CInv S R k (j + 1) q := by
  have hlt := (List.getElem?_eq_some_iff.1 hx).1
  have h1 := c.j1
  obtain ⟨m, hm⟩ : ∃ m, k + j = m + 1 := ⟨k + j - 1, by omega⟩
  have e : uniq (S.take (k + (j + 1))) = uniq (S.take (k + j)) := by
    rw [show k + (j + 1) = m + 2 by omega, uniq_take (x := x) (by rw [show m = k + j - 1 by omega]; exact hy) (by rw [← hm]; exact hx), if_pos rfl, hm]
  refine ⟨c.k1, by omega, by omega, c.len, by rw [e]; exact c.qe, by rw [e]; exact c.tk, ?_, by have := c.ql; omega⟩
  have := congrArg (List.drop 1) c.dr
  rw [List.drop_drop, List.drop_drop] at this
  rw [show k + (j + 1) - 1 = k + j - 1 + 1 by omega]; exact this
theorem CInv.put {S R : List Txt} {k j q : Nat} {x y : Txt} (c : CInv S R k j q) (hx : S[k + j]? = some x) (hy : S[k + j - 1]? = some y) (hne : x ≠ y) : CInv S (R.set q x) k (j + 1) (q + 1) := by
  have hlt := (List.getElem?_eq_some_iff.1 hx).1
  have h1 := c.j1
  have hq := c.ql
  have hl := c.len
  obtain ⟨m, hm⟩ : ∃ m, k + j = m + 1 := ⟨k + j - 1, by omega⟩
  have e : uniq (S.take (k + (j + 1))) = uniq (S.take (k + j)) ++ [x] := by
    rw [show k + (j + 1) = m + 2 by omega, uniq_take (x := y) (by rw [show m = k + j - 1 by omega]; exact hy) (by rw [← hm]; exact hx), if_neg hne, hm]
  refine ⟨c.k1, by omega, by omega, by rw [List.length_set, c.len], by rw [e, List.length_append, ← c.qe]; rfl, ?_, ?_, by omega⟩
  · rw [e, ← c.tk, List.take_add_one, List.take_set_of_le (Nat.le_refl _), List.getElem?_set, if_pos rfl, if_pos (by omega)]; rfl
  · have := congrArg (List.drop 1) c.dr
    rw [List.drop_drop, List.drop_drop] at this
    rw [show k + (j + 1) - 1 = k + j - 1 + 1 by omega, List.drop_set_of_lt (by omega)]; exact this
theorem CInv.done {S R : List Txt} {k j q : Nat} (c : CInv S R k j q) (h : S.length ≤ k + j) : q = (uniq S).length ∧ R.take q = uniq S ∧ q < S.length := by
  have e : S.take (k + j) = S := List.take_of_length_le h
  have h1 := c.qe; have h2 := c.tk
  rw [e] at h1 h2
  exact ⟨h1, h2, by have := c.ql; have := c.le; omega⟩
theorem uniq_next {S : List Txt} {k : Nat} {x y : Txt} (hk : 1 ≤ k) (hu : uniq (S.take k) = S.take k) (hx : S[k]? = some x) (hy : S[k - 1]? = some y) (hne : x ≠ y) : uniq (S.take (k + 1)) = S.take (k + 1) := by
  obtain ⟨m, rfl⟩ : ∃ m, k = m + 1 := ⟨k - 1, by omega⟩
  rw [uniq_take (by simpa using hy) hx, if_neg hne, hu, List.take_add_one (i := m + 1), hx]; rfl
theorem uniq_one (S : List Txt) : uniq (S.take 1) = S.take 1 := by cases S <;> simp [uniq]
end Lab
end
end Go.Eng
namespace Go.Eng
noncomputable section
/-! ### maps that are keyed by texts: the entries stand in the order of birth -/
def entsOf : Nat → List (Lab.Txt × V) → List Ent
  | _, [] => []
  | i, p :: ks => ⟨L.str p.1, p.2, i⟩ :: entsOf (i + 1) ks
def getK (x : Lab.Txt) : List (Lab.Txt × V) → Option V
  | [] => none
  | p :: ks => if p.1 = x then some p.2 else getK x ks
def putK (x : Lab.Txt) (v : V) : List (Lab.Txt × V) → List (Lab.Txt × V)
  | [] => [(x, v)]
  | p :: ks => if p.1 = x then (p.1, v) :: ks else p :: putK x v ks
theorem entsOf_len : ∀ (i : Nat) (ks : List (Lab.Txt × V)), (entsOf i ks).length = ks.length
  | _, [] => rfl
  | i, _ :: ks => by simp [entsOf, entsOf_len]
theorem eqKey_str (x y : Lab.Txt) : eqKey .str (L.str x) (L.str y) = some (decide (y = x)) := by
  have h := L.seq (ev := fun a : A => match a with | .l 0 => L.str x | _ => L.str y) (h := Heap.empty) (x := .l 0) (y := .l 1) (l := x) (m := y) rfl rfl
  have h : LR.val (.bool (sEq x.length (enc x) y.length (enc y))) = LR.val (.bool (decide (x = y))) := h
  show some (sEq x.length (enc x) y.length (enc y)) = _
  injection h with h; injection h with h
  rw [h]; congr 1; exact decide_eq_decide.2 ⟨Eq.symm, Eq.symm⟩
theorem find_ents (x : Lab.Txt) : ∀ (i : Nat) (ks : List (Lab.Txt × V)), match getK x ks with
    | none => find (eqKey .str) (L.str x) (entsOf i ks) = some none
    | some v => ∃ e, find (eqKey .str) (L.str x) (entsOf i ks) = some (some e) ∧ e.val = v
  | _, [] => rfl
  | i, p :: ks => by
    have ih := find_ents x (i + 1) ks
    have e : find (eqKey .str) (L.str x) (entsOf i (p :: ks)) = Option.rec none (fun b => Bool.rec (find (eqKey .str) (L.str x) (entsOf (i + 1) ks)) (some (some ⟨L.str p.1, p.2, i⟩)) b) (eqKey .str (L.str x) (L.str p.1)) := rfl
    rw [e, eqKey_str]
    unfold getK
    by_cases h : p.1 = x
    · rw [if_pos h, decide_eq_true h]; exact ⟨_, rfl, rfl⟩
    · rw [if_neg h, decide_eq_false h]; exact ih
theorem upd_ents (x : Lab.Txt) (v : V) : ∀ (i : Nat) (ks : List (Lab.Txt × V)), upd (eqKey .str) (L.str x) v (i + ks.length) (entsOf i ks) = some (entsOf i (putK x v ks), i + (putK x v ks).length)
  | _, [] => rfl
  | i, p :: ks => by
    have ih := upd_ents x v (i + 1) ks
    have e : upd (eqKey .str) (L.str x) v (i + (p :: ks).length) (entsOf i (p :: ks)) = Option.rec none (fun b => Bool.rec (Option.rec none (fun y => some (⟨L.str p.1, p.2, i⟩ :: y.1, y.2)) (upd (eqKey .str) (L.str x) v (i + (p :: ks).length) (entsOf (i + 1) ks))) (some (⟨L.str x, v, i⟩ :: entsOf (i + 1) ks, i + (p :: ks).length)) b) (eqKey .str (L.str x) (L.str p.1)) := rfl
    rw [e, eqKey_str]
    unfold putK
    by_cases h : p.1 = x
    · rw [if_pos h, decide_eq_true h]; subst h; rfl
    · rw [if_neg h, decide_eq_false h]
      rw [show i + (p :: ks).length = i + 1 + ks.length by simp; omega]
      show (Option.rec none (fun y => some (⟨L.str p.1, p.2, i⟩ :: y.1, y.2)) (upd (eqKey .str) (L.str x) v (i + 1 + ks.length) (entsOf (i + 1) ks)) : Option (List Ent × Nat)) = _
      rw [ih]
      show some (⟨L.str p.1, p.2, i⟩ :: entsOf (i + 1) (putK x v ks), i + 1 + (putK x v ks).length) = _
      rw [show i + 1 + (putK x v ks).length = i + (p :: putK x v ks).length by simp; omega]; rfl
def incrM (clk : Nat) (l : List Ent) : Nat → Bool := @List.rec Ent (fun _ => Nat → Bool) (fun _ => true) (fun e _ ih lo => lo.ble e.born && (e.born.blt clk && ih (Nat.succ e.born))) l
theorem incr_ents : ∀ (i lo n : Nat) (ks : List (Lab.Txt × V)), lo ≤ i → i + ks.length ≤ n → incrM n (entsOf i ks) lo = true
  | _, _, _, [], _, _ => rfl
  | i, lo, n, p :: ks, h1, h2 => by
    have h2 : i + (ks.length + 1) ≤ n := h2
    show (lo.ble i && (i.blt n && incrM n (entsOf (i + 1) ks) (Nat.succ i))) = true
    rw [incr_ents (i + 1) (i + 1) n ks (Nat.le_refl _) (by omega), Nat.ble_eq_true_of_le h1, nblt, decide_eq_true (by omega)]; rfl
/-- a map as a fact -/
abbrev MapF (b : Nat) (ks : List (Lab.Txt × V)) : Fact := .map b (entsOf 0 ks) ks.length
/-- a map that stays -/
def MapAt (h : Heap) (b : Nat) (ks : List (Lab.Txt × V)) : Prop := T.get b h.t = some (.map (entsOf 0 ks) ks.length)
section
variable {ev : Ev} {h : Heap} {m k : A} {b : Nat} {x : Lab.Txt} {ks : List (Lab.Txt × V)} {zero : V}
theorem L.lookK (hm : ev m = .map b) (hk : ev k = L.str x) (hb : MapAt h b ks) : light (.lookup .str zero false m k) ev h = .val ((getK x ks).getD zero) := by
  have hf := find_ents x 0 ks
  show (match ev m with
    | .mapN => LR.val (okV false zero false)
    | .map b => Obj.map? .bad (fun es _ => lookup1 .str zero false (ev k) es) (h.obj b)
    | _ => .bad) = _
  rw [hm, hk]
  show Obj.map? .bad (fun es _ => lookup1 .str zero false (L.str x) es) (T.get b h.t) = _
  rw [hb]
  show (Option.rec .bad (fun r => Option.rec (.val (okV false zero false)) (fun e => .val (okV false e.val true)) r) (find (eqKey .str) (L.str x) (entsOf 0 ks)) : LR) = _
  cases hg : getK x ks with
  | none => rw [hg] at hf; rw [hf]; rfl
  | some v => rw [hg] at hf; obtain ⟨e, h1, h2⟩ := hf; rw [h1]; subst h2; rfl
theorem L.lookKo (hm : ev m = .map b) (hk : ev k = L.str x) (hb : MapAt h b ks) : light (.lookup .str zero true m k) ev h = .val (.tup [(getK x ks).getD zero, .bool (getK x ks).isSome]) := by
  have hf := find_ents x 0 ks
  show (match ev m with
    | .mapN => LR.val (okV true zero false)
    | .map b => Obj.map? .bad (fun es _ => lookup1 .str zero true (ev k) es) (h.obj b)
    | _ => .bad) = _
  rw [hm, hk]
  show Obj.map? .bad (fun es _ => lookup1 .str zero true (L.str x) es) (T.get b h.t) = _
  rw [hb]
  show (Option.rec .bad (fun r => Option.rec (.val (okV true zero false)) (fun e => .val (okV true e.val true)) r) (find (eqKey .str) (L.str x) (entsOf 0 ks)) : LR) = _
  cases hg : getK x ks with
  | none => rw [hg] at hf; rw [hf]; rfl
  | some v => rw [hg] at hf; obtain ⟨e, h1, h2⟩ := hf; rw [h1]; subst h2; rfl
theorem L.lenK (hm : ev m = .map b) (hb : MapAt h b ks) : light (.lenm m) ev h = .val (.int .i64 (ks.length : Int)) := by
  show (match ev m with
    | .mapN => LR.val (.int .i64 (.ofNat 0))
    | .map b => Obj.map? .bad (fun es _ => .val (natV .i64 es.length)) (h.obj b)
    | _ => .bad) = _
  rw [hm]
  show Obj.map? .bad (fun es _ => LR.val (natV .i64 es.length)) (T.get b h.t) = _
  rw [hb]
  show LR.val (natV .i64 (entsOf 0 ks).length) = _
  rw [entsOf_len, natV_eq]; rfl
theorem L.mupdK {call : CallT} {u : A} {v : V} (h8 : 8 ≤ b) (hm : ev m = .map b) (hk : ev k = L.str x) (hv : ev u = v) (hb : MapAt h b ks) : heavy (.mupd .str m k u) call ev h = .ok un (h.put b (.map (entsOf 0 (putK x v ks)) (putK x v ks).length)) := by
  have hu := upd_ents x v 0 ks
  rw [Nat.zero_add, Nat.zero_add] at hu
  show (match ev m with
    | .map b => bif b.blt 8 then OR.bad else Obj.map? OR.bad (fun es c => Option.rec OR.bad (fun y => forceL y.1 fun l => force y.2 fun c => h.putC b (.map l c) fun h => OR.ok un h) ((ev k).force fun x => (ev u).force fun v => upd (eqKey .str) x v c es)) (h.obj b)
    | _ => .bad) = _
  rw [hm, hk, hv]
  show (bif b.blt 8 then OR.bad else Obj.map? OR.bad (fun es c => Option.rec OR.bad (fun y => forceL y.1 fun l => force y.2 fun c => h.putC b (.map l c) fun h => OR.ok un h) ((L.str x).force fun x => v.force fun v => upd (eqKey .str) x v c es)) (T.get b h.t)) = _
  rw [show b.blt 8 = false by rw [nblt]; simpa using h8, hb]
  show (Option.rec .bad (fun y => forceL y.1 fun l => force y.2 fun c => h.putC b (.map l c) fun h => OR.ok un h) ((L.str x).force fun x => v.force fun v => upd (eqKey .str) x v ks.length (entsOf 0 ks)) : OR) = _
  rw [V.force_eq, V.force_eq, hu]
  simp only [forceL_eq, force_eq, putC_eq]
  rfl
end
section
variable {c : Ctx} {Q : QT} {env : Env} {h : Heap} {fs : List Fact} {vs : List V} {l : List Opr} {b : Nat} {x : Lab.Txt} {ks : List (Lab.Txt × V)} {m k u : A} {v : V}
theorem St.mapAt (s : St fs h) (j : Nat) (hj : fs[j]? = some (MapF b ks)) : MapAt h b ks := s.map_at j hj
theorem WO.mupdK (st : St (MapF b ks :: fs) h) (hm : m.ev vs env = .map b) (hk : k.ev vs env = L.str x) (hv : u.ev vs env = v)
    (K : ∀ h1, St (MapF b (putK x v ks) :: fs) h1 → WO c l Q (un :: vs) env h1) : WO c (.p (.H (.mupd .str m k u)) :: l) Q vs env h :=
  WO.act (fun _ => L.mupdK (ev := fun a => a.ev vs env) (st.map_ge 0 rfl) hm hk hv (st.mapAt 0 rfl)) (K _ (st.putMap 0 _ _ rfl))
theorem St.same {f g : Fact} (s : St (f :: fs) h) (ho : g.own = f.own) (hf : g.fam = f.fam) (hh : ∀ Z, f.holds Z h → g.holds Z h) : St (g :: fs) h := by
  obtain ⟨Z, s⟩ := s
  refine ⟨Z, s.wf, s.z, fun b hb => s.oz b ?_, ?_, ?_, fun b hb hb2 => s.nd b ?_ ?_, fun y hy => ?_⟩
  · rw [owns_cons, ← ho, ← owns_cons]; exact hb
  · rw [owns_cons, ho, ← owns_cons]; exact s.nb
  · rw [fams_cons, hf, ← fams_cons]; exact s.nf
  · rw [owns_cons, ← ho, ← owns_cons]; exact hb
  · rw [fams_cons, ← hf, ← fams_cons]; exact hb2
  · rcases List.mem_cons.1 hy with rfl | hy
    · exact hh Z (s.all f (by simp))
    · exact s.all y (by simp [hy])
/-- a map that is not written any more -/
theorem St.mapShut (s : St (MapF b ks :: fs) h) : St (.stb (fun h => MapAt h b ks) :: fs) h :=
  St.still (P := fun o => o = .map (entsOf 0 ks) ks.length) (s.same (g := .obj b _) rfl rfl fun _ hx => ⟨⟨_, hx.1, rfl⟩, hx.2⟩) fun h' o ho hp => by
    subst hp; exact ho
end
end
end Go.Eng
namespace Go.Eng
noncomputable section
/-- one cell of a row of several is written -/
theorem St.putUc {fs : List Fact} {h : Heap} {bs : List Nat} {f r b m n : Nat} {cap : Option Nat} {rows : List (List V)} (s : St (.acu bs f r (.sl b m n cap) rows :: fs) h) (hr : 1 < r) {i j : Nat} (hj : j < r) {row : List V} (hi : rows[i]? = some row) (v : V) :
    ∃ h', (∀ {R : Type} (d : R) (K : Heap → R), h.storeC b (i * r + j) 1 [v] d K = K h') ∧ St (.acu bs f r (.sl b m n cap) (rows.set i (row.set j v)) :: fs) h' := by
  obtain ⟨a, hbs⟩ : AcuV bs f r h (.sl b m n cap) rows ∧ ∀ b ∈ bs, T.get b h.t ≠ none := by
    obtain ⟨Z, s⟩ := s
    exact s.all (.acu bs f r (.sl b m n cap) rows) (by simp)
  have hwf := s.wf
  cases a with
  | row ge hb hf ob hrow len mem =>
    rename_i ap hid t
    have hil := (List.getElem?_eq_some_iff.1 hi).1
    have hrl : row.length = r := len row (List.mem_append_left _ (List.mem_of_getElem? hi))
    have hti : T.get i t = some row := hrow i row (by rw [List.getElem?_append_left hil]; exact hi)
    have hlen : (rows.set i (row.set j v)).length = rows.length := List.length_set
    let h1 := killP h f (ap + (i * r + j)) (ap + (i * r + j) + 1) b
    have hfl : Falls h h1 := (killP_falls h f _ _ b (fun _ _ _ _ => Nat.zero_le _) (Nat.zero_le _)).1
    have hmod : (i * r + j).mod r = j := by show (i * r + j) % r = j; rw [Nat.mul_add_mod_self_right, Nat.mod_eq_of_lt hj]
    have hdiv : (i * r + j).div r = i := by show (i * r + j) / r = i; rw [Nat.mul_comm, Nat.mul_add_div (by omega), Nat.div_eq_of_lt hj, Nat.add_zero]
    have hov1 : overV j [v] row = row.set j v := by
      rw [overV_eq j [v] row (by simp; omega), List.set_eq_take_append_cons_drop, if_pos (by omega)]; simp
    refine ⟨⟨T.set b (.cells r f ap ((rows.length + hid.length) * r) (T.set i (row.set j v) t)) h1.t, h.next, h.fams, h.ds, h.pc⟩, fun d K => ?_, ?_⟩
    · unfold Heap.storeC
      rw [show Nat.beq 1 0 = false from rfl, show b.blt 8 = false by rw [nblt]; simpa using ge, show h.obj b = _ from ob]
      show (bif (Nat.add (i * r + j) 1).ble ((rows.length + hid.length) * r) then over d r (i * r + j) 1 [v] t (fun rows' => h.killC f (Nat.add ap (i * r + j)) (Nat.add (Nat.add ap (i * r + j)) 1) b fun h => h.putC b (.cells r f ap ((rows.length + hid.length) * r) rows') K) else d) = _
      have e1 : (Nat.add (i * r + j) 1).ble ((rows.length + hid.length) * r) = true := by
        rw [nble]
        have : (i + 1) * r ≤ (rows.length + hid.length) * r := Nat.mul_le_mul_right _ (by omega)
        rw [Nat.add_mul, Nat.one_mul] at this
        have : i * r + j + 1 ≤ (rows.length + hid.length) * r := by omega
        simpa using this
      rw [e1, cond_true]
      unfold over
      have e2 : (Nat.beq 1 r && ((i * r + j).mod r).beq 0) = false := by
        have : Nat.beq 1 r = false := by rw [nbeq]; simp; omega
        rw [this]; rfl
      have e3 : (Nat.add ((i * r + j).mod r) 1).ble r = true := by rw [hmod, nble]; have : j + 1 ≤ r := hj; simpa using this
      rw [e2, e3, hdiv, hmod, hti]
      show (forceL (overV j [v] row) fun row => T.setC i row t (fun rows' => h.killC f (Nat.add ap (i * r + j)) (Nat.add (Nat.add ap (i * r + j)) 1) b fun h => h.putC b (.cells r f ap ((rows.length + hid.length) * r) rows') K)) = _
      rw [forceL_eq, hov1]
      simp only [T.setC_eq]
      rw [killC_eq, putC_eq]
      show K ⟨T.set b _ h1.t, h1.next, h1.fams, h1.ds, h1.pc⟩ = _
      rw [hfl.next, hfl.fams, hfl.ds, hfl.pc]
    · have hgb : ∀ c, T.get c (T.set b (.cells r f ap ((rows.length + hid.length) * r) (T.set i (row.set j v) t)) h1.t) = if c = b then some (.cells r f ap ((rows.length + hid.length) * r) (T.set i (row.set j v) t)) else T.get c h1.t := fun c => T.get_set (Nat.zero_le _) (Nat.zero_le _) ..
      have hsome : ∀ c, T.get c (T.set b (.cells r f ap ((rows.length + hid.length) * r) (T.set i (row.set j v) t)) h1.t) ≠ none ↔ T.get c h.t ≠ none := fun c => by
        rw [hgb]
        by_cases e : c = b
        · subst e; rw [if_pos rfl]; simp [ob]
        · rw [if_neg e]; exact killP_some h f _ _ b c
      have hnd : bs.Nodup := by
        obtain ⟨Z, s⟩ := s
        have := s.nb; rw [owns_cons, List.nodup_append] at this
        exact this.1
      refine s.turn ⟨fun c hc => hwf.t c ((hsome c).1 hc), hwf.f, hwf.lim⟩ (Nat.le_refl _) rfl rfl (fun c hc hm => ?_) (fun _ _ _ => rfl) (fun c hc => .inl hc) hnd fun Z => ⟨?_, fun c hc => (hsome c).2 (hbs c hc)⟩
      · show T.get c (T.set b _ h1.t) = _
        rw [hgb, if_neg (fun e => hm (by rw [e]; exact hb))]
        exact killP_keep fun F hF hmem => hm (mem F hF c hmem)
      · have := AcuV.row (bs := bs) (f := f) (r := r) (ap := ap) (hid := hid) (t := T.set i (row.set j v) t) (h := ⟨T.set b (.cells r f ap ((rows.length + hid.length) * r) (T.set i (row.set j v) t)) h1.t, h.next, h.fams, h.ds, h.pc⟩) (rows := rows.set i (row.set j v)) ge hb hf (by rw [hlen]; exact (hgb b).trans (if_pos rfl)) (fun k row2 hk => ?_) (fun row2 hm => ?_) mem
        · rw [hlen] at this; exact this
        · rw [T.get_set (Nat.zero_le _) (Nat.zero_le _)]
          by_cases e : k = i
          · subst e
            rw [List.getElem?_append_left (by rw [List.length_set]; exact hil), List.getElem?_set_self hil] at hk
            rw [if_pos rfl]; exact hk
          · rw [if_neg e]
            refine hrow k row2 ?_
            rw [← hk]
            by_cases c3 : k < rows.length
            · rw [List.getElem?_append_left c3, List.getElem?_append_left (by rw [List.length_set]; exact c3), List.getElem?_set_ne (fun e2 => e e2.symm)]
            · rw [List.getElem?_append_right (by omega), List.getElem?_append_right (by rw [List.length_set]; omega), List.length_set]
        · rcases List.mem_append.1 hm with hm | hm
          · rcases List.mem_or_eq_of_mem_set hm with hm | rfl
            · exact len row2 (List.mem_append_left _ hm)
            · rw [List.length_set]; exact hrl
          · exact len row2 (List.mem_append_right _ hm)
section
variable {c : Ctx} {Q : QT} {env : Env} {h : Heap} {fs : List Fact} {vs : List V} {bs : List Nat} {f r : Nat}
theorem WD.storeUc {l : List Opd} {lg : List Log} {uo : List Nat} {b n i j : Nat} {cap : Option Nat} {x y : A} {v : V} {row : List V} {rows : List (List V)} (st : St (.acu bs f r (.sl b 0 n cap) rows :: fs) h) (hx : x.ev vs env = .ptr b (0 + i * r + j)) (hy : (y.ev vs env).asCells = some [v]) (hr : 1 < r) (hj : j < r) (hi : rows[i]? = some row)
    (hst : ∀ h1, St (.acu bs f r (.sl b 0 n cap) (rows.set i (row.set j v)) :: fs) h1 → stills uo h1 lg = true) (K : ∀ h1, St (.acu bs f r (.sl b 0 n cap) (rows.set i (row.set j v)) :: fs) h1 → WD c l Q (un :: vs) (.no :: lg) env h1) : WD c (⟨.p (.H (.store 1 x y)), uo⟩ :: l) Q vs lg env h := by
  obtain ⟨h', e, s'⟩ := st.putUc hr hj hi v
  refine WD.act (fun call => ?_) (hst h' s') (K h' s')
  show (Option.rec .bad (fun p => Option.rec .bad (fun l => Bool.rec .bad (h.storeC p.1 p.2 1 l .bad fun h => .ok un h) ((lenV l).beq 1)) (y.ev vs env).asCells) (x.ev vs env).asPtr : OR) = _
  rw [hx, hy]
  show h.storeC b (0 + i * r + j) 1 [v] .bad (fun h => OR.ok un h) = _
  rw [Nat.zero_add, e]
theorem WD.mupdK {l : List Opd} {lg : List Log} {uo : List Nat} {b : Nat} {x : Lab.Txt} {ks : List (Lab.Txt × V)} {m k u : A} {v : V} (st : St (MapF b ks :: fs) h) (hm : m.ev vs env = .map b) (hk : k.ev vs env = L.str x) (hv : u.ev vs env = v)
    (hst : ∀ h1, St (MapF b (putK x v ks) :: fs) h1 → stills uo h1 lg = true) (K : ∀ h1, St (MapF b (putK x v ks) :: fs) h1 → WD c l Q (un :: vs) (.no :: lg) env h1) : WD c (⟨.p (.H (.mupd .str m k u)), uo⟩ :: l) Q vs lg env h :=
  WD.act (fun _ => L.mupdK (ev := fun a => a.ev vs env) (st.map_ge 0 rfl) hm hk hv (st.mapAt 0 rfl)) (hst _ (st.putMap 0 _ _ rfl)) (K _ (st.putMap 0 _ _ rfl))
end
/-! ### many slices that are appended to -/
def accL (W : List (Nat × V × List Lab.Txt)) : List Fact := W.map fun w => .acc w.1 1 w.2.1 (SR w.2.2)
theorem accL_get {gs fs : List Fact} {W : List (Nat × V × List Lab.Txt)} {i : Nat} {w : Nat × V × List Lab.Txt} (h : W[i]? = some w) : (gs ++ (accL W ++ fs))[gs.length + i]? = some (.acc w.1 1 w.2.1 (SR w.2.2)) := by
  have hi := (List.getElem?_eq_some_iff.1 h).1
  rw [List.getElem?_append_right (by omega), Nat.add_sub_cancel_left, List.getElem?_append_left (by unfold accL; rw [List.length_map]; exact hi)]
  unfold accL; rw [List.getElem?_map, h]; rfl
theorem accL_set {gs fs : List Fact} {W : List (Nat × V × List Lab.Txt)} {i : Nat} (hi : i < W.length) (f : Nat) (v : V) (ts : List Lab.Txt) : (gs ++ (accL W ++ fs)).set (gs.length + i) (.acc f 1 v (SR ts)) = gs ++ (accL (W.set i (f, v, ts)) ++ fs) := by
  rw [List.set_append_right _ _ (by omega), Nat.add_sub_cancel_left, List.set_append_left _ _ (by unfold accL; rw [List.length_map]; exact hi)]
  unfold accL; rw [List.map_set]
theorem accL_st {gs fs : List Fact} {W : List (Nat × V × List Lab.Txt)} {i f : Nat} {v : V} {ts new : List Lab.Txt} {h : Heap} (hi : i < W.length) (s : St ((gs ++ (accL W ++ fs)).set (gs.length + i) (.acc f 1 v (SR ts ++ SR new))) h) : St (gs ++ (accL (W.set i (f, v, ts ++ new)) ++ fs)) h := by
  rw [← SR_app, accL_set hi] at s; exact s
theorem St.acc0L {fs : List Fact} {h : Heap} (s : St fs h) : ∀ k, St (accL (List.replicate k (0, .slN, [])) ++ fs) h
  | 0 => s
  | k + 1 => (St.acc0L s k).acc0 1
/-- rows of a text and a slice -/
def NW (N : List Lab.Txt) (W : List (Nat × V × List Lab.Txt)) : List (List V) := List.zipWith (fun x w => [L.str x, w.2.1]) N W
theorem NW_len {N : List Lab.Txt} {W : List (Nat × V × List Lab.Txt)} (h : N.length = W.length) : (NW N W).length = W.length := by unfold NW; rw [List.length_zipWith]; omega
theorem NW_at {N : List Lab.Txt} {W : List (Nat × V × List Lab.Txt)} {i : Nat} {x : Lab.Txt} {w : Nat × V × List Lab.Txt} (hx : N[i]? = some x) (hw : W[i]? = some w) : (NW N W)[i]? = some [L.str x, w.2.1] := by unfold NW; rw [List.getElem?_zipWith, hx, hw]
theorem NW_set {N : List Lab.Txt} {W : List (Nat × V × List Lab.Txt)} {i : Nat} {x : Lab.Txt} (hx : N[i]? = some x) (hi : i < W.length) (f : Nat) (v : V) (ts : List Lab.Txt) : (NW N W).set i [L.str x, v] = NW N (W.set i (f, v, ts)) := by
  have hN := (List.getElem?_eq_some_iff.1 hx).1
  refine List.ext_getElem? fun j => ?_
  by_cases e : j = i
  · subst e
    rw [List.getElem?_set_self (by unfold NW; rw [List.length_zipWith]; omega), NW_at hx (List.getElem?_set_self hi)]
  · rw [List.getElem?_set_ne (fun e2 => e e2.symm)]
    unfold NW
    rw [List.getElem?_zipWith, List.getElem?_zipWith, List.getElem?_set_ne (fun e2 => e e2.symm)]
theorem Rows.loadnZ {r : Nat} {h : Heap} {v : V} {rows : List (List V)} (R : Rows r h v rows) {i : Nat} {row : List V} (hx : rows[i]? = some row) : h.load (slB v) (slO v + i * r) r = some row := by
  have e := R.sl (List.getElem?_eq_some_iff.1 hx).1
  rw [e] at R; exact R.loadn hx
theorem Rows.load1FZ {r : Nat} {h : Heap} {v x : V} {rows : List (List V)} (R : Rows r h v rows) {i j : Nat} {row : List V} (hx : rows[i]? = some row) (hj : row[j]? = some x) : h.load1 (slB v) (slO v + i * r + j) = some x := by
  have e := R.sl (List.getElem?_eq_some_iff.1 hx).1
  rw [e] at R; exact R.load1F hx hj
/-- rows of texts, each at its value; an empty one is nil -/
def TRows (h : Heap) : List (List Lab.Txt) → List V → Prop
  | [], [] => True
  | r :: J, v :: vs => (Rows 1 h v (SR r) ∧ (r = [] → v = .slN)) ∧ TRows h J vs
  | _, _ => False
theorem TRows.len {h : Heap} : ∀ {J : List (List Lab.Txt)} {vs : List V}, TRows h J vs → vs.length = J.length
  | [], [], _ => rfl
  | [], _ :: _, h => h.elim
  | _ :: _, [], h => h.elim
  | _ :: _, _ :: _, h => by simp [h.2.len]
theorem TRows.rowN {h : Heap} : ∀ {J : List (List Lab.Txt)} {vs : List V}, TRows h J vs → ∀ {i : Nat} {r : List Lab.Txt} {u : V}, J[i]? = some r → vs[i]? = some u → Rows 1 h u (SR r) ∧ (r = [] → u = .slN)
  | [], [], _, i, r, u, hi, _ => by simp at hi
  | [], _ :: _, h, _, _, _, _, _ => h.elim
  | _ :: _, [], h, _, _, _, _, _ => h.elim
  | a :: J, v :: vs, h, 0, r, u, hi, hu => by simp at hi hu; subst hi hu; exact h.1
  | a :: J, v :: vs, h, i + 1, r, u, hi, hu => h.2.rowN (i := i) (by simpa using hi) (by simpa using hu)
theorem TRows.row {h : Heap} {J : List (List Lab.Txt)} {vs : List V} (t : TRows h J vs) {i : Nat} {r : List Lab.Txt} {u : V} (hi : J[i]? = some r) (hu : vs[i]? = some u) : Rows 1 h u (SR r) := (t.rowN hi hu).1
theorem St.accShut : ∀ {W : List (Nat × V × List Lab.Txt)} {fs : List Fact} {h : Heap}, St (accL W ++ fs) h → St (.stb (fun h => TRows h (W.map fun w => w.2.2) (W.map fun w => w.2.1)) :: fs) h
  | [], fs, h, s => s.triv fun _ => trivial
  | w :: W, fs, h, s => by
    have s1 : St (.acc w.1 1 w.2.1 (SR w.2.2) :: (accL W ++ fs)) h := s
    have hn : w.2.2 = [] → w.2.1 = .slN := fun e => by
      have a := s1.acc_at 0 rfl
      rw [e] at a
      have a : AccV w.1 1 h w.2.1 [] := a
      generalize hv : w.2.1 = v at a
      generalize hR : ([] : List (List V)) = R at a
      cases a with
      | nil => rfl
      | row a => have := a.pos; rw [← hR] at this; simp at this
    have s2 := ((s1.shut (by decide)).imp0 (Q := fun h => Rows 1 h w.2.1 (SR w.2.2) ∧ (w.2.2 = [] → w.2.1 = .slN)) fun h hx => ⟨hx, hn⟩).in_
    exact ((St.accShut (fs := .stb _ :: fs) s2).pick 1 rfl).and
/-! ### nodes -/
abbrev Gr := List (Lab.Txt × List Lab.Txt)
def tosG (G : Gr) : List (List Lab.Txt) := G.map fun p => p.2
theorem tosG_at {G : Gr} {i : Nat} {p : Lab.Txt × List Lab.Txt} (h : G[i]? = some p) : (tosG G)[i]? = some p.2 := by unfold tosG; rw [List.getElem?_map, h]; rfl
theorem tosG_len (G : Gr) : (tosG G).length = G.length := List.length_map _
def NR (G : Gr) (vs : List V) : List (List V) := List.zipWith (fun p u => [L.str p.1, u]) G vs
def NRows (h : Heap) (v : V) (G : Gr) : Prop := ∃ vs : List V, Rows 2 h v (NR G vs) ∧ TRows h (tosG G) vs
theorem NR_len {G : Gr} {vs : List V} (h : vs.length = G.length) : (NR G vs).length = G.length := by unfold NR; rw [List.length_zipWith]; omega
theorem NR_at {G : Gr} {vs : List V} {i : Nat} {p : Lab.Txt × List Lab.Txt} {u : V} (hp : G[i]? = some p) (hu : vs[i]? = some u) : (NR G vs)[i]? = some [L.str p.1, u] := by unfold NR; rw [List.getElem?_zipWith, hp, hu]
theorem NW_NR : ∀ (N : List Lab.Txt) (W : List (Nat × V × List Lab.Txt)), N.length = W.length → NW N W = NR (List.zip N (W.map fun w => w.2.2)) (W.map fun w => w.2.1)
  | [], [], _ => rfl
  | [], _ :: _, h => by simp at h
  | _ :: _, [], h => by simp at h
  | x :: N, w :: W, h => by
    have ih := NW_NR N W (by simpa using h)
    show [L.str x, w.2.1] :: NW N W = _
    rw [ih]; rfl
theorem zip_snd : ∀ (N : List Lab.Txt) (J : List (List Lab.Txt)), N.length = J.length → (List.zip N J).map (fun p => p.2) = J
  | [], [], _ => rfl
  | [], _ :: _, h => by simp at h
  | _ :: _, [], h => by simp at h
  | x :: N, w :: W, h => by rw [List.zip_cons_cons, List.map_cons, zip_snd N W (by simpa using h)]
theorem NRows.of {h : Heap} {v : V} {N : List Lab.Txt} {W : List (Nat × V × List Lab.Txt)} (hl : N.length = W.length) (h1 : Rows 2 h v (NW N W)) (h2 : TRows h (W.map fun w => w.2.2) (W.map fun w => w.2.1)) : NRows h v (List.zip N (W.map fun w => w.2.2)) :=
  ⟨W.map fun w => w.2.1, NW_NR N W hl ▸ h1, by unfold tosG; rw [zip_snd N _ (by rw [List.length_map]; exact hl)]; exact h2⟩
/-- the name of a number -/
def nmL (j : Nat) : Lab.Txt := [UInt8.ofNat (97 + j)]
def nmsL (k : Nat) : List Lab.Txt := (List.range k).map nmL
theorem nmsL_len (k : Nat) : (nmsL k).length = k := by simp [nmsL]
theorem nmsL_at {k i : Nat} (h : i < k) : (nmsL k)[i]? = some (nmL i) := by unfold nmsL; rw [List.getElem?_map, List.getElem?_range h]; rfl
theorem nmsL_succ (k : Nat) : nmsL (k + 1) = nmsL k ++ [nmL k] := by unfold nmsL; rw [List.range_succ, List.map_append]; rfl
theorem NW_rep (k : Nat) : NW (nmsL k) (List.replicate k (0, .slN, [])) = (nmsL k).map fun x => [L.str x, V.slN] := by
  refine List.ext_getElem? fun j => ?_
  unfold NW
  rw [List.getElem?_zipWith, List.getElem?_map]
  by_cases h : j < k
  · rw [nmsL_at h, List.getElem?_replicate, if_pos h]; rfl
  · rw [List.getElem?_eq_none (by rw [nmsL_len]; omega)]; rfl
theorem St.exN {v : V} {G : Gr} {fs : List Fact} {h : Heap} (s : St (.stb (fun h => NRows h v G) :: fs) h) : ∃ vs : List V, vs.length = G.length ∧ St (.stb (fun h => Rows 2 h v (NR G vs)) :: .stb (fun h => TRows h (tosG G) vs) :: fs) h := by
  obtain ⟨rows, s1⟩ := St.exRows (Q := fun h rows => ∃ vs : List V, rows = NR G vs ∧ TRows h (tosG G) vs) (s.imp0 fun h ⟨vs, h1, h2⟩ => ⟨_, h1, vs, rfl, h2⟩)
  obtain ⟨vs, rfl, h2⟩ := s1.stb_at 1 rfl
  have hl : vs.length = G.length := by rw [h2.len, tosG_len]
  have s2 : St (.stb (fun h => TRows h (tosG G) vs) :: .stb (fun h => Rows 2 h v (NR G vs)) :: fs) h := by
    refine (s1.pick 1 rfl).imp0 fun h hx => ?_
    obtain ⟨ws, e, hw⟩ := hx
    have hl2 : ws.length = G.length := by rw [hw.len, tosG_len]
    have e2 : vs = ws := by
      refine List.ext_getElem? fun i => ?_
      by_cases hi : i < G.length
      · obtain ⟨p, hp⟩ : ∃ p, G[i]? = some p := ⟨G[i], List.getElem?_eq_getElem hi⟩
        obtain ⟨u, hu⟩ : ∃ u, vs[i]? = some u := ⟨vs[i]'(by omega), List.getElem?_eq_getElem (by omega)⟩
        obtain ⟨w, hw⟩ : ∃ u, ws[i]? = some u := ⟨ws[i]'(by omega), List.getElem?_eq_getElem (by omega)⟩
        have h1 := NR_at hp hu
        rw [e, NR_at hp hw] at h1
        rw [hu, hw]; simp at h1; rw [h1]
      · rw [List.getElem?_eq_none (by omega), List.getElem?_eq_none (by omega)]
    rw [e2]; exact hw
  exact ⟨vs, hl, s2.pick 1 rfl⟩
end
end Go.Eng
namespace Go.Eng
noncomputable section
theorem take_next {α : Type} {l : List α} {i : Nat} {x : α} (h : l[i]? = some x) : l.take (i + 1) = l.take i ++ [x] := by rw [List.take_add_one, h]; rfl
/-! ### a map of slices -/
def KW (N : List Lab.Txt) (W : List (Nat × V × List Lab.Txt)) : List (Lab.Txt × V) := List.zipWith (fun x w => (x, w.2.1)) N W
theorem getK_mem {x : Lab.Txt} : ∀ {ks : List (Lab.Txt × V)}, (getK x ks).isSome = decide (x ∈ ks.map fun p => p.1)
  | [] => rfl
  | p :: ks => by
    unfold getK
    by_cases h : p.1 = x
    · rw [if_pos h]; simp [h]
    · rw [if_neg h, getK_mem (ks := ks), List.map_cons]
      exact decide_eq_decide.2 ⟨fun hm => List.mem_cons_of_mem _ hm, fun hm => (List.mem_cons.1 hm).resolve_left fun e => h e.symm⟩
theorem getK_none {x : Lab.Txt} {ks : List (Lab.Txt × V)} (h : x ∉ ks.map fun p => p.1) : getK x ks = none := by
  have := getK_mem (x := x) (ks := ks)
  rw [decide_eq_false h] at this
  cases e : getK x ks with
  | none => rfl
  | some v => rw [e] at this; simp at this
theorem putK_new {x : Lab.Txt} {v : V} : ∀ {ks : List (Lab.Txt × V)}, (x ∉ ks.map fun p => p.1) → putK x v ks = ks ++ [(x, v)]
  | [], _ => rfl
  | p :: ks, h => by
    have h1 : ¬ p.1 = x := fun e => h (by simp [e])
    unfold putK
    rw [if_neg h1, putK_new (ks := ks) (fun hm => h (by rw [List.map_cons]; exact List.mem_cons_of_mem _ hm))]; rfl
theorem KW_keys {N : List Lab.Txt} {W : List (Nat × V × List Lab.Txt)} (h : N.length = W.length) : (KW N W).map (fun p => p.1) = N := by
  refine List.ext_getElem? fun i => ?_
  unfold KW
  rw [List.getElem?_map, List.getElem?_zipWith]
  by_cases hi : i < N.length
  · rw [List.getElem?_eq_getElem hi, List.getElem?_eq_getElem (by omega)]; rfl
  · rw [List.getElem?_eq_none (by omega)]; rfl
theorem getK_at : ∀ {N : List Lab.Txt} {W : List (Nat × V × List Lab.Txt)}, N.Nodup → ∀ {i : Nat} {x : Lab.Txt} {w : Nat × V × List Lab.Txt}, N[i]? = some x → W[i]? = some w → getK x (KW N W) = some w.2.1
  | [], _, _, i, x, w, hx, _ => by simp at hx
  | _ :: _, [], _, i, x, w, _, hw => by simp at hw
  | y :: N, u :: W, hn, 0, x, w, hx, hw => by
    simp at hx hw; subst hx hw
    show getK y ((y, u.2.1) :: KW N W) = _
    unfold getK; rw [if_pos rfl]
  | y :: N, u :: W, hn, i + 1, x, w, hx, hw => by
    have hx : N[i]? = some x := by simpa using hx
    have hw : W[i]? = some w := by simpa using hw
    rw [List.nodup_cons] at hn
    have h1 : ¬ y = x := fun e => hn.1 (e ▸ List.mem_of_getElem? hx)
    show getK x ((y, u.2.1) :: KW N W) = _
    unfold getK; rw [if_neg h1]; exact getK_at hn.2 hx hw
theorem putK_at : ∀ {N : List Lab.Txt} {W : List (Nat × V × List Lab.Txt)}, N.Nodup → ∀ {i : Nat} {x : Lab.Txt}, N[i]? = some x → i < W.length → ∀ (f : Nat) (v : V) (ts : List Lab.Txt), putK x v (KW N W) = KW N (W.set i (f, v, ts))
  | [], _, _, i, x, hx, _ => by simp at hx
  | _ :: _, [], _, i, x, _, hw => by simp at hw
  | y :: N, u :: W, hn, 0, x, hx, hw => fun f v ts => by
    simp at hx; subst hx
    show putK y v ((y, u.2.1) :: KW N W) = _
    unfold putK; rw [if_pos rfl]; rfl
  | y :: N, u :: W, hn, i + 1, x, hx, hw => fun f v ts => by
    have hx : N[i]? = some x := by simpa using hx
    rw [List.nodup_cons] at hn
    have h1 : ¬ y = x := fun e => hn.1 (e ▸ List.mem_of_getElem? hx)
    show putK x v ((y, u.2.1) :: KW N W) = _
    unfold putK; rw [if_neg h1, putK_at hn.2 hx (by simpa using hw) f v ts]; rfl
theorem KW_rep (N : List Lab.Txt) : KW N (List.replicate N.length (0, .slN, [])) = N.map fun x => (x, V.slN) := by
  refine List.ext_getElem? fun j => ?_
  unfold KW
  rw [List.getElem?_zipWith, List.getElem?_map]
  by_cases h : j < N.length
  · rw [List.getElem?_eq_getElem h, List.getElem?_replicate, if_pos h]; rfl
  · rw [List.getElem?_eq_none (by omega)]; rfl
def K0 (G : Gr) (i : Nat) : List (Lab.Txt × V) := (G.take i).map fun p => (p.1, V.slN)
/-- whom each leads to in one step -/
def nmsG (G : Gr) : List Lab.Txt := G.map fun p => p.1
def filtG (N l : List Lab.Txt) : List Lab.Txt := l.filter fun t => decide (t ∈ N)
def wayG (G : Gr) : Gr := G.map fun p => (p.1, filtG (nmsG G) p.2)
def curT (G : Gr) (i j a : Nat) : List Lab.Txt := if a < i then filtG (nmsG G) (((G[a]?).getD ([], [])).2) else if a = i then filtG (nmsG G) ((((G[a]?).getD ([], [])).2).take j) else []
structure GdN (G : Gr) : Prop where
  nd : (nmsG G).Nodup
  few : G.length ≤ 8
  to : ∀ p ∈ G, p.2.length ≤ 64
theorem nmsG_at {G : Gr} {i : Nat} {p : Lab.Txt × List Lab.Txt} (h : G[i]? = some p) : (nmsG G)[i]? = some p.1 := by unfold nmsG; rw [List.getElem?_map, h]; rfl
theorem nmsG_len (G : Gr) : (nmsG G).length = G.length := List.length_map _
theorem wayG_nms (G : Gr) : nmsG (wayG G) = nmsG G := by unfold nmsG wayG; rw [List.map_map]; rfl
theorem curT_next {G : Gr} {i j : Nat} {p : Lab.Txt × List Lab.Txt} {t : Lab.Txt} (hp : G[i]? = some p) (ht : p.2[j]? = some t) (a : Nat) : curT G i (j + 1) a = if a = i then (if t ∈ nmsG G then curT G i j a ++ [t] else curT G i j a) else curT G i j a := by
  unfold curT
  by_cases h : a < i
  · rw [if_pos h, if_pos h, if_neg (by omega)]
  · rw [if_neg h, if_neg h]
    by_cases h2 : a = i
    · rw [if_pos h2, if_pos h2, if_pos h2]
      subst h2
      rw [hp]
      show filtG (nmsG G) (p.2.take (j + 1)) = _
      rw [List.take_add_one, ht]
      unfold filtG
      rw [List.filter_append]
      by_cases h3 : t ∈ nmsG G
      · rw [if_pos h3]; simp [h3]
      · rw [if_neg h3]; simp [h3]
    · rw [if_neg h2, if_neg h2, if_neg h2]
theorem curT_row {G : Gr} {i j : Nat} {p : Lab.Txt × List Lab.Txt} (hp : G[i]? = some p) (hj : p.2.length ≤ j) (a : Nat) : curT G i j a = curT G (i + 1) 0 a := by
  unfold curT
  by_cases h : a < i
  · rw [if_pos h, if_pos (by omega)]
  · rw [if_neg h]
    by_cases h2 : a = i
    · rw [if_pos h2, if_pos (by omega)]
      subst h2; rw [hp]
      show filtG (nmsG G) (p.2.take j) = _
      rw [List.take_of_length_le hj]; rfl
    · rw [if_neg h2, if_neg (by omega)]
      by_cases h3 : a = i + 1
      · rw [if_pos h3]; simp [filtG]
      · rw [if_neg h3]
theorem curT_zero (G : Gr) (a : Nat) : curT G 0 0 a = [] := by
  unfold curT
  rw [if_neg (by omega)]
  by_cases h : a = 0
  · rw [if_pos h]; simp [filtG]
  · rw [if_neg h]
/-- the map of ways, that stays -/
structure WaysV (h : Heap) (m : Nat) (W : Gr) (vs : List V) : Prop where
  map : MapAt h m (List.zip (nmsG W) vs)
  rows : TRows h (tosG W) vs
theorem waysV_of {h : Heap} {m j : Nat} {G : Gr} {W : List (Nat × V × List Lab.Txt)} (hl : W.length = G.length) (hc : ∀ a w, W[a]? = some w → w.2.2 = curT G G.length j a) (h1 : MapAt h m (KW (nmsG G) W)) (h2 : TRows h (W.map fun w => w.2.2) (W.map fun w => w.2.1)) : WaysV h m (wayG G) (W.map fun w => w.2.1) := by
  refine ⟨?_, ?_⟩
  · rw [wayG_nms]
    have : List.zip (nmsG G) (W.map fun w => w.2.1) = KW (nmsG G) W := by unfold KW; rw [List.zip, List.zipWith_map_right]
    rw [this]; exact h1
  · have : tosG (wayG G) = W.map fun w => w.2.2 := by
      refine List.ext_getElem? fun a => ?_
      unfold tosG wayG
      rw [List.map_map, List.getElem?_map, List.getElem?_map]
      by_cases ha : a < G.length
      · obtain ⟨p, hp⟩ : ∃ p, G[a]? = some p := ⟨G[a], List.getElem?_eq_getElem ha⟩
        obtain ⟨w, hw⟩ : ∃ w, W[a]? = some w := ⟨W[a]'(by omega), List.getElem?_eq_getElem (by omega)⟩
        rw [hp, hw]
        show some (filtG (nmsG G) p.2) = some w.2.2
        rw [hc a w hw]; unfold curT; rw [if_pos ha, hp]; rfl
      · rw [List.getElem?_eq_none (by omega), List.getElem?_eq_none (by omega)]; rfl
    rw [this]; exact h2
end
end Go.Eng
namespace Go.Eng
noncomputable section
/-! ### what a name leads to -/
def succG (W : Gr) (x : Lab.Txt) : List Lab.Txt := match W with
  | [] => []
  | p :: W => if p.1 = x then p.2 else succG W x
inductive Reach (W : Gr) (x : Lab.Txt) : Lab.Txt → Prop
  | one {y : Lab.Txt} : y ∈ succG W x → Reach W x y
  | step {z y : Lab.Txt} : Reach W x z → y ∈ succG W z → Reach W x y
theorem Reach.trans {W : Gr} {x y z : Lab.Txt} (h : Reach W x y) (h2 : Reach W y z) : Reach W x z := by
  induction h2 with
  | one hm => exact .step h hm
  | step _ hm ih => exact .step ih hm
theorem succG_mem {W : Gr} {x y : Lab.Txt} : y ∈ succG W x → ∃ p ∈ W, p.1 = x ∧ y ∈ p.2 := by
  induction W with
  | nil => intro h; cases h
  | cons p W ih =>
    intro h
    unfold succG at h
    by_cases e : p.1 = x
    · rw [if_pos e] at h; exact ⟨p, by simp, e, h⟩
    · rw [if_neg e] at h
      obtain ⟨q, hq, h1, h2⟩ := ih h
      exact ⟨q, by simp [hq], h1, h2⟩
/-- true at each of them -/
def ttK (S : List Lab.Txt) : List (Lab.Txt × V) := S.map fun x => (x, .bool true)
theorem ttK_keys (S : List Lab.Txt) : (ttK S).map (fun p => p.1) = S := by unfold ttK; rw [List.map_map]; exact List.map_id _
theorem ttK_get (x : Lab.Txt) : ∀ S : List Lab.Txt, (getK x (ttK S)).getD (.bool false) = .bool (decide (x ∈ S))
  | [] => rfl
  | y :: S => by
    show (getK x ((y, .bool true) :: ttK S)).getD (.bool false) = _
    unfold getK
    by_cases h : y = x
    · rw [if_pos h, decide_eq_true (by rw [h]; simp)]; rfl
    · rw [if_neg h, ttK_get x S]
      exact congrArg V.bool (decide_eq_decide.2 ⟨fun hm => List.mem_cons_of_mem _ hm, fun hm => (List.mem_cons.1 hm).resolve_left fun e => h e.symm⟩)
theorem ttK_put {x : Lab.Txt} {S : List Lab.Txt} (h : x ∉ S) : putK x (.bool true) (ttK S) = ttK (S ++ [x]) := by
  rw [putK_new (by rw [ttK_keys]; exact h)]; unfold ttK; rw [List.map_append]; rfl
/-- the value of a name in a map of ways -/
def valK (W : Gr) (vs : List V) (x : Lab.Txt) : V := (getK x (List.zip (nmsG W) vs)).getD .slN
theorem valK_rows {h : Heap} : ∀ {W : Gr} {vs : List V}, TRows h (tosG W) vs → ∀ x, Rows 1 h (valK W vs x) (SR (succG W x)) ∧ (succG W x = [] → valK W vs x = .slN)
  | [], [], _, x => ⟨.nil, fun _ => rfl⟩
  | [], _ :: _, t, x => t.elim
  | _ :: _, [], t, x => t.elim
  | p :: W, v :: vs, t, x => by
    have e : valK (p :: W) (v :: vs) x = if p.1 = x then v else valK W vs x := by
      show (getK x ((p.1, v) :: List.zip (nmsG W) vs)).getD .slN = _
      unfold getK
      by_cases h : p.1 = x
      · rw [if_pos h, if_pos h]; rfl
      · rw [if_neg h, if_neg h]; rfl
    rw [e]
    unfold succG
    by_cases h : p.1 = x
    · rw [if_pos h, if_pos h]; exact t.1
    · rw [if_neg h, if_neg h]; exact valK_rows t.2 x
/-! ### the search -/
structure GdW (W : Gr) : Prop where
  few : W.length ≤ 8
  to : ∀ p ∈ W, p.2.length ≤ 64
  inN : ∀ p ∈ W, ∀ y ∈ p.2, y ∈ nmsG W
structure FI (W : Gr) (x : Lab.Txt) (S stk : List Lab.Txt) : Prop where
  nd : S.Nodup
  inN : ∀ y ∈ S, y ∈ nmsG W
  stN : ∀ y ∈ stk, y ∈ nmsG W
  len : stk.length ≤ (S.length + 1) * 64
  sr : ∀ y ∈ S, Reach W x y
  tr : ∀ y ∈ stk, Reach W x y
  c0 : ∀ y ∈ succG W x, y ∈ S ∨ y ∈ stk
  c1 : ∀ z ∈ S, ∀ y ∈ succG W z, y ∈ S ∨ y ∈ stk
theorem GdW.succ {W : Gr} (g : GdW W) {x y : Lab.Txt} (h : y ∈ succG W x) : y ∈ nmsG W := by
  obtain ⟨p, hp, _, hy⟩ := succG_mem h
  exact g.inN p hp y hy
theorem GdW.deg {W : Gr} (g : GdW W) (x : Lab.Txt) : (succG W x).length ≤ 64 := by
  have h := g.to
  clear g
  induction W with
  | nil => exact Nat.zero_le _
  | cons p W ih =>
    unfold succG
    by_cases e : p.1 = x
    · rw [if_pos e]; exact h p (by simp)
    · rw [if_neg e]; exact ih fun q hq => h q (by simp [hq])
theorem FI.start {W : Gr} (g : GdW W) (x : Lab.Txt) : FI W x [] (succG W x) :=
  ⟨List.nodup_nil, fun _ h => by simp at h, fun y h => g.succ h, by simpa using g.deg x, fun _ h => by simp at h, fun y h => .one h, fun y h => .inr h, fun _ h => by simp at h⟩
section
variable {W : Gr} {x y : Lab.Txt} {S l : List Lab.Txt} (g : GdW W) (f : FI W x S (l ++ [y]))
include f
theorem FI.skip (hy : y ∈ S) : FI W x S l := by
  refine ⟨f.nd, f.inN, fun z h => f.stN z (by simp [h]), by have := f.len; rw [List.length_append] at this; omega, f.sr, fun z h => f.tr z (by simp [h]), fun z h => ?_, fun z hz w hw => ?_⟩
  · rcases f.c0 z h with h | h
    · exact .inl h
    · rcases List.mem_append.1 h with h | h
      · exact .inr h
      · obtain rfl : z = y := by simpa using h
        exact .inl hy
  · rcases f.c1 z hz w hw with h | h
    · exact .inl h
    · rcases List.mem_append.1 h with h | h
      · exact .inr h
      · obtain rfl : w = y := by simpa using h
        exact .inl hy
include g
theorem FI.add (hy : y ∉ S) : FI W x (S ++ [y]) (l ++ succG W y) := by
  have hyr := f.tr y (by simp)
  refine ⟨?_, fun z h => ?_, fun z h => ?_, ?_, fun z h => ?_, fun z h => ?_, fun z h => ?_, fun z hz w hw => ?_⟩
  · rw [List.nodup_append]
    exact ⟨f.nd, by simp, fun a ha b hb e => by
      obtain rfl : b = y := by simpa using hb
      exact hy (e ▸ ha)⟩
  · rcases List.mem_append.1 h with h | h
    · exact f.inN z h
    · obtain rfl : z = y := by simpa using h
      exact f.stN z (by simp)
  · rcases List.mem_append.1 h with h | h
    · exact f.stN z (by simp [h])
    · exact g.succ h
  · have h1 := f.len
    have h2 := g.deg y
    simp only [List.length_append, List.length_cons, List.length_nil] at h1 ⊢
    omega
  · rcases List.mem_append.1 h with h | h
    · exact f.sr z h
    · obtain rfl : z = y := by simpa using h
      exact hyr
  · rcases List.mem_append.1 h with h | h
    · exact f.tr z (by simp [h])
    · exact .step hyr h
  · rcases f.c0 z h with h | h
    · exact .inl (by simp [h])
    · rcases List.mem_append.1 h with h | h
      · exact .inr (by simp [h])
      · obtain rfl : z = y := by simpa using h
        exact .inl (by simp)
  · rcases List.mem_append.1 hz with hz | hz
    · rcases f.c1 z hz w hw with h | h
      · exact .inl (by simp [h])
      · rcases List.mem_append.1 h with h | h
        · exact .inr (by simp [h])
        · obtain rfl : w = y := by simpa using h
          exact .inl (by simp)
    · obtain rfl : z = y := by simpa using hz
      exact .inr (by simp [hw])
omit f in
omit g in
theorem nodup_le : ∀ {l m : List Lab.Txt}, l.Nodup → (∀ a ∈ l, a ∈ m) → l.length ≤ m.length
  | [], _, _, _ => Nat.zero_le _
  | a :: l, m, hn, hs => by
    rw [List.nodup_cons] at hn
    have ha := hs a (by simp)
    have := nodup_le (l := l) (m := m.erase a) hn.2 fun b hb => (List.mem_erase_of_ne (fun e : b = a => hn.1 (by rw [← e]; exact hb))).2 (hs b (by simp [hb]))
    rw [List.length_erase_of_mem ha] at this
    have h0 := List.length_pos_of_mem ha
    rw [List.length_cons]; omega
theorem FI.room (hy : y ∉ S) : S.length < 8 := by
  have h1 : (S ++ [y]).length ≤ (nmsG W).length := nodup_le (FI.add g f hy).nd (FI.add g f hy).inN
  rw [List.length_append, nmsG_len] at h1
  have := g.few
  simp at h1; omega
end
theorem FI.done {W : Gr} {x : Lab.Txt} {S : List Lab.Txt} (f : FI W x S []) (y : Lab.Txt) : y ∈ S ↔ Reach W x y := by
  constructor
  · exact f.sr y
  · intro h
    induction h with
    | one hm => exact (f.c0 _ hm).resolve_right (by simp)
    | step _ hm ih => exact (f.c1 _ ih _ hm).resolve_right (by simp)
theorem FI.small {W : Gr} (g : GdW W) {x : Lab.Txt} {S stk : List Lab.Txt} (f : FI W x S stk) : S.length ≤ 8 := by
  have h1 := nodup_le f.nd f.inN
  rw [nmsG_len] at h1
  have := g.few; omega
end
end Go.Eng
namespace Go.Eng
noncomputable section
theorem L.slnilF {ev : Ev} {h : Heap} {x y : A} {b o n : Nat} {cap : Option Nat} (hx : ev x = .sl b o n cap) (hy : ev y = .slN) : light (.eq false .sl x y) ev h = .val (.bool false) := by
  show (Option.rec .bad (fun b => .val (.bool (b != false))) (Eq1.eq .sl (ev x) (ev y)) : LR) = _
  rw [hx, hy]; rfl
theorem L.slnilT {ev : Ev} {h : Heap} {x y : A} (hx : ev x = .slN) (hy : ev y = .slN) : light (.eq false .sl x y) ev h = .val (.bool true) := by
  show (Option.rec .bad (fun b => .val (.bool (b != false))) (Eq1.eq .sl (ev x) (ev y)) : LR) = _
  rw [hx, hy]; rfl
section
variable {c : Ctx} {Q : QT} {env : Env} {h : Heap} {fs : List Fact} {l : List Opr} {vs : List V} {i j : D8}
theorem WO.bslL8 {r n : Nat} {zero : List V} {ps : List (Nat × Nat × A)} {rows : List (List V)} (st : St fs h) (hf : fill ps (fun a => a.ev vs env) (rep n zero) = some rows.flatten) (hr : 0 < r) (hn : rows.length = n) (hl : ∀ row ∈ rows, row.length = r)
    (K : ∀ b h1, 8 ≤ b → St (.stb (fun h => Rows r h (.sl b 0 n (some n)) rows) :: fs) h1 → WO c l Q (.sl b 0 n (some n) :: vs) env h1) : WO c (.p (.L (.bsl r n zero ps)) :: l) Q vs env h :=
  WO.new (L.bsl hf) (okSize_cl hr) (K _ _ st.wf.lim (st.frozen _ fun _ hg => rows_new hr hn hl hg))
theorem WO.appEUS {r bytes b : Nat} {s x : A} {xv : V} {new : List (List V)} (st : St fs h) (hs : s.ev vs env = .sl b 0 0 (some 0)) (hb : 8 ≤ b) (hx : x.ev vs env = xv) (hn : Rows r h xv new) (hr : 0 < r) (hne : 0 < new.length) (hfit : new.length * bytes ≤ 1099511627776)
    (K : ∀ bs f v h1, St (.acu bs f r v new :: fs) h1 → WO c l Q (v :: vs) (Env.set i j v env) h1) : WO c (.s i j (.H (.append r bytes s x)) :: l) Q vs env h := by
  have hl : ∀ row ∈ new, row.length = r := by
    cases hn with
    | nil => intro row hm; simp at hm
    | row _ _ _ _ _ hlen => exact hlen
  have hld : h.load b 0 (Nat.mul 0 r) = some [] := by rw [show Nat.mul 0 r = 0 from Nat.zero_mul r]; rfl
  have e := append1_lit (h := h) (r := r) (bytes := bytes) (b := b) (n := 0) (m := new.length) (old := []) (new := new.flatten) hb hld hne (by rw [Nat.zero_add]; exact hfit)
  rw [Nat.zero_add, List.nil_append] at e
  obtain ⟨bs, f, v, h', e2, s'⟩ := (st.acu0 r).appendU (bytes := bytes) hr hl (by simpa using hfit)
  exact WO.actS (fun _ => L.append (ev := fun a => a.ev vs env) hs hx hn (e.trans e2)) (K _ _ _ _ s')
end
end
end Go.Eng
