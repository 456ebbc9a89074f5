/- Part of a proof of a law, by an evaluator that the machine follows: rules, contracts of functions, what they come to. No condition of its own. -/
import Derived.Test.YtmcjcbldmoijiaaGreatDoorEngE
import Derived.Shelf.Sort.Plain
import Derived.Shelf.Slices.In.SortNone
set_option linter.unusedVariables false
set_option linter.unusedSimpArgs false
namespace Go.Eng
noncomputable section
open Go.Sort Go.Proofs

/-! ### slices.Sort of texts, by its contract -/
def lessV (a b : V) : Bool := @V.rec (fun _ => V → Bool) (fun _ => Unit)
  (fun _ => false) (fun _ _ => false) (fun _ _ _ => false) (fun n x b => @V.rec (fun _ => Bool) (fun _ => Unit)
    false (fun _ => false) (fun _ _ => false) (fun m y => sLess (sBytes n x) (sBytes m y)) false (fun _ _ => false) false (fun _ _ _ _ => false) false (fun _ => false) (fun _ _ _ _ _ => false) false (fun _ _ _ => false) false (fun _ _ => false) (fun _ _ => false) () (fun _ _ _ _ => ()) b)
  (fun _ => false) (fun _ _ _ => false) (fun _ => false) (fun _ _ _ _ _ => false) (fun _ => false) (fun _ _ => false) (fun _ _ _ _ _ _ => false) (fun _ => false) (fun _ _ _ _ => false) (fun _ => false) (fun _ _ _ => false) (fun _ _ _ => false)
  () (fun _ _ _ _ => ()) a b
def insV (v : V) (l : List V) : List V := @List.rec V (fun _ => List V) [v] (fun u l ih => Bool.rec (v :: u :: l) (u :: ih) (lessV u v)) l
def sortV (l : List V) : List V := @List.rec V (fun _ => List V) [] (fun v _ ih => insV v ih) l
def strsV (l : List V) : Bool := @List.rec V (fun _ => Bool) true (fun v _ ih => Option.rec false (fun _ => ih) v.asStr) l
def moreSort (f0 : Nat) : Nat → List V → Heap → OR := fun f args h => match f.beq f0, args with
  | true, [.slN] => .ok (.tup []) h
  | true, [.sl b o n _] => Option.rec .bad (fun l => Bool.rec .bad (h.storeC b o n (sortV l) .bad fun h => .ok (.tup []) h) ((strsV l).and (n.blt 4294967296))) (h.load b o n)
  | _, _ => .bad

theorem more2_left {a b : Nat → List V → Heap → OR} {f : Nat} {l : List V} {h : Heap} {r : OR} (e : a f l h = r) (hr : r ≠ .bad) : more2 a b f l h = r := by
  unfold more2; rw [e]; cases r <;> first | rfl | exact absurd rfl hr
theorem more2_right {a b : Nat → List V → Heap → OR} {f : Nat} {l : List V} {h : Heap} (e : a f l h = .bad) : more2 a b f l h = b f l h := by
  unfold more2; rw [e]
/-- a text -/
def sV (l : List UInt8) : V := .str l.length (enc l)
def insB (v : List UInt8) : List (List UInt8) → List (List UInt8)
  | [] => [v]
  | u :: l => if u < v then u :: insB v l else v :: u :: l
def sortB : List (List UInt8) → List (List UInt8)
  | [] => []
  | v :: l => insB v (sortB l)
theorem lessV_eq (a b : List UInt8) : lessV (sV a) (sV b) = Op.bytesLess a b := by
  show sLess (sBytes _ _) (sBytes _ _) = _
  rw [sBytes_eq, sBytes_eq, sLess_eq]
theorem bytesLess_iff : ∀ (a b : List UInt8), Op.bytesLess a b = decide (a < b)
  | [], [] => by simp [Op.bytesLess]
  | [], _ :: _ => by simp [Op.bytesLess]
  | _ :: _, [] => by simp [Op.bytesLess]
  | x :: a, y :: b => by
    unfold Op.bytesLess
    rw [bytesLess_iff a b, Bool.eq_iff_iff]
    simp [List.cons_lt_cons_iff]
theorem insV_eq (v : List UInt8) : ∀ l : List (List UInt8), insV (sV v) (l.map sV) = (insB v l).map sV
  | [] => rfl
  | u :: l => by
    show (Bool.rec (sV v :: sV u :: l.map sV) (sV u :: insV (sV v) (l.map sV)) (lessV (sV u) (sV v)) : List V) = _
    rw [lessV_eq, bytesLess_iff, insV_eq v l]
    by_cases h : u < v
    · rw [show insB v (u :: l) = u :: insB v l from if_pos h]; simp [h]
    · rw [show insB v (u :: l) = v :: u :: l from if_neg h]; simp [h]
theorem sortV_eq : ∀ l : List (List UInt8), sortV (l.map sV) = (sortB l).map sV
  | [] => rfl
  | v :: l => by
    show insV (sV v) (sortV (l.map sV)) = _
    rw [sortV_eq l, insV_eq]; rfl
theorem insB_perm (v : List UInt8) : ∀ l, (insB v l).Perm (v :: l)
  | [] => List.Perm.refl _
  | u :: l => by
    unfold insB
    by_cases h : u < v
    · rw [if_pos h]; exact (List.Perm.cons u (insB_perm v l)).trans (List.Perm.swap ..)
    · rw [if_neg h]
theorem sortB_perm : ∀ l, (sortB l).Perm l
  | [] => List.Perm.refl _
  | v :: l => (insB_perm v _).trans (List.Perm.cons v (sortB_perm l))
theorem insB_sorted (v : List UInt8) : ∀ l : List (List UInt8), l.Pairwise (· ≤ ·) → (insB v l).Pairwise (· ≤ ·)
  | [], _ => by simp [insB]
  | u :: l, h => by
    unfold insB
    by_cases hu : u < v
    · rw [if_pos hu]
      refine List.pairwise_cons.2 ⟨fun x hx => ?_, insB_sorted v l (List.pairwise_cons.1 h).2⟩
      rcases List.mem_cons.1 ((insB_perm v l).mem_iff.1 hx) with rfl | hx
      · exact List.le_of_lt hu
      · exact (List.pairwise_cons.1 h).1 x hx
    · rw [if_neg hu]
      have hvu : v ≤ u := hu
      refine List.pairwise_cons.2 ⟨fun x hx => ?_, h⟩
      rcases List.mem_cons.1 hx with rfl | hx
      · exact hvu
      · exact List.le_trans hvu ((List.pairwise_cons.1 h).1 x hx)
theorem sortB_sorted : ∀ l : List (List UInt8), (sortB l).Pairwise (· ≤ ·)
  | [] => List.Pairwise.nil
  | v :: l => insB_sorted v _ (sortB_sorted l)
theorem perm_sorted_eq : ∀ {a b : List (List UInt8)}, a.Perm b → a.Pairwise (· ≤ ·) → b.Pairwise (· ≤ ·) → a = b := by
  intro a b p ha hb
  exact p.eq_of_pairwise (fun x y _ _ h1 h2 => List.le_antisymm h1 h2) ha hb
theorem sortB_merge (l : List (List UInt8)) : l.mergeSort (fun x y => decide (x ≤ y)) = sortB l := by
  refine perm_sorted_eq ((List.mergeSort_perm l _).trans (sortB_perm l).symm) ?_ (sortB_sorted l)
  have := List.pairwise_mergeSort (le := fun x y : List UInt8 => decide (x ≤ y)) (fun a b c h1 h2 => by simp at h1 h2 ⊢; exact List.le_trans h1 h2) (fun a b => by simp; exact List.le_total a b) l
  exact this.imp fun h => by simpa using h
theorem strsV_rel {ι : Inj} : ∀ {l : List V} {xs : List Value}, strsV l = true → vrels ι l xs → ∃ ss : List (List UInt8), l = ss.map sV ∧ xs = ss.map encStr
  | [], xs, _, hr => ⟨[], rfl, by simpa [vrels] using hr⟩
  | v :: l, xs, h, hr => by
    obtain ⟨x, xs, rfl, hx, hr⟩ := hr
    have h : (Option.rec false (fun _ => strsV l) v.asStr : Bool) = true := h
    cases v <;> first | (cases h; done) | skip
    rename_i n x0
    obtain ⟨ss, e1, e2⟩ := strsV_rel (l := l) (xs := xs) h hr
    obtain ⟨s, rfl, rfl, rfl⟩ := hx
    refine ⟨s.data.toList :: ss, by rw [e1]; rfl, by rw [e2]; simp [encStr]⟩
theorem strs_rel {ι : Inj} : ∀ ss : List (List UInt8), vrels ι (ss.map sV) (ss.map encStr)
  | [] => rfl
  | s :: ss => ⟨_, _, rfl, ⟨_, rfl, by show s.toArray.toList.length = _; simp, by show enc s.toArray.toList = _; simp⟩, strs_rel ss⟩
theorem moreSort_ok {P : Program} {f0 : Nat} (hb : hasBody P f0)
    (hc : ∀ (blk off cap : Nat) (ss : List (List UInt8)) (w : World), Sort.Holds encStr w blk off ss.toArray → blk < w.heap.size → ss.length < 4611686018427387904 →
      Calls P f0 #[.slice (some ⟨blk, off, none⟩) ss.length cap] w fun e w' => e = .returned (.tuple #[]) ∧ ∃ n os, w' = grow (putRow encStr (Sort.ahead w n) blk off (ss.mergeSort fun x y => decide (x ≤ y)).toArray) os)
    (h0 : ∀ (p : Option Addr) (cap : Nat) (w : World), Calls P f0 #[.slice p 0 cap] w fun e w' => e = .returned (.tuple #[]) ∧ w' = w) : MoreOk P (moreSort f0) := by
  intro f vs h
  unfold moreSort
  split
  · rename_i hf
    have hf : f = f0 := Nat.eq_of_beq_eq_true hf
    subst hf
    refine ⟨Nat.le_refl _, fun _ => ⟨hb, fun ι w args g _ hr => ?_⟩⟩
    obtain ⟨y1, l1, e1, r1, r2⟩ := hr
    have r2 : l1 = [] := r2
    subst r2
    have r1 : y1 = .slice none 0 0 := r1
    subst r1
    have ha : args = #[.slice none 0 0] := by rw [← Array.toArray_toList (xs := args), e1]
    rw [ha]
    refine (h0 none 0 w).mono fun e w' he => ?_
    obtain ⟨rfl, rfl⟩ := he
    exact ⟨ι, Chg.refl g, ⟨#[], rfl, rfl⟩⟩
  · rename_i b o n cap hf
    have hf : f = f0 := Nat.eq_of_beq_eq_true hf
    subst hf
    cases hl : h.load b o n with
    | none => exact ⟨trivial, fun h => absurd rfl h⟩
    | some l =>
      show OR.next h (Bool.rec .bad (h.storeC b o n (sortV l) .bad fun h => .ok (.tup []) h) ((strsV l).and (n.blt 4294967296)) : OR) ∧ ((Bool.rec .bad (h.storeC b o n (sortV l) .bad fun h => .ok (.tup []) h) ((strsV l).and (n.blt 4294967296)) : OR) ≠ .bad → _ ∧ ∀ ι w (args : Array Value), Good ι h w → OR.free ι h (Bool.rec .bad (h.storeC b o n (sortV l) .bad fun h => .ok (.tup []) h) ((strsV l).and (n.blt 4294967296)) : OR) → vrels ι _ args.toList → Calls P f args w (OutP ι h w (Bool.rec .bad (h.storeC b o n (sortV l) .bad fun h => .ok (.tup []) h) ((strsV l).and (n.blt 4294967296)) : OR)))
      cases hs : (strsV l).and (n.blt 4294967296) with
      | false => exact ⟨trivial, fun h => absurd rfl h⟩
      | true =>
        have hs1 : strsV l = true ∧ n < 4294967296 := by
          cases h1 : strsV l <;> cases h2 : n.blt 4294967296 <;> rw [h1, h2] at hs <;> first | (cases hs; done) | skip
          exact ⟨rfl, by rw [nblt] at h2; simpa using h2⟩
        show OR.next h (h.storeC b o n (sortV l) .bad fun h => .ok (.tup []) h) ∧ ((h.storeC b o n (sortV l) .bad fun h => OR.ok (.tup []) h) ≠ .bad → _ ∧ ∀ ι w (args : Array Value), Good ι h w → OR.free ι h (h.storeC b o n (sortV l) .bad fun h => .ok (.tup []) h) → vrels ι _ args.toList → Calls P f args w (OutP ι h w (h.storeC b o n (sortV l) .bad fun h => .ok (.tup []) h)))
        refine ⟨storeC_next (Nat.le_refl _), fun hne => ⟨hb, fun ι w args g _ hr => ?_⟩⟩
        obtain ⟨y1, l1, e1, r1, r2⟩ := hr
        have r2 : l1 = [] := r2
        subst r2
        obtain ⟨B, a, c, hB, rfl, hsl⟩ := r1
        have ha : args = #[.slice (some a) n c] := by rw [← Array.toArray_toList (xs := args), e1]
        rw [ha]
        rw [storeC_eq _ _ _ _ _ _ _ g.memLt (g.bLt hB)] at hne ⊢
        cases hst : storeO h b o n (sortV l) with
        | none => rw [hst] at hne; exact absurd rfl hne
        | some h1 =>
          show Calls P f _ w (OutP ι h w (.ok (.tup []) h1))
          obtain ⟨xs, hxl, hxr, hx1, hcell⟩ := load_rel g hB hl
          obtain ⟨ss, rfl, rfl⟩ := strsV_rel hs1.1 hxr
          rw [sortV_eq] at hst
          have hssl : ss.length = n := by simpa using hxl
          by_cases hn0 : n = 0
          · subst hn0
            cases storeO_zero hst
            refine (h0 (some a) c w).mono fun e w' he => ?_
            obtain ⟨rfl, rfl⟩ := he
            exact ⟨ι, Chg.refl g, ⟨#[], rfl, rfl⟩⟩
          · have hadr := slOk_addr hsl (by omega)
            subst hadr
            have hsb : (sortB ss).length = n := by rw [(sortB_perm ss).length_eq, hssl]
            obtain ⟨ob, ob', h1', hob, hic, hic', hsolo, hfall, hh1, hle, hsz, hstat, hcellO, hk⟩ := storeO_obj hn0 hst (by simpa using hsb) (g.bLt hB) g.memLt
            have hbn := g.dom b (g.bLt hB) (by simp [hob])
            have hrr := (g.obj b B ob hB hob hbn).cells hic
            obtain ⟨cs, el, fr, q1, q2, q3, q4, q5, q6⟩ := hrr
            have hH : Sort.Holds encStr w B.c (B.off + o) ss.toArray := by
              intro j hj
              have hj : j < ss.length := by simpa using hj
              refine ⟨?_, ?_⟩
              · have := hcell j (encStr ss[j]) (by simp [hj])
                rw [this]; simp [hj]
              · have hno := q2.at_ (k := B.off + o + j) (by omega) (by omega) (by omega)
                simp only [World.frozen?, q1]
                simp; omega
            obtain ⟨w1, k1, k2, k3, k4, _⟩ := store_rel (P := P) g hB hst (by simpa using hsb) (strs_rel (sortB ss)) (by
              intro x hx
              obtain ⟨s, _, rfl⟩ := List.mem_map.1 hx
              rfl)
            have hrun := run_storeCells_cells (P := P) B.c (B.off + o) ((sortB ss).map encStr) 0 w (fun j hj => by
                have hj : j < n := by simpa [hsb] using hj
                have := (hH j (by simp; omega)).1
                simp only [Nat.add_zero]
                rw [this]; rfl) (fun j hj => by
                have hj : j < n := by simpa [hsb] using hj
                exact (hH j (by simp; omega)).2) (by
                intro x hx
                obtain ⟨s, _, rfl⟩ := List.mem_map.1 hx
                rfl)
            have hw1 : w1 = w.setCells B.c (B.off + o) ((sortB ss).map encStr) := by
              have := k1.symm.trans hrun
              simpa using this
            have := hc B.c (B.off + o) c ss w hH (g.inH b B hB) (by omega)
            rw [hssl] at this
            refine this.mono fun e w' he => ?_
            obtain ⟨rfl, m, os, rfl⟩ := he
            rw [sortB_merge]
            have hsame := setCells_same B.c ((sortB ss).map encStr) (B.off + o) w
            have heap : ∀ k, k < w.heap.size → (grow (putRow encStr (Sort.ahead w m) B.c (B.off + o) (sortB ss).toArray) os).heap[k]? = w1.heap[k]? := by
              intro k hk
              show ((putRow encStr (Sort.ahead w m) B.c (B.off + o) (sortB ss).toArray).heap ++ os)[k]? = _
              rw [Array.getElem?_append_left (by simpa using hk)]
              show (w.heap.modify B.c (onCells (putCells encStr (B.off + o) (sortB ss).toArray)))[k]? = _
              rw [Array.getElem?_modify, hw1]
              by_cases hkb : B.c = k
              · subst hkb
                obtain ⟨cs', c1, c2, c3⟩ := setCells_row ((sortB ss).map encStr) (B.off + o) w cs q1 (by simp [hsb]; omega)
                rw [if_pos rfl, q1, c1]
                simp only [Option.map_some, onCells]
                congr 2
                apply Array.ext_getElem?
                intro j
                rw [c3]
                unfold putCells
                rw [Array.getElem?_mapIdx]
                simp only [List.length_map, hsb, List.size_toArray]
                by_cases hj : B.off + o ≤ j ∧ j < B.off + o + n
                · rw [if_pos hj]
                  have hjc : j < cs.size := by omega
                  rw [Array.getElem?_eq_getElem hjc]
                  have hjl : j - (B.off + o) < (sortB ss).length := by omega
                  simp [hj, hjl]
                · rw [if_neg hj]
                  cases hcj : cs[j]? with
                  | none => rfl
                  | some y => simp [if_neg hj]
              · rw [if_neg hkb, setCells_far _ _ _ _ (Ne.symm hkb)]
            have hsz1 : w1.heap.size = w.heap.size := by rw [hw1]; exact hsame.2.2.2
            refine ⟨ι, Chg.same (k2.world (fun k hk => heap k (by omega)) (by simp; omega)) ⟨fun k hk hf => (heap k hk).trans (k3.keep k hk hf), by simp, rfl, rfl, rfl⟩ k4, ⟨#[], rfl, rfl⟩⟩
  · exact ⟨trivial, fun h => absurd rfl h⟩
end
end Go.Eng
