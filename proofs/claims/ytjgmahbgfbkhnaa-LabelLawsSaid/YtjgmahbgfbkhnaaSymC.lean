/- Part of a proof of a law, by an evaluator that the machine follows: rules, contracts of functions, what they come to. No condition of its own. -/
import Derived.Test.YtjgmahbgfbkhnaaSymA
set_option linter.unusedVariables false
set_option linter.unusedSimpArgs false
namespace Go.Eng
noncomputable section

/-! ### tokens, and the reader of them -/
structure Tok where
  kind : Nat
  text : List UInt8
  at_ : Nat
structure RP where
  rb : Nat
  tb : Nat
  to : Nat
  cap : Option Nat
  ts : List Tok
structure Digits (s : List UInt8) : Prop where
  ne : s ≠ []
  len : s.length ≤ 9
  dig : ∀ b ∈ s, 48 ≤ b.toNat ∧ b.toNat ≤ 57
structure Left (p : RP) (i : Nat) (l : List Tok) : Prop where
  drop : p.ts.drop i = l
  ne : l ≠ []
  last : ∀ t, l.getLast? = some t → t.kind = 0
  num : ∀ t ∈ l, t.kind = 2 → Digits t.text
  small : p.ts.length < 4294967296
/-! ### what the parser does, as functions of the tokens that are left -/
namespace Par
end Par
end
end Go.Eng
namespace Go.Eng
noncomputable section
end
end Go.Eng
namespace Go.Eng
noncomputable section
end
end Go.Eng
namespace Go.Eng
noncomputable section
/-! ### expressions -/
structure Nd where
  kind : Nat
  num : Int
  mod : List UInt8
  name : List UInt8
  a : Int
  b : Int
  at_ : Nat
namespace Par
end Par
end
end Go.Eng
namespace Go.Eng
noncomputable section
/-! ### statements -/
inductive Sm where
  | mk (kind at_ : Nat) (mod name label : List UInt8) (has : Bool) (tomod to : List UInt8) (e : List Nd) (args : List (List Nd)) (body els : List Sm)
theorem fill_one {ev : Ev} {x : A} {z v : V} (hc : (ev x).asCells = some [v]) : fill [(0, 1, x)] ev (rep 1 [z]) = some [v] := by
  show (Option.rec none (fun l => bif (lenV l).beq 1 && (Nat.add 0 1).ble (lenV (rep 1 [z])) then some (overV 0 l (rep 1 [z])) else none) (ev x).asCells : Option (List V)) = _
  rw [hc]; rfl
namespace Par
structure Cl where
  has : Bool
  mod : List UInt8
  name : List UInt8
  tomod : List UInt8
  to : List UInt8
  args : List (List Nd)
end Par
end
end Go.Eng
namespace Go.Eng
noncomputable section

/-! ### a slice literal in a region whose order is drawn, told as an object -/
theorem R8.same_refl {α : Type} {p : α → α → Bool} (hp : ∀ x, p x x = true) (s : R8 α) : R8.same p s s = true := by
  unfold R8.same
  simp [hp]
theorem rowSame_refl (x : Option (List V)) : rowSame x x = true := by
  cases x with
  | none => rfl
  | some l => exact V.sames_refl l
theorem T.same_refl {t : T (List V)} (hy : t.y = none) (hz : t.z = .mt) : T.same t t = true := by
  unfold T.same
  rw [R8.same_refl (R8.same_refl (R8.same_refl rowSame_refl)), hy, hz]; rfl
def litO (b r n : Nat) (rows : List (List V)) : Obj := .cells r b 0 (Nat.mul n r) (setRowsP r n 0 rows.flatten T.e)
theorem still_lit {fs : List Fact} {h : Heap} (s : St fs h) (k : Nat) {b r n : Nat} {rows : List (List V)} (hk : fs[k]? = some (.obj b fun o => o = litO b r n rows)) (hy : (setRowsP r n 0 rows.flatten (T.e : T (List V))).y = none) (hz : (setRowsP r n 0 rows.flatten (T.e : T (List V))).z = .mt) :
    still h (.nw b (litO b r n rows)) = true := by
  obtain ⟨Z, s⟩ := s
  obtain ⟨⟨o, ho, rfl⟩, hn⟩ := s.all _ (List.mem_of_getElem? hk)
  show (match T.get b h.t, T.get b h.fams with
    | some o, none => Obj.same (litO b r n rows) o
    | _, _ => false) = true
  rw [ho, hn]
  show (r.beq r && (b.beq b && ((0 : Nat).beq 0 && ((Nat.mul n r).beq (Nat.mul n r) && T.same _ _)))) = true
  rw [T.same_refl hy hz]
  simp
theorem St.lit_rows {fs : List Fact} {h : Heap} (s : St fs h) (k : Nat) {b r n : Nat} {rows : List (List V)} (hk : fs[k]? = some (.obj b fun o => o = litO b r n rows)) (hr : 0 < r) (hn : rows.length = n) (hl : ∀ row ∈ rows, row.length = r) : Rows r h (.sl b 0 n (some n)) rows := by
  obtain ⟨Z, s⟩ := s
  obtain ⟨⟨o, ho, rfl⟩, _⟩ := s.all _ (List.mem_of_getElem? hk)
  exact rows_new hr hn hl ho
section
variable {c : Ctx} {h : Heap} {fs : List Fact} {Q : QT} {l : List Opd} {vs : List V} {lg : List Log} {env : Env} {uo : List Nat}
theorem WD.bslO {r n : Nat} {zero : List V} {ps : List (Nat × Nat × A)} {rows : List (List V)} (st : St fs h) (hf : fill ps (fun a => a.ev vs env) (rep n zero) = some rows.flatten) (hr : 0 < r)
    (K : ∀ b h1, St (.obj b (fun o => o = litO b r n rows) :: fs) h1 → WD c l Q (.sl b 0 n (some n) :: vs) (.nw b (litO b r n rows) :: lg) env h1) : WD c (⟨.p (.L (.bsl r n zero ps)), uo⟩ :: l) Q vs lg env h :=
  WD.new (L.bsl hf) (okSize_cl hr) (K _ _ (st.new _ rfl rfl fun hn _ => ⟨⟨_, get_add_new .., rfl⟩, hn⟩))
end
end
end Go.Eng
