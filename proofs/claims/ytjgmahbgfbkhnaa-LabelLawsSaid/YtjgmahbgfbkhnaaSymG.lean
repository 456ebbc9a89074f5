/- Part of a proof of a law, by an evaluator that the machine follows: rules, contracts of functions, what they come to. No condition of its own. -/
import Derived.Test.YtjgmahbgfbkhnaaSymF
import Derived.Test.YtjgmahbgfbkhnaaSymD
set_option linter.unusedVariables false
set_option linter.unusedSimpArgs false
namespace Go.Eng
noncomputable section
/-! ### lattices in memory; rows of bytes -/
structure Lat where
  ns : List Lab.Txt
  M : List (List Bool)
  J : List (List Nat)
  K : List (List Nat)
  lo : Nat
  hi : Nat
def Lat.none : Lat := ⟨[], [], [], [], 0, 0⟩
def Lat.num (t : Lat) (vN vL vJ vK : V) : List V := [vN, vL, vJ, vK, .int .i64 (t.lo : Int), .int .i64 (t.hi : Int)]
structure LatR (h : Heap) (vN vL vJ vK : V) (t : Lat) : Prop where
  N : Rows 1 h vN (SR t.ns)
  L : BTab h vL t.M
  J : ITab h vJ t.J
  K : ITab h vK t.K
def smallT {α : Type} (l : List (List α)) : Prop := l.length < 4294967296 ∧ ∀ r ∈ l, r.length < 4294967296
structure Lat.small (t : Lat) : Prop where
  N : t.ns.length < 4294967296
  L : smallT t.M
  J : smallT t.J
  K : smallT t.K
theorem LatR.none (h : Heap) : LatR h .slN .slN .slN .slN Lat.none := ⟨.nil, ⟨[], .nil, trivial⟩, ⟨[], .nil, trivial⟩, ⟨[], .nil, trivial⟩⟩
section
variable {h : Heap} {v : V}
theorem BTab.at {M : List (List Bool)} (t : BTab h v M) {i : Nat} {r : List Bool} (hr : M[i]? = some r) : ∃ u, h.load1 (slB v) (slO v + i * 1) = some u ∧ Rows 1 h u (r.map bv) := by
  obtain ⟨vs, hv, hb⟩ := t
  obtain ⟨u, h1, h2⟩ := hb.at hr
  exact ⟨u, hv.load1Z (by rw [List.getElem?_map, h1]; rfl), h2⟩
theorem ITab.at {M : List (List Nat)} (t : ITab h v M) {i : Nat} {r : List Nat} (hr : M[i]? = some r) : ∃ u, h.load1 (slB v) (slO v + i * 1) = some u ∧ Rows 1 h u (r.map iv) := by
  obtain ⟨vs, hv, hb⟩ := t
  obtain ⟨u, h1, h2⟩ := hb.at hr
  exact ⟨u, hv.load1Z (by rw [List.getElem?_map, h1]; rfl), h2⟩
variable {ev : Ev} {x y : A}
theorem L.iaddrZ {rows : List (List V)} (R : Rows 1 h v rows) {k : Nat} (hk : k < rows.length) (hx : ev x = v) (hy : ev y = .int .i64 (k : Int)) : light (.iaddr 1 x y) ev h = .val (.ptr (slB v) (slO v + k * 1)) := L.iaddr (hx.trans (R.sl hk)) hy hk
theorem L.llenBT {M : List (List Bool)} (hx : ev x = v) (t : BTab h v M) : light (.len false x) ev h = .val (.int .i64 (M.length : Int)) := by
  obtain ⟨vs, hv, hb⟩ := t
  exact L.llenRn hx hv (by rw [List.length_map, hb.len])
theorem L.llenIT {M : List (List Nat)} (hx : ev x = v) (t : ITab h v M) : light (.len false x) ev h = .val (.int .i64 (M.length : Int)) := by
  obtain ⟨vs, hv, hb⟩ := t
  exact L.llenRn hx hv (by rw [List.length_map, hb.len])
theorem L.iaddrBT {M : List (List Bool)} (t : BTab h v M) {k : Nat} (hk : k < M.length) (hx : ev x = v) (hy : ev y = .int .i64 (k : Int)) : light (.iaddr 1 x y) ev h = .val (.ptr (slB v) (slO v + k * 1)) := by
  obtain ⟨vs, hv, hb⟩ := t
  exact L.iaddrZ hv (by rw [List.length_map, hb.len]; exact hk) hx hy
theorem L.iaddrIT {M : List (List Nat)} (t : ITab h v M) {k : Nat} (hk : k < M.length) (hx : ev x = v) (hy : ev y = .int .i64 (k : Int)) : light (.iaddr 1 x y) ev h = .val (.ptr (slB v) (slO v + k * 1)) := by
  obtain ⟨vs, hv, hb⟩ := t
  exact L.iaddrZ hv (by rw [List.length_map, hb.len]; exact hk) hx hy
def ByRows (h : Heap) (v : V) (l : List UInt8) : Prop := (v = .slN ∧ l = []) ∨ ∃ b o cap, v = .sl b o l.length cap ∧ ∀ i x, l[i]? = some x → h.load1 b (o + i * 1) = some (byV x)
theorem ByRows.sl {l : List UInt8} (a : ByRows h v l) {i : Nat} (hi : i < l.length) : v = .sl (slB v) (slO v) l.length (slC v) := by
  rcases a with ⟨_, rfl⟩ | ⟨b, o, cap, rfl, _⟩
  · simp at hi
  · rfl
theorem L.llenBy {l : List UInt8} (hx : ev x = v) (a : ByRows h v l) : light (.len false x) ev h = .val (.int .i64 (l.length : Int)) := by
  rcases a with ⟨rfl, rfl⟩ | ⟨b, o, cap, rfl, _⟩
  · exact L.llenN hx
  · exact L.llen hx
theorem L.iaddrBy {l : List UInt8} (a : ByRows h v l) {i : Nat} (hi : i < l.length) (hx : ev x = v) (hy : ev y = .int .i64 (i : Int)) : light (.iaddr 1 x y) ev h = .val (.ptr (slB v) (slO v + i * 1)) := L.iaddr (hx.trans (a.sl hi)) hy hi
theorem ByRows.at {l : List UInt8} (a : ByRows h v l) {i : Nat} {b : UInt8} (hp : l[i]? = some b) : h.load1 (slB v) (slO v + i * 1) = some (.int .u8 (b.toNat : Int)) := by
  rcases a with ⟨_, rfl⟩ | ⟨b, o, cap, rfl, ha⟩
  · simp at hp
  · exact ha i _ hp
theorem ByRows.of {l : List UInt8} {a : V} {o : Obj} (hb : BArg 0 l a o) {h : Heap} (ho : T.get 0 h.t = some o) : ByRows h a l := by
  cases hb with
  | nil => exact .inl ⟨rfl, rfl⟩
  | zero => exact .inr ⟨0, 0, none, rfl, fun i x hx => by simp at hx⟩
  | some hne cap => exact .inr ⟨0, 0, some cap, rfl, fun i x hx => by rw [Nat.mul_one, Nat.zero_add]; exact barg_load ho hx⟩
/-! ### LabelOrders' pairs -/
namespace Lab
def lt (ns : List UInt8) (i : Nat) : Txt := [UInt8.ofNat (97 + (ns[i]?.getD 0).toNat % 6)]
def pairsK (ns : List UInt8) (k : Nat) : List (Txt × Txt) := (List.range k).map fun j => (lt ns (2 * j), lt ns (2 * j + 1))
def pairs (ns : List UInt8) : List (Txt × Txt) := pairsK ns (ns.length / 2)
theorem pairsK_succ (ns : List UInt8) (k : Nat) : pairsK ns (k + 1) = pairsK ns k ++ [(lt ns (2 * k), lt ns (2 * k + 1))] := by unfold pairsK; rw [List.range_succ, List.map_append]; rfl
theorem pairsK_len (ns : List UInt8) (k : Nat) : (pairsK ns k).length = k := by simp [pairsK]
theorem lt_at {ns : List UInt8} {i : Nat} {b : UInt8} (h : ns[i]? = some b) : lt ns i = [UInt8.ofNat (97 + b.toNat % 6)] := by unfold lt; rw [h]; rfl
end Lab
def p0 (l : List (Lab.Txt × Lab.Txt)) : List Prm := l.map fun p => (p.1, p.2, 0)
theorem pr_p0 (l : List (Lab.Txt × Lab.Txt)) : pr (p0 l) = l := by unfold pr p0; rw [List.map_map]; exact List.map_id _
theorem p0_len (l : List (Lab.Txt × Lab.Txt)) : (p0 l).length = l.length := List.length_map _
def QPr (l : List (Lab.Txt × Lab.Txt)) : List (List V) := (p0 l).map prow
theorem QPr_len (l : List (Lab.Txt × Lab.Txt)) : (QPr l).length = l.length := by unfold QPr p0; rw [List.length_map, List.length_map]
theorem QPr_app (a b : List (Lab.Txt × Lab.Txt)) : QPr (a ++ b) = QPr a ++ QPr b := by unfold QPr p0; rw [List.map_append, List.map_append]
def mkLat (l : List (Lab.Txt × Lab.Txt)) : Lat := match (Lab.made l).2 with
  | some x => ⟨Lab.names l, Lab.order l, Lab.joinT (Lab.names l).length (Lab.order l) (Lab.names l).length, Lab.meetT (Lab.names l).length (Lab.order l) (Lab.names l).length, x.1, x.2⟩
  | none => Lat.none
end
end
end Go.Eng
