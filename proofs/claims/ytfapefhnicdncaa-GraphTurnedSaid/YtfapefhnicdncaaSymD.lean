/- Part of a proof of a law, by an evaluator that the machine follows: rules, contracts of functions, what they come to. No condition of its own. -/
import Derived.Test.YtfapefhnicdncaaSymC
set_option linter.unusedVariables false
set_option linter.unusedSimpArgs false
namespace Go.Eng
noncomputable section
theorem take_next {α : Type} {l : List α} {i : Nat} {x : α} (h : l[i]? = some x) : l.take (i + 1) = l.take i ++ [x] := by rw [List.take_add_one, h]; rfl
/-! ### a map of slices -/
def KW (N : List Lab.Txt) (W : List (Nat × V × List Lab.Txt)) : List (Lab.Txt × V) := List.zipWith (fun x w => (x, w.2.1)) N W
theorem getK_mem {x : Lab.Txt} : ∀ {ks : List (Lab.Txt × V)}, (getK x ks).isSome = decide (x ∈ ks.map fun p => p.1)
  | [] => rfl
  | p :: ks => by
    unfold getK
    by_cases h : p.1 = x
    · rw [if_pos h]; simp [h]
    · rw [if_neg h, getK_mem (ks := ks), List.map_cons]
      exact decide_eq_decide.2 ⟨fun hm => List.mem_cons_of_mem _ hm, fun hm => (List.mem_cons.1 hm).resolve_left fun e => h e.symm⟩
theorem getK_none {x : Lab.Txt} {ks : List (Lab.Txt × V)} (h : x ∉ ks.map fun p => p.1) : getK x ks = none := by
  have := getK_mem (x := x) (ks := ks)
  rw [decide_eq_false h] at this
  cases e : getK x ks with
  | none => rfl
  | some v => rw [e] at this; simp at this
theorem putK_new {x : Lab.Txt} {v : V} : ∀ {ks : List (Lab.Txt × V)}, (x ∉ ks.map fun p => p.1) → putK x v ks = ks ++ [(x, v)]
  | [], _ => rfl
  | p :: ks, h => by
    have h1 : ¬ p.1 = x := fun e => h (by simp [e])
    unfold putK
    rw [if_neg h1, putK_new (ks := ks) (fun hm => h (by rw [List.map_cons]; exact List.mem_cons_of_mem _ hm))]; rfl
theorem KW_keys {N : List Lab.Txt} {W : List (Nat × V × List Lab.Txt)} (h : N.length = W.length) : (KW N W).map (fun p => p.1) = N := by
  refine List.ext_getElem? fun i => ?_
  unfold KW
  rw [List.getElem?_map, List.getElem?_zipWith]
  by_cases hi : i < N.length
  · rw [List.getElem?_eq_getElem hi, List.getElem?_eq_getElem (by omega)]; rfl
  · rw [List.getElem?_eq_none (by omega)]; rfl
theorem getK_at : ∀ {N : List Lab.Txt} {W : List (Nat × V × List Lab.Txt)}, N.Nodup → ∀ {i : Nat} {x : Lab.Txt} {w : Nat × V × List Lab.Txt}, N[i]? = some x → W[i]? = some w → getK x (KW N W) = some w.2.1
  | [], _, _, i, x, w, hx, _ => by simp at hx
  | _ :: _, [], _, i, x, w, _, hw => by simp at hw
  | y :: N, u :: W, hn, 0, x, w, hx, hw => by
    simp at hx hw; subst hx hw
    show getK y ((y, u.2.1) :: KW N W) = _
    unfold getK; rw [if_pos rfl]
  | y :: N, u :: W, hn, i + 1, x, w, hx, hw => by
    have hx : N[i]? = some x := by simpa using hx
    have hw : W[i]? = some w := by simpa using hw
    rw [List.nodup_cons] at hn
    have h1 : ¬ y = x := fun e => hn.1 (e ▸ List.mem_of_getElem? hx)
    show getK x ((y, u.2.1) :: KW N W) = _
    unfold getK; rw [if_neg h1]; exact getK_at hn.2 hx hw
theorem putK_at : ∀ {N : List Lab.Txt} {W : List (Nat × V × List Lab.Txt)}, N.Nodup → ∀ {i : Nat} {x : Lab.Txt}, N[i]? = some x → i < W.length → ∀ (f : Nat) (v : V) (ts : List Lab.Txt), putK x v (KW N W) = KW N (W.set i (f, v, ts))
  | [], _, _, i, x, hx, _ => by simp at hx
  | _ :: _, [], _, i, x, _, hw => by simp at hw
  | y :: N, u :: W, hn, 0, x, hx, hw => fun f v ts => by
    simp at hx; subst hx
    show putK y v ((y, u.2.1) :: KW N W) = _
    unfold putK; rw [if_pos rfl]; rfl
  | y :: N, u :: W, hn, i + 1, x, hx, hw => fun f v ts => by
    have hx : N[i]? = some x := by simpa using hx
    rw [List.nodup_cons] at hn
    have h1 : ¬ y = x := fun e => hn.1 (e ▸ List.mem_of_getElem? hx)
    show putK x v ((y, u.2.1) :: KW N W) = _
    unfold putK; rw [if_neg h1, putK_at hn.2 hx (by simpa using hw) f v ts]; rfl
theorem KW_rep (N : List Lab.Txt) : KW N (List.replicate N.length (0, .slN, [])) = N.map fun x => (x, V.slN) := by
  refine List.ext_getElem? fun j => ?_
  unfold KW
  rw [List.getElem?_zipWith, List.getElem?_map]
  by_cases h : j < N.length
  · rw [List.getElem?_eq_getElem h, List.getElem?_replicate, if_pos h]; rfl
  · rw [List.getElem?_eq_none (by omega)]; rfl
def K0 (G : Gr) (i : Nat) : List (Lab.Txt × V) := (G.take i).map fun p => (p.1, V.slN)
/-- whom each leads to in one step -/
def nmsG (G : Gr) : List Lab.Txt := G.map fun p => p.1
def filtG (N l : List Lab.Txt) : List Lab.Txt := l.filter fun t => decide (t ∈ N)
def wayG (G : Gr) : Gr := G.map fun p => (p.1, filtG (nmsG G) p.2)
def curT (G : Gr) (i j a : Nat) : List Lab.Txt := if a < i then filtG (nmsG G) (((G[a]?).getD ([], [])).2) else if a = i then filtG (nmsG G) ((((G[a]?).getD ([], [])).2).take j) else []
structure GdN (G : Gr) : Prop where
  nd : (nmsG G).Nodup
  few : G.length ≤ 8
  to : ∀ p ∈ G, p.2.length ≤ 64
theorem nmsG_at {G : Gr} {i : Nat} {p : Lab.Txt × List Lab.Txt} (h : G[i]? = some p) : (nmsG G)[i]? = some p.1 := by unfold nmsG; rw [List.getElem?_map, h]; rfl
theorem nmsG_len (G : Gr) : (nmsG G).length = G.length := List.length_map _
theorem wayG_nms (G : Gr) : nmsG (wayG G) = nmsG G := by unfold nmsG wayG; rw [List.map_map]; rfl
theorem curT_next {G : Gr} {i j : Nat} {p : Lab.Txt × List Lab.Txt} {t : Lab.Txt} (hp : G[i]? = some p) (ht : p.2[j]? = some t) (a : Nat) : curT G i (j + 1) a = if a = i then (if t ∈ nmsG G then curT G i j a ++ [t] else curT G i j a) else curT G i j a := by
  unfold curT
  by_cases h : a < i
  · rw [if_pos h, if_pos h, if_neg (by omega)]
  · rw [if_neg h, if_neg h]
    by_cases h2 : a = i
    · rw [if_pos h2, if_pos h2, if_pos h2]
      subst h2
      rw [hp]
      show filtG (nmsG G) (p.2.take (j + 1)) = _
      rw [List.take_add_one, ht]
      unfold filtG
      rw [List.filter_append]
      by_cases h3 : t ∈ nmsG G
      · rw [if_pos h3]; simp [h3]
      · rw [if_neg h3]; simp [h3]
    · rw [if_neg h2, if_neg h2, if_neg h2]
theorem curT_row {G : Gr} {i j : Nat} {p : Lab.Txt × List Lab.Txt} (hp : G[i]? = some p) (hj : p.2.length ≤ j) (a : Nat) : curT G i j a = curT G (i + 1) 0 a := by
  unfold curT
  by_cases h : a < i
  · rw [if_pos h, if_pos (by omega)]
  · rw [if_neg h]
    by_cases h2 : a = i
    · rw [if_pos h2, if_pos (by omega)]
      subst h2; rw [hp]
      show filtG (nmsG G) (p.2.take j) = _
      rw [List.take_of_length_le hj]; rfl
    · rw [if_neg h2, if_neg (by omega)]
      by_cases h3 : a = i + 1
      · rw [if_pos h3]; simp [filtG]
      · rw [if_neg h3]
theorem curT_zero (G : Gr) (a : Nat) : curT G 0 0 a = [] := by
  unfold curT
  rw [if_neg (by omega)]
  by_cases h : a = 0
  · rw [if_pos h]; simp [filtG]
  · rw [if_neg h]
/-- the map of ways, that stays -/
structure WaysV (h : Heap) (m : Nat) (W : Gr) (vs : List V) : Prop where
  map : MapAt h m (List.zip (nmsG W) vs)
  rows : TRows h (tosG W) vs
theorem waysV_of {h : Heap} {m j : Nat} {G : Gr} {W : List (Nat × V × List Lab.Txt)} (hl : W.length = G.length) (hc : ∀ a w, W[a]? = some w → w.2.2 = curT G G.length j a) (h1 : MapAt h m (KW (nmsG G) W)) (h2 : TRows h (W.map fun w => w.2.2) (W.map fun w => w.2.1)) : WaysV h m (wayG G) (W.map fun w => w.2.1) := by
  refine ⟨?_, ?_⟩
  · rw [wayG_nms]
    have : List.zip (nmsG G) (W.map fun w => w.2.1) = KW (nmsG G) W := by unfold KW; rw [List.zip, List.zipWith_map_right]
    rw [this]; exact h1
  · have : tosG (wayG G) = W.map fun w => w.2.2 := by
      refine List.ext_getElem? fun a => ?_
      unfold tosG wayG
      rw [List.map_map, List.getElem?_map, List.getElem?_map]
      by_cases ha : a < G.length
      · obtain ⟨p, hp⟩ : ∃ p, G[a]? = some p := ⟨G[a], List.getElem?_eq_getElem ha⟩
        obtain ⟨w, hw⟩ : ∃ w, W[a]? = some w := ⟨W[a]'(by omega), List.getElem?_eq_getElem (by omega)⟩
        rw [hp, hw]
        show some (filtG (nmsG G) p.2) = some w.2.2
        rw [hc a w hw]; unfold curT; rw [if_pos ha, hp]; rfl
      · rw [List.getElem?_eq_none (by omega), List.getElem?_eq_none (by omega)]; rfl
    rw [this]; exact h2
end
end Go.Eng
