/- Part of a proof of a law, by an evaluator that the machine follows: rules, contracts of functions, what they come to. No condition of its own. -/
import Derived.Test.YtjobofnpmmjeoaaDoorPlaces
import Derived.Test.YtjobofnpmmjeoaaDoorSame
import Derived.Test.YtjobofnpmmjeoaaDoorConF
import Derived.Test.YtjobofnpmmjeoaaDoorSpec
import Derived.Test.YtjobofnpmmjeoaaDoorConE
import Derived.Test.YtjobofnpmmjeoaaDoorSym
namespace Go.Eng.YtjobofnpmmjeoaaDoor
open Go.Eng
noncomputable section
variable {c : Ctx}
def zeroMd : Md := ⟨[], 0, [], [], []⟩
def mdOf (r : Except (Nat × Nat) Md) : Md := match r with | .ok m => m | .error _ => zeroMd
theorem zeroMd_r (h : Heap) : MdR h zeroMd [.str 0 0, .int .i64 0, .slN, .slN, .slN] := ⟨.slN, .slN, .slN, rfl, .nil, .nil, [], .nil, rfl⟩
theorem modM_c (D : HasF c) (DD : HasD c) {fs : List Fact} {h : Heap} {s : List UInt8} {e a : Nat} (st : St fs h) (hs : eCode (Par.text s) = (e, a)) : RunP c 10 [L.str s] h fun v h1 => ∃ row, v = .tup [.agg row, .int .i64 (e : Int), .int .i64 (a : Int)] ∧ row.length = 5 ∧ St (.stb (fun h => MdR h (mdOf (Par.text s)) row) :: fs) h1 := by
 obtain ⟨v, h1, hr, hp⟩ := Module_c D DD st
 refine ⟨v, h1, hr, ?_⟩
 cases ht : Par.text s with
 | ok m =>
  rw [ht] at hp hs
  obtain ⟨row, rfl, hrow, st⟩ := hp
  cases hs
  exact ⟨row, rfl, hrow, st⟩
 | error x =>
  obtain ⟨e1, a1⟩ := x
  rw [ht] at hp hs
  obtain ⟨rfl, st⟩ := hp
  cases hs
  exact ⟨_, rfl, rfl, (st.pure (Q := True) trivial).imp0 fun h _ => zeroMd_r h⟩
theorem text_lexerr {s : List UInt8} {f b e a : Nat} (hl : Lex.lex s = .error (f, b)) (h : eCode (Par.text s) = (e, a)) : e = f := by
 unfold Par.text at h
 rw [hl] at h
 cases h; rfl
theorem zero_eq : MdEq false zeroMd zeroMd := ⟨rfl, (fun h => by cases h), ⟨rfl, fun i x y h => by simp [zeroMd] at h⟩, ⟨rfl, fun i x y h => by simp [zeroMd] at h⟩, ⟨rfl, fun i x y h => by simp [zeroMd] at h⟩⟩
theorem zero_few : MdFew zeroMd := ⟨by decide, by decide, by decide, fun p hp => by simp [zeroMd] at hp⟩
theorem blanks_same {s : List UInt8} {ts : List Tok} {w e a e' a' : Nat} (hs : Lex.lex s = .ok ts) (hsm : ts.length < 4294967296) (hl : (Lex.bt w 0 ts).length ≤ 8192) (h1 : eCode (Par.text s) = (e, a)) (h2 : eCode (Par.text (Lex.bt w 0 ts)) = (e', a')) :
  e = e' ∧ MdEq false (mdOf (Par.text s)) (mdOf (Par.text (Lex.bt w 0 ts))) ∧ MdFew (mdOf (Par.text s)) := by
 obtain ⟨ts', g1, g2⟩ := rebuilt w hs hl
 have m1 : Par.text s = match Par.modul 0 ts with | .error x => .error x | .ok (m, _) => .ok m := by unfold Par.text; rw [hs]; kernel_rfl
 have m2 : Par.text (Lex.bt w 0 ts) = match Par.modul 0 ts' with | .error x => .error x | .ok (m, _) => .ok m := by unfold Par.text; rw [g1]; kernel_rfl
 rw [m1] at h1 ⊢
 rw [m2] at h2 ⊢
 rcases Par.modul_lk (d := 0) g2 with ⟨x, x', l, l', k1, k2, k3, k4⟩ | ⟨q, b, b', k1, k2⟩
 ·rw [k1] at h1 ⊢
  rw [k2] at h2 ⊢
  cases h1; cases h2
  exact ⟨rfl, k3, modul_few k1 hsm⟩
 ·rw [k1] at h1 ⊢
  rw [k2] at h2 ⊢
  cases h1; cases h2
  exact ⟨rfl, zero_eq, zero_few⟩
theorem tok_len {s : List UInt8} {ts : List Tok} {k : Nat} {t : Tok} (hs : Lex.lex s = .ok ts) (ht : ts[k]? = some t) : t.text.length ≤ s.length := by
 obtain ⟨us, a, e⟩ := lex_last hs
 have hk := (List.getElem?_eq_some_iff.1 ht).1
 by_cases h : k + 1 < ts.length
 ·have := Lex.all_cut (more := []) (fun {f'} {pos'} {out'} hf => by
   obtain ⟨n, rfl⟩ : ∃ n, f' = n + 1 := ⟨f' - 1, by simp at hf; omega⟩
   exact ⟨_, rfl⟩) (lex_all hs) k t (Nat.zero_le _) h ht
  omega
 ·subst e
  have : k = us.length := by simp at hk h; omega
  subst this
  simp at ht; subst ht; simp
theorem sep_len (w i : Nat) : (Lex.sep w i).length ≤ 8 := by
 have h := Lex.sep_mem w i
 generalize Lex.sep w i = s at h
 simp [Lex.seps] at h
 rcases h with rfl | rfl | rfl | rfl <;> simp
theorem sep_at {w i : Nat} {y : List UInt8} (h : Lex.seps[(i + w) % 4]? = some y) : Lex.sep w i = y := by
 unfold Lex.sep; rw [List.getD_eq_getElem?_getD, h]; rfl
theorem same_c (h13 : T.get 13 c.funs = some i13) (h32 : T.get 32 c.funs = some i32) (h57 : T.get 57 c.funs = some i57) (h45 : T.get 45 c.funs = some i45) (h33 : T.get 33 c.funs = some i33) (h19 : T.get 19 c.funs = some i19) {fs : List Fact} {h : Heap} {m m' : Md} {row row' : List V} (hrow : row.length = 5) (hrow' : row'.length = 5) (st : St (.stb (fun h => MdR h m row) :: .stb (fun h => MdR h m' row') :: fs) h) (he : MdEq false m m') (hf : MdFew m) :
  RunP c 13 [.agg row, .agg row'] h fun v h1 => v = .bool true ∧ St fs h1 := by
 refine RunP.fun_ h13 rfl (WP.seq (WP.reg (WO.boxFS st (L.box (l := row) rfl (by rw [lenV_eq]; exact hrow)) (fun b1 h st => ?_))))
 refine WO.boxFS st (L.box (l := row') rfl (by rw [lenV_eq]; exact hrow')) (fun b2 h st => ?_)
 refine WO.valS (v := .bool false) rfl (WO.nil (WP.seq (WP.reg (WO.val (v := .agg row) (L.loadnB rfl (st.box_at 1 rfl) rfl (by rw [lenV_eq, hrow]; rfl) (takeV_all hrow)) (WO.val (v := .agg row') (L.loadnB rfl (st.box_at 0 rfl) rfl (by rw [lenV_eq, hrow']; rfl) (takeV_all hrow')) (WO.callFS rfl (cmpmd_f h32 h57 h45 h33 h19 ((st.pick 3 rfl).pick 3 rfl) he hf) ?_))))))
 rintro _ h ⟨rfl, st⟩
 refine WO.nil (WP.ret ?_)
 exact ⟨_, (res_cons (res_tmp (v := .bool true) rfl) (res_nil _ _)), rfl, st.tail.tail⟩
end
end Go.Eng.YtjobofnpmmjeoaaDoor
namespace Go.Eng.YtjobofnpmmjeoaaDoor
open Go.Eng
noncomputable section
variable {c : Ctx}
theorem blanks_c (D : HasF c) (h3 : T.get 3 c.funs = some i3) (h9 : T.get 9 c.funs = some i9) (h13 : T.get 13 c.funs = some i13) (h32 : T.get 32 c.funs = some i32) (h57 : T.get 57 c.funs = some i57) (h45 : T.get 45 c.funs = some i45) (h33 : T.get 33 c.funs = some i33) (h19 : T.get 19 c.funs = some i19) (DD : HasD c) {s : List UInt8} {w : Nat} (hw : w < 256) {fs : List Fact} {h : Heap} (st : St fs h) :
  RunP c 3 [L.str s, .int .u8 (w : Int)] h fun v h1 => v = .bool true ∧ St fs h1 := by
 refine RunP.fun_ h3 rfl (WP.seq (WP.reg (WO.valS (v := .bool false) rfl (WO.nil (WP.seq (WP.seq (WP.reg (WO.val (v := .int .i64 (s.length : Int)) (L.slen rfl) (WO.ifS (L.gtr rfl rfl) (fun c1 => ?_) (fun c1 => ?_))))))))))
 ·replace c1 : s.length > 1000 := by omega
  refine WO.nil (WP.cond (t := true) rfl (WP.seq (WP.reg (WO.callFS rfl (awake_c D h9 DD st) ?_))))
  rintro _ h ⟨rfl, st⟩
  refine WO.nil (WP.ret ?_)
  exact ⟨_, (res_cons (res_tmp (v := .bool true) rfl) (res_nil _ _)), rfl, st⟩
 ·replace c1 : ¬ (s.length > 1000) := by omega
  refine WO.nil (WP.cond (t := false) rfl (WP.skip (WP.seq (WP.reg ?_))))
  obtain ⟨e, a, hea⟩ : ∃ e a, eCode (Par.text s) = (e, a) := ⟨_, _, rfl⟩
  refine WO.callF rfl (modM_c D DD st hea) ?_
  rintro _ h ⟨row1, rfl, hrow1, st⟩
  refine WO.val (v := .agg row1) rfl (WO.val (v := .int .i64 (e : Int)) rfl (WO.val (v := .int .i64 (a : Int)) rfl (WO.boxFS st L.alloc (fun m1 h st => ?_))))
  refine WO.storeF (row' := row1) st 0 rfl rfl rfl (by rw [lenV_eq]; exact hrow1) rfl rfl (overV_all hrow1) (fun h st => ?_)
  refine WO.valS (v := .int .i64 (e : Int)) rfl (WO.nil (WP.seq (WP.reg ?_)))
  have hc := lex_c (s := s) D DD st
  cases hsp : Lex.lex s with
  | error x =>
   obtain ⟨e1, a1⟩ := x
   rw [hsp] at hc
   refine WO.callF rfl hc ?_
   rintro _ h ⟨rfl, st⟩
   refine WO.val (v := .slN) rfl (WO.val (v := .int .i64 (e1 : Int)) rfl (WO.val (v := .int .i64 (a1 : Int)) rfl (WO.valS (v := .slN) rfl (WO.valS (v := .int .i64 (e1 : Int)) rfl (WO.nil (WP.seq (WP.seq (WP.reg (WO.callF rfl (num_c (e := e1) D st) ?_)))))))))
   rintro _ h ⟨rfl, st⟩
   have he0 := lex_err hsp
   have hef := text_lexerr hsp hea
   refine WO.ifS (L.neq rfl rfl) (fun c_ => ?_) (fun c_ => by exfalso; omega)
   refine WO.nil (WP.cond (t := true) rfl (WP.seq (WP.reg (WO.callF rfl (num_c (e := e) D st) ?_))))
   rintro _ h ⟨rfl, st⟩
   refine WO.callF rfl (num_c (e := e1) D st) ?_
   rintro _ h ⟨rfl, st⟩
   refine WO.ifV (L.eql rfl rfl) (fun c2 => ?_) (fun c2 => by exfalso; omega)
   refine WO.yes rfl (WO.callF rfl (awake_c D h9 DD st) ?_)
   rintro _ h ⟨rfl, st⟩
   refine WO.valS (v := .bool true) rfl (WO.nil (WP.ret ?_))
   exact ⟨_, (res_cons (res_tmp (v := .bool true) rfl) (res_nil _ _)), rfl, st.tail.tail⟩
  | ok x =>
   rw [hsp] at hc
   refine WO.callF rfl hc ?_
   rintro _ h ⟨y, rfl, st⟩
   obtain ⟨p, rfl, rfl⟩ := toks_sl st (lex_ok hsp ⟨0, 0, 0, none, x⟩ rfl).2
   obtain ⟨hlfp, hnep⟩ := lex_ok hsp p rfl
   refine WO.val (v := .sl p.tb p.to p.ts.length p.cap) rfl (WO.val (v := .int .i64 0) rfl (WO.val (v := .int .i64 0) rfl (WO.valS (v := .sl p.tb p.to p.ts.length p.cap) rfl (WO.valS (v := .int .i64 0) rfl (WO.nil (WP.seq (WP.seq (WP.reg (WO.callF rfl (num_c (e := 0) D st) ?_)))))))))
   rintro _ h ⟨rfl, st⟩
   refine WO.ifS (L.neq rfl rfl) (fun c_ => by exfalso; omega) (fun c_ => ?_)
   refine WO.nil (WP.cond (t := false) rfl (WP.skip (WP.seq (WP.reg (WO.valS (v := L.str (Lex.bt w 0 (p.ts.take 0))) rfl (WO.nil (WP.seq (WP.seq (WP.reg (WO.valS (v := .int .i64 0) rfl (WO.nil (WP.block ?_))))))))))))
   have hsm := hlfp.small
   refine WP.loopG (α := Nat) (fun i env h => ∃ x10, (i ≤ p.ts.length) ∧ env = argsP [L.str s, .int .u8 (w : Int), .bool false, .bool false, .int .i64 0, .bool false, .int .i64 (e : Int), .sl p.tb p.to p.ts.length p.cap, .int .i64 (i : Int), L.str (Lex.bt w 0 (p.ts.take i)), x10, .bot, .bot, .ptr m1 0] 0 Env.nil ∧ St (p.toks :: .box m1 row1 :: .stb (fun h => MdR h (mdOf (Par.text s)) row1) :: fs) h) (fun i => p.ts.length - i) 0 ?_ ?_
   ·exact ⟨.bot, (Nat.zero_le _), by kernel_rfl, st⟩
   rintro i _ h ⟨x10, hi, rfl, st⟩
   refine WP.seq (WP.seq (WP.reg (WO.val (v := .int .i64 (p.ts.length : Int)) (L.llen rfl) (WO.ifV (L.lss rfl rfl) (fun c3 => ?_) (fun c3 => ?_)))))
   ·replace c3 : i < p.ts.length := by omega
    refine WO.yes rfl (WO.val (v := L.str (Lex.bt w 0 (p.ts.take i))) rfl (WO.yes rfl (WO.val (v := .int .i64 ((Lex.bt w 0 (p.ts.take i)).length : Int)) (L.slen rfl) (WO.yes rfl (WO.ifV (L.lss rfl rfl) (fun c4 => ?_) (fun c4 => ?_))))))
    ·replace c4 : ((Lex.bt w 0 (p.ts.take i)).length) < 8000 := by omega
     refine WO.valS (v := .bool true) rfl (WO.nil (WP.cond (t := true) rfl (WP.skip (WP.seq (WP.block (WP.draw (WD.val (v := L.str (Lex.bt w 0 (p.ts.take i))) rfl (WD.bslF (rows := Lex.seps.map useRow) st rfl (by decide) rfl (by intro row hm; simp at hm; obtain ⟨a, _, rfl⟩ := hm; rfl) (fun sp h _ st => ?_)))))))))
     refine WD.val (v := .int .i64 (i : Int)) rfl (WD.val (v := .int .u8 (w : Int)) rfl (WD.val (v := .int .i64 (w : Int)) (L.conv64 rfl (And.intro (by omega) (by omega))) (WD.val (v := .int .i64 ((i + w : Nat) : Int)) (L.addE rfl rfl (by omega) (And.intro (by omega) (by omega))) (WD.val (v := .int .i64 (((i + w) % 4 : Nat) : Int)) (L.rem (b := 4) rfl rfl rfl (by decide)) ?_))))
     obtain ⟨y, hy⟩ : ∃ y, Lex.seps[(i + w) % 4]? = some y := ⟨_, List.getElem?_eq_getElem (Nat.mod_lt _ (by decide))⟩
     have hsy := sep_at hy
     have hyl := sep_len w i
     rw [hsy] at hyl
     obtain ⟨x, hx⟩ : ∃ x, p.ts[i]? = some x := ⟨_, List.getElem?_eq_getElem (by omega)⟩
     have hxl := tok_len hsp hx
     refine WD.val (v := .ptr sp (0 + (i + w) % 4 * 1)) (L.iaddr (i := (i + w) % 4) rfl rfl (Nat.mod_lt _ (by decide))) (WD.val (v := L.str y) (L.load rfl ((st.stb_at 0 rfl).load1 (by rw [List.getElem?_map, hy]; rfl))) ?_)
     refine WD.val (v := L.str (Lex.bt w 0 (p.ts.take i) ++ y)) (L.scatE rfl rfl rfl (by omega)) (WD.val (v := .sl p.tb p.to p.ts.length p.cap) rfl (WD.val (v := .int .i64 (i : Int)) rfl (WD.val (v := .ptr p.tb (p.to + i * 3)) (L.iaddr (i := i) rfl rfl (by omega)) (WD.val (v := .ptr p.tb (p.to + i * 3 + 1)) (L.faddr rfl) (WD.val (v := L.str x.text) (L.load rfl ((st.stb_at 1 rfl).load1F (i := i) (j := 1) (row := x.row) (by rw [List.getElem?_map, hx]; rfl) rfl)) ?_)))))
     refine WD.val (v := L.str (Lex.bt w 0 (p.ts.take (i + 1)))) (L.scatE rfl rfl (by rw [List.take_add_one, hx]; show _ = Lex.bt w 0 (p.ts.take i ++ [x]); rw [Lex.bt_snoc, List.length_take, Nat.min_eq_left (by omega), Nat.zero_add, hsy]) (by simp; omega)) (WD.valS (v := L.str (Lex.bt w 0 (p.ts.take (i + 1)))) rfl (WD.nil (WP.reg (WO.valS (v := .int .i64 ((i + 1 : Nat) : Int)) (L.addE rfl rfl (by omega) (And.intro (by omega) (by omega))) (WO.nil ?_)))))
     exact ⟨i + 1, (by omega), (.bool true), by omega, by kernel_rfl, st.tail⟩
    ·replace c4 : ¬ (((Lex.bt w 0 (p.ts.take i)).length) < 8000) := by omega
     refine WO.valS (v := .bool false) rfl (WO.nil (WP.cond (t := false) rfl (WP.exit (WP.seq (WP.seq (WP.reg (WO.val (v := .int .i64 ((Lex.bt w 0 (p.ts.take i)).length : Int)) (L.slen rfl) (WO.ifS (L.geq rfl rfl) (fun c5 => ?_) (fun c5 => ?_)))))))))
     ·replace c5 : ((Lex.bt w 0 (p.ts.take i)).length) ≥ 8000 := by omega
      refine WO.nil (WP.cond (t := true) rfl (WP.seq (WP.reg (WO.callFS rfl (awake_c D h9 DD st) ?_))))
      rintro _ h ⟨rfl, st⟩
      refine WO.nil (WP.ret ?_)
      exact ⟨_, (res_cons (res_tmp (v := .bool true) rfl) (res_nil _ _)), rfl, st.tail.tail.tail⟩
     ·replace c5 : ¬ (((Lex.bt w 0 (p.ts.take i)).length) ≥ 8000) := by omega
      refine WO.nil (WP.cond (t := false) rfl (WP.skip (WP.seq (WP.reg ?_))))
      obtain ⟨e2, a2, hea2⟩ : ∃ e a, eCode (Par.text (Lex.bt w 0 (p.ts.take i))) = (e, a) := ⟨_, _, rfl⟩
      refine WO.callF rfl (modM_c D DD st hea2) ?_
      rintro _ h ⟨row2, rfl, hrow2, st⟩
      refine WO.val (v := .agg row2) rfl (WO.val (v := .int .i64 (e2 : Int)) rfl (WO.val (v := .int .i64 (a2 : Int)) rfl (WO.boxFS st L.alloc (fun m2 h st => ?_))))
      refine WO.storeF (row' := row2) st 0 rfl rfl rfl (by rw [lenV_eq]; exact hrow2) rfl rfl (overV_all hrow2) (fun h st => ?_)
      refine WO.valS (v := .int .i64 (e2 : Int)) rfl (WO.nil (WP.seq (WP.reg (WO.callF rfl (num_c (e := e) D st) ?_))))
      rintro _ h ⟨rfl, st⟩
      refine WO.callF rfl (num_c (e := e2) D st) ?_
      rintro _ h ⟨rfl, st⟩
      have hfull : p.ts.take i = p.ts := List.take_of_length_le (by omega)
      rw [hfull] at hea2
      obtain ⟨hee, hme, hmf⟩ := blanks_same (w := w) hsp hsm (by rw [hfull] at c5; omega) hea hea2
      refine WO.ifV (L.eql rfl rfl) (fun c_ => ?_) (fun c_ => by exfalso; omega)
      refine WO.yes rfl (WO.val (v := .agg row1) (L.loadnB rfl (st.box_at 3 rfl) rfl (by rw [lenV_eq, hrow1]; rfl) (takeV_all hrow1)) (WO.yes rfl (WO.val (v := .agg row2) (L.loadnB rfl (st.box_at 0 rfl) rfl (by rw [lenV_eq, hrow2]; rfl) (takeV_all hrow2)) (WO.yes rfl ?_))))
      have st2 := ((st.pick 1 rfl).pick 4 rfl)
      rw [hfull] at st2
      refine WO.callF rfl (same_c h13 h32 h57 h45 h33 h19 hrow1 hrow2 (st2 : St (.stb (fun h => MdR h (mdOf (Par.text s)) row1) :: .stb (fun h => MdR h (mdOf (Par.text (Lex.bt w 0 p.ts))) row2) :: .box m2 row2 :: p.toks :: .box m1 row1 :: fs) _) hme hmf) ?_
      clear st2
      rintro _ h ⟨rfl, st⟩
      refine WO.val (v := .bool true) rfl (WO.yes rfl (WO.callF rfl (awake_c D h9 DD st) ?_))
      rintro _ h ⟨rfl, st⟩
      refine WO.valS (v := .bool true) rfl (WO.nil (WP.ret ?_))
      exact ⟨_, (res_cons (res_tmp (v := .bool true) rfl) (res_nil _ _)), rfl, st.tail.tail.tail⟩
   ·replace c3 : ¬ (i < p.ts.length) := by omega
    refine WO.no rfl (WO.no rfl (WO.no rfl (WO.valS (v := .bool false) rfl (WO.nil (WP.cond (t := false) rfl (WP.exit (WP.seq (WP.seq (WP.reg (WO.val (v := .int .i64 ((Lex.bt w 0 (p.ts.take i)).length : Int)) (L.slen rfl) (WO.ifS (L.geq rfl rfl) (fun c6 => ?_) (fun c6 => ?_))))))))))))
    ·replace c6 : ((Lex.bt w 0 (p.ts.take i)).length) ≥ 8000 := by omega
     refine WO.nil (WP.cond (t := true) rfl (WP.seq (WP.reg (WO.callFS rfl (awake_c D h9 DD st) ?_))))
     rintro _ h ⟨rfl, st⟩
     refine WO.nil (WP.ret ?_)
     exact ⟨_, (res_cons (res_tmp (v := .bool true) rfl) (res_nil _ _)), rfl, st.tail.tail.tail⟩
    ·replace c6 : ¬ (((Lex.bt w 0 (p.ts.take i)).length) ≥ 8000) := by omega
     refine WO.nil (WP.cond (t := false) rfl (WP.skip (WP.seq (WP.reg ?_))))
     obtain ⟨e2, a2, hea2⟩ : ∃ e a, eCode (Par.text (Lex.bt w 0 (p.ts.take i))) = (e, a) := ⟨_, _, rfl⟩
     refine WO.callF rfl (modM_c D DD st hea2) ?_
     rintro _ h ⟨row2, rfl, hrow2, st⟩
     refine WO.val (v := .agg row2) rfl (WO.val (v := .int .i64 (e2 : Int)) rfl (WO.val (v := .int .i64 (a2 : Int)) rfl (WO.boxFS st L.alloc (fun m2 h st => ?_))))
     refine WO.storeF (row' := row2) st 0 rfl rfl rfl (by rw [lenV_eq]; exact hrow2) rfl rfl (overV_all hrow2) (fun h st => ?_)
     refine WO.valS (v := .int .i64 (e2 : Int)) rfl (WO.nil (WP.seq (WP.reg (WO.callF rfl (num_c (e := e) D st) ?_))))
     rintro _ h ⟨rfl, st⟩
     refine WO.callF rfl (num_c (e := e2) D st) ?_
     rintro _ h ⟨rfl, st⟩
     have hfull : p.ts.take i = p.ts := List.take_of_length_le (by omega)
     rw [hfull] at hea2
     obtain ⟨hee, hme, hmf⟩ := blanks_same (w := w) hsp hsm (by rw [hfull] at c6; omega) hea hea2
     refine WO.ifV (L.eql rfl rfl) (fun c_ => ?_) (fun c_ => by exfalso; omega)
     refine WO.yes rfl (WO.val (v := .agg row1) (L.loadnB rfl (st.box_at 3 rfl) rfl (by rw [lenV_eq, hrow1]; rfl) (takeV_all hrow1)) (WO.yes rfl (WO.val (v := .agg row2) (L.loadnB rfl (st.box_at 0 rfl) rfl (by rw [lenV_eq, hrow2]; rfl) (takeV_all hrow2)) (WO.yes rfl ?_))))
     have st2 := ((st.pick 1 rfl).pick 4 rfl)
     rw [hfull] at st2
     refine WO.callF rfl (same_c h13 h32 h57 h45 h33 h19 hrow1 hrow2 (st2 : St (.stb (fun h => MdR h (mdOf (Par.text s)) row1) :: .stb (fun h => MdR h (mdOf (Par.text (Lex.bt w 0 p.ts))) row2) :: .box m2 row2 :: p.toks :: .box m1 row1 :: fs) _) hme hmf) ?_
     clear st2
     rintro _ h ⟨rfl, st⟩
     refine WO.val (v := .bool true) rfl (WO.yes rfl (WO.callF rfl (awake_c D h9 DD st) ?_))
     rintro _ h ⟨rfl, st⟩
     refine WO.valS (v := .bool true) rfl (WO.nil (WP.ret ?_))
     exact ⟨_, (res_cons (res_tmp (v := .bool true) rfl) (res_nil _ _)), rfl, st.tail.tail.tail⟩
end
end Go.Eng.YtjobofnpmmjeoaaDoor
/- The contracts stand in the program's context. No condition. -/
namespace Go.Eng.YtjobofnpmmjeoaaDoor
open Go.Eng
noncomputable section
def ctxS : Ctx := Ctx.of funs dfuns (moreIdx 56)
theorem hasF : HasF ctxS := by constructor <;> rfl
theorem hasD : HasD ctxS := ⟨⟨_, rfl⟩, fun st => idx_runs (f0 := 56) rfl rfl rfl st⟩
end
end Go.Eng.YtjobofnpmmjeoaaDoor
