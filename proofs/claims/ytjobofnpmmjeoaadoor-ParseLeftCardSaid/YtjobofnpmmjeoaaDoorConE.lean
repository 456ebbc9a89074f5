/- Part of a proof of a law, by an evaluator that the machine follows: rules, contracts of functions, what they come to. No condition of its own. -/
import Derived.Test.YtjobofnpmmjeoaaDoorConD
import Derived.Test.YtjobofnpmmjeoaaDoorSpec
set_option linter.unusedVariables false
set_option linter.unusedSimpArgs false
namespace Go.Eng.YtjobofnpmmjeoaaDoor
open Go.Eng
noncomputable section
variable {c : Ctx}
theorem sign_c (D : HasF c) (DD : HasD c) {fs : List Fact} {h : Heap} {l : List UInt8} (st : St fs h) :
  RunP c 31 [L.str l] h fun v h1 => v = L.str (Lex.sign l) ∧ St fs h1 := by
 refine RunP.fun_ D.f31 rfl (WP.seq (WP.reg (WO.valS (v := .str 0 0) rfl (WO.nil (WP.seq (WP.seq (WP.reg (WO.bslFS (rows := Lex.twos.map useRow) st rfl (by decide) rfl (by intro row hm; simp at hm; obtain ⟨a, _, rfl⟩ := hm; rfl) (fun kb h st => ?_)))))))))
 refine WO.valS (v := .int .i64 3) (L.llen rfl) (WO.valS (v := .int .i64 0) rfl (WO.nil (WP.block (WP.loopG (α := Nat) (fun k env h => ∃ x1 x4 x6 x7, (k ≤ 3 ∧ ∀ j y, Lex.twos[j]? = some y → j < k → Lex.isPre y l = false) ∧ env = argsP [L.str l, x1, .int .i64 (k : Int), .int .i64 3, x4, .sl kb 0 3 (some 3), x6, x7] 0 Env.nil ∧ St (.stb (fun h => Rows 1 h (.sl kb 0 3 (some 3)) (Lex.twos.map useRow)) :: fs) h) (fun k => 3 - k) 0 ?_ ?_))))
 ·exact ⟨(.str 0 0), .bot, .bot, .bot, ⟨Nat.zero_le _, fun _ _ _ h => absurd h (Nat.not_lt_zero _)⟩, by kernel_rfl, st⟩
 rintro k _ h ⟨x1, x4, x6, x7, ⟨hk, hno⟩, rfl, st⟩
 refine WP.seq (WP.reg (WO.ifS (L.lss rfl rfl) (fun c1 => ?_) (fun c1 => ?_)))
 ·replace c1 : k < 3 := by omega
  refine WO.nil (WP.seq (WP.cond (t := true) rfl (WP.skip (WP.seq (WP.block (WP.seq (WP.reg ?_)))))))
  obtain ⟨y, ho⟩ : ∃ y, Lex.twos[k]? = some y := ⟨_, List.getElem?_eq_getElem c1⟩
  refine WO.val (L.iaddr rfl rfl c1) (WO.valS (v := L.str y) (L.load rfl ((st.stb_at 0 rfl).load1 (by rw [List.getElem?_map, ho]; rfl))) ?_)
  refine WO.nil (WP.seq (WP.reg (WO.callFS rfl (hasprefix_c D st ) ?_)))
  rintro _ h ⟨rfl, st⟩
  cases hb1 : Lex.isPre y l
  ·refine WO.nil (WP.cond (t := false) rfl (WP.skip (WP.reg (WO.valS (v := .int .i64 ((k + 1 : Nat) : Int)) (L.addE rfl rfl (by omega) (And.intro (by omega) (by omega))) (WO.nil ?_)))))
   have hno' : ∀ j y, Lex.twos[j]? = some y → j < k + 1 → Lex.isPre y l = false := by
    intro j y hj hlt
    rcases Nat.lt_succ_iff_lt_or_eq.1 hlt with hlt | rfl
    ·exact hno j y hj hlt
    ·rw [ho] at hj; cases hj; exact hb1
   exact ⟨k + 1, (by omega), x1, (.bool true), (L.str y), (.bool false), ⟨by omega, hno'⟩, by kernel_rfl, st⟩
  ·refine WO.nil (WP.cond (t := true) rfl (WP.seq (WP.reg (WO.valS (v := L.str y) rfl (WO.nil (WP.ret ?_))))))
   exact ⟨_, (res_cons (res_tmp (v := L.str y) rfl) (res_nil _ _)), (by rw [show Lex.sign l = y by unfold Lex.sign; rw [lfind_some ho hno hb1]]; rfl), st.tail⟩
 ·replace c1 : ¬ (k < 3) := by omega
  refine WO.nil (WP.seq (WP.cond (t := false) rfl (WP.exit (WP.seq (WP.seq (WP.reg (WO.ifV (L.sne (m := []) rfl rfl) (fun c2 => ?_) (fun c2 => ?_))))))))
  ·refine WO.yes rfl (WO.val (v := L.str l) rfl (WO.yes rfl ?_))
   obtain ⟨b, lr, hlb⟩ : ∃ b lr, l = b :: lr := List.exists_cons_of_ne_nil c2
   refine WO.val (v := .int .u8 (b.toNat : Int)) (L.sidx (b := b) rfl rfl (by rw [hlb]; rfl)) (WO.yes rfl (WO.callF rfl (indexbyte_c (l := Lex.ones) D DD st) ?_))
   rintro _ h ⟨rfl, st⟩
   refine WO.yes rfl (WO.ifV (L.geq rfl rfl) (fun c3 => ?_) (fun c3 => ?_))
   ·refine WO.valS (v := .bool true) rfl (WO.nil (WP.cond (t := true) rfl (WP.seq (WP.reg (WO.valS (v := L.str ((l.drop 0).take (1 - 0))) (L.ssub rfl rfl rfl (by omega) (by rw [hlb]; simp)) (WO.nil (WP.ret ?_)))))))
    have hf : Lex.twos.find? (Lex.isPre · l) = none := lfind_none fun j y hj hlt => hno j y hj (by have : j < 3 := hlt; omega)
    have hsg : Lex.sign l = (if 0 ≤ Lib.indexByte Lex.ones b then [b] else []) := by unfold Lex.sign; rw [hf, hlb]
    rw [hsg]
    rw [if_pos (by omega)]
    exact ⟨_, (res_cons (res_tmp (v := L.str ((l.drop 0).take (1 - 0))) rfl) (res_nil _ _)), (by rw [hlb]; rfl), st.tail⟩
   ·refine WO.valS (v := .bool false) rfl (WO.nil (WP.cond (t := false) rfl (WP.skip (WP.seq (WP.reg (WO.valS (v := .str 0 0) rfl (WO.nil (WP.ret ?_))))))))
    have hf : Lex.twos.find? (Lex.isPre · l) = none := lfind_none fun j y hj hlt => hno j y hj (by have : j < 3 := hlt; omega)
    have hsg : Lex.sign l = (if 0 ≤ Lib.indexByte Lex.ones b then [b] else []) := by unfold Lex.sign; rw [hf, hlb]
    rw [hsg]
    rw [if_neg (by omega)]
    exact ⟨_, (res_cons (res_tmp (v := .str 0 0) rfl) (res_nil _ _)), rfl, st.tail⟩
  ·refine WO.no rfl (WO.no rfl (WO.no rfl (WO.no rfl (WO.valS (v := .bool false) rfl (WO.nil (WP.cond (t := false) rfl (WP.skip (WP.seq (WP.reg (WO.valS (v := .str 0 0) rfl (WO.nil (WP.ret ?_))))))))))))
   have hf : Lex.twos.find? (Lex.isPre · l) = none := lfind_none fun j y hj hlt => hno j y hj (by have : j < 3 := hlt; omega)
   have hl0 : l = [] := by simpa using c2
   have hsg : Lex.sign l = [] := by unfold Lex.sign; rw [hf, hl0]
   rw [hsg]
   exact ⟨_, (res_cons (res_tmp (v := .str 0 0) rfl) (res_nil _ _)), rfl, st.tail⟩
theorem lex_twlen {f : UInt8 → Bool} (l : List UInt8) : (l.takeWhile f).length ≤ l.length := by
 induction l with
 | nil => simp
 | cons a l ih => rw [List.takeWhile_cons]; split <;> simp <;> omega
theorem lex_cons {g k : Nat} {s : List UInt8} {ts : List Tok} {b : UInt8} (hb : s[k]? = some b) :
  Lex.all (g + 1) k (s.drop k) ts =
  if Lex.blank b then Lex.all g (k + 1) (s.drop (k + 1)) ts else
  if b.toNat = 35 then Lex.all g (k + ((s.drop k).takeWhile Lex.notNl).length) (s.drop (k + ((s.drop k).takeWhile Lex.notNl).length)) ts else
  if Lex.small b then Lex.put (Lex.word ((s.drop k).takeWhile Lex.within)) ((s.drop k).takeWhile Lex.within) k ts (Lex.all g (k + ((s.drop k).takeWhile Lex.within).length) (s.drop (k + ((s.drop k).takeWhile Lex.within).length))) else
  if Lex.digit b then Lex.put (Lex.number ((s.drop k).takeWhile Lex.digit) (s.drop (k + ((s.drop k).takeWhile Lex.digit).length))) ((s.drop k).takeWhile Lex.digit) k ts (Lex.all g (k + ((s.drop k).takeWhile Lex.digit).length) (s.drop (k + ((s.drop k).takeWhile Lex.digit).length))) else
  Lex.put (if Lex.sign (s.drop k) = [] then (4, 10) else (4, 0)) (Lex.sign (s.drop k)) k ts (Lex.all g (k + (Lex.sign (s.drop k)).length) (s.drop (k + (Lex.sign (s.drop k)).length))) := by
 obtain ⟨hlt, rfl⟩ := List.getElem?_eq_some_iff.1 hb
 have hd := List.drop_eq_getElem_cons hlt
 rw [hd]; simp only [Lex.all]; rw [← hd]; simp only [List.drop_drop]
theorem lex_tw {f : UInt8 → Bool} {s : List UInt8} {k : Nat} {b : UInt8} (hb : s[k]? = some b) (hf : f b = true) : 0 < ((s.drop k).takeWhile f).length ∧ k + ((s.drop k).takeWhile f).length ≤ s.length ∧ ((s.drop k).takeWhile f).head? = some b := by
 have h1 := lex_twlen (f := f) (s.drop k)
 have h2 := (List.getElem?_eq_some_iff.1 hb).1
 rw [List.length_drop] at h1
 refine ⟨?_, by omega, ?_⟩ <;> rw [takeWhile_drop hb hf] <;> simp
theorem lex_sign_len (l : List UInt8) : (Lex.sign l).length ≤ l.length := by
 unfold Lex.sign
 cases e : Lex.twos.find? (Lex.isPre · l) with
 | some t =>
  have := List.find?_some e
  simp [Lex.isPre] at this; exact this.1
 | none =>
  cases l with
  | nil => simp
  | cons c r => simp only; split <;> simp
theorem all_c (D : HasF c) (DD : HasD c) {fs : List Fact} {h : Heap} {s : List UInt8} (st : St fs h) (hsz : s.length < 4294967296) :
  RunP c 18 [L.str s] h fun v h1 => match Lex.all (s.length + 1) 0 s [] with
   | .ok ts => ∃ x, v = .tup [x, .int .i64 0, .int .i64 0] ∧ St (.stb (fun h => Rows 3 h x (ts.map Tok.row)) :: fs) h1
   | .error (e, a) => v = .tup [.slN, .int .i64 (e : Int), .int .i64 (a : Int)] ∧ St fs h1 := by
 refine RunP.fun_ D.f18 rfl (WP.seq (WP.reg (WO.boxFS st (L.box (l := [L.str s]) rfl rfl) (fun sb h st => ?_))))
 refine WO.valS (v := .slN) rfl (WO.valS (v := .int .i64 0) rfl (WO.valS (v := .int .i64 0) rfl (WO.nil (WP.seq (WP.reg (WO.boxFS st L.alloc (fun ab h st => ?_)))))))
 refine WO.storeF (row' := [.int .i64 0]) st 0 rfl rfl rfl rfl rfl rfl rfl (fun h st => ?_)
 refine WO.nil (WP.seq (WP.reg (WO.valS (v := .fn 24 [] [.ptr ab 0, .ptr sb 0]) rfl (WO.nil (WP.seq (WP.reg (WO.valS (v := .slN) rfl (WO.nil (WP.seq (WP.block ?_))))))))))
 replace st : St (.acc 0 3 .slN (([] : List Tok).map Tok.row) :: .box ab [.int .i64 0] :: .box sb [L.str s] :: fs) h := st.acc0 3
 refine WP.loopG (α := Nat) (fun g env h => ∃ k ts fy vy x1 x2 x3 x6 x7 x8 x9 x11 x12 x13 x14 x15 x16 x17 x18, (Lex.all (s.length + 1) 0 s [] = Lex.all g k (s.drop k) ts ∧ s.length - k < g ∧ k ≤ s.length ∧ ts.length ≤ k) ∧ env = argsP [L.str s, x1, x2, x3, .ptr ab 0, .ptr sb 0, x6, x7, x8, x9, .fn 24 [] [.ptr ab 0, .ptr sb 0], x11, x12, x13, x14, x15, x16, x17, x18, vy] 0 Env.nil ∧ St (.acc fy 3 vy (ts.map Tok.row) :: .box ab [.int .i64 (k : Int)] :: .box sb [L.str s] :: fs) h) (fun g => g) (s.length + 1) ?_ ?_
 ·exact ⟨0, [], 0, .slN, .slN, (.int .i64 0), (.int .i64 0), .bot, .bot, .bot, .bot, .bot, .bot, .bot, .bot, .bot, .bot, .bot, .bot, ⟨rfl, by omega, Nat.zero_le _, Nat.le_refl _⟩, by kernel_rfl, st⟩
 rintro g _ h ⟨k, ts, fy, vy, x1, x2, x3, x6, x7, x8, x9, x11, x12, x13, x14, x15, x16, x17, x18, ⟨hs, hg, hk, hts⟩, rfl, st⟩
 obtain ⟨g, rfl⟩ : ∃ m, g = m + 1 := ⟨g - 1, by omega⟩
 refine WP.seq (WP.seq (WP.reg (WO.val (v := .int .i64 (k : Int)) (L.loadB rfl (st.box_at 1 rfl) rfl) (WO.val (v := L.str s) (L.loadB rfl (st.box_at 2 rfl) rfl) (WO.val (v := .int .i64 (s.length : Int)) (L.slen rfl) (WO.ifS (L.lss rfl rfl) (fun c1 => ?_) (fun c1 => ?_)))))))
 ·replace c1 : k < s.length := by omega
  refine WO.nil (WP.cond (t := true) rfl (WP.skip (WP.block (WP.seq (WP.draw (WD.val (v := .int .i64 (k : Int)) (L.loadB rfl (st.box_at 1 rfl) rfl) (WD.val (v := L.str s) (L.loadB rfl (st.box_at 2 rfl) rfl) (WD.val (v := .int .i64 (k : Int)) (L.loadB rfl (st.box_at 1 rfl) rfl) ?_))))))))
  obtain ⟨b, hb⟩ : ∃ b, s[k]? = some b := ⟨_, List.getElem?_eq_getElem (by omega)⟩
  refine WD.val (v := .int .u8 (b.toNat : Int)) (L.sidx rfl rfl hb) (WD.valS (v := .int .i64 (k : Int)) rfl (WD.valS (v := .int .u8 (b.toNat : Int)) rfl (WD.nil (WP.seq (WP.reg (WO.valS (v := .int .i64 0) rfl (WO.valS (v := .str 0 0) rfl (WO.valS (v := .int .i64 0) rfl (WO.nil (WP.seq (WP.block (WP.seq (WP.reg (WO.ifV (L.eql rfl rfl) (fun c2 => ?_) (fun c2 => ?_)))))))))))))))
  ·replace c2 : b.toNat = 32 := by omega
   refine WO.no rfl (WO.no rfl (WO.val (v := .bool true) rfl (WO.no rfl (WO.no rfl (WO.val (v := .bool true) rfl (WO.no rfl (WO.no rfl (WO.valS (v := .bool true) rfl (WO.nil (WP.cond (t := true) rfl (WP.seq (WP.reg (WO.val (v := .int .i64 (k : Int)) (L.loadB rfl (st.box_at 1 rfl) rfl) (WO.val (v := .int .i64 ((k + 1 : Nat) : Int)) (L.addE rfl rfl (by omega) (And.intro (by omega) (by omega))) (WO.storeF (row' := [.int .i64 ((k + 1 : Nat) : Int)]) st 1 rfl rfl rfl rfl rfl rfl rfl (fun h st => ?_))))))))))))))))
   refine WO.nil (WP.exit ?_)
   exact ⟨g, (Nat.lt_succ_self _), k + 1, ts, fy, vy, x1, x2, x3, (.bool true), (.int .u8 (b.toNat : Int)), (.bool true), x9, x11, (.str 0 0), x13, x14, (.int .i64 0), x16, (.int .i64 (k : Int)), (.int .i64 0), ⟨by rw [hs, lex_cons hb]; simp [Lex.blank, one, Lex.put, *], (by omega), (by omega), (by first | omega | (simp; omega))⟩, by kernel_rfl, st⟩
  ·replace c2 : ¬ (b.toNat = 32) := by omega
   refine WO.yes rfl (WO.val (v := .int .u8 (b.toNat : Int)) rfl (WO.yes rfl (WO.ifV (L.eql rfl rfl) (fun c3 => ?_) (fun c3 => ?_))))
   ·replace c3 : b.toNat = 9 := by omega
    refine WO.val (v := .bool true) rfl (WO.no rfl (WO.no rfl (WO.val (v := .bool true) rfl (WO.no rfl (WO.no rfl (WO.valS (v := .bool true) rfl (WO.nil (WP.cond (t := true) rfl (WP.seq (WP.reg (WO.val (v := .int .i64 (k : Int)) (L.loadB rfl (st.box_at 1 rfl) rfl) (WO.val (v := .int .i64 ((k + 1 : Nat) : Int)) (L.addE rfl rfl (by omega) (And.intro (by omega) (by omega))) (WO.storeF (row' := [.int .i64 ((k + 1 : Nat) : Int)]) st 1 rfl rfl rfl rfl rfl rfl rfl (fun h st => ?_))))))))))))))
    refine WO.nil (WP.exit ?_)
    exact ⟨g, (Nat.lt_succ_self _), k + 1, ts, fy, vy, x1, x2, x3, (.bool true), (.int .u8 (b.toNat : Int)), (.bool true), x9, x11, (.str 0 0), x13, x14, (.int .i64 0), x16, (.int .i64 (k : Int)), (.int .i64 0), ⟨by rw [hs, lex_cons hb]; simp [Lex.blank, one, Lex.put, *], (by omega), (by omega), (by first | omega | (simp; omega))⟩, by kernel_rfl, st⟩
   ·replace c3 : ¬ (b.toNat = 9) := by omega
    refine WO.val (v := .bool false) rfl (WO.yes rfl (WO.val (v := .int .u8 (b.toNat : Int)) rfl (WO.yes rfl (WO.ifV (L.eql rfl rfl) (fun c4 => ?_) (fun c4 => ?_)))))
    ·replace c4 : b.toNat = 10 := by omega
     refine WO.val (v := .bool true) rfl (WO.no rfl (WO.no rfl (WO.valS (v := .bool true) rfl (WO.nil (WP.cond (t := true) rfl (WP.seq (WP.reg (WO.val (v := .int .i64 (k : Int)) (L.loadB rfl (st.box_at 1 rfl) rfl) (WO.val (v := .int .i64 ((k + 1 : Nat) : Int)) (L.addE rfl rfl (by omega) (And.intro (by omega) (by omega))) (WO.storeF (row' := [.int .i64 ((k + 1 : Nat) : Int)]) st 1 rfl rfl rfl rfl rfl rfl rfl (fun h st => ?_)))))))))))
     refine WO.nil (WP.exit ?_)
     exact ⟨g, (Nat.lt_succ_self _), k + 1, ts, fy, vy, x1, x2, x3, (.bool true), (.int .u8 (b.toNat : Int)), (.bool true), x9, x11, (.str 0 0), x13, x14, (.int .i64 0), x16, (.int .i64 (k : Int)), (.int .i64 0), ⟨by rw [hs, lex_cons hb]; simp [Lex.blank, one, Lex.put, *], (by omega), (by omega), (by first | omega | (simp; omega))⟩, by kernel_rfl, st⟩
    ·replace c4 : ¬ (b.toNat = 10) := by omega
     refine WO.val (v := .bool false) rfl (WO.yes rfl (WO.val (v := .int .u8 (b.toNat : Int)) rfl (WO.yes rfl (WO.ifV (L.eql rfl rfl) (fun c5 => ?_) (fun c5 => ?_)))))
     ·replace c5 : b.toNat = 13 := by omega
      refine WO.valS (v := .bool true) rfl (WO.nil (WP.cond (t := true) rfl (WP.seq (WP.reg (WO.val (v := .int .i64 (k : Int)) (L.loadB rfl (st.box_at 1 rfl) rfl) (WO.val (v := .int .i64 ((k + 1 : Nat) : Int)) (L.addE rfl rfl (by omega) (And.intro (by omega) (by omega))) (WO.storeF (row' := [.int .i64 ((k + 1 : Nat) : Int)]) st 1 rfl rfl rfl rfl rfl rfl rfl (fun h st => ?_))))))))
      refine WO.nil (WP.exit ?_)
      exact ⟨g, (Nat.lt_succ_self _), k + 1, ts, fy, vy, x1, x2, x3, (.bool true), (.int .u8 (b.toNat : Int)), (.bool true), x9, x11, (.str 0 0), x13, x14, (.int .i64 0), x16, (.int .i64 (k : Int)), (.int .i64 0), ⟨by rw [hs, lex_cons hb]; simp [Lex.blank, one, Lex.put, *], (by omega), (by omega), (by first | omega | (simp; omega))⟩, by kernel_rfl, st⟩
     ·replace c5 : ¬ (b.toNat = 13) := by omega
      refine WO.valS (v := .bool false) rfl (WO.nil (WP.cond (t := false) rfl (WP.seq (WP.reg (WO.ifS (L.eql rfl rfl) (fun c6 => ?_) (fun c6 => ?_))))))
      ·replace c6 : b.toNat = 35 := by omega
       refine WO.nil (WP.cond (t := true) rfl (WP.seq (WP.reg ?_)))
       obtain ⟨hw1, hw2, hw3⟩ := lex_tw (f := Lex.notNl) hb (by simp [Lex.notNl, one, *])
       refine WO.callvF rfl rfl (run_c D (fun st => notnl_c D st) ((st.pick 2 rfl).pick 2 rfl) hk hsz) ?_
       rintro _ h ⟨rfl, st⟩
       refine WO.nil (WP.exit ?_)
       exact ⟨g, (Nat.lt_succ_self _), k + ((s.drop k).takeWhile Lex.notNl).length, ts, fy, vy, x1, x2, x3, (.bool true), (.int .u8 (b.toNat : Int)), (.bool false), (.bool true), x11, (.str 0 0), x13, x14, (.int .i64 0), x16, (.int .i64 (k : Int)), (.int .i64 0), ⟨by rw [hs, lex_cons hb]; simp [Lex.blank, one, Lex.put, *], (by omega), (by omega), (by first | omega | (simp; omega))⟩, by kernel_rfl, (st.pick 2 rfl)⟩
      ·replace c6 : ¬ (b.toNat = 35) := by omega
       refine WO.nil (WP.cond (t := false) rfl (WP.seq (WP.reg (WO.callFS rfl (small_c D st ) ?_))))
       rintro _ h ⟨rfl, st⟩
       cases hb1 : Lex.small b
       ·refine WO.nil (WP.cond (t := false) rfl (WP.seq (WP.reg (WO.callFS rfl (digit_c D st ) ?_))))
        rintro _ h ⟨rfl, st⟩
        cases hb2 : Lex.digit b
        ·refine WO.nil (WP.cond (t := false) rfl (WP.seq (WP.reg (WO.val (v := L.str s) (L.loadB rfl (st.box_at 2 rfl) rfl) (WO.val (v := .int .i64 (k : Int)) (L.loadB rfl (st.box_at 1 rfl) rfl) (WO.val (v := L.str ((s.drop (k)).take (s.length - (k)))) (L.ssub rfl rfl rfl (by omega) (by omega)) ?_))))))
         rw [List.take_of_length_le (by simp)]
         have hsl := lex_sign_len (s.drop k)
         rw [List.length_drop] at hsl
         refine WO.callF rfl (sign_c D DD st) ?_
         rintro _ h ⟨rfl, st⟩
         refine WO.valS (v := .int .i64 4) rfl (WO.valS (v := L.str (Lex.sign (s.drop k))) rfl (WO.nil (WP.seq (WP.reg (WO.val (v := .int .i64 (k : Int)) (L.loadB rfl (st.box_at 1 rfl) rfl) (WO.val (v := .int .i64 ((Lex.sign (s.drop k)).length : Int)) (L.slen rfl) (WO.val (v := .int .i64 ((k + (Lex.sign (s.drop k)).length : Nat) : Int)) (L.addE rfl rfl (by omega) (And.intro (by omega) (by omega))) (WO.storeF (row' := [.int .i64 ((k + (Lex.sign (s.drop k)).length : Nat) : Int)]) st 1 rfl rfl rfl rfl rfl rfl rfl (fun h st => ?_)))))))))
         refine WO.nil (WP.seq (WP.reg (WO.ifS (L.seq (m := []) rfl rfl) (fun cz => ?_) (fun cz => ?_))))
         ·refine WO.nil (WP.cond (t := true) rfl (WP.reg (WO.valS (v := .int .i64 10) rfl (WO.nil (WP.seq (WP.seq (WP.reg (WO.ifS (L.neq rfl rfl) (fun c_ => ?_) (fun c_ => by exfalso; omega)))))))))
          refine WO.nil (WP.cond (t := true) rfl (WP.seq (WP.reg (WO.valS (v := .slN) rfl (WO.valS (v := .int .i64 10) rfl (WO.valS (v := .int .i64 (k : Int)) rfl (WO.nil (WP.ret ?_))))))))
          have hE : Lex.all (s.length + 1) 0 s [] = .error (10, k) := by
           rw [hs, lex_cons hb]; simp [Lex.blank, one, Lex.put, *]
          rw [hE]
          exact ⟨_, (res_cons (res_tmp (v := .slN) rfl) (res_cons (res_tmp (v := .int .i64 10) rfl) (res_cons (res_tmp (v := .int .i64 (k : Int)) rfl) (res_nil _ _)))), rfl, st.tail.tail.tail⟩
         ·have hs1 : 0 < (Lex.sign (s.drop k)).length := List.length_pos_iff.2 cz
          refine WO.nil (WP.cond (t := false) rfl (WP.skip (WP.seq (WP.seq (WP.reg (WO.ifS (L.neq rfl rfl) (fun c_ => by exfalso; omega) (fun c_ => ?_)))))))
          refine WO.nil (WP.cond (t := false) rfl (WP.skip (WP.reg (WO.val (v := .agg [.int .i64 4, L.str (Lex.sign (s.drop k)), .int .i64 (k : Int)]) (L.build rfl) (WO.bslF (rows := [[.int .i64 4, L.str (Lex.sign (s.drop k)), .int .i64 (k : Int)]]) st rfl (by decide) rfl (by simp) (fun bs1 h st => ?_))))))
          refine WO.appFS st 1 rfl rfl rfl (st.stb_at 0 rfl) (by decide) (by simp; omega) (fun f1 v1 h st => ?_)
          rw [show (ts.map Tok.row) ++ [[V.int .i64 4, L.str (Lex.sign (s.drop k)), V.int .i64 (k : Int)]] = (ts ++ [Tok.mk 4 (Lex.sign (s.drop k)) k]).map Tok.row from by simp [Tok.row]] at st
          obtain ⟨ab1, rfl⟩ := (st.acc_at 1 rfl).ne (by simp)
          refine WO.nil ?_
          exact ⟨g, (Nat.lt_succ_self _), k + (Lex.sign (s.drop k)).length, (ts ++ [Tok.mk 4 (Lex.sign (s.drop k)) k]), f1, (.sl ab1 0 ((ts ++ [Tok.mk 4 (Lex.sign (s.drop k)) k]).map Tok.row).length none), x1, x2, x3, (.bool true), (.int .u8 (b.toNat : Int)), (.bool false), (.bool false), (.bool false), (L.str (Lex.sign (s.drop k))), (.bool false), (.bool false), (.int .i64 0), (.bool false), (.int .i64 (k : Int)), (.int .i64 4), ⟨by rw [hs, lex_cons hb]; simp [Lex.blank, one, Lex.put, *], (by omega), (by omega), (by first | omega | (simp; omega))⟩, by kernel_rfl, st.tail⟩
        ·refine WO.nil (WP.cond (t := true) rfl (WP.seq (WP.reg ?_)))
         obtain ⟨hw1, hw2, hw3⟩ := lex_tw (f := Lex.digit) hb hb2
         refine WO.callvFS rfl rfl (run_c D (fun st => digit_c D st) ((st.pick 2 rfl).pick 2 rfl) hk hsz) ?_
         rintro _ h ⟨rfl, st⟩
         refine WO.nil (WP.reg (WO.val (v := L.str s) (L.loadB rfl (st.box_at 1 rfl) rfl) (WO.val (v := .int .i64 ((k + ((s.drop k).takeWhile Lex.digit).length : Nat) : Int)) (L.loadB rfl (st.box_at 0 rfl) rfl) (WO.val (v := L.str ((s.drop (k + ((s.drop k).takeWhile Lex.digit).length)).take (s.length - (k + ((s.drop k).takeWhile Lex.digit).length)))) (L.ssub rfl rfl rfl (by omega) (by omega)) ?_))))
         rw [List.take_of_length_le (by simp)]
         refine WO.callF rfl (lnum_c D st hw3) ?_
         rintro _ h ⟨rfl, st⟩
         refine WO.val (v := .int .i64 ((Lex.number ((s.drop k).takeWhile Lex.digit) (s.drop (k + ((s.drop k).takeWhile Lex.digit).length))).1 : Int)) rfl (WO.val (v := .int .i64 ((Lex.number ((s.drop k).takeWhile Lex.digit) (s.drop (k + ((s.drop k).takeWhile Lex.digit).length))).2 : Int)) rfl (WO.valS (v := .int .i64 ((Lex.number ((s.drop k).takeWhile Lex.digit) (s.drop (k + ((s.drop k).takeWhile Lex.digit).length))).1 : Int)) rfl (WO.valS (v := .int .i64 ((Lex.number ((s.drop k).takeWhile Lex.digit) (s.drop (k + ((s.drop k).takeWhile Lex.digit).length))).2 : Int)) rfl (WO.nil (WP.seq (WP.seq (WP.reg (WO.ifS (L.neq rfl rfl) (fun ce => ?_) (fun ce => ?_)))))))))
         ·replace ce : (Lex.number ((s.drop k).takeWhile Lex.digit) (s.drop (k + ((s.drop k).takeWhile Lex.digit).length))).2 ≠ 0 := by omega
          refine WO.nil (WP.cond (t := true) rfl (WP.seq (WP.reg (WO.valS (v := .slN) rfl (WO.valS (v := .int .i64 ((Lex.number ((s.drop k).takeWhile Lex.digit) (s.drop (k + ((s.drop k).takeWhile Lex.digit).length))).2 : Int)) rfl (WO.valS (v := .int .i64 (k : Int)) rfl (WO.nil (WP.ret ?_))))))))
          have hE : Lex.all (s.length + 1) 0 s [] = .error ((Lex.number ((s.drop k).takeWhile Lex.digit) (s.drop (k + ((s.drop k).takeWhile Lex.digit).length))).2, k) := by
           rw [hs, lex_cons hb]; simp [Lex.blank, one, Lex.put, *]
          rw [hE]
          exact ⟨_, (res_cons (res_tmp (v := .slN) rfl) (res_cons (res_tmp (v := .int .i64 ((Lex.number ((s.drop k).takeWhile Lex.digit) (s.drop (k + ((s.drop k).takeWhile Lex.digit).length))).2 : Int)) rfl) (res_cons (res_tmp (v := .int .i64 (k : Int)) rfl) (res_nil _ _)))), rfl, st.tail.tail.tail⟩
         ·replace ce : (Lex.number ((s.drop k).takeWhile Lex.digit) (s.drop (k + ((s.drop k).takeWhile Lex.digit).length))).2 = 0 := by omega
          refine WO.nil (WP.cond (t := false) rfl (WP.skip (WP.reg (WO.val (v := .agg [.int .i64 ((Lex.number ((s.drop k).takeWhile Lex.digit) (s.drop (k + ((s.drop k).takeWhile Lex.digit).length))).1 : Int), L.str ((s.drop k).takeWhile Lex.digit), .int .i64 (k : Int)]) (L.build rfl) (WO.bslF (rows := [[.int .i64 ((Lex.number ((s.drop k).takeWhile Lex.digit) (s.drop (k + ((s.drop k).takeWhile Lex.digit).length))).1 : Int), L.str ((s.drop k).takeWhile Lex.digit), .int .i64 (k : Int)]]) st rfl (by decide) rfl (by simp) (fun bs2 h st => ?_))))))
          refine WO.appFS st 3 rfl rfl rfl (st.stb_at 0 rfl) (by decide) (by simp; omega) (fun f2 v2 h st => ?_)
          rw [show (ts.map Tok.row) ++ [[V.int .i64 ((Lex.number ((s.drop k).takeWhile Lex.digit) (s.drop (k + ((s.drop k).takeWhile Lex.digit).length))).1 : Int), L.str ((s.drop k).takeWhile Lex.digit), V.int .i64 (k : Int)]] = (ts ++ [Tok.mk ((Lex.number ((s.drop k).takeWhile Lex.digit) (s.drop (k + ((s.drop k).takeWhile Lex.digit).length))).1) ((s.drop k).takeWhile Lex.digit) k]).map Tok.row from by simp [Tok.row]] at st
          obtain ⟨ab2, rfl⟩ := (st.acc_at 3 rfl).ne (by simp)
          refine WO.nil ?_
          exact ⟨g, (Nat.lt_succ_self _), k + ((s.drop k).takeWhile Lex.digit).length, (ts ++ [Tok.mk ((Lex.number ((s.drop k).takeWhile Lex.digit) (s.drop (k + ((s.drop k).takeWhile Lex.digit).length))).1) ((s.drop k).takeWhile Lex.digit) k]), f2, (.sl ab2 0 ((ts ++ [Tok.mk ((Lex.number ((s.drop k).takeWhile Lex.digit) (s.drop (k + ((s.drop k).takeWhile Lex.digit).length))).1) ((s.drop k).takeWhile Lex.digit) k]).map Tok.row).length none), x1, x2, x3, (.bool true), (.int .u8 (b.toNat : Int)), (.bool false), (.bool false), (.bool false), (L.str ((s.drop k).takeWhile Lex.digit)), (.bool true), x14, (.int .i64 ((Lex.number ((s.drop k).takeWhile Lex.digit) (s.drop (k + ((s.drop k).takeWhile Lex.digit).length))).2 : Int)), (.bool false), (.int .i64 (k : Int)), (.int .i64 ((Lex.number ((s.drop k).takeWhile Lex.digit) (s.drop (k + ((s.drop k).takeWhile Lex.digit).length))).1 : Int)), ⟨by rw [hs, lex_cons hb]; simp [Lex.blank, one, Lex.put, *], (by omega), (by omega), (by first | omega | (simp; omega))⟩, by kernel_rfl, (st.tail.pick 2 rfl)⟩
       ·refine WO.nil (WP.cond (t := true) rfl (WP.seq (WP.reg ?_)))
        obtain ⟨hw1, hw2, hw3⟩ := lex_tw (f := Lex.within) hb (by simp [Lex.within, one, *])
        refine WO.callvFS rfl rfl (run_c D (fun st => within_c D st) ((st.pick 2 rfl).pick 2 rfl) hk hsz) ?_
        rintro _ h ⟨rfl, st⟩
        refine WO.nil (WP.reg (WO.callF rfl (word_c D st) ?_))
        rintro _ h ⟨rfl, st⟩
        refine WO.val (v := .int .i64 ((Lex.word ((s.drop k).takeWhile Lex.within)).1 : Int)) rfl (WO.val (v := .int .i64 ((Lex.word ((s.drop k).takeWhile Lex.within)).2 : Int)) rfl (WO.valS (v := .int .i64 ((Lex.word ((s.drop k).takeWhile Lex.within)).1 : Int)) rfl (WO.valS (v := .int .i64 ((Lex.word ((s.drop k).takeWhile Lex.within)).2 : Int)) rfl (WO.nil (WP.seq (WP.seq (WP.reg (WO.ifS (L.neq rfl rfl) (fun ce => ?_) (fun ce => ?_)))))))))
        ·replace ce : (Lex.word ((s.drop k).takeWhile Lex.within)).2 ≠ 0 := by omega
         refine WO.nil (WP.cond (t := true) rfl (WP.seq (WP.reg (WO.valS (v := .slN) rfl (WO.valS (v := .int .i64 ((Lex.word ((s.drop k).takeWhile Lex.within)).2 : Int)) rfl (WO.valS (v := .int .i64 (k : Int)) rfl (WO.nil (WP.ret ?_))))))))
         have hE : Lex.all (s.length + 1) 0 s [] = .error ((Lex.word ((s.drop k).takeWhile Lex.within)).2, k) := by
          rw [hs, lex_cons hb]; simp [Lex.blank, one, Lex.put, *]
         rw [hE]
         exact ⟨_, (res_cons (res_tmp (v := .slN) rfl) (res_cons (res_tmp (v := .int .i64 ((Lex.word ((s.drop k).takeWhile Lex.within)).2 : Int)) rfl) (res_cons (res_tmp (v := .int .i64 (k : Int)) rfl) (res_nil _ _)))), rfl, st.tail.tail.tail⟩
        ·replace ce : (Lex.word ((s.drop k).takeWhile Lex.within)).2 = 0 := by omega
         refine WO.nil (WP.cond (t := false) rfl (WP.skip (WP.reg (WO.val (v := .agg [.int .i64 ((Lex.word ((s.drop k).takeWhile Lex.within)).1 : Int), L.str ((s.drop k).takeWhile Lex.within), .int .i64 (k : Int)]) (L.build rfl) (WO.bslF (rows := [[.int .i64 ((Lex.word ((s.drop k).takeWhile Lex.within)).1 : Int), L.str ((s.drop k).takeWhile Lex.within), .int .i64 (k : Int)]]) st rfl (by decide) rfl (by simp) (fun bs3 h st => ?_))))))
         refine WO.appFS st 3 rfl rfl rfl (st.stb_at 0 rfl) (by decide) (by simp; omega) (fun f3 v3 h st => ?_)
         rw [show (ts.map Tok.row) ++ [[V.int .i64 ((Lex.word ((s.drop k).takeWhile Lex.within)).1 : Int), L.str ((s.drop k).takeWhile Lex.within), V.int .i64 (k : Int)]] = (ts ++ [Tok.mk ((Lex.word ((s.drop k).takeWhile Lex.within)).1) ((s.drop k).takeWhile Lex.within) k]).map Tok.row from by simp [Tok.row]] at st
         obtain ⟨ab3, rfl⟩ := (st.acc_at 3 rfl).ne (by simp)
         refine WO.nil ?_
         exact ⟨g, (Nat.lt_succ_self _), k + ((s.drop k).takeWhile Lex.within).length, (ts ++ [Tok.mk ((Lex.word ((s.drop k).takeWhile Lex.within)).1) ((s.drop k).takeWhile Lex.within) k]), f3, (.sl ab3 0 ((ts ++ [Tok.mk ((Lex.word ((s.drop k).takeWhile Lex.within)).1) ((s.drop k).takeWhile Lex.within) k]).map Tok.row).length none), x1, x2, x3, (.bool true), (.int .u8 (b.toNat : Int)), (.bool false), (.bool false), (.bool true), (L.str ((s.drop k).takeWhile Lex.within)), x13, x14, (.int .i64 ((Lex.word ((s.drop k).takeWhile Lex.within)).2 : Int)), (.bool false), (.int .i64 (k : Int)), (.int .i64 ((Lex.word ((s.drop k).takeWhile Lex.within)).1 : Int)), ⟨by rw [hs, lex_cons hb]; simp [Lex.blank, one, Lex.put, *], (by omega), (by omega), (by first | omega | (simp; omega))⟩, by kernel_rfl, (st.tail.pick 2 rfl)⟩
 ·replace c1 : ¬ (k < s.length) := by omega
  refine WO.nil (WP.cond (t := false) rfl (WP.exit (WP.seq (WP.reg (WO.val (v := L.str s) (L.loadB rfl (st.box_at 2 rfl) rfl) (WO.val (v := .int .i64 (s.length : Int)) (L.slen rfl) (WO.val (v := .agg [.int .i64 0, .str 0 0, .int .i64 (s.length : Int)]) (L.build rfl) (WO.bslF (rows := [[.int .i64 0, .str 0 0, .int .i64 (s.length : Int)]]) st rfl (by decide) rfl (by simp) (fun bs4 h st => ?_)))))))))
  refine WO.appFS st 1 rfl rfl rfl (st.stb_at 0 rfl) (by decide) (by simp; omega) (fun f4 v4 h st => ?_)
  rw [show (ts.map Tok.row) ++ [[V.int .i64 0, V.str 0 0, V.int .i64 (s.length : Int)]] = (ts ++ [Tok.mk 0 [] s.length]).map Tok.row from by simp [Tok.row]; rfl] at st
  obtain ⟨ab4, rfl⟩ := (st.acc_at 1 rfl).ne (by simp)
  refine WO.valS (v := .int .i64 0) rfl (WO.valS (v := .int .i64 0) rfl (WO.nil (WP.ret ?_)))
  have hz : s.drop k = [] := List.drop_of_length_le (by omega)
  have hE : Lex.all (s.length + 1) 0 s [] = .ok (ts ++ [⟨0, [], s.length⟩]) := by
   rw [hs, hz, show k = s.length by omega]; rfl
  rw [hE]
  exact ⟨_, (res_cons (res_tmp (v := .sl ab4 0 (((ts ++ [Tok.mk 0 [] s.length]).map Tok.row).length) none) rfl) (res_cons (res_tmp (v := .int .i64 0) rfl) (res_cons (res_tmp (v := .int .i64 0) rfl) (res_nil _ _)))), _, rfl, (((st.tail.pick 1 rfl).tail.pick 1 rfl).tail).shut (by decide)⟩
end
end Go.Eng.YtjobofnpmmjeoaaDoor
namespace Go.Eng.YtjobofnpmmjeoaaDoor
open Go.Eng
noncomputable section
variable {c : Ctx}
def Par.text (s : List UInt8) : Except (Nat × Nat) Md := match Lex.lex s with
 | .error x => .error x
 | .ok ts => match Par.modul 0 ts with
  | .error x => .error x
  | .ok (m, _) => .ok m
def Par.rows (s : List UInt8) : Except (Nat × Nat) (List Pm) := match Lex.lex s with
 | .error x => .error x
 | .ok ts => match Par.labels ts with
  | .error x => .error x
  | .ok (m, _) => .ok m
theorem toks_sl {fs : List Fact} {h : Heap} {x : V} {ts : List Tok} (st : St (.stb (fun h => Rows 3 h x (ts.map Tok.row)) :: fs) h) (hne : ts ≠ []) : ∃ p : RP, p.ts = ts ∧ x = .sl p.tb p.to p.ts.length p.cap := by
 have hr := st.stb_at 0 rfl
 cases ts with
 | nil => exact absurd rfl hne
 | cons t ts =>
  generalize hl : (t :: ts).map Tok.row = rows at hr
  cases hr with
  | nil => cases hl
  | row _ _ _ _ _ _ => exact ⟨⟨0, _, _, _, t :: ts⟩, rfl, by rw [show (t :: ts).length = _ from (List.length_map (as := t :: ts) Tok.row).symm, hl]⟩
theorem lex_ok {s : List UInt8} {ts : List Tok} (h : Lex.lex s = .ok ts) (p : RP) (hp : p.ts = ts) : Left p 0 p.ts ∧ ts ≠ [] := by
 unfold Lex.lex at h
 by_cases hs : 8192 < s.length
 ·rw [if_pos hs] at h; cases h
 ·rw [if_neg hs] at h
  obtain ⟨us, a, e, hn⟩ := Lex.all_ok h (fun t ht => by simp at ht)
  have hlen := Lex.all_len h
  subst hp
  exact ⟨Left.start e hn (by simp at hlen; omega), by rw [e]; simp⟩
theorem lex_c (D : HasF c) (DD : HasD c) {fs : List Fact} {h : Heap} {s : List UInt8} (st : St fs h) :
  RunP c 11 [L.str s] h fun v h1 => match Lex.lex s with
   | .ok ts => ∃ x, v = .tup [x, .int .i64 0, .int .i64 0] ∧ St (.stb (fun h => Rows 3 h x (ts.map Tok.row)) :: fs) h1
   | .error (e, a) => v = .tup [.slN, .int .i64 (e : Int), .int .i64 (a : Int)] ∧ St fs h1 := by
 refine RunP.fun_ D.f11 rfl (WP.seq (WP.reg (WO.valS (v := .slN) rfl (WO.valS (v := .int .i64 0) rfl (WO.valS (v := .int .i64 0) rfl (WO.nil (WP.seq (WP.seq (WP.reg (WO.val (v := .int .i64 (s.length : Int)) (L.slen rfl) (WO.ifS (L.gtr rfl rfl) (fun c1 => ?_) (fun c1 => ?_))))))))))))
 ·replace c1 : 8192 < s.length := by omega
  refine WO.nil (WP.cond (t := true) rfl (WP.seq (WP.reg (WO.valS (v := .slN) rfl (WO.valS (v := .int .i64 9) rfl (WO.valS (v := .int .i64 8192) rfl (WO.nil (WP.ret ?_))))))))
  have hE : Lex.lex s = .error (9, 8192) := by unfold Lex.lex; rw [if_pos c1]
  rw [hE]
  exact ⟨_, (res_cons (res_tmp (v := .slN) rfl) (res_cons (res_tmp (v := .int .i64 9) rfl) (res_cons (res_tmp (v := .int .i64 8192) rfl) (res_nil _ _)))), rfl, st⟩
 ·replace c1 : ¬ (8192 < s.length) := by omega
  refine WO.nil (WP.cond (t := false) rfl (WP.skip (WP.seq (WP.reg ?_))))
  have hc := all_c (s := s) D DD st (by omega)
  cases hsp : Lex.all (s.length + 1) 0 s [] with
  | error x =>
   obtain ⟨e, a⟩ := x
   rw [hsp] at hc
   refine WO.callF rfl hc ?_
   rintro _ h ⟨rfl, st⟩
   refine WO.val (v := .slN) rfl (WO.val (v := .int .i64 (e : Int)) rfl (WO.val (v := .int .i64 (a : Int)) rfl (WO.valS (v := .slN) rfl (WO.valS (v := .int .i64 (e : Int)) rfl (WO.valS (v := .int .i64 (a : Int)) rfl (WO.nil (WP.ret ?_)))))))
   have hE : Lex.lex s = .error (e, a) := by unfold Lex.lex; rw [if_neg c1]; exact hsp
   rw [hE]
   exact ⟨_, (res_cons (res_tmp (v := .slN) rfl) (res_cons (res_tmp (v := .int .i64 (e : Int)) rfl) (res_cons (res_tmp (v := .int .i64 (a : Int)) rfl) (res_nil _ _)))), rfl, st⟩
  | ok x =>
   rw [hsp] at hc
   refine WO.callF rfl hc ?_
   rintro _ h ⟨y, rfl, st⟩
   refine WO.val (v := y) rfl (WO.val (v := .int .i64 0) rfl (WO.val (v := .int .i64 0) rfl (WO.valS (v := y) rfl (WO.valS (v := .int .i64 0) rfl (WO.valS (v := .int .i64 0) rfl (WO.nil (WP.ret ?_)))))))
   have hE : Lex.lex s = .ok x := by unfold Lex.lex; rw [if_neg c1]; exact hsp
   rw [hE]
   exact ⟨_, (res_cons (res_tmp (v := y) rfl) (res_cons (res_tmp (v := .int .i64 0) rfl) (res_cons (res_tmp (v := .int .i64 0) rfl) (res_nil _ _)))), y, rfl, st⟩
theorem tokens_c (D : HasF c) (DD : HasD c) {fs : List Fact} {h : Heap} {p : RP} (st : St (p.toks :: fs) h) (hl : Left p 0 p.ts) :
  RunP c 17 [.sl p.tb p.to p.ts.length p.cap] h fun v h1 => match Par.modul 0 p.ts with
   | .ok (m, _) => ∃ row, v = .tup [.agg row, .int .i64 0, .int .i64 0] ∧ row.length = 5 ∧ St (.stb (fun h => MdR h m row) :: fs) h1
   | .error (e, a) => v = .tup [.agg [.str 0 0, .int .i64 0, .slN, .slN, .slN], .int .i64 (e : Int), .int .i64 (a : Int)] ∧ St fs h1 := by
 refine RunP.fun_ D.f17 rfl (WP.seq (WP.reg (WO.boxFS st L.alloc (fun mb h st => ?_))))
 refine WO.valS (v := .int .i64 0) rfl (WO.valS (v := .int .i64 0) rfl (WO.nil (WP.seq (WP.reg ?_))))
 have hc := readM_c D DD (st.pick 1 rfl) hl
 cases hsp : Par.modul 0 p.ts with
 | error x =>
  obtain ⟨e, a⟩ := x
  rw [hsp] at hc
  refine WO.callF rfl hc ?_
  rintro _ h ⟨rfl, st⟩
  refine WO.val (v := .agg [.str 0 0, .int .i64 0, .slN, .slN, .slN]) rfl (WO.val (v := .int .i64 (e : Int)) rfl (WO.val (v := .int .i64 (a : Int)) rfl (WO.storeF (row' := [.str 0 0, .int .i64 0, .slN, .slN, .slN]) st 0 rfl rfl rfl rfl rfl rfl rfl (fun h st => ?_))))
  refine WO.valS (v := .int .i64 (e : Int)) rfl (WO.valS (v := .int .i64 (a : Int)) rfl (WO.nil (WP.ret ?_)))
  exact ⟨_, (res_cons (res_cellA (l := [.str 0 0, .int .i64 0, .slN, .slN, .slN]) rfl (L.load_box (st.box_at 0 rfl) rfl rfl rfl)) (res_cons (res_tmp (v := .int .i64 (e : Int)) rfl) (res_cons (res_tmp (v := .int .i64 (a : Int)) rfl) (res_nil _ _)))), rfl, st.tail⟩
 | ok x =>
  rw [hsp] at hc
  refine WO.callF rfl hc ?_
  rintro _ h ⟨row, rfl, hrow, st⟩
  refine WO.val (v := .agg row) rfl (WO.val (v := .int .i64 0) rfl (WO.val (v := .int .i64 0) rfl (WO.storeF (row' := row) st 1 rfl rfl rfl (by rw [lenV_eq]; exact hrow) rfl rfl (overV_all hrow) (fun h st => ?_))))
  refine WO.valS (v := .int .i64 0) rfl (WO.valS (v := .int .i64 0) rfl (WO.nil (WP.ret ?_)))
  exact ⟨_, (res_cons (res_cellA (l := row) rfl (L.load_box (st.box_at 1 rfl) rfl (by rw [lenV_eq, hrow]; rfl) (takeV_all hrow))) (res_cons (res_tmp (v := .int .i64 0) rfl) (res_cons (res_tmp (v := .int .i64 0) rfl) (res_nil _ _)))), row, rfl, hrow, (st.pick 1 rfl).tail⟩
theorem lexput_err {t : Nat × Nat} {w : List UInt8} {pos : Nat} {out : List Tok} {k : List Tok → Except (Nat × Nat) (List Tok)} {e a : Nat} (h : Lex.put t w pos out k = .error (e, a)) : (e ≠ 0) ∨ k (out ++ [⟨t.1, w, pos⟩]) = .error (e, a) := by
 unfold Lex.put at h
 by_cases he : t.2 ≠ 0
 ·rw [if_pos he] at h; cases h; exact Or.inl he
 ·rw [if_neg he] at h; exact Or.inr h
theorem lexall_err : ∀ {f pos : Nat} {r : List UInt8} {out : List Tok} {e a : Nat}, r.length < f → Lex.all f pos r out = .error (e, a) → e ≠ 0
 | 0, _, _, _, _, _, hf, _ => by omega
 | f + 1, pos, [], out, e, a, hf, h => by simp only [Lex.all] at h; cases h
 | f + 1, pos, c :: r, out, e, a, hf, h => by
  simp only [Lex.all] at h
  have hl : r.length < f := by simp at hf; omega
  have hd : ∀ n, 0 < n → ((c :: r).drop n).length < f := fun n hn => by rw [List.length_drop, List.length_cons]; omega
  by_cases h1 : Lex.blank c = true
  ·rw [if_pos h1] at h; exact lexall_err hl h
  rw [if_neg h1] at h
  by_cases h2 : c.toNat = 35
  ·rw [if_pos h2] at h; exact lexall_err (hd _ (lex_tw (s := c :: r) (k := 0) rfl (by simp [Lex.notNl, h2])).1) h
  rw [if_neg h2] at h
  by_cases h3 : Lex.small c = true
  ·rw [if_pos h3] at h
   exact (lexput_err h).elim id fun h => lexall_err (hd _ (lex_tw (s := c :: r) (k := 0) rfl (by simp [Lex.within, h3])).1) h
  rw [if_neg h3] at h
  by_cases h4 : Lex.digit c = true
  ·rw [if_pos h4] at h
   exact (lexput_err h).elim id fun h => lexall_err (hd _ (lex_tw (s := c :: r) (k := 0) rfl h4).1) h
  rw [if_neg h4] at h
  by_cases hs : Lex.sign (c :: r) = []
  ·rw [if_pos hs] at h; unfold Lex.put at h; rw [if_pos (by decide)] at h; cases h; decide
  ·exact (lexput_err h).elim id fun h => lexall_err (hd _ (List.length_pos_iff.2 hs)) h
theorem lex_err {s : List UInt8} {e a : Nat} (h : Lex.lex s = .error (e, a)) : e ≠ 0 := by
 unfold Lex.lex at h
 by_cases hs : 8192 < s.length
 ·rw [if_pos hs] at h; cases h; decide
 ·rw [if_neg hs] at h; exact lexall_err (by omega) h
theorem Module_c (D : HasF c) (DD : HasD c) {fs : List Fact} {h : Heap} {s : List UInt8} (st : St fs h) :
  RunP c 10 [L.str s] h fun v h1 => match Par.text s with
   | .ok m => ∃ row, v = .tup [.agg row, .int .i64 0, .int .i64 0] ∧ row.length = 5 ∧ St (.stb (fun h => MdR h m row) :: fs) h1
   | .error (e, a) => v = .tup [.agg [.str 0 0, .int .i64 0, .slN, .slN, .slN], .int .i64 (e : Int), .int .i64 (a : Int)] ∧ St fs h1 := by
 refine RunP.fun_ D.f10 rfl (WP.seq (WP.reg (WO.boxFS st L.alloc (fun mb h st => ?_))))
 refine WO.valS (v := .int .i64 0) rfl (WO.valS (v := .int .i64 0) rfl (WO.nil (WP.seq (WP.reg ?_))))
 have hc := lex_c (s := s) D DD st
 cases hsp : Lex.lex s with
 | error x =>
  obtain ⟨e, a⟩ := x
  rw [hsp] at hc
  refine WO.callF rfl hc ?_
  rintro _ h ⟨rfl, st⟩
  refine WO.val (v := .slN) rfl (WO.val (v := .int .i64 (e : Int)) rfl (WO.val (v := .int .i64 (a : Int)) rfl (WO.valS (v := .slN) rfl (WO.valS (v := .int .i64 (e : Int)) rfl (WO.valS (v := .int .i64 (a : Int)) rfl (WO.nil (WP.seq (WP.seq (WP.reg ?_)))))))))
  have he0 : e ≠ 0 := lex_err hsp
  refine WO.ifS (L.neq rfl rfl) (fun c_ => ?_) (fun c_ => by exfalso; omega)
  refine WO.nil (WP.cond (t := true) rfl (WP.seq (WP.reg (WO.val (v := .agg [.str 0 0, .int .i64 0, .slN, .slN, .slN]) (L.build rfl) (WO.storeF (row' := [.str 0 0, .int .i64 0, .slN, .slN, .slN]) st 0 rfl rfl rfl rfl rfl rfl rfl (fun h st => ?_))))))
  refine WO.valS (v := .int .i64 (e : Int)) rfl (WO.valS (v := .int .i64 (a : Int)) rfl (WO.nil (WP.ret ?_)))
  have hE : Par.text s = .error (e, a) := by unfold Par.text; rw [hsp]
  rw [hE]
  exact ⟨_, (res_cons (res_cellA (l := [.str 0 0, .int .i64 0, .slN, .slN, .slN]) rfl (L.load_box (st.box_at 0 rfl) rfl rfl rfl)) (res_cons (res_tmp (v := .int .i64 (e : Int)) rfl) (res_cons (res_tmp (v := .int .i64 (a : Int)) rfl) (res_nil _ _)))), rfl, st.tail⟩
 | ok x =>
  rw [hsp] at hc
  refine WO.callF rfl hc ?_
  rintro _ h ⟨y, rfl, st⟩
  obtain ⟨p, rfl, rfl⟩ := toks_sl st (lex_ok hsp ⟨0, 0, 0, none, x⟩ rfl).2
  obtain ⟨hlf, hne⟩ := lex_ok hsp p rfl
  refine WO.val (v := .sl p.tb p.to p.ts.length p.cap) rfl (WO.val (v := .int .i64 0) rfl (WO.val (v := .int .i64 0) rfl (WO.valS (v := .sl p.tb p.to p.ts.length p.cap) rfl (WO.valS (v := .int .i64 0) rfl (WO.valS (v := .int .i64 0) rfl (WO.nil (WP.seq (WP.seq (WP.reg (WO.ifS (L.neq rfl rfl) (fun c_ => by exfalso; omega) (fun c_ => ?_)))))))))))
  refine WO.nil (WP.cond (t := false) rfl (WP.skip (WP.seq (WP.reg ?_))))
  have hc := tokens_c D DD (st : St (p.toks :: .box mb [.str 0 0, .int .i64 0, .slN, .slN, .slN] :: fs) _) hlf
  cases hsq : Par.modul 0 p.ts with
  | error x =>
   obtain ⟨e, a⟩ := x
   rw [hsq] at hc
   refine WO.callF rfl hc ?_
   rintro _ h ⟨rfl, st⟩
   refine WO.val (v := .agg [.str 0 0, .int .i64 0, .slN, .slN, .slN]) rfl (WO.val (v := .int .i64 (e : Int)) rfl (WO.val (v := .int .i64 (a : Int)) rfl (WO.storeF (row' := [.str 0 0, .int .i64 0, .slN, .slN, .slN]) st 0 rfl rfl rfl rfl rfl rfl rfl (fun h st => ?_))))
   refine WO.valS (v := .int .i64 (e : Int)) rfl (WO.valS (v := .int .i64 (a : Int)) rfl (WO.nil (WP.ret ?_)))
   have hE : Par.text s = .error (e, a) := by unfold Par.text; rw [hsp]; simp only [hsq]
   rw [hE]
   exact ⟨_, (res_cons (res_cellA (l := [.str 0 0, .int .i64 0, .slN, .slN, .slN]) rfl (L.load_box (st.box_at 0 rfl) rfl rfl rfl)) (res_cons (res_tmp (v := .int .i64 (e : Int)) rfl) (res_cons (res_tmp (v := .int .i64 (a : Int)) rfl) (res_nil _ _)))), rfl, st.tail⟩
  | ok x =>
   rw [hsq] at hc
   refine WO.callF rfl hc ?_
   rintro _ h ⟨row, rfl, hrow, st⟩
   refine WO.val (v := .agg row) rfl (WO.val (v := .int .i64 0) rfl (WO.val (v := .int .i64 0) rfl (WO.storeF (row' := row) st 1 rfl rfl rfl (by rw [lenV_eq]; exact hrow) rfl rfl (overV_all hrow) (fun h st => ?_))))
   refine WO.valS (v := .int .i64 0) rfl (WO.valS (v := .int .i64 0) rfl (WO.nil (WP.ret ?_)))
   have hE : Par.text s = .ok x.1 := by unfold Par.text; rw [hsp]; simp only [hsq]
   rw [hE]
   exact ⟨_, (res_cons (res_cellA (l := row) rfl (L.load_box (st.box_at 1 rfl) rfl (by rw [lenV_eq, hrow]; rfl) (takeV_all hrow))) (res_cons (res_tmp (v := .int .i64 0) rfl) (res_cons (res_tmp (v := .int .i64 0) rfl) (res_nil _ _)))), row, rfl, hrow, (st.pick 1 rfl).tail⟩
theorem Labels_c (D : HasF c) (DD : HasD c) {fs : List Fact} {h : Heap} {s : List UInt8} (st : St fs h) :
  RunP c 16 [L.str s] h fun v h1 => match Par.rows s with
   | .ok m => ∃ x, v = .tup [x, .int .i64 0, .int .i64 0] ∧ x.asCells = some [x] ∧ St (.stb (fun h => Rows 3 h x (m.map Pm.row)) :: fs) h1
   | .error (e, a) => v = .tup [.slN, .int .i64 (e : Int), .int .i64 (a : Int)] ∧ St fs h1 := by
 refine RunP.fun_ D.f16 rfl (WP.seq (WP.reg (WO.valS (v := .slN) rfl (WO.valS (v := .int .i64 0) rfl (WO.valS (v := .int .i64 0) rfl (WO.nil (WP.seq (WP.reg ?_))))))))
 have hc := lex_c (s := s) D DD st
 cases hsp : Lex.lex s with
 | error x =>
  obtain ⟨e, a⟩ := x
  rw [hsp] at hc
  refine WO.callF rfl hc ?_
  rintro _ h ⟨rfl, st⟩
  refine WO.val (v := .slN) rfl (WO.val (v := .int .i64 (e : Int)) rfl (WO.val (v := .int .i64 (a : Int)) rfl (WO.valS (v := .slN) rfl (WO.valS (v := .int .i64 (e : Int)) rfl (WO.valS (v := .int .i64 (a : Int)) rfl (WO.nil (WP.seq (WP.seq (WP.reg ?_)))))))))
  have he0 : e ≠ 0 := lex_err hsp
  refine WO.ifS (L.neq rfl rfl) (fun c_ => ?_) (fun c_ => by exfalso; omega)
  refine WO.nil (WP.cond (t := true) rfl (WP.seq (WP.reg (WO.valS (v := .slN) rfl (WO.valS (v := .int .i64 (e : Int)) rfl (WO.valS (v := .int .i64 (a : Int)) rfl (WO.nil (WP.ret ?_))))))))
  have hE : Par.rows s = .error (e, a) := by unfold Par.rows; rw [hsp]
  rw [hE]
  exact ⟨_, (res_cons (res_tmp (v := .slN) rfl) (res_cons (res_tmp (v := .int .i64 (e : Int)) rfl) (res_cons (res_tmp (v := .int .i64 (a : Int)) rfl) (res_nil _ _)))), rfl, st⟩
 | ok x =>
  rw [hsp] at hc
  refine WO.callF rfl hc ?_
  rintro _ h ⟨y, rfl, st⟩
  obtain ⟨p, rfl, rfl⟩ := toks_sl st (lex_ok hsp ⟨0, 0, 0, none, x⟩ rfl).2
  obtain ⟨hlf, hne⟩ := lex_ok hsp p rfl
  refine WO.val (v := .sl p.tb p.to p.ts.length p.cap) rfl (WO.val (v := .int .i64 0) rfl (WO.val (v := .int .i64 0) rfl (WO.valS (v := .sl p.tb p.to p.ts.length p.cap) rfl (WO.valS (v := .int .i64 0) rfl (WO.valS (v := .int .i64 0) rfl (WO.nil (WP.seq (WP.seq (WP.reg (WO.ifS (L.neq rfl rfl) (fun c_ => by exfalso; omega) (fun c_ => ?_)))))))))))
  refine WO.nil (WP.cond (t := false) rfl (WP.skip (WP.seq (WP.reg ?_))))
  have hc := readL_c D DD (st : St (p.toks :: fs) _) hlf
  cases hsq : Par.labels p.ts with
  | error x =>
   obtain ⟨e, a⟩ := x
   rw [hsq] at hc
   refine WO.callF rfl hc ?_
   rintro _ h ⟨rfl, st⟩
   refine WO.val (v := .slN) rfl (WO.val (v := .int .i64 (e : Int)) rfl (WO.val (v := .int .i64 (a : Int)) rfl (WO.valS (v := .slN) rfl (WO.valS (v := .int .i64 (e : Int)) rfl (WO.valS (v := .int .i64 (a : Int)) rfl (WO.nil (WP.ret ?_)))))))
   have hE : Par.rows s = .error (e, a) := by unfold Par.rows; rw [hsp]; simp only [hsq]
   rw [hE]
   exact ⟨_, (res_cons (res_tmp (v := .slN) rfl) (res_cons (res_tmp (v := .int .i64 (e : Int)) rfl) (res_cons (res_tmp (v := .int .i64 (a : Int)) rfl) (res_nil _ _)))), rfl, st⟩
  | ok x =>
   rw [hsq] at hc
   refine WO.callF rfl hc ?_
   rintro _ h ⟨y, rfl, hcv, st⟩
   refine WO.val (v := y) rfl (WO.val (v := .int .i64 0) rfl (WO.val (v := .int .i64 0) rfl (WO.valS (v := y) rfl (WO.valS (v := .int .i64 0) rfl (WO.valS (v := .int .i64 0) rfl (WO.nil (WP.ret ?_)))))))
   have hE : Par.rows s = .ok x.1 := by unfold Par.rows; rw [hsp]; simp only [hsq]
   rw [hE]
   exact ⟨_, (res_cons (res_tmp (v := y) rfl) (res_cons (res_tmp (v := .int .i64 0) rfl) (res_cons (res_tmp (v := .int .i64 0) rfl) (res_nil _ _)))), y, rfl, hcv, st⟩
end
end Go.Eng.YtjobofnpmmjeoaaDoor
