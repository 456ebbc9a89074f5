/- Part of a proof of a law, by an evaluator that the machine follows: rules, contracts of functions, what they come to. No condition of its own. -/
import Derived.Test.YtjobofnpmmjeoaaDoorConB
import Derived.Test.YtjobofnpmmjeoaaDoorSpec
set_option linter.unusedVariables false
set_option linter.unusedSimpArgs false
namespace Go.Eng.YtjobofnpmmjeoaaDoor
open Go.Eng
noncomputable section
variable {c : Ctx}
def OneOk (c : Ctx) (p : RP) (d g : Nat) (caps : List V) {α β : Type} (one : α → List Tok → Par.R α) (I : α → β → List Fact) (sz : α → Nat) : Prop := ∀ {fs : List Fact} {h : Heap} {i : Nat} {l : List Tok} (x : α) (w : β), St (p.box i d :: p.toks :: (I x w ++ fs)) h → Left p i l → sz x ≤ i →
 RunR c g caps h (Outc p 83 (one x l) (fun y i1 v h1 => i < i1 ∧ sz y ≤ i1 ∧ ∃ w, St (p.box i1 d :: p.toks :: (I y w ++ fs)) h1) (St fs))
theorem several_c (D : HasF c) {α β : Type} {p : RP} {d g : Nat} {caps : List V} {one : α → List Tok → Par.R α} {I : α → β → List Fact} {sz : α → Nat} (hone : OneOk c p d g caps one I sz) {e : List UInt8} {fs : List Fact} {h : Heap} {i : Nat} {l : List Tok} (x : α) (w : β) (st : St (p.box i d :: p.toks :: (I x w ++ fs)) h) (hl : Left p i l) (hsz : sz x ≤ i) :
  RunR c 50 [.ptr p.rb 0, L.str e, .fn g [] caps] h (Outc p 83 (Par.several one e l x) (fun y i1 v h1 => i < i1 ∧ sz y ≤ i1 ∧ ∃ w, St (p.box i1 d :: p.toks :: (I y w ++ fs)) h1) (St fs)) := by
 have hdrop : ∀ (x : α) (w : β) (h : Heap), St (I x w ++ fs) h → St fs h := fun x w h s => s.sub (List.sublist_append_right _ _)
 refine RunR.fun_ D.f50 rfl (WP.seq (WP.reg (WO.valS (v := .int .i64 0) rfl (WO.nil (WP.block (WP.loopG (α := Nat) (fun k env h => ∃ lz iz xz wz nz x3 x5, (Par.several one e l x = Par.severalL one e k nz lz xz ∧ lz.length ≤ k ∧ Left p iz lz ∧ i ≤ iz ∧ nz + lz.length ≤ l.length ∧ sz xz ≤ iz) ∧ env = argsP [.ptr p.rb 0, L.str e, .fn g [] caps, x3, .int .i64 (nz : Int), x5] 0 Env.nil ∧ St ((p.box iz d) :: p.toks :: (I xz wz ++ fs)) h) (fun k => k) l.length ?_ ?_))))))
 ·exact ⟨l, i, x, w, 0, .bot, .bot, ⟨rfl, Nat.le_refl _, hl, Nat.le_refl _, by omega, hsz⟩, by kernel_rfl, st⟩
 rintro k _ h ⟨lz, iz, xz, wz, nz, x3, x5, ⟨hs, hk, hlz, hii, hnz, hszz⟩, rfl, st⟩
 have hlp := List.length_pos_iff.2 hlz.ne
 obtain ⟨k, rfl⟩ : ∃ m, k = m + 1 := ⟨k - 1, by omega⟩
 refine WP.seq (WP.seq (WP.reg (WO.callF rfl (may_c D st hlz) ?_)))
 rintro _ h (⟨rfl, hi, hl0, st⟩ | ⟨rfl, hi, st⟩)
 ·replace st : St ((p.box (iz + 1 : Nat) d) :: p.toks :: (I xz wz ++ fs)) h := st
  refine WO.valS (v := .bool false) rfl (WO.nil (WP.cond (t := false) rfl (WP.exit ?_)))
  exact ⟨_, (res_nil _ _), Outc.ok (x := xz) (l := lz.tail) (by rw [hs]; simp [Par.severalL, hi]) hl0 ⟨(by have := hlz.len; omega), (by omega), wz, st⟩⟩
 ·replace st : St ((p.box iz d) :: p.toks :: (I xz wz ++ fs)) h := st
  refine WO.valS (v := .bool true) rfl (WO.nil (WP.cond (t := true) rfl (WP.skip (WP.seq (WP.block (WP.seq (WP.seq (WP.reg (WO.ifS (L.gtr rfl rfl) (fun c1 => ?_) (fun c1 => ?_))))))))))
  ·replace c1 : nz ≠ 0 := by omega
   refine WO.nil (WP.cond (t := true) rfl (WP.reg (WO.callO rfl (must_c (s := [44]) D st hlz) (fun e a h hm st => ?_) ?_)))
   ·exact Outc.pan (by rw [hs]; simp [Par.severalL, hm, hi, c1]) (hdrop _ _ _ st)
   rintro a1 l1 _ h i1 m1 hl1 ⟨rfl, st⟩
   refine WO.nil (WP.reg ?_)
   replace hszz : sz xz ≤ i1 := (by have _ := hlz.len; have _ := hlz.lt; have _ := hl.len; have _ := hl.small; have _ := hl1.len; have _ := hl1.lt; have _ := Par.must_len m1; omega)
   refine WO.callvO rfl rfl (hone xz wz st hl1 hszz) (fun e a h hm st => ?_) ?_
   ·exact Outc.pan (by rw [hs]; simp [Par.severalL, hm, hi, c1, m1]) st
   rintro y2 l2 _ h i2 m2 hl2 ⟨hlt2, hsz2, w2, st⟩
   refine WO.nil (WP.reg (WO.valS (v := .int .i64 ((nz + 1 : Nat) : Int)) (L.addE rfl rfl (by omega) (by have _ := hlz.len; have _ := hlz.lt; have _ := hl.len; have _ := hl.small; have _ := hl1.len; have _ := hl1.lt; have _ := Par.must_len m1; have _ := hl2.len; have _ := hl2.lt; exact And.intro (by omega) (by omega))) (WO.nil ?_)))
   exact ⟨k, (Nat.lt_succ_self _), l2, i2, y2, w2, (nz + 1), (.bool true), (.bool true), ⟨by rw [hs]; simp [Par.severalL, hi, c1, m1, m2], (by have _ := hlz.len; have _ := hlz.lt; have _ := hl.len; have _ := hl.small; have _ := hl1.len; have _ := hl1.lt; have _ := Par.must_len m1; have _ := hl2.len; have _ := hl2.lt; omega), hl2, (by have _ := hlz.len; have _ := hlz.lt; have _ := hl.len; have _ := hl.small; have _ := hl1.len; have _ := hl1.lt; have _ := Par.must_len m1; have _ := hl2.len; have _ := hl2.lt; omega), (by have _ := hlz.len; have _ := hlz.lt; have _ := hl.len; have _ := hl.small; have _ := hl1.len; have _ := hl1.lt; have _ := Par.must_len m1; have _ := hl2.len; have _ := hl2.lt; omega), hsz2⟩, by kernel_rfl, st⟩
  ·replace c1 : nz = 0 := by omega
   refine WO.nil (WP.cond (t := false) rfl (WP.skip (WP.reg (WO.callvO rfl rfl (hone xz wz st hlz hszz) (fun e a h hm st => ?_) ?_))))
   ·exact Outc.pan (by rw [hs]; simp [Par.severalL, hm, hi, c1]) st
   rintro y3 l3 _ h i3 m3 hl3 ⟨hlt3, hsz3, w3, st⟩
   refine WO.nil (WP.reg (WO.valS (v := .int .i64 ((nz + 1 : Nat) : Int)) (L.addE rfl rfl (by omega) (by have _ := hlz.len; have _ := hlz.lt; have _ := hl.len; have _ := hl.small; have _ := hl3.len; have _ := hl3.lt; exact And.intro (by omega) (by omega))) (WO.nil ?_)))
   exact ⟨k, (Nat.lt_succ_self _), l3, i3, y3, w3, (nz + 1), (.bool true), (.bool false), ⟨by rw [hs]; simp [Par.severalL, hi, c1, m3], (by have _ := hlz.len; have _ := hlz.lt; have _ := hl.len; have _ := hl.small; have _ := hl3.len; have _ := hl3.lt; omega), hl3, (by have _ := hlz.len; have _ := hlz.lt; have _ := hl.len; have _ := hl.small; have _ := hl3.len; have _ := hl3.lt; omega), (by have _ := hlz.len; have _ := hlz.lt; have _ := hl.len; have _ := hl.small; have _ := hl3.len; have _ := hl3.lt; omega), hsz3⟩, by kernel_rfl, st⟩
def parmI (p : RP) (rv pb : Nat) (row : V → List V) (r : Nat) {α : Type} (rows : α → List (List V)) (x : α) (w : Nat × V) : List Fact := [.box rv [.ptr p.rb 0], .box pb (row w.2), .acc w.1 r w.2 (rows x)]
theorem parm_c (D : HasF c) {p : RP} {d rv pb at_ : Nat} {nm : List UInt8} {fs : List Fact} {h : Heap} {i : Nat} {l : List Tok} (x : List Pm) (w : Nat × V) (st : St (p.box i d :: p.toks :: (parmI p rv pb (fun v => [L.str nm, v, .bool false, L.str [], L.str [], .slN, .slN, .int .i64 (at_ : Int)]) 3 (fun x : List Pm => x.map Pm.row) x w ++ fs)) h) (hl : Left p i l) (hx : x.length ≤ i) :
  RunR c 51 [.ptr rv 0, .ptr pb 0] h (Outc p 83 (Par.parm x l) (fun y i1 v h1 => i < i1 ∧ y.length ≤ i1 ∧ ∃ w, St (p.box i1 d :: p.toks :: (parmI p rv pb (fun v => [L.str nm, v, .bool false, L.str [], L.str [], .slN, .slN, .int .i64 (at_ : Int)]) 3 (fun x : List Pm => x.map Pm.row) y w ++ fs)) h1) (St fs)) := by
 refine RunR.fun_ D.f51 rfl (WP.seq (WP.draw (WD.val (v := .ptr p.rb 0) (L.loadB rfl (st.box_at 2 rfl) rfl) (WD.val (v := .ptr p.rb 0) (L.loadB rfl (st.box_at 2 rfl) rfl) (WD.boxFS st L.alloc (fun qb h st => ?_))))))
 refine WD.callF rfl (now_h D ((st.pick 2 rfl).pick 2 rfl) hl) (fun _ h hp => ?_) ?_
 ·obtain ⟨rfl, st⟩ := hp
  exact stills_cons (by first | exact still_rd (L.loadB rfl (st.box_at 0 rfl) rfl) | exact still_box st 0 rfl | exact still_rd (L.loadnB rfl (st.box_at 0 rfl) rfl rfl rfl) | exact still_rd (L.loadB rfl (st.box_at 2 rfl) rfl) | exact still_box st 2 rfl | exact still_rd (L.loadnB rfl (st.box_at 2 rfl) rfl rfl rfl) | exact still_rd (L.loadB rfl (st.box_at 3 rfl) rfl) | exact still_box st 3 rfl | exact still_rd (L.loadnB rfl (st.box_at 3 rfl) rfl rfl rfl) | exact still_rd (L.loadB rfl (st.box_at 4 rfl) rfl) | exact still_box st 4 rfl | exact still_rd (L.loadnB rfl (st.box_at 4 rfl) rfl rfl rfl)) (stills_cons (by first | exact still_rd (L.loadB rfl (st.box_at 0 rfl) rfl) | exact still_box st 0 rfl | exact still_rd (L.loadnB rfl (st.box_at 0 rfl) rfl rfl rfl) | exact still_rd (L.loadB rfl (st.box_at 2 rfl) rfl) | exact still_box st 2 rfl | exact still_rd (L.loadnB rfl (st.box_at 2 rfl) rfl rfl rfl) | exact still_rd (L.loadB rfl (st.box_at 3 rfl) rfl) | exact still_box st 3 rfl | exact still_rd (L.loadnB rfl (st.box_at 3 rfl) rfl rfl rfl) | exact still_rd (L.loadB rfl (st.box_at 4 rfl) rfl) | exact still_box st 4 rfl | exact still_rd (L.loadnB rfl (st.box_at 4 rfl) rfl rfl rfl)) (stills_nil _ _))
 rintro _ h ⟨rfl, st⟩
 refine WD.val (v := .int .i64 (Par.here l : Int)) rfl (WD.callO rfl (name_c D st hl) (fun e a h hm st => ?_) (fun _ _ h _ hp => ?_) ?_)
 ·exact Outc.pan (by simp [Par.parm, hm]) (st.tail.tail.tail.tail)
 ·obtain ⟨rfl, st⟩ := hp
  exact stills_cons (by first | exact still_rd (L.loadB rfl (st.box_at 0 rfl) rfl) | exact still_box st 0 rfl | exact still_rd (L.loadnB rfl (st.box_at 0 rfl) rfl rfl rfl) | exact still_rd (L.loadB rfl (st.box_at 2 rfl) rfl) | exact still_box st 2 rfl | exact still_rd (L.loadnB rfl (st.box_at 2 rfl) rfl rfl rfl) | exact still_rd (L.loadB rfl (st.box_at 3 rfl) rfl) | exact still_box st 3 rfl | exact still_rd (L.loadnB rfl (st.box_at 3 rfl) rfl rfl rfl) | exact still_rd (L.loadB rfl (st.box_at 4 rfl) rfl) | exact still_box st 4 rfl | exact still_rd (L.loadnB rfl (st.box_at 4 rfl) rfl rfl rfl)) (stills_nil _ _)
 rintro a1 l1 _ h i1 m1 hl1 ⟨rfl, st⟩
 refine WD.val (v := .agg [L.str a1, .str 0 0, .int .i64 (Par.here l : Int)]) (L.build rfl) (WD.storeF (row' := [L.str a1, .str 0 0, .int .i64 (Par.here l : Int)]) st 2 rfl rfl rfl rfl rfl rfl rfl (fun h st => rfl) (fun h st => ?_))
 refine WD.nil (WP.seq (WP.reg (WO.val (v := .ptr p.rb 0) (L.loadB rfl (st.box_at 3 rfl) rfl) (WO.callO rfl (must_c (s := [58]) D st hl1) (fun e a h hm st => ?_) ?_))))
 ·exact Outc.pan (by simp [Par.parm, hm, m1]) (st.tail.tail.tail.tail)
 rintro a2 l2 _ h i2 m2 hl2 ⟨rfl, st⟩
 refine WO.nil (WP.seq (WP.reg (WO.val (v := .ptr p.rb 0) (L.loadB rfl (st.box_at 3 rfl) rfl) (WO.callO rfl (name_c D st hl2) (fun e a h hm st => ?_) ?_))))
 ·exact Outc.pan (by simp [Par.parm, hm, m1, m2]) (st.tail.tail.tail.tail)
 rintro a3 l3 _ h i3 m3 hl3 ⟨rfl, st⟩
 refine WO.val (v := .ptr qb 1) (L.faddr rfl) (WO.storeF (row' := [L.str a1, L.str a3, .int .i64 (Par.here l : Int)]) st 2 rfl rfl rfl rfl rfl rfl rfl (fun h st => ?_))
 refine WO.nil (WP.reg (WO.val (v := .ptr pb 1) (L.faddr rfl) (WO.val (v := w.2) (L.loadB rfl (st.box_at 4 rfl) rfl) (WO.val (v := .agg [L.str a1, L.str a3, .int .i64 (Par.here l : Int)]) (L.loadnB rfl (st.box_at 2 rfl) rfl rfl rfl) (WO.bslF (rows := [[L.str a1, L.str a3, .int .i64 (Par.here l : Int)]]) st rfl (by decide) rfl (by simp) (fun bs1 h st => ?_))))))
 refine WO.appF st 6 rfl rfl rfl (st.stb_at 0 rfl) (by decide) (by have := hl.lt; have := hl.small; simp; omega) (fun f4 v4 h st => ?_)
 rw [show (x.map Pm.row) ++ [[L.str a1, L.str a3, V.int .i64 (Par.here l : Int)]] = (x ++ [Pm.mk a1 a3 (Par.here l)]).map Pm.row from by simp [Pm.row]] at st
 obtain ⟨ab4, rfl⟩ := (st.acc_at 6 rfl).ne (by simp)
 refine WO.val (v := .ptr pb 1) (L.faddr rfl) (WO.storeF (row' := [L.str nm, .sl ab4 0 (((x ++ [Pm.mk a1 a3 (Par.here l)]).map Pm.row).length) none, .bool false, L.str [], L.str [], .slN, .slN, .int .i64 (at_ : Int)]) st 5 rfl rfl rfl rfl rfl rfl rfl (fun h st => ?_))
 refine WO.nil ?_
 exact ⟨_, (res_nil _ _), Outc.ok (x := x ++ [Pm.mk a1 a3 (Par.here l)]) (l := l3) (by simp [Par.parm, m1, m2, m3]) hl3 ⟨(by have _ := hl.len; have _ := hl.lt; have _ := Par.name_len m1; have _ := hl1.len; have _ := Par.must_len m2; have _ := hl2.len; have _ := Par.name_len m3; have _ := hl3.len; omega), (by have _ := hl.len; have _ := hl.lt; have _ := Par.name_len m1; have _ := hl1.len; have _ := Par.must_len m2; have _ := hl2.len; have _ := Par.name_len m3; have _ := hl3.len; simp; omega), (f4, .sl ab4 0 ((x ++ [Pm.mk a1 a3 (Par.here l)]).map Pm.row).length none), (st.tail.pick 2 rfl).tail⟩⟩
theorem use_c (D : HasF c) {p : RP} {d rv pb at_ : Nat} {nm rs pc : List UInt8} {vp : V} {has : Bool} {fs : List Fact} {h : Heap} {i : Nat} {l : List Tok} (x : List (List UInt8)) (w : Nat × V) (st : St (p.box i d :: p.toks :: (parmI p rv pb (fun v => [L.str nm, vp, .bool has, L.str rs, L.str pc, v, .slN, .int .i64 (at_ : Int)]) 1 (fun x : List (List UInt8) => x.map useRow) x w ++ fs)) h) (hl : Left p i l) (hx : x.length ≤ i) :
  RunR c 52 [.ptr pb 0, .ptr rv 0] h (Outc p 83 (Par.use x l) (fun y i1 v h1 => i < i1 ∧ y.length ≤ i1 ∧ ∃ w, St (p.box i1 d :: p.toks :: (parmI p rv pb (fun v => [L.str nm, vp, .bool has, L.str rs, L.str pc, v, .slN, .int .i64 (at_ : Int)]) 1 (fun x : List (List UInt8) => x.map useRow) y w ++ fs)) h1) (St fs)) := by
 refine RunR.fun_ D.f52 rfl (WP.draw (WD.val (v := .ptr pb 5) (L.faddr rfl) (WD.val (v := w.2) (L.loadB rfl (st.box_at 3 rfl) rfl) (WD.val (v := .ptr p.rb 0) (L.loadB rfl (st.box_at 2 rfl) rfl) (WD.callO rfl (name_c D st hl) (fun e a h hm st => ?_) (fun _ _ h _ hp => ?_) ?_)))))
 ·exact Outc.pan (by simp [Par.use, hm]) (st.tail.tail.tail)
 ·obtain ⟨rfl, st⟩ := hp
  exact stills_cons (by first | exact still_rd (L.loadB rfl (st.box_at 0 rfl) rfl) | exact still_box st 0 rfl | exact still_rd (L.loadnB rfl (st.box_at 0 rfl) rfl rfl rfl) | exact still_rd (L.loadB rfl (st.box_at 2 rfl) rfl) | exact still_box st 2 rfl | exact still_rd (L.loadnB rfl (st.box_at 2 rfl) rfl rfl rfl) | exact still_rd (L.loadB rfl (st.box_at 3 rfl) rfl) | exact still_box st 3 rfl | exact still_rd (L.loadnB rfl (st.box_at 3 rfl) rfl rfl rfl)) (stills_nil _ _)
 rintro a1 l1 _ h i1 m1 hl1 ⟨rfl, st⟩
 refine WD.bslF (rows := [[L.str a1]]) st rfl (by decide) rfl (by simp) (fun bs1 h _ st => ?_)
 refine WD.appF st 5 rfl rfl rfl (st.stb_at 0 rfl) (by decide) (by have := hl.lt; have := hl.small; simp; omega) (fun _ _ h st => rfl) (fun f2 v2 h st => ?_)
 rw [show (x.map useRow) ++ [[L.str a1]] = (x ++ [a1]).map useRow from by simp [useRow]] at st
 obtain ⟨ab2, rfl⟩ := (st.acc_at 5 rfl).ne (by simp)
 refine WD.val (v := .ptr pb 5) (L.faddr rfl) (WD.storeF (row' := [L.str nm, vp, .bool has, L.str rs, L.str pc, .sl ab2 0 (((x ++ [a1]).map useRow).length) none, .slN, .int .i64 (at_ : Int)]) st 4 rfl rfl rfl rfl rfl rfl rfl (fun h st => rfl) (fun h st => ?_))
 refine WD.nil ?_
 exact ⟨_, (res_nil _ _), Outc.ok (x := x ++ [a1]) (l := l1) (by simp [Par.use, m1]) hl1 ⟨(by have _ := hl.len; have _ := hl.lt; have _ := Par.name_len m1; have _ := hl1.len; omega), (by have _ := hl.len; have _ := hl.lt; have _ := Par.name_len m1; have _ := hl1.len; simp; omega), (f2, .sl ab2 0 ((x ++ [a1]).map useRow).length none), st.tail⟩⟩
theorem proc_c (D : HasF c) {fs : List Fact} {h : Heap} {p : RP} {i d : Nat} {l : List Tok} (st : St (p.box i d :: p.toks :: fs) h) (hl : Left p i l) (hd : d ≤ 40) :
  RunR c 41 [.ptr p.rb 0] h (Outc p 83 (Par.proc d l) (fun a i1 v h1 => ∃ row, v = .agg row ∧ row.length = 8 ∧ i < i1 ∧ St (.stb (fun h => PrR h a row) :: p.box i1 d :: p.toks :: fs) h1) (St fs)) := by
 refine RunR.fun_ D.f41 rfl (WP.seq (WP.reg (WO.boxFS st (L.box (l := [.ptr p.rb 0]) rfl rfl) (fun rv h st => ?_))))
 refine WO.boxFS st L.alloc (fun rb_ h st => ?_)
 refine WO.nil (WP.seq (WP.draw (WD.val (v := .ptr p.rb 0) (L.loadB rfl (st.box_at 1 rfl) rfl) (WD.val (v := .ptr p.rb 0) (L.loadB rfl (st.box_at 1 rfl) rfl) (WD.boxFS st L.alloc (fun pb h st => ?_))))))
 refine WD.callF rfl (now_h D ((st.pick 4 rfl).pick 4 rfl) hl) (fun _ h hp => ?_) ?_
 ·obtain ⟨rfl, st⟩ := hp
  exact stills_cons (by first | exact still_rd (L.loadB rfl (st.box_at 0 rfl) rfl) | exact still_box st 0 rfl | exact still_rd (L.loadnB rfl (st.box_at 0 rfl) rfl rfl rfl) | exact still_rd (L.loadB rfl (st.box_at 2 rfl) rfl) | exact still_box st 2 rfl | exact still_rd (L.loadnB rfl (st.box_at 2 rfl) rfl rfl rfl) | exact still_rd (L.loadB rfl (st.box_at 3 rfl) rfl) | exact still_box st 3 rfl | exact still_rd (L.loadnB rfl (st.box_at 3 rfl) rfl rfl rfl) | exact still_rd (L.loadB rfl (st.box_at 4 rfl) rfl) | exact still_box st 4 rfl | exact still_rd (L.loadnB rfl (st.box_at 4 rfl) rfl rfl rfl)) (stills_cons (by first | exact still_rd (L.loadB rfl (st.box_at 0 rfl) rfl) | exact still_box st 0 rfl | exact still_rd (L.loadnB rfl (st.box_at 0 rfl) rfl rfl rfl) | exact still_rd (L.loadB rfl (st.box_at 2 rfl) rfl) | exact still_box st 2 rfl | exact still_rd (L.loadnB rfl (st.box_at 2 rfl) rfl rfl rfl) | exact still_rd (L.loadB rfl (st.box_at 3 rfl) rfl) | exact still_box st 3 rfl | exact still_rd (L.loadnB rfl (st.box_at 3 rfl) rfl rfl rfl) | exact still_rd (L.loadB rfl (st.box_at 4 rfl) rfl) | exact still_box st 4 rfl | exact still_rd (L.loadnB rfl (st.box_at 4 rfl) rfl rfl rfl)) (stills_nil _ _))
 rintro _ h ⟨rfl, st⟩
 refine WD.val (v := .int .i64 (Par.here l : Int)) rfl (WD.callO rfl (name_c D st hl) (fun e a h hm st => ?_) (fun _ _ h _ hp => ?_) ?_)
 ·exact Outc.pan (by simp [Par.proc, Par.procB, hm]) (st.tail.tail.tail)
 ·obtain ⟨rfl, st⟩ := hp
  exact stills_cons (by first | exact still_rd (L.loadB rfl (st.box_at 0 rfl) rfl) | exact still_box st 0 rfl | exact still_rd (L.loadnB rfl (st.box_at 0 rfl) rfl rfl rfl) | exact still_rd (L.loadB rfl (st.box_at 2 rfl) rfl) | exact still_box st 2 rfl | exact still_rd (L.loadnB rfl (st.box_at 2 rfl) rfl rfl rfl) | exact still_rd (L.loadB rfl (st.box_at 3 rfl) rfl) | exact still_box st 3 rfl | exact still_rd (L.loadnB rfl (st.box_at 3 rfl) rfl rfl rfl) | exact still_rd (L.loadB rfl (st.box_at 4 rfl) rfl) | exact still_box st 4 rfl | exact still_rd (L.loadnB rfl (st.box_at 4 rfl) rfl rfl rfl)) (stills_nil _ _)
 rintro a1 l1 _ h i1 m1 hl1 ⟨rfl, st⟩
 refine WD.val (v := .agg [L.str a1, .slN, .bool false, .str 0 0, .str 0 0, .slN, .slN, .int .i64 (Par.here l : Int)]) (L.build rfl) (WD.storeF (row' := [L.str a1, .slN, .bool false, .str 0 0, .str 0 0, .slN, .slN, .int .i64 (Par.here l : Int)]) st 2 rfl rfl rfl rfl rfl rfl rfl (fun h st => rfl) (fun h st => ?_))
 refine WD.nil (WP.seq (WP.reg (WO.val (v := .ptr p.rb 0) (L.loadB rfl (st.box_at 4 rfl) rfl) (WO.callO rfl (must_c (s := [40]) D st hl1) (fun e a h hm st => ?_) ?_))))
 ·exact Outc.pan (by simp [Par.proc, Par.procB, hm, m1]) (st.tail.tail.tail)
 rintro a2 l2 _ h i2 m2 hl2 ⟨rfl, st⟩
 refine WO.nil (WP.seq (WP.reg (WO.val (v := .ptr p.rb 0) (L.loadB rfl (st.box_at 4 rfl) rfl) (WO.val (v := .fn 51 [] [.ptr rv 0, .ptr pb 0]) rfl ?_))))
 replace st : St (.acc 0 3 .slN (([] : List Pm).map Pm.row) :: (p.box i2 d) :: p.toks :: .box pb [L.str a1, .slN, .bool false, .str 0 0, .str 0 0, .slN, .slN, .int .i64 (Par.here l : Int)] :: .box rb_ [.str 0 0, .slN, .bool false, .str 0 0, .str 0 0, .slN, .slN, .int .i64 0] :: .box rv [.ptr p.rb 0] :: fs) h := st.acc0 3
 refine WO.callO rfl (several_c (I := parmI p rv pb (fun v => [L.str a1, v, .bool false, .str 0 0, .str 0 0, .slN, .slN, .int .i64 (Par.here l : Int)]) 3 (fun x : List Pm => x.map Pm.row)) (one := Par.parm) (sz := List.length) (fs := .box rb_ [.str 0 0, .slN, .bool false, .str 0 0, .str 0 0, .slN, .slN, .int .i64 0] :: fs) (e := [41]) D (fun x w st hl hx => parm_c (nm := a1) (at_ := Par.here l) D x w st hl hx) ([] : List Pm) (0, .slN) ((((st.pick 3 rfl).pick 5 rfl).pick 4 rfl).pick 4 rfl) hl2 (Nat.zero_le _)) (fun e a h hm st => ?_) ?_
 ·exact Outc.pan (by simp [Par.proc, Par.procB, hm, m1, m2]) (st.tail)
 rintro a3 l3 _ h i3 m3 hl3 ⟨hlt3, hsz3, ⟨f3, v3⟩, st⟩
 refine WO.nil (WP.seq (WP.seq (WP.reg (WO.val (v := .ptr p.rb 0) (L.loadB rfl (st.box_at 2 rfl) rfl) (WO.callFS rfl (may_c (s := [45, 62]) D st hl3) ?_)))))
 rintro _ h (⟨rfl, hi4, hl4, st⟩ | ⟨rfl, hi4, st⟩)
 ·replace st : St ((p.box (i3 + 1 : Nat) d) :: p.toks :: .box rv [.ptr p.rb 0] :: .box pb [L.str a1, v3, .bool false, .str 0 0, .str 0 0, .slN, .slN, .int .i64 (Par.here l : Int)] :: .acc f3 3 v3 (a3.map Pm.row) :: .box rb_ [.str 0 0, .slN, .bool false, .str 0 0, .str 0 0, .slN, .slN, .int .i64 0] :: fs) h := st
  refine WO.nil (WP.cond (t := true) rfl (WP.reg (WO.val (v := .ptr p.rb 0) (L.loadB rfl (st.box_at 2 rfl) rfl) (WO.callO rfl (name_c D st hl4) (fun e a h hm st => ?_) ?_))))
  ·exact Outc.pan (by simp [Par.proc, Par.procB, hm, m1, m2, m3, hi4]) (st.tail.tail.tail.tail)
  rintro a5 l5 _ h i5 m5 hl5 ⟨rfl, st⟩
  refine WO.val (v := .ptr pb 2) (L.faddr rfl) (WO.storeF (row' := [L.str a1, v3, .bool true, .str 0 0, .str 0 0, .slN, .slN, .int .i64 (Par.here l : Int)]) st 3 rfl rfl rfl rfl rfl rfl rfl (fun h st => ?_))
  refine WO.val (v := .ptr pb 3) (L.faddr rfl) (WO.storeF (row' := [L.str a1, v3, .bool true, L.str a5, .str 0 0, .slN, .slN, .int .i64 (Par.here l : Int)]) st 3 rfl rfl rfl rfl rfl rfl rfl (fun h st => ?_))
  refine WO.nil (WP.seq (WP.reg (WO.val (v := .ptr p.rb 0) (L.loadB rfl (st.box_at 2 rfl) rfl) (WO.callO rfl (must_c (s := [112, 99]) D st hl5) (fun e a h hm st => ?_) ?_))))
  ·exact Outc.pan (by simp [Par.proc, Par.procB, hm, m1, m2, m3, hi4, m5]) (st.tail.tail.tail.tail)
  rintro a6 l6 _ h i6 m6 hl6 ⟨rfl, st⟩
  refine WO.nil (WP.seq (WP.reg (WO.val (v := .ptr p.rb 0) (L.loadB rfl (st.box_at 2 rfl) rfl) (WO.callO rfl (name_c D st hl6) (fun e a h hm st => ?_) ?_))))
  ·exact Outc.pan (by simp [Par.proc, Par.procB, hm, m1, m2, m3, hi4, m5, m6]) (st.tail.tail.tail.tail)
  rintro a7 l7 _ h i7 m7 hl7 ⟨rfl, st⟩
  refine WO.val (v := .ptr pb 4) (L.faddr rfl) (WO.storeF (row' := [L.str a1, v3, .bool true, L.str a5, L.str a7, .slN, .slN, .int .i64 (Par.here l : Int)]) st 3 rfl rfl rfl rfl rfl rfl rfl (fun h st => ?_))
  refine WO.nil (WP.seq (WP.reg (WO.val (v := .ptr p.rb 0) (L.loadB rfl (st.box_at 2 rfl) rfl) (WO.callO rfl (must_c (s := [117, 115, 101, 115]) D st hl7) (fun e a h hm st => ?_) ?_))))
  ·exact Outc.pan (by simp [Par.proc, Par.procB, hm, m1, m2, m3, hi4, m5, m6, m7]) (st.tail.tail.tail.tail)
  rintro a8 l8 _ h i8 m8 hl8 ⟨rfl, st⟩
  refine WO.nil (WP.seq (WP.reg (WO.val (v := .ptr p.rb 0) (L.loadB rfl (st.box_at 2 rfl) rfl) (WO.callO rfl (must_c (s := [123]) D st hl8) (fun e a h hm st => ?_) ?_))))
  ·exact Outc.pan (by simp [Par.proc, Par.procB, hm, m1, m2, m3, hi4, m5, m6, m7, m8]) (st.tail.tail.tail.tail)
  rintro a9 l9 _ h i9 m9 hl9 ⟨rfl, st⟩
  refine WO.nil (WP.seq (WP.reg (WO.val (v := .ptr p.rb 0) (L.loadB rfl (st.box_at 2 rfl) rfl) (WO.val (v := .fn 52 [] [.ptr pb 0, .ptr rv 0]) rfl ?_))))
  replace st : St (.acc 0 1 .slN (([] : List (List UInt8)).map useRow) :: (p.box i9 d) :: p.toks :: .box rv [.ptr p.rb 0] :: .box pb [L.str a1, v3, .bool true, L.str a5, L.str a7, .slN, .slN, .int .i64 (Par.here l : Int)] :: .acc f3 3 v3 (a3.map Pm.row) :: .box rb_ [.str 0 0, .slN, .bool false, .str 0 0, .str 0 0, .slN, .slN, .int .i64 0] :: fs) h := st.acc0 1
  refine WO.callO rfl (several_c (I := parmI p rv pb (fun v => [L.str a1, v3, .bool true, L.str a5, L.str a7, v, .slN, .int .i64 (Par.here l : Int)]) 1 (fun x : List (List UInt8) => x.map useRow)) (one := Par.use) (sz := List.length) (fs := .acc f3 3 v3 (a3.map Pm.row) :: .box rb_ [.str 0 0, .slN, .bool false, .str 0 0, .str 0 0, .slN, .slN, .int .i64 0] :: fs) (e := [125]) D (fun x w st hl hx => use_c (nm := a1) (at_ := Par.here l) (vp := v3) (has := true) (rs := a5) (pc := a7) D x w st hl hx) ([] : List (List UInt8)) (0, .slN) ((((st.pick 4 rfl).pick 4 rfl).pick 4 rfl).pick 4 rfl) hl9 (Nat.zero_le _)) (fun e a h hm st => ?_) ?_
  ·exact Outc.pan (by simp [Par.proc, Par.procB, hm, m1, m2, m3, hi4, m5, m6, m7, m8, m9]) (st.tail.tail)
  rintro a10 l10 _ h i10 m10 hl10 ⟨hlt10, hsz10, ⟨f10, v10⟩, st⟩
  refine WO.nil (WP.seq (WP.reg (WO.val (v := .ptr p.rb 0) (L.loadB rfl (st.box_at 2 rfl) rfl) (WO.callO rfl (blk_c D st hl10 (by omega)) (fun e a h hm st => ?_) ?_))))
  ·exact Outc.pan (by simp [Par.proc, Par.procB, hm, m1, m2, m3, hi4, m5, m6, m7, m8, m9, m10]) (st.tail.tail.tail.tail.tail)
  rintro a11 l11 v11 h i11 m11 hl11 ⟨hlt11, hc11, st⟩
  refine WO.val (v := .ptr pb 6) (L.faddr rfl) (WO.storeF (row' := [L.str a1, v3, .bool true, L.str a5, L.str a7, v10, v11, .int .i64 (Par.here l : Int)]) st 4 rfl rfl hc11 rfl rfl rfl rfl (fun h st => ?_))
  refine WO.nil (WP.seq (WP.reg (WO.val (v := .agg [L.str a1, v3, .bool true, L.str a5, L.str a7, v10, v11, .int .i64 (Par.here l : Int)]) (L.loadnB rfl (st.box_at 4 rfl) rfl rfl rfl) (WO.storeF (row' := [L.str a1, v3, .bool true, L.str a5, L.str a7, v10, v11, .int .i64 (Par.here l : Int)]) st 7 rfl rfl rfl rfl rfl rfl rfl (fun h st => ?_)))))
  refine WO.nil (WP.ret ?_)
  have s1 : St (.stb (fun h => Rows 3 h v3 (a3.map Pm.row)) :: .acc f10 1 v10 (a10.map useRow) :: .stb (fun h => SmsR h v11 a11) :: p.box i11 d :: p.toks :: fs) h := ((((((st.pick 3 rfl).tail.pick 3 rfl).tail.pick 5 rfl).tail.pick 3 rfl).pick 4 rfl)).shut (by decide)
  have s2 : St (.stb (fun h => Rows 1 h v10 (a10.map useRow)) :: .stb (fun h => Rows 3 h v3 (a3.map Pm.row)) :: .stb (fun h => SmsR h v11 a11) :: p.box i11 d :: p.toks :: fs) h := (s1.pick 1 rfl).shut (by decide)
  exact ⟨_, (res_cons (res_cellA (l := [L.str a1, v3, .bool true, L.str a5, L.str a7, v10, v11, .int .i64 (Par.here l : Int)]) rfl (L.load_box (st.box_at 7 rfl) rfl rfl rfl)) (res_nil _ _)), Outc.ok (x := (Pr.mk a1 a3 true a5 a7 a10 a11 (Par.here l))) (l := l11) (by simp [Par.proc, Par.procB, m1, m2, m3, hi4, m5, m6, m7, m8, m9, m10, m11]) hl11 ⟨[L.str a1, v3, .bool true, L.str a5, L.str a7, v10, v11, .int .i64 (Par.here l : Int)], rfl, rfl, (by have _ := hl.len; have _ := hl.lt; have _ := hl.len; have _ := hl.lt; have _ := Par.name_len m1; have _ := hl1.len; have _ := Par.must_len m2; have _ := hl2.len; have _ := hlt3; have _ := hl3.len; have _ := hl3.lt; have _ := Par.is_pos hi4; have _ := List.length_tail (l := l3); have _ := hl4.len; have _ := Par.name_len m5; have _ := hl5.len; have _ := Par.must_len m6; have _ := hl6.len; have _ := Par.name_len m7; have _ := hl7.len; have _ := Par.must_len m8; have _ := hl8.len; have _ := Par.must_len m9; have _ := hl9.len; have _ := hlt10; have _ := hl10.len; have _ := hl10.lt; have _ := hl11.len; have _ := hlt11; omega), s2.and.and.imp0 (fun h hx => ⟨_, _, _, rfl, hx.1.2, hx.1.1, hx.2⟩)⟩⟩
 ·replace st : St ((p.box i3 d) :: p.toks :: .box rv [.ptr p.rb 0] :: .box pb [L.str a1, v3, .bool false, .str 0 0, .str 0 0, .slN, .slN, .int .i64 (Par.here l : Int)] :: .acc f3 3 v3 (a3.map Pm.row) :: .box rb_ [.str 0 0, .slN, .bool false, .str 0 0, .str 0 0, .slN, .slN, .int .i64 0] :: fs) h := st
  refine WO.nil (WP.cond (t := false) rfl (WP.skip (WP.seq (WP.reg (WO.val (v := .ptr p.rb 0) (L.loadB rfl (st.box_at 2 rfl) rfl) (WO.callO rfl (must_c (s := [112, 99]) D st hl3) (fun e a h hm st => ?_) ?_))))))
  ·exact Outc.pan (by simp [Par.proc, Par.procB, hm, m1, m2, m3, hi4]) (st.tail.tail.tail.tail)
  rintro a12 l12 _ h i12 m12 hl12 ⟨rfl, st⟩
  refine WO.nil (WP.seq (WP.reg (WO.val (v := .ptr p.rb 0) (L.loadB rfl (st.box_at 2 rfl) rfl) (WO.callO rfl (name_c D st hl12) (fun e a h hm st => ?_) ?_))))
  ·exact Outc.pan (by simp [Par.proc, Par.procB, hm, m1, m2, m3, hi4, m12]) (st.tail.tail.tail.tail)
  rintro a13 l13 _ h i13 m13 hl13 ⟨rfl, st⟩
  refine WO.val (v := .ptr pb 4) (L.faddr rfl) (WO.storeF (row' := [L.str a1, v3, .bool false, .str 0 0, L.str a13, .slN, .slN, .int .i64 (Par.here l : Int)]) st 3 rfl rfl rfl rfl rfl rfl rfl (fun h st => ?_))
  refine WO.nil (WP.seq (WP.reg (WO.val (v := .ptr p.rb 0) (L.loadB rfl (st.box_at 2 rfl) rfl) (WO.callO rfl (must_c (s := [117, 115, 101, 115]) D st hl13) (fun e a h hm st => ?_) ?_))))
  ·exact Outc.pan (by simp [Par.proc, Par.procB, hm, m1, m2, m3, hi4, m12, m13]) (st.tail.tail.tail.tail)
  rintro a14 l14 _ h i14 m14 hl14 ⟨rfl, st⟩
  refine WO.nil (WP.seq (WP.reg (WO.val (v := .ptr p.rb 0) (L.loadB rfl (st.box_at 2 rfl) rfl) (WO.callO rfl (must_c (s := [123]) D st hl14) (fun e a h hm st => ?_) ?_))))
  ·exact Outc.pan (by simp [Par.proc, Par.procB, hm, m1, m2, m3, hi4, m12, m13, m14]) (st.tail.tail.tail.tail)
  rintro a15 l15 _ h i15 m15 hl15 ⟨rfl, st⟩
  refine WO.nil (WP.seq (WP.reg (WO.val (v := .ptr p.rb 0) (L.loadB rfl (st.box_at 2 rfl) rfl) (WO.val (v := .fn 52 [] [.ptr pb 0, .ptr rv 0]) rfl ?_))))
  replace st : St (.acc 0 1 .slN (([] : List (List UInt8)).map useRow) :: (p.box i15 d) :: p.toks :: .box rv [.ptr p.rb 0] :: .box pb [L.str a1, v3, .bool false, .str 0 0, L.str a13, .slN, .slN, .int .i64 (Par.here l : Int)] :: .acc f3 3 v3 (a3.map Pm.row) :: .box rb_ [.str 0 0, .slN, .bool false, .str 0 0, .str 0 0, .slN, .slN, .int .i64 0] :: fs) h := st.acc0 1
  refine WO.callO rfl (several_c (I := parmI p rv pb (fun v => [L.str a1, v3, .bool false, .str 0 0, L.str a13, v, .slN, .int .i64 (Par.here l : Int)]) 1 (fun x : List (List UInt8) => x.map useRow)) (one := Par.use) (sz := List.length) (fs := .acc f3 3 v3 (a3.map Pm.row) :: .box rb_ [.str 0 0, .slN, .bool false, .str 0 0, .str 0 0, .slN, .slN, .int .i64 0] :: fs) (e := [125]) D (fun x w st hl hx => use_c (nm := a1) (at_ := Par.here l) (vp := v3) (has := false) (rs := []) (pc := a13) D x w st hl hx) ([] : List (List UInt8)) (0, .slN) ((((st.pick 4 rfl).pick 4 rfl).pick 4 rfl).pick 4 rfl) hl15 (Nat.zero_le _)) (fun e a h hm st => ?_) ?_
  ·exact Outc.pan (by simp [Par.proc, Par.procB, hm, m1, m2, m3, hi4, m12, m13, m14, m15]) (st.tail.tail)
  rintro a16 l16 _ h i16 m16 hl16 ⟨hlt16, hsz16, ⟨f16, v16⟩, st⟩
  refine WO.nil (WP.seq (WP.reg (WO.val (v := .ptr p.rb 0) (L.loadB rfl (st.box_at 2 rfl) rfl) (WO.callO rfl (blk_c D st hl16 (by omega)) (fun e a h hm st => ?_) ?_))))
  ·exact Outc.pan (by simp [Par.proc, Par.procB, hm, m1, m2, m3, hi4, m12, m13, m14, m15, m16]) (st.tail.tail.tail.tail.tail)
  rintro a17 l17 v17 h i17 m17 hl17 ⟨hlt17, hc17, st⟩
  refine WO.val (v := .ptr pb 6) (L.faddr rfl) (WO.storeF (row' := [L.str a1, v3, .bool false, .str 0 0, L.str a13, v16, v17, .int .i64 (Par.here l : Int)]) st 4 rfl rfl hc17 rfl rfl rfl rfl (fun h st => ?_))
  refine WO.nil (WP.seq (WP.reg (WO.val (v := .agg [L.str a1, v3, .bool false, .str 0 0, L.str a13, v16, v17, .int .i64 (Par.here l : Int)]) (L.loadnB rfl (st.box_at 4 rfl) rfl rfl rfl) (WO.storeF (row' := [L.str a1, v3, .bool false, .str 0 0, L.str a13, v16, v17, .int .i64 (Par.here l : Int)]) st 7 rfl rfl rfl rfl rfl rfl rfl (fun h st => ?_)))))
  refine WO.nil (WP.ret ?_)
  have s1 : St (.stb (fun h => Rows 3 h v3 (a3.map Pm.row)) :: .acc f16 1 v16 (a16.map useRow) :: .stb (fun h => SmsR h v17 a17) :: p.box i17 d :: p.toks :: fs) h := ((((((st.pick 3 rfl).tail.pick 3 rfl).tail.pick 5 rfl).tail.pick 3 rfl).pick 4 rfl)).shut (by decide)
  have s2 : St (.stb (fun h => Rows 1 h v16 (a16.map useRow)) :: .stb (fun h => Rows 3 h v3 (a3.map Pm.row)) :: .stb (fun h => SmsR h v17 a17) :: p.box i17 d :: p.toks :: fs) h := (s1.pick 1 rfl).shut (by decide)
  exact ⟨_, (res_cons (res_cellA (l := [L.str a1, v3, .bool false, .str 0 0, L.str a13, v16, v17, .int .i64 (Par.here l : Int)]) rfl (L.load_box (st.box_at 7 rfl) rfl rfl rfl)) (res_nil _ _)), Outc.ok (x := (Pr.mk a1 a3 false ([]) a13 a16 a17 (Par.here l))) (l := l17) (by simp [Par.proc, Par.procB, m1, m2, m3, hi4, m12, m13, m14, m15, m16, m17]) hl17 ⟨[L.str a1, v3, .bool false, .str 0 0, L.str a13, v16, v17, .int .i64 (Par.here l : Int)], rfl, rfl, (by have _ := hl.len; have _ := hl.lt; have _ := hl.len; have _ := hl.lt; have _ := Par.name_len m1; have _ := hl1.len; have _ := Par.must_len m2; have _ := hl2.len; have _ := hlt3; have _ := hl3.len; have _ := hl3.lt; have _ := Par.must_len m12; have _ := hl12.len; have _ := Par.name_len m13; have _ := hl13.len; have _ := Par.must_len m14; have _ := hl14.len; have _ := Par.must_len m15; have _ := hl15.len; have _ := hlt16; have _ := hl16.len; have _ := hl16.lt; have _ := hl17.len; have _ := hlt17; omega), s2.and.and.imp0 (fun h hx => ⟨_, _, _, rfl, hx.1.2, hx.1.1, hx.2⟩)⟩⟩
theorem variable_c (D : HasF c) {fs : List Fact} {h : Heap} {p : RP} {i d : Nat} {l : List Tok} (st : St (p.box i d :: p.toks :: fs) h) (hl : Left p i l) :
  RunR c 40 [.ptr p.rb 0] h (Outc p 83 (Par.varD l) (fun a i1 v h1 => v = .agg (Vr.row a) ∧ i < i1 ∧ St (p.box i1 d :: p.toks :: fs) h1) (St fs)) := by
 refine RunR.fun_ D.f40 rfl (WP.seq (WP.reg (WO.boxFS st L.alloc (fun rb_ h st => ?_))))
 refine WO.nil (WP.seq (WP.reg (WO.callF rfl (now_h D ((st.pick 2 rfl).pick 2 rfl) hl) ?_)))
 rintro _ h ⟨rfl, st⟩
 refine WO.val (v := .int .i64 (Par.here l : Int)) rfl (WO.callO rfl (name_c D st hl) (fun e a h hm st => ?_) ?_)
 ·exact Outc.pan (by simp [Par.varD, Par.varE, hm]) (st.tail)
 rintro a1 l1 _ h i1 m1 hl1 ⟨rfl, st⟩
 refine WO.val (v := .agg [L.str a1, .str 0 0, .int .i64 0, .int .i64 (Par.here l : Int)]) (L.build rfl) (WO.boxFS st L.alloc (fun vb h st => ?_))
 refine WO.storeF (row' := [L.str a1, .str 0 0, .int .i64 0, .int .i64 (Par.here l : Int)]) st 0 rfl rfl rfl rfl rfl rfl rfl (fun h st => ?_)
 refine WO.nil (WP.seq (WP.reg (WO.callO rfl (must_c (s := [58]) D ((st.pick 2 rfl).pick 2 rfl) hl1) (fun e a h hm st => ?_) ?_)))
 ·exact Outc.pan (by simp [Par.varD, Par.varE, hm, m1]) (st.tail.tail)
 rintro a2 l2 _ h i2 m2 hl2 ⟨rfl, st⟩
 refine WO.nil (WP.seq (WP.reg (WO.callO rfl (name_c D st hl2) (fun e a h hm st => ?_) ?_)))
 ·exact Outc.pan (by simp [Par.varD, Par.varE, hm, m1, m2]) (st.tail.tail)
 rintro a3 l3 _ h i3 m3 hl3 ⟨rfl, st⟩
 refine WO.val (v := .ptr vb 1) (L.faddr rfl) (WO.storeF (row' := [L.str a1, L.str a3, .int .i64 0, .int .i64 (Par.here l : Int)]) st 2 rfl rfl rfl rfl rfl rfl rfl (fun h st => ?_))
 refine WO.nil (WP.seq (WP.reg (WO.callO rfl (must_c (s := [61]) D st hl3) (fun e a h hm st => ?_) ?_)))
 ·exact Outc.pan (by simp [Par.varD, Par.varE, hm, m1, m2, m3]) (st.tail.tail)
 rintro a4 l4 _ h i4 m4 hl4 ⟨rfl, st⟩
 refine WO.nil (WP.seq (WP.reg (WO.callFS rfl (may_c (s := [45]) D st hl4) ?_)))
 rintro _ h (⟨rfl, hi5, hl5, st⟩ | ⟨rfl, hi5, st⟩)
 ·replace st : St ((p.box (i4 + 1 : Nat) d) :: p.toks :: .box vb [L.str a1, L.str a3, .int .i64 0, .int .i64 (Par.here l : Int)] :: .box rb_ [.str 0 0, .str 0 0, .int .i64 0, .int .i64 0] :: fs) h := st
  refine WO.nil (WP.seq (WP.reg (WO.callO rfl (number_c D st hl5) (fun e a h hm st => ?_) ?_)))
  ·exact Outc.pan (by simp [Par.varD, Par.varE, hm, m1, m2, m3, m4, hi5]) (st.tail.tail)
  rintro a6 l6 _ h i6 m6 hl6 ⟨rfl, st⟩
  refine WO.val (v := .ptr vb 2) (L.faddr rfl) (WO.storeF (row' := [L.str a1, L.str a3, .int .i64 (a6 : Int), .int .i64 (Par.here l : Int)]) st 2 rfl rfl rfl rfl rfl rfl rfl (fun h st => ?_))
  refine WO.nil (WP.seq (WP.seq (WP.reg (WO.valS (v := .bool true) rfl (WO.nil (WP.cond (t := true) rfl (WP.reg (WO.val (v := .ptr vb 2) (L.faddr rfl) (WO.val (v := .int .i64 (a6 : Int)) (L.loadB rfl (st.box_at 2 rfl) rfl) ?_)))))))))
  have hnb := Par.number_lt hl5 m6
  refine WO.val (v := .int .i64 (-(a6 : Int))) (L.neg64 rfl rfl (And.intro (by omega) (by omega))) (WO.val (v := .ptr vb 2) (L.faddr rfl) (WO.storeF (row' := [L.str a1, L.str a3, .int .i64 (-(a6 : Int)), .int .i64 (Par.here l : Int)]) st 2 rfl rfl rfl rfl rfl rfl rfl (fun h st => ?_)))
  refine WO.nil (WP.seq (WP.reg (WO.callO rfl (must_c (s := [59]) D st hl6) (fun e a h hm st => ?_) ?_)))
  ·exact Outc.pan (by simp [Par.varD, Par.varE, hm, m1, m2, m3, m4, hi5, m6]) (st.tail.tail)
  rintro a7 l7 _ h i7 m7 hl7 ⟨rfl, st⟩
  refine WO.nil (WP.seq (WP.reg (WO.val (v := .agg [L.str a1, L.str a3, .int .i64 (-(a6 : Int)), .int .i64 (Par.here l : Int)]) (L.loadnB rfl (st.box_at 2 rfl) rfl rfl rfl) (WO.storeF (row' := [L.str a1, L.str a3, .int .i64 (-(a6 : Int)), .int .i64 (Par.here l : Int)]) st 3 rfl rfl rfl rfl rfl rfl rfl (fun h st => ?_)))))
  refine WO.nil (WP.ret ?_)
  exact ⟨_, (res_cons (res_cellA (l := [L.str a1, L.str a3, .int .i64 (-(a6 : Int)), .int .i64 (Par.here l : Int)]) rfl (L.load_box (st.box_at 3 rfl) rfl rfl rfl)) (res_nil _ _)), Outc.ok (x := Vr.mk a1 a3 (-(a6 : Int)) (Par.here l)) (l := l7) (by simp [Par.varD, Par.varE, m1, m2, m3, m4, hi5, m6, m7]) hl7 ⟨rfl, (by have _ := hl.len; have _ := hl.lt; have _ := Par.name_len m1; have _ := hl1.len; have _ := Par.must_len m2; have _ := hl2.len; have _ := Par.name_len m3; have _ := hl3.len; have _ := Par.must_len m4; have _ := hl4.len; have _ := Par.is_pos hi5; have _ := List.length_tail (l := l4); have _ := hl5.len; have _ := Par.number_len m6; have _ := hl6.len; have _ := Par.must_len m7; have _ := hl7.len; omega), ((st.pick 2 rfl).tail.pick 2 rfl).tail⟩⟩
 ·replace st : St ((p.box i4 d) :: p.toks :: .box vb [L.str a1, L.str a3, .int .i64 0, .int .i64 (Par.here l : Int)] :: .box rb_ [.str 0 0, .str 0 0, .int .i64 0, .int .i64 0] :: fs) h := st
  refine WO.nil (WP.seq (WP.reg (WO.callO rfl (number_c D st hl4) (fun e a h hm st => ?_) ?_)))
  ·exact Outc.pan (by simp [Par.varD, Par.varE, hm, m1, m2, m3, m4, hi5]) (st.tail.tail)
  rintro a8 l8 _ h i8 m8 hl8 ⟨rfl, st⟩
  refine WO.val (v := .ptr vb 2) (L.faddr rfl) (WO.storeF (row' := [L.str a1, L.str a3, .int .i64 (a8 : Int), .int .i64 (Par.here l : Int)]) st 2 rfl rfl rfl rfl rfl rfl rfl (fun h st => ?_))
  refine WO.nil (WP.seq (WP.seq (WP.reg (WO.valS (v := .bool false) rfl (WO.nil (WP.cond (t := false) rfl (WP.skip (WP.seq (WP.reg (WO.callO rfl (must_c (s := [59]) D st hl8) (fun e a h hm st => ?_) ?_))))))))))
  ·exact Outc.pan (by simp [Par.varD, Par.varE, hm, m1, m2, m3, m4, hi5, m8]) (st.tail.tail)
  rintro a9 l9 _ h i9 m9 hl9 ⟨rfl, st⟩
  refine WO.nil (WP.seq (WP.reg (WO.val (v := .agg [L.str a1, L.str a3, .int .i64 (a8 : Int), .int .i64 (Par.here l : Int)]) (L.loadnB rfl (st.box_at 2 rfl) rfl rfl rfl) (WO.storeF (row' := [L.str a1, L.str a3, .int .i64 (a8 : Int), .int .i64 (Par.here l : Int)]) st 3 rfl rfl rfl rfl rfl rfl rfl (fun h st => ?_)))))
  refine WO.nil (WP.ret ?_)
  exact ⟨_, (res_cons (res_cellA (l := [L.str a1, L.str a3, .int .i64 (a8 : Int), .int .i64 (Par.here l : Int)]) rfl (L.load_box (st.box_at 3 rfl) rfl rfl rfl)) (res_nil _ _)), Outc.ok (x := Vr.mk a1 a3 (a8 : Int) (Par.here l)) (l := l9) (by simp [Par.varD, Par.varE, m1, m2, m3, m4, hi5, m8, m9]) hl9 ⟨rfl, (by have _ := hl.len; have _ := hl.lt; have _ := Par.name_len m1; have _ := hl1.len; have _ := Par.must_len m2; have _ := hl2.len; have _ := Par.name_len m3; have _ := hl3.len; have _ := Par.must_len m4; have _ := hl4.len; have _ := Par.number_len m8; have _ := hl8.len; have _ := Par.must_len m9; have _ := hl9.len; omega), ((st.pick 2 rfl).tail.pick 2 rfl).tail⟩⟩
theorem module_c (D : HasF c) {fs : List Fact} {h : Heap} {p : RP} {i d : Nat} {l : List Tok} (st : St (p.box i d :: p.toks :: fs) h) (hl : Left p i l) (hd : d ≤ 40) :
  RunR c 23 [.ptr p.rb 0] h (Outc p 83 (Par.modul d l) (fun a i1 v h1 => ∃ row, v = .agg row ∧ row.length = 5 ∧ St (.stb (fun h => MdR h a row) :: p.box i1 d :: p.toks :: fs) h1) (St fs)) := by
 refine RunR.fun_ D.f23 rfl (WP.seq (WP.reg (WO.boxFS st L.alloc (fun rb_ h st => ?_))))
 refine WO.nil (WP.seq (WP.reg (WO.callO rfl (must_c (s := [109, 111, 100, 117, 108, 101]) D ((st.pick 2 rfl).pick 2 rfl) hl) (fun e a h hm st => ?_) ?_)))
 ·exact Outc.pan (by simp [Par.modul, hm]) (st.tail)
 rintro a1 l1 _ h i1 m1 hl1 ⟨rfl, st⟩
 refine WO.nil (WP.seq (WP.reg (WO.callF rfl (now_h D st hl1) ?_)))
 rintro _ h ⟨rfl, st⟩
 refine WO.val (v := .int .i64 (Par.here l1 : Int)) rfl (WO.callO rfl (name_c D st hl1) (fun e a h hm st => ?_) ?_)
 ·exact Outc.pan (by simp [Par.modul, hm, m1]) (st.tail)
 rintro a2 l2 _ h i2 m2 hl2 ⟨rfl, st⟩
 refine WO.val (v := .agg [L.str a2, .int .i64 (Par.here l1 : Int), .slN, .slN, .slN]) (L.build rfl) (WO.boxFS st L.alloc (fun mb h st => ?_))
 refine WO.storeF (row' := [L.str a2, .int .i64 (Par.here l1 : Int), .slN, .slN, .slN]) st 0 rfl rfl rfl rfl rfl rfl rfl (fun h st => ?_)
 refine WO.nil (WP.seq (WP.reg (WO.callO rfl (must_c (s := [59]) D ((st.pick 2 rfl).pick 2 rfl) hl2) (fun e a h hm st => ?_) ?_)))
 ·exact Outc.pan (by simp [Par.modul, hm, m1, m2]) (st.tail.tail)
 rintro a3 l3 _ h i3 m3 hl3 ⟨rfl, st⟩
 refine WO.nil (WP.seq (WP.block ?_))
 replace st : St (.acc 0 2 .slN (([] : List Im).map Im.row) :: (p.box i3 d) :: p.toks :: .box mb [L.str a2, .int .i64 (Par.here l1 : Int), .slN, .slN, .slN] :: .box rb_ [.str 0 0, .int .i64 0, .slN, .slN, .slN] :: fs) h := st.acc0 2
 refine WP.loopG (α := Nat) (fun k env h => ∃ lz iz xz fz vz x2, (Par.impsL l3.length l3 [] = Par.impsL k lz xz ∧ lz.length ≤ k ∧ Left p iz lz ∧ xz.length ≤ iz) ∧ env = argsP [.ptr p.rb 0, .ptr rb_ 0, x2, .ptr mb 0] 0 Env.nil ∧ St (.box mb [L.str a2, .int .i64 (Par.here l1 : Int), vz, .slN, .slN] :: .acc fz 2 vz (xz.map Im.row) :: .box rb_ [.str 0 0, .int .i64 0, .slN, .slN, .slN] :: (p.box iz d) :: p.toks :: fs) h) (fun k => k) l3.length ?_ ?_
 ·exact ⟨l3, i3, [], 0, .slN, .bot, ⟨rfl, Nat.le_refl _, hl3, Nat.zero_le _⟩, by kernel_rfl, (((st.pick 4 rfl).pick 1 rfl).pick 4 rfl)⟩
 rintro k _ h ⟨lz, iz, xz, fz, vz, x2, ⟨hs, hk, hlz, hxz⟩, rfl, st⟩
 have hlp := List.length_pos_iff.2 hlz.ne
 obtain ⟨k, rfl⟩ : ∃ m, k = m + 1 := ⟨k - 1, by omega⟩
 refine WP.seq (WP.seq (WP.reg (WO.callFS rfl (may_c (s := [105, 109, 112, 111, 114, 116]) D ((st.pick 4 rfl).pick 4 rfl) hlz) ?_)))
 rintro _ h (⟨rfl, hi4, hl4, st⟩ | ⟨rfl, hi4, st⟩)
 ·replace st : St ((p.box (iz + 1 : Nat) d) :: p.toks :: .box mb [L.str a2, .int .i64 (Par.here l1 : Int), vz, .slN, .slN] :: .acc fz 2 vz (xz.map Im.row) :: .box rb_ [.str 0 0, .int .i64 0, .slN, .slN, .slN] :: fs) h := st
  refine WO.nil (WP.cond (t := true) rfl (WP.skip (WP.block (WP.seq (WP.draw (WD.val (v := .ptr mb 2) (L.faddr rfl) (WD.val (v := vz) (L.loadB rfl (st.box_at 2 rfl) rfl) (WD.val (v := .ptr p.rb 0) rfl (WD.val (v := .ptr p.rb 0) rfl (WD.callF rfl (now_h D st hl4) (fun _ h hp => ?_) ?_))))))))))
  ·obtain ⟨rfl, st⟩ := hp
   exact stills_cons (by first | exact still_rd (L.loadB rfl (st.box_at 0 rfl) rfl) | exact still_box st 0 rfl | exact still_rd (L.loadnB rfl (st.box_at 0 rfl) rfl rfl rfl) | exact still_rd (L.loadB rfl (st.box_at 2 rfl) rfl) | exact still_box st 2 rfl | exact still_rd (L.loadnB rfl (st.box_at 2 rfl) rfl rfl rfl) | exact still_rd (L.loadB rfl (st.box_at 4 rfl) rfl) | exact still_box st 4 rfl | exact still_rd (L.loadnB rfl (st.box_at 4 rfl) rfl rfl rfl)) (stills_nil _ _)
  rintro _ h ⟨rfl, st⟩
  refine WD.val (v := .int .i64 (Par.here lz.tail : Int)) rfl (WD.callO rfl (name_c D st hl4) (fun e a h hm st => ?_) (fun _ _ h _ hp => ?_) ?_)
  ·exact Outc.pan (by simp [Par.modul, Par.impsL, hm, m1, m2, m3, hs, hi4]) (st.tail.tail.tail)
  ·obtain ⟨rfl, st⟩ := hp
   exact stills_cons (by first | exact still_rd (L.loadB rfl (st.box_at 0 rfl) rfl) | exact still_box st 0 rfl | exact still_rd (L.loadnB rfl (st.box_at 0 rfl) rfl rfl rfl) | exact still_rd (L.loadB rfl (st.box_at 2 rfl) rfl) | exact still_box st 2 rfl | exact still_rd (L.loadnB rfl (st.box_at 2 rfl) rfl rfl rfl) | exact still_rd (L.loadB rfl (st.box_at 4 rfl) rfl) | exact still_box st 4 rfl | exact still_rd (L.loadnB rfl (st.box_at 4 rfl) rfl rfl rfl)) (stills_nil _ _)
  rintro a5 l5 _ h i5 m5 hl5 ⟨rfl, st⟩
  refine WD.val (v := .agg [L.str a5, .int .i64 (Par.here lz.tail : Int)]) (L.build rfl) (WD.bslF (rows := [[L.str a5, .int .i64 (Par.here lz.tail : Int)]]) st rfl (by decide) rfl (by simp) (fun bs1 h _ st => ?_))
  refine WD.appF st 4 rfl rfl rfl (st.stb_at 0 rfl) (by decide) (by have := hlz.small; have := hlz.lt; simp; omega) (fun _ _ h st => rfl) (fun f6 v6 h st => ?_)
  rw [show (xz.map Im.row) ++ [[L.str a5, V.int .i64 (Par.here lz.tail : Int)]] = (xz ++ [Im.mk a5 (Par.here lz.tail)]).map Im.row from by simp [Im.row]] at st
  obtain ⟨ab6, rfl⟩ := (st.acc_at 4 rfl).ne (by simp)
  refine WD.val (v := .ptr mb 2) (L.faddr rfl) (WD.storeF (row' := [L.str a2, .int .i64 (Par.here l1 : Int), .sl ab6 0 (((xz ++ [Im.mk a5 (Par.here lz.tail)]).map Im.row).length) none, .slN, .slN]) st 3 rfl rfl rfl rfl rfl rfl rfl (fun h st => rfl) (fun h st => ?_))
  refine WD.nil (WP.reg (WO.callO rfl (must_c (s := [59]) D ((st.pick 2 rfl).pick 2 rfl) hl5) (fun e a h hm st => ?_) ?_))
  ·exact Outc.pan (by simp [Par.modul, Par.impsL, hm, m1, m2, m3, hs, hi4, m5]) (st.tail.tail.tail.tail)
  rintro a7 l7 _ h i7 m7 hl7 ⟨rfl, st⟩
  refine WO.nil ?_
  exact ⟨k, (Nat.lt_succ_self _), l7, i7, (xz ++ [Im.mk a5 (Par.here lz.tail)]), f6, (.sl ab6 0 ((xz ++ [Im.mk a5 (Par.here lz.tail)]).map Im.row).length none), (.bool true), ⟨by rw [hs]; simp [Par.impsL, hi4, m5, m7], (by have _ := hlz.len; have _ := hlz.lt; have _ := Par.is_pos hi4; have _ := List.length_tail (l := lz); have _ := hl4.len; have _ := Par.name_len m5; have _ := hl5.len; have _ := Par.must_len m7; have _ := hl7.len; omega), hl7, (by have _ := hlz.len; have _ := hlz.lt; have _ := Par.is_pos hi4; have _ := List.length_tail (l := lz); have _ := hl4.len; have _ := Par.name_len m5; have _ := hl5.len; have _ := Par.must_len m7; have _ := hl7.len; simp; omega)⟩, by kernel_rfl, ((((st.pick 2 rfl).tail.pick 4 rfl).pick 4 rfl).pick 4 rfl)⟩
 ·replace st : St ((p.box iz d) :: p.toks :: .box mb [L.str a2, .int .i64 (Par.here l1 : Int), vz, .slN, .slN] :: .acc fz 2 vz (xz.map Im.row) :: .box rb_ [.str 0 0, .int .i64 0, .slN, .slN, .slN] :: fs) h := st
  refine WO.nil (WP.cond (t := false) rfl (WP.exit (WP.seq (WP.block ?_))))
  replace st : St (.acc 0 4 .slN (([] : List Vr).map Vr.row) :: (p.box iz d) :: p.toks :: .box mb [L.str a2, .int .i64 (Par.here l1 : Int), vz, .slN, .slN] :: .acc fz 2 vz (xz.map Im.row) :: .box rb_ [.str 0 0, .int .i64 0, .slN, .slN, .slN] :: fs) h := st.acc0 4
  replace st : St (.acc 0 8 .slN ([]) :: .acc 0 4 .slN (([] : List Vr).map Vr.row) :: (p.box iz d) :: p.toks :: .box mb [L.str a2, .int .i64 (Par.here l1 : Int), vz, .slN, .slN] :: .acc fz 2 vz (xz.map Im.row) :: .box rb_ [.str 0 0, .int .i64 0, .slN, .slN, .slN] :: fs) h := st.acc0 8
  replace st : St (.stb (fun h => PrRows h ([]) ([])) :: .acc 0 8 .slN ([]) :: .acc 0 4 .slN (([] : List Vr).map Vr.row) :: (p.box iz d) :: p.toks :: .box mb [L.str a2, .int .i64 (Par.here l1 : Int), vz, .slN, .slN] :: .acc fz 2 vz (xz.map Im.row) :: .box rb_ [.str 0 0, .int .i64 0, .slN, .slN, .slN] :: fs) h := (St.pure st (Q := True) trivial).imp0 (Q := fun h => PrRows h [] []) (fun _ _ => PrRows.nil)
  refine WP.loopG (α := Nat) (fun g env h => ∃ ly iy vsy psy rsy fv vv fp vp x4 x5, (Par.declsL d lz.length lz [] [] = Par.declsL d g ly vsy psy ∧ ly.length ≤ g ∧ Left p iy ly ∧ vsy.length ≤ iy ∧ rsy.length ≤ iy) ∧ env = argsP [.ptr p.rb 0, .ptr rb_ 0, .bool false, .ptr mb 0, x4, x5] 0 Env.nil ∧ St (.box mb [L.str a2, .int .i64 (Par.here l1 : Int), vz, vv, vp] :: .acc fz 2 vz (xz.map Im.row) :: .acc fv 4 vv (vsy.map Vr.row) :: .acc fp 8 vp rsy :: .stb (fun h => PrRows h psy rsy) :: .box rb_ [.str 0 0, .int .i64 0, .slN, .slN, .slN] :: (p.box iy d) :: p.toks :: fs) h) (fun g => g) lz.length ?_ ?_
  ·exact ⟨lz, iz, [], [], [], 0, .slN, 0, .slN, .bot, .bot, ⟨rfl, Nat.le_refl _, hlz, Nat.zero_le _, Nat.zero_le _⟩, by kernel_rfl, ((((((st.pick 7 rfl).pick 1 rfl).pick 2 rfl).pick 3 rfl).pick 7 rfl).pick 7 rfl)⟩
  rintro g _ h ⟨ly, iy, vsy, psy, rsy, fv, vv, fp, vp, x4, x5, ⟨ht, hg, hly, hvy, hry⟩, rfl, st⟩
  have hlp2 := List.length_pos_iff.2 hly.ne
  obtain ⟨g, rfl⟩ : ∃ m, g = m + 1 := ⟨g - 1, by omega⟩
  refine WP.seq (WP.seq (WP.reg (WO.callF rfl (now_h D ((st.pick 7 rfl).pick 7 rfl) hly) ?_)))
  rintro _ h ⟨rfl, st⟩
  refine WO.val (v := .int .i64 ((Par.hd ly).kind : Int)) rfl (WO.ifS (L.neq rfl rfl) (fun c1 => ?_) (fun c1 => ?_))
  ·replace c1 : (Par.hd ly).kind ≠ 0 := by omega
   refine WO.nil (WP.cond (t := true) rfl (WP.skip (WP.block (WP.seq (WP.reg (WO.callFS rfl (may_c (s := [118, 97, 114]) D st hly) ?_))))))
   rintro _ h (⟨rfl, hi8, hl8, st⟩ | ⟨rfl, hi8, st⟩)
   ·replace st : St ((p.box (iy + 1 : Nat) d) :: p.toks :: .box mb [L.str a2, .int .i64 (Par.here l1 : Int), vz, vv, vp] :: .acc fz 2 vz (xz.map Im.row) :: .acc fv 4 vv (vsy.map Vr.row) :: .acc fp 8 vp rsy :: .stb (fun h => PrRows h psy rsy) :: .box rb_ [.str 0 0, .int .i64 0, .slN, .slN, .slN] :: fs) h := st
    refine WO.nil (WP.cond (t := true) rfl (WP.draw (WD.val (v := .ptr mb 3) (L.faddr rfl) (WD.val (v := vv) (L.loadB rfl (st.box_at 2 rfl) rfl) (WD.val (v := .ptr p.rb 0) rfl (WD.callO rfl (variable_c D st hl8) (fun e a h hm st => ?_) (fun _ _ h _ hp => ?_) ?_))))))
    ·exact Outc.pan (by simp [Par.modul, Par.impsL, Par.declsL, hm, m1, m2, m3, hs, hi4, ht, c1, hi8]) (st.tail.tail.tail.tail.tail.tail)
    ·obtain ⟨rfl, hlt9, st⟩ := hp
     exact stills_cons (by first | exact still_rd (L.loadB rfl (st.box_at 0 rfl) rfl) | exact still_box st 0 rfl | exact still_rd (L.loadnB rfl (st.box_at 0 rfl) rfl rfl rfl) | exact still_rd (L.loadB rfl (st.box_at 2 rfl) rfl) | exact still_box st 2 rfl | exact still_rd (L.loadnB rfl (st.box_at 2 rfl) rfl rfl rfl) | exact still_rd (L.loadB rfl (st.box_at 7 rfl) rfl) | exact still_box st 7 rfl | exact still_rd (L.loadnB rfl (st.box_at 7 rfl) rfl rfl rfl)) (stills_nil _ _)
    rintro a9 l9 _ h i9 m9 hl9 ⟨rfl, hlt9, st⟩
    refine WD.bslF (rows := [[L.str a9.name, L.str a9.label, .int .i64 a9.init, .int .i64 (a9.at_ : Int)]]) st rfl (by decide) rfl (by simp) (fun bs2 h _ st => ?_)
    refine WD.appF st 5 rfl rfl rfl (st.stb_at 0 rfl) (by decide) (by have := hly.small; have := hly.lt; simp; omega) (fun _ _ h st => rfl) (fun f10 v10 h st => ?_)
    rw [show (vsy.map Vr.row) ++ [[L.str a9.name, L.str a9.label, V.int .i64 a9.init, V.int .i64 (a9.at_ : Int)]] = (vsy ++ [a9]).map Vr.row from by simp [Vr.row]] at st
    obtain ⟨ab10, rfl⟩ := (st.acc_at 5 rfl).ne (by simp)
    refine WD.val (v := .ptr mb 3) (L.faddr rfl) (WD.storeF (row' := [L.str a2, .int .i64 (Par.here l1 : Int), vz, .sl ab10 0 (((vsy ++ [a9]).map Vr.row).length) none, vp]) st 3 rfl rfl rfl rfl rfl rfl rfl (fun h st => rfl) (fun h st => ?_))
    refine WD.nil ?_
    exact ⟨g, (Nat.lt_succ_self _), l9, i9, (vsy ++ [a9]), psy, rsy, f10, (.sl ab10 0 ((vsy ++ [a9]).map Vr.row).length none), fp, vp, (.bool true), (.bool true), ⟨by rw [ht]; simp [Par.declsL, c1, hi8, m9], (by have _ := hly.len; have _ := hly.lt; have _ := Par.is_pos hi8; have _ := List.length_tail (l := ly); have _ := hl8.len; have _ := hl9.len; have _ := hlt9; omega), hl9, (by have _ := hly.len; have _ := hly.lt; have _ := Par.is_pos hi8; have _ := List.length_tail (l := ly); have _ := hl8.len; have _ := hl9.len; have _ := hlt9; simp; omega), (by have _ := hly.len; have _ := hly.lt; have _ := Par.is_pos hi8; have _ := List.length_tail (l := ly); have _ := hl8.len; have _ := hl9.len; have _ := hlt9; simp; omega)⟩, by kernel_rfl, ((((((st.tail.pick 7 rfl).pick 7 rfl).pick 7 rfl).pick 7 rfl).pick 7 rfl).pick 7 rfl)⟩
   ·replace st : St ((p.box iy d) :: p.toks :: .box mb [L.str a2, .int .i64 (Par.here l1 : Int), vz, vv, vp] :: .acc fz 2 vz (xz.map Im.row) :: .acc fv 4 vv (vsy.map Vr.row) :: .acc fp 8 vp rsy :: .stb (fun h => PrRows h psy rsy) :: .box rb_ [.str 0 0, .int .i64 0, .slN, .slN, .slN] :: fs) h := st
    refine WO.nil (WP.cond (t := false) rfl (WP.seq (WP.reg (WO.callO rfl (must_c (s := [112, 114, 111, 99]) D st hly) (fun e a h hm st => ?_) ?_))))
    ·exact Outc.pan (by simp [Par.modul, Par.impsL, Par.declsL, hm, m1, m2, m3, hs, hi4, ht, c1, hi8]) (st.tail.tail.tail.tail.tail.tail)
    rintro a11 l11 _ h i11 m11 hl11 ⟨rfl, st⟩
    refine WO.nil (WP.draw (WD.val (v := .ptr mb 4) (L.faddr rfl) (WD.val (v := vp) (L.loadB rfl (st.box_at 2 rfl) rfl) (WD.val (v := .ptr p.rb 0) rfl (WD.callO rfl (proc_c D st hl11 hd) (fun e a h hm st => ?_) (fun _ _ h _ hp => ?_) ?_)))))
    ·exact Outc.pan (by simp [Par.modul, Par.impsL, Par.declsL, hm, m1, m2, m3, hs, hi4, ht, c1, hi8, m11]) (st.tail.tail.tail.tail.tail.tail)
    ·obtain ⟨row12, rfl, hr12, hlt12, st⟩ := hp
     exact stills_cons (by first | exact still_rd (L.loadB rfl (st.box_at 1 rfl) rfl) | exact still_box st 1 rfl | exact still_rd (L.loadnB rfl (st.box_at 1 rfl) rfl rfl rfl) | exact still_rd (L.loadB rfl (st.box_at 3 rfl) rfl) | exact still_box st 3 rfl | exact still_rd (L.loadnB rfl (st.box_at 3 rfl) rfl rfl rfl) | exact still_rd (L.loadB rfl (st.box_at 8 rfl) rfl) | exact still_box st 8 rfl | exact still_rd (L.loadnB rfl (st.box_at 8 rfl) rfl rfl rfl)) (stills_nil _ _)
    rintro a12 l12 _ h i12 m12 hl12 ⟨row12, rfl, hr12, hlt12, st⟩
    refine WD.bslF (rows := [row12]) st (fill_agg rfl hr12) (by decide) rfl (by simpa using hr12) (fun bs3 h _ st => ?_)
    refine WD.appF st 7 rfl rfl rfl (st.stb_at 0 rfl) (by decide) (by have := hly.small; have := hly.lt; simp; omega) (fun _ _ h st => rfl) (fun f13 v13 h st => ?_)
    obtain ⟨ab13, rfl⟩ := (st.acc_at 7 rfl).ne (by simp)
    replace st := ((((st.pick 8 rfl).pick 2 rfl)).and).imp0 (fun h hx => hx.2.snoc hx.1)
    refine WD.val (v := .ptr mb 4) (L.faddr rfl) (WD.storeF (row' := [L.str a2, .int .i64 (Par.here l1 : Int), vz, vv, .sl ab13 0 ((rsy ++ [row12]).length) none]) st 4 rfl rfl rfl rfl rfl rfl rfl (fun h st => rfl) (fun h st => ?_))
    refine WD.nil ?_
    exact ⟨g, (Nat.lt_succ_self _), l12, i12, vsy, (psy ++ [a12]), (rsy ++ [row12]), fv, vv, f13, (.sl ab13 0 (rsy ++ [row12]).length none), (.bool true), (.bool false), ⟨by rw [ht]; simp [Par.declsL, c1, hi8, m11, m12], (by have _ := hly.len; have _ := hly.lt; have _ := Par.must_len m11; have _ := hl11.len; have _ := hl12.len; have _ := hlt12; omega), hl12, (by have _ := hly.len; have _ := hly.lt; have _ := Par.must_len m11; have _ := hl11.len; have _ := hl12.len; have _ := hlt12; simp; omega), (by have _ := hly.len; have _ := hly.lt; have _ := Par.must_len m11; have _ := hl11.len; have _ := hl12.len; have _ := hlt12; simp; omega)⟩, by kernel_rfl, (((((((st.pick 1 rfl).tail.pick 7 rfl).pick 1 rfl).pick 7 rfl).pick 7 rfl).pick 7 rfl).pick 7 rfl)⟩
  ·replace c1 : (Par.hd ly).kind = 0 := by omega
   refine WO.nil (WP.cond (t := false) rfl (WP.exit (WP.seq (WP.reg (WO.val (v := .agg [L.str a2, .int .i64 (Par.here l1 : Int), vz, vv, vp]) (L.loadnB rfl (st.box_at 2 rfl) rfl rfl rfl) (WO.storeF (row' := [L.str a2, .int .i64 (Par.here l1 : Int), vz, vv, vp]) st 7 rfl rfl rfl rfl rfl rfl rfl (fun h st => ?_)))))))
   refine WO.nil (WP.ret ?_)
   have s1 : St (.stb (fun h => Rows 2 h vz (xz.map Im.row)) :: .acc fv 4 vv (vsy.map Vr.row) :: .acc fp 8 vp rsy :: .stb (fun h => PrRows h psy rsy) :: p.box iy d :: p.toks :: fs) h := (((((((st.pick 2 rfl).tail.pick 6 rfl).tail.pick 5 rfl).pick 5 rfl).pick 5 rfl).pick 5 rfl)).shut (by decide)
   have s2 : St (.stb (fun h => Rows 4 h vv (vsy.map Vr.row)) :: .stb (fun h => Rows 2 h vz (xz.map Im.row)) :: .acc fp 8 vp rsy :: .stb (fun h => PrRows h psy rsy) :: p.box iy d :: p.toks :: fs) h := (s1.pick 1 rfl).shut (by decide)
   have s3 : St (.stb (fun h => Rows 8 h vp rsy) :: .stb (fun h => Rows 4 h vv (vsy.map Vr.row)) :: .stb (fun h => Rows 2 h vz (xz.map Im.row)) :: .stb (fun h => PrRows h psy rsy) :: p.box iy d :: p.toks :: fs) h := (s2.pick 2 rfl).shut (by decide)
   exact ⟨_, (res_cons (res_cellA (l := [L.str a2, .int .i64 (Par.here l1 : Int), vz, vv, vp]) rfl (L.load_box (st.box_at 7 rfl) rfl rfl rfl)) (res_nil _ _)), Outc.ok (x := Md.mk a2 (Par.here l1) xz vsy psy) (l := ly) (by simp [Par.modul, Par.impsL, Par.declsL, m1, m2, m3, hs, hi4, ht, c1]) hly ⟨[L.str a2, .int .i64 (Par.here l1 : Int), vz, vv, vp], rfl, rfl, s3.and.and.and.imp0 (fun h hx => ⟨_, _, _, rfl, hx.1.2, hx.1.1.2, _, hx.1.1.1, hx.2⟩)⟩⟩
theorem labels_c (D : HasF c) {fs : List Fact} {h : Heap} {p : RP} {i d : Nat} {l : List Tok} (st : St (p.box i d :: p.toks :: fs) h) (hl : Left p i l) :
  RunR c 21 [.ptr p.rb 0] h (Outc p 83 (Par.labels l) (fun a i1 v h1 => v.asCells = some [v] ∧ St (.stb (fun h => Rows 3 h v (a.map Pm.row)) :: p.box i1 d :: p.toks :: fs) h1) (St fs)) := by
 refine RunR.fun_ D.f21 rfl (WP.seq (WP.reg (WO.valS (v := .slN) rfl (WO.nil (WP.seq (WP.reg (WO.callO rfl (must_c (s := [108, 97, 98, 101, 108, 115]) D st hl) (fun e a h hm st => ?_) ?_)))))))
 ·exact Outc.pan (by simp [Par.labels, hm]) (st)
 rintro a1 l1 _ h i1 m1 hl1 ⟨rfl, st⟩
 refine WO.nil (WP.seq (WP.reg (WO.valS (v := .slN) rfl (WO.nil (WP.seq (WP.block ?_))))))
 replace st : St (.acc 0 3 .slN (([] : List Pm).map Pm.row) :: (p.box i1 d) :: p.toks :: fs) h := st.acc0 3
 refine WP.loopG (α := Nat) (fun g env h => ∃ ly iy xy fy vy x2 x3 x4 x5 x7 x8 x9, (Par.labelsL l1.length l1 [] = Par.labelsL g ly xy ∧ ly.length ≤ g ∧ Left p iy ly ∧ xy.length ≤ iy) ∧ env = argsP [.ptr p.rb 0, .slN, x2, x3, x4, x5, vy, x7, x8, x9] 0 Env.nil ∧ St (.acc fy 3 vy (xy.map Pm.row) :: (p.box iy d) :: p.toks :: fs) h) (fun g => g) l1.length ?_ ?_
 ·exact ⟨l1, i1, [], 0, .slN, .bot, .bot, .bot, .bot, .bot, .bot, .bot, ⟨rfl, Nat.le_refl _, hl1, Nat.zero_le _⟩, by kernel_rfl, st⟩
 rintro g _ h ⟨ly, iy, xy, fy, vy, x2, x3, x4, x5, x7, x8, x9, ⟨ht, hg, hly, hxy⟩, rfl, st⟩
 have hlp2 := List.length_pos_iff.2 hly.ne
 obtain ⟨g, rfl⟩ : ∃ m, g = m + 1 := ⟨g - 1, by omega⟩
 refine WP.seq (WP.seq (WP.reg (WO.callF rfl (now_h D ((st.pick 2 rfl).pick 2 rfl) hly) ?_)))
 rintro _ h ⟨rfl, st⟩
 refine WO.val (v := .int .i64 ((Par.hd ly).kind : Int)) rfl (WO.ifS (L.neq rfl rfl) (fun c1 => ?_) (fun c1 => ?_))
 ·replace c1 : (Par.hd ly).kind ≠ 0 := by omega
  refine WO.nil (WP.cond (t := true) rfl (WP.skip (WP.block (WP.seq (WP.reg (WO.callF rfl (now_h D st hly) ?_))))))
  rintro _ h ⟨rfl, st⟩
  refine WO.val (v := .int .i64 (Par.here ly : Int)) rfl (WO.callO rfl (name_c D st hly) (fun e a h hm st => ?_) ?_)
  ·exact Outc.pan (by simp [Par.labels, Par.labelsL, hm, m1, ht, c1]) (st.tail)
  rintro a2 l2 _ h i2 m2 hl2 ⟨rfl, st⟩
  refine WO.valS (v := .int .i64 (Par.here ly : Int)) rfl (WO.valS (v := L.str a2) rfl (WO.nil (WP.seq (WP.reg (WO.valS (v := .bool true) rfl (WO.nil (WP.seq (WP.block (WP.loopG (α := Nat) (fun k env h => ∃ lz iz ls xz al fz vz x3 x5, (Par.rowL l2.length l2 a2 xy true = Par.rowL k lz ls xz al ∧ lz.length ≤ k ∧ Left p iz lz ∧ xz.length < iz ∧ iy < iz) ∧ env = argsP [.ptr p.rb 0, .slN, .bool true, x3, L.str ls, x5, vz, .bool al, x8, .int .i64 (Par.here ly : Int)] 0 Env.nil ∧ St (.acc fz 3 vz (xz.map Pm.row) :: (p.box iz d) :: p.toks :: fs) h) (fun k => k) l2.length ?_ ?_)))))))))
  ·exact ⟨l2, i2, a2, xy, true, fy, vy, x3, x5, ⟨rfl, Nat.le_refl _, hl2, (by have _ := hly.len; have _ := hly.lt; have _ := Par.name_len m2; have _ := hl2.len; omega), (by have _ := hly.len; have _ := hly.lt; have _ := Par.name_len m2; have _ := hl2.len; omega)⟩, by kernel_rfl, (st.pick 2 rfl)⟩
  rintro k _ h ⟨lz, iz, ls, xz, al, fz, vz, x3, x5, ⟨hs, hk, hlz, hxz, hiz⟩, rfl, st⟩
  have hlp := List.length_pos_iff.2 hlz.ne
  obtain ⟨k, rfl⟩ : ∃ m, k = m + 1 := ⟨k - 1, by omega⟩
  refine WP.seq (WP.seq (WP.reg (WO.callFS rfl (may_c (s := [60]) D ((st.pick 2 rfl).pick 2 rfl) hlz) ?_)))
  rintro _ h (⟨rfl, hi3, hl3, st⟩ | ⟨rfl, hi3, st⟩)
  ·replace st : St ((p.box (iz + 1 : Nat) d) :: p.toks :: .acc fz 3 vz (xz.map Pm.row) :: fs) h := st
   refine WO.nil (WP.cond (t := true) rfl (WP.skip (WP.block (WP.seq (WP.reg (WO.callF rfl (now_h D st hl3) ?_))))))
   rintro _ h ⟨rfl, st⟩
   refine WO.val (v := .int .i64 (Par.here lz.tail : Int)) rfl (WO.callO rfl (name_c D st hl3) (fun e a h hm st => ?_) ?_)
   ·exact Outc.pan (by simp [Par.labels, Par.labelsL, Par.rowL, hm, m1, ht, c1, m2, hs, hi3]) (st.tail)
   rintro a4 l4 _ h i4 m4 hl4 ⟨rfl, st⟩
   refine WO.val (v := .agg [L.str ls, L.str a4, .int .i64 (Par.here lz.tail : Int)]) (L.build rfl) (WO.boxFS st L.alloc (fun b1 h st => ?_))
   refine WO.storeF (row' := [L.str ls, L.str a4, .int .i64 (Par.here lz.tail : Int)]) st 0 rfl rfl rfl rfl rfl rfl rfl (fun h st => ?_)
   refine WO.nil (WP.seq (WP.reg (WO.val (v := .agg [L.str ls, L.str a4, .int .i64 (Par.here lz.tail : Int)]) (L.loadnB rfl (st.box_at 0 rfl) rfl rfl rfl) (WO.bslF (rows := [[L.str ls, L.str a4, .int .i64 (Par.here lz.tail : Int)]]) st rfl (by decide) rfl (by simp) (fun bs1 h st => ?_)))))
   refine WO.appFS st 4 rfl rfl rfl (st.stb_at 0 rfl) (by decide) (by have := hlz.small; have := hlz.lt; simp; omega) (fun f5 v5 h st => ?_)
   rw [show (xz.map Pm.row) ++ [[L.str ls, L.str a4, V.int .i64 (Par.here lz.tail : Int)]] = (xz ++ [Pm.mk ls a4 (Par.here lz.tail)]).map Pm.row from by simp [Pm.row]] at st
   obtain ⟨ab5, rfl⟩ := (st.acc_at 4 rfl).ne (by simp)
   refine WO.nil (WP.reg (WO.val (v := .ptr b1 1) (L.faddr rfl) (WO.valS (v := L.str a4) (L.loadB rfl (st.box_at 1 rfl) rfl) (WO.valS (v := .bool false) rfl (WO.nil ?_)))))
   exact ⟨k, (Nat.lt_succ_self _), l4, i4, a4, (xz ++ [Pm.mk ls a4 (Par.here lz.tail)]), false, f5, (.sl ab5 0 ((xz ++ [Pm.mk ls a4 (Par.here lz.tail)]).map Pm.row).length none), (.bool true), (.ptr b1 0), ⟨by rw [hs]; simp [Par.rowL, hi3, m4], (by have _ := hly.len; have _ := hly.lt; have _ := hlz.len; have _ := hlz.lt; have _ := Par.is_pos hi3; have _ := List.length_tail (l := lz); have _ := hl3.len; have _ := Par.name_len m4; have _ := hl4.len; omega), hl4, (by have _ := hly.len; have _ := hly.lt; have _ := hlz.len; have _ := hlz.lt; have _ := Par.is_pos hi3; have _ := List.length_tail (l := lz); have _ := hl3.len; have _ := Par.name_len m4; have _ := hl4.len; simp; omega), (by have _ := hly.len; have _ := hly.lt; have _ := hlz.len; have _ := hlz.lt; have _ := Par.is_pos hi3; have _ := List.length_tail (l := lz); have _ := hl3.len; have _ := Par.name_len m4; have _ := hl4.len; omega)⟩, by kernel_rfl, (st.tail.tail.pick 2 rfl)⟩
  ·replace st : St ((p.box iz d) :: p.toks :: .acc fz 3 vz (xz.map Pm.row) :: fs) h := st
   refine WO.nil (WP.cond (t := false) rfl (WP.exit (WP.seq (WP.seq (WP.reg ?_)))))
   cases al
   ·refine WO.valS (v := .bool false) rfl (WO.nil (WP.cond (t := false) rfl (WP.skip (WP.reg (WO.callO rfl (must_c (s := [59]) D st hlz) (fun e a h hm st => ?_) ?_)))))
    ·exact Outc.pan (by simp [Par.labels, Par.labelsL, Par.rowL, hm, m1, ht, c1, m2, hs, hi3]) (st.tail)
    rintro a6 l6 _ h i6 m6 hl6 ⟨rfl, st⟩
    refine WO.nil ?_
    exact ⟨g, (Nat.lt_succ_self _), l6, i6, xz, fz, vz, (.bool true), (.bool false), (L.str ls), x5, (.bool false), (.bool false), (.int .i64 (Par.here ly : Int)), ⟨by rw [ht]; simp [Par.labelsL, Par.rowL, c1, m2, hs, hi3, m6], (by have _ := hly.len; have _ := hly.lt; have _ := hlz.len; have _ := hlz.lt; have _ := Par.must_len m6; have _ := hl6.len; omega), hl6, (by have _ := hly.len; have _ := hly.lt; have _ := hlz.len; have _ := hlz.lt; have _ := Par.must_len m6; have _ := hl6.len; simp; omega)⟩, by kernel_rfl, (st.pick 2 rfl)⟩
   ·refine WO.valS (v := .bool true) rfl (WO.nil (WP.cond (t := true) rfl (WP.reg (WO.val (v := .agg [L.str ls, .str 0 0, .int .i64 (Par.here ly : Int)]) (L.build rfl) (WO.bslF (rows := [[L.str ls, .str 0 0, .int .i64 (Par.here ly : Int)]]) st rfl (by decide) rfl (by simp) (fun bs2 h st => ?_))))))
    refine WO.appFS st 3 rfl rfl rfl (st.stb_at 0 rfl) (by decide) (by have := hlz.small; have := hlz.lt; simp; omega) (fun f7 v7 h st => ?_)
    rw [show (xz.map Pm.row) ++ [[L.str ls, V.str 0 0, V.int .i64 (Par.here ly : Int)]] = (xz ++ [Pm.mk ls [] (Par.here ly)]).map Pm.row from by simp [Pm.row]; rfl] at st
    obtain ⟨ab7, rfl⟩ := (st.acc_at 3 rfl).ne (by simp)
    refine WO.nil (WP.reg (WO.callO rfl (must_c (s := [59]) D ((st.pick 2 rfl).pick 2 rfl) hlz) (fun e a h hm st => ?_) ?_))
    ·exact Outc.pan (by simp [Par.labels, Par.labelsL, Par.rowL, hm, m1, ht, c1, m2, hs, hi3]) (st.tail.tail)
    rintro a8 l8 _ h i8 m8 hl8 ⟨rfl, st⟩
    refine WO.nil ?_
    exact ⟨g, (Nat.lt_succ_self _), l8, i8, (xz ++ [Pm.mk ls [] (Par.here ly)]), f7, (.sl ab7 0 ((xz ++ [Pm.mk ls [] (Par.here ly)]).map Pm.row).length none), (.bool true), (.bool false), (L.str ls), x5, (.bool true), (.bool true), (.int .i64 (Par.here ly : Int)), ⟨by rw [ht]; simp [Par.labelsL, Par.rowL, c1, m2, hs, hi3, m8], (by have _ := hly.len; have _ := hly.lt; have _ := hlz.len; have _ := hlz.lt; have _ := Par.must_len m8; have _ := hl8.len; omega), hl8, (by have _ := hly.len; have _ := hly.lt; have _ := hlz.len; have _ := hlz.lt; have _ := Par.must_len m8; have _ := hl8.len; simp; omega)⟩, by kernel_rfl, ((st.pick 2 rfl).tail.pick 2 rfl)⟩
 ·replace c1 : (Par.hd ly).kind = 0 := by omega
  refine WO.nil (WP.cond (t := false) rfl (WP.exit (WP.seq (WP.reg (WO.valS (v := vy) rfl (WO.nil (WP.ret ?_)))))))
  have hac := (st.acc_at 2 rfl).cells
  exact ⟨_, (res_cons (res_tmp (v := vy) rfl) (res_nil _ _)), Outc.ok (x := xy) (l := ly) (by simp [Par.labels, Par.labelsL, Par.rowL, m1, ht, c1]) hly ⟨hac, ((st.pick 2 rfl)).shut (by decide)⟩⟩
end
end Go.Eng.YtjobofnpmmjeoaaDoor
