/- Part of a proof of a law, by an evaluator that the machine follows: rules, contracts of functions, what they come to. No condition of its own. -/
import Derived.Test.YtjgmahbgfbkhnaaConG
import Derived.Test.YtjgmahbgfbkhnaaSymI
set_option linter.unusedVariables false
set_option linter.unusedSimpArgs false
namespace Go.Eng.Ytjgmahbgfbkhnaa
open Go.Eng
noncomputable section
variable {c : Ctx}
structure HasG (c : Ctx) : Prop where
 f53 : T.get 53 c.funs = some i53
 f54 : T.get 54 c.funs = some i54
 r : HasR c
theorem turned_c (D : HasG c) {fs : List Fact} {h : Heap} {v : V} {n : Nat} {M : List (List Bool)} (hn : n < 4294967296) (sq : Sq n M) (st : St (.stb (fun h => BTab h v M) :: fs) h) :
  RunP c 54 [v] h fun v1 h1 => St (.stb (fun h => BTab h v1 (Lab.tr n M)) :: .stb (fun h => BTab h v M) :: fs) h1 := by
 refine RunP.fun_ D.f54 rfl (WP.seq (WP.reg (WO.valS (v := .slN) rfl (WO.nil (WP.seq (WP.reg (WO.valS (v := .slN) rfl (WO.nil (WP.seq (WP.seq (WP.reg (WO.valS (v := .int .i64 0) rfl (WO.nil (WP.block ?_))))))))))))))
 replace st : St (.stb (fun h => BRows h ([]) ([])) :: .acc 0 1 .slN (([] : List V).map fun x => [x]) :: .stb (fun h => BTab h v M) :: fs) h := (st.acc0 1).triv (P := fun h => BRows h [] []) fun _ => trivial
 refine WP.loopG (α := Nat) (fun i env h => ∃ fK vK ks x3 x4 x5 x6, (i ≤ n ∧ ks.length = i) ∧ env = argsP [v, .slN, .int .i64 (i : Int), x3, x4, x5, x6, vK] 0 Env.nil ∧ St (.stb (fun h => BRows h (Lab.trK n M i) ks) :: .acc fK 1 vK (ks.map fun x => [x]) :: .stb (fun h => BTab h v M) :: fs) h) (fun i => n - i) 0 ?_ ?_
 ·exact ⟨0, .slN, [], .bot, .bot, .bot, .bot, ⟨Nat.zero_le _, rfl⟩, by kernel_rfl, st⟩
 rintro i _ h ⟨fK, vK, ks, x3, x4, x5, x6, ⟨hi, hkl⟩, rfl, st⟩
 refine WP.seq (WP.seq (WP.reg (WO.val (v := .int .i64 (n : Int)) (L.llenBTn rfl (st.stb_at 2 rfl) sq.len) (WO.ifS (L.lss rfl rfl) (fun c1 => ?_) (fun c1 => ?_)))))
 ·replace c1 : i < n := by omega
  refine WO.nil (WP.cond (t := true) rfl (WP.skip (WP.seq (WP.block (WP.seq (WP.reg (WO.val (v := .int .i64 (n : Int)) (L.llenBTn rfl (st.stb_at 2 rfl) sq.len) (WO.mkslFS st rfl rfl (by decide) rfl (by omega) (fun cb h st => ?_)))))))))
  rw [rep_bv n (fun x => Lab.at2 M x i)] at st
  refine WO.nil (WP.seq (WP.seq (WP.reg (WO.valS (v := .int .i64 0) rfl (WO.nil (WP.block (WP.loopG (α := Nat) (fun k env h => ∃ x5, (k ≤ n) ∧ env = argsP [v, .slN, .int .i64 (i : Int), .bool true, .int .i64 (k : Int), x5, .sl cb 0 n (some n), vK] 0 Env.nil ∧ St (.cel cb 1 ((Lab.candS n (fun x => Lab.at2 M x i) k).map bv) :: .stb (fun h => BRows h (Lab.trK n M i) ks) :: .acc fK 1 vK (ks.map fun x => [x]) :: .stb (fun h => BTab h v M) :: fs) h) (fun k => n - k) 0 ?_ ?_)))))))
  ·exact ⟨x5, Nat.zero_le _, by kernel_rfl, st⟩
  rintro k _ h ⟨x5, hk, rfl, st⟩
  refine WP.seq (WP.seq (WP.reg (WO.val (v := .int .i64 (n : Int)) (L.llenBTn rfl (st.stb_at 3 rfl) sq.len) (WO.ifS (L.lss rfl rfl) (fun c2 => ?_) (fun c2 => ?_)))))
  ·replace c2 : k < n := by omega
   obtain ⟨u, r, hu1, hu2, hrl, hur⟩ := mat_row sq (st.stb_at 3 rfl) (show k < n by omega)
   refine WO.nil (WP.cond (t := true) rfl (WP.skip (WP.seq (WP.block (WP.reg (WO.val (v := .ptr (slB v) (slO v + k * 1)) (L.iaddrBT (st.stb_at 3 rfl) (by rw [sq.len]; omega) rfl rfl) (WO.val (v := u) (L.load rfl hu1) (WO.val (v := .ptr (slB u) (slO u + i * 1)) (L.iaddrZ hu2 (by rw [List.length_map]; omega) rfl rfl) (WO.val (v := .bool (Lab.at2 M k i)) (L.load rfl (bv_at hu2 (hur i (by omega)))) (WO.val (v := .ptr cb (0 + k * 1)) (L.iaddr rfl rfl (by omega)) (WO.storeCelF st rfl (show _ = some [V.bool ((fun x => Lab.at2 M x i) k)] from rfl) (by rw [List.length_map, Lab.candS_len]; omega) (fun h st => ?_))))))))))))
   rw [set_bv c2] at st
   refine WO.nil (WP.reg (WO.valS (v := .int .i64 ((k + 1 : Nat) : Int)) (L.addE rfl rfl (by omega) (And.intro (by omega) (by omega))) (WO.nil ?_)))
   exact ⟨k + 1, (by omega), (.bool true), by omega, by kernel_rfl, st⟩
  ·have ec2 : k = n := by omega
   rw [ec2] at st
   rw [ec2]
   replace st : St (.stb (fun h => Rows 1 h (.sl cb 0 n (some n)) ((Lab.candS n (fun x => Lab.at2 M x i) n).map bv)) :: .stb (fun h => BRows h (Lab.trK n M i) ks) :: .acc fK 1 vK (ks.map fun x => [x]) :: .stb (fun h => BTab h v M) :: fs) h := cel_bv (st) (Lab.candS_len _ _ _)
   refine WO.nil (WP.cond (t := false) rfl (WP.exit (WP.reg (WO.bslF (rows := [[.sl cb 0 n (some n)]]) st rfl (by decide) rfl (by simp) (fun cl1 h st => ?_)))))
   refine WO.appFS st 3 rfl rfl rfl (st.stb_at 0 rfl) (by decide) (by simp; omega) (fun fN vN h st => ?_)
   rw [show (ks.map fun x => [x]) ++ [[V.sl cb 0 n (some n)]] = (ks ++ [V.sl cb 0 n (some n)]).map fun x => [x] from by simp] at st
   replace st : St (.stb (fun h => BRows h (Lab.trK n M i ++ [Lab.candS n (fun x => Lab.at2 M x i) n]) (ks ++ [V.sl cb 0 n (some n)])) :: .stb (fun h => Rows 1 h (.sl cl1 0 1 (some 1)) [[.sl cb 0 n (some n)]]) :: .acc fN 1 vN ((ks ++ [V.sl cb 0 n (some n)]).map fun x => [x]) :: .stb (fun h => BTab h v M) :: fs) h := (((st.pick 2 rfl).pick 2 rfl)).and.imp0 fun h hx => hx.2.snoc hx.1
   refine WO.nil (WP.reg (WO.valS (v := .int .i64 ((i + 1 : Nat) : Int)) (L.addE rfl rfl (by omega) (And.intro (by omega) (by omega))) (WO.nil ?_)))
   rw [← Lab.trK_succ] at st
   exact ⟨i + 1, (by omega), fN, vN, (ks ++ [V.sl cb 0 n (some n)]), (.bool true), (.int .i64 (n : Int)), (.bool false), (.sl cb 0 n (some n)), ⟨by omega, by simp [hkl]⟩, by kernel_rfl, (st.pick 1 rfl).tail⟩
 ·have ec1 : i = n := by omega
  refine WO.nil (WP.cond (t := false) rfl (WP.exit (WP.seq (WP.reg (WO.valS (v := vK) rfl (WO.nil (WP.ret ?_)))))))
  rw [ec1, Lab.trK_all] at st
  exact ⟨_, (res_cons (res_tmp (v := vK) rfl) (res_nil _ _)), (((st.pick 1 rfl)).shut (by decide)).and.imp0 fun h hx => ⟨_, hx.1, hx.2⟩⟩
theorem joins_c (D : HasG c) {fs : List Fact} {h : Heap} {v : V} {n : Nat} {M : List (List Bool)} (hn : n < 4294967296) (sq : Sq n M) (st : St (.stb (fun h => BTab h v M) :: fs) h) :
  RunP c 53 [v] h fun v1 h1 => match Lab.okJ n M n with
   | true => ∃ vJ, v1 = .tup [vJ, .bool true] ∧ St (.stb (fun h => ITab h vJ (Lab.joinT n M n)) :: .stb (fun h => BTab h v M) :: fs) h1
   | false => v1 = .tup [.slN, .bool false] ∧ St (.stb (fun h => BTab h v M) :: fs) h1 := by
 refine RunP.fun_ D.f53 rfl (WP.seq (WP.reg (WO.valS (v := .slN) rfl (WO.valS (v := .bool false) rfl (WO.nil (WP.seq (WP.reg (WO.valS (v := .slN) rfl (WO.nil (WP.seq (WP.seq (WP.reg (WO.valS (v := .int .i64 0) rfl (WO.nil (WP.block ?_)))))))))))))))
 replace st : St (.stb (fun h => IRows h ([]) ([])) :: .acc 0 1 .slN (([] : List V).map fun x => [x]) :: .stb (fun h => BTab h v M) :: fs) h := (st.acc0 1).triv (P := fun h => IRows h [] []) fun _ => trivial
 refine WP.loopG (α := Nat) (fun a env h => ∃ fJ vJ js x1 x2 x4 x5 x6 x7 x8 x9 x10 x11 x12, (a ≤ n ∧ js.length = a ∧ Lab.okJ n M a = true) ∧ env = argsP [v, x1, x2, .int .i64 (a : Int), x4, x5, x6, x7, x8, x9, x10, x11, x12, vJ] 0 Env.nil ∧ St (.stb (fun h => IRows h (Lab.joinT n M a) js) :: .acc fJ 1 vJ (js.map fun x => [x]) :: .stb (fun h => BTab h v M) :: fs) h) (fun a => n - a) 0 ?_ ?_
 ·exact ⟨0, .slN, [], .slN, (.bool false), .bot, .bot, .bot, .bot, .bot, .bot, .bot, .bot, .bot, ⟨Nat.zero_le _, rfl, rfl⟩, by kernel_rfl, st⟩
 rintro a _ h ⟨fJ, vJ, js, x1, x2, x4, x5, x6, x7, x8, x9, x10, x11, x12, ⟨ha, hjl, hok⟩, rfl, st⟩
 refine WP.seq (WP.seq (WP.reg (WO.val (v := .int .i64 (n : Int)) (L.llenBTn rfl (st.stb_at 2 rfl) sq.len) (WO.ifS (L.lss rfl rfl) (fun c1 => ?_) (fun c1 => ?_)))))
 ·replace c1 : a < n := by omega
  refine WO.nil (WP.cond (t := true) rfl (WP.skip (WP.seq (WP.block (WP.seq (WP.reg (WO.valS (v := .slN) rfl (WO.nil (WP.seq (WP.seq (WP.reg (WO.valS (v := .int .i64 0) rfl (WO.nil (WP.block ?_))))))))))))))
  replace st : St (.acc 0 1 .slN (([] : List Nat).map iv) :: .stb (fun h => IRows h (Lab.joinT n M a) js) :: .acc fJ 1 vJ (js.map fun x => [x]) :: .stb (fun h => BTab h v M) :: fs) h := st.acc0 1
  refine WP.loopG (α := Nat) (fun b env h => ∃ fr vr x1 x2 x6 x7 x8 x9 x10 x11, (b ≤ n ∧ Lab.okJr n M a b = true) ∧ env = argsP [v, x1, x2, .int .i64 (a : Int), .bool true, .int .i64 (b : Int), x6, x7, x8, x9, x10, x11, vr, vJ] 0 Env.nil ∧ St (.acc fr 1 vr ((Lab.joinRow n M a b).map iv) :: .stb (fun h => IRows h (Lab.joinT n M a) js) :: .acc fJ 1 vJ (js.map fun x => [x]) :: .stb (fun h => BTab h v M) :: fs) h) (fun b => n - b) 0 ?_ ?_
  ·exact ⟨0, .slN, x1, x2, x6, x7, x8, x9, x10, x11, ⟨Nat.zero_le _, rfl⟩, by kernel_rfl, st⟩
  rintro b _ h ⟨fr, vr, x1, x2, x6, x7, x8, x9, x10, x11, ⟨hb, hokr⟩, rfl, st⟩
  refine WP.seq (WP.seq (WP.reg (WO.val (v := .int .i64 (n : Int)) (L.llenBTn rfl (st.stb_at 3 rfl) sq.len) (WO.ifS (L.lss rfl rfl) (fun c3 => ?_) (fun c3 => ?_)))))
  ·replace c3 : b < n := by omega
   refine WO.nil (WP.cond (t := true) rfl (WP.skip (WP.seq (WP.block (WP.seq (WP.reg (WO.val (v := .int .i64 (n : Int)) (L.llenBTn rfl (st.stb_at 3 rfl) sq.len) (WO.mkslFS st rfl rfl (by decide) rfl (by omega) (fun cb h st => ?_)))))))))
   rw [rep_bv n (fun x => Lab.at2 M a x && Lab.at2 M b x)] at st
   refine WO.nil (WP.seq (WP.seq (WP.reg (WO.valS (v := .int .i64 0) rfl (WO.nil (WP.block (WP.loopG (α := Nat) (fun k env h => ∃ x8, (k ≤ n) ∧ env = argsP [v, x1, x2, .int .i64 (a : Int), .bool true, .int .i64 (b : Int), .bool true, .int .i64 (k : Int), x8, .sl cb 0 n (some n), x10, x11, vr, vJ] 0 Env.nil ∧ St (.cel cb 1 ((Lab.candS n (fun x => Lab.at2 M a x && Lab.at2 M b x) k).map bv) :: .acc fr 1 vr ((Lab.joinRow n M a b).map iv) :: .stb (fun h => IRows h (Lab.joinT n M a) js) :: .acc fJ 1 vJ (js.map fun x => [x]) :: .stb (fun h => BTab h v M) :: fs) h) (fun k => n - k) 0 ?_ ?_)))))))
   ·exact ⟨x8, Nat.zero_le _, by kernel_rfl, st⟩
   rintro k _ h ⟨x8, hk, rfl, st⟩
   refine WP.seq (WP.seq (WP.reg (WO.val (v := .int .i64 (n : Int)) (L.llenBTn rfl (st.stb_at 4 rfl) sq.len) (WO.ifS (L.lss rfl rfl) (fun c2 => ?_) (fun c2 => ?_)))))
   ·replace c2 : k < n := by omega
    obtain ⟨u, r, hu1, hu2, hrl, hur⟩ := mat_row sq (st.stb_at 4 rfl) (show a < n by omega)
    obtain ⟨u2, r2, hw1, hw2, hrl2, hur2⟩ := mat_row sq (st.stb_at 4 rfl) (show b < n by omega)
    refine WO.nil (WP.cond (t := true) rfl (WP.skip (WP.seq (WP.block (WP.reg (WO.val (v := .ptr (slB v) (slO v + a * 1)) (L.iaddrBT (st.stb_at 4 rfl) (by rw [sq.len]; omega) rfl rfl) (WO.val (v := u) (L.load rfl hu1) (WO.val (v := .ptr (slB u) (slO u + k * 1)) (L.iaddrZ hu2 (by rw [List.length_map]; omega) rfl rfl) ?_))))))))
    rcases bool_or (Lab.at2 M a k) with hqa | hqa
    ·refine WO.val (v := .bool false) (L.load rfl (by rw [bv_at hu2 (hur k c2), hqa])) (WO.no rfl (WO.no rfl (WO.no rfl (WO.no rfl (WO.no rfl (WO.no rfl (WO.no rfl (WO.val (v := .bool false) rfl (WO.val (v := .ptr cb (0 + k * 1)) (L.iaddr rfl rfl (by omega)) (WO.storeCelF st rfl (show _ = some [V.bool ((fun x => Lab.at2 M a x && Lab.at2 M b x) k)] from by rw [show (fun x => Lab.at2 M a x && Lab.at2 M b x) k = false from by simp [hqa]]; rfl) (by rw [List.length_map, Lab.candS_len]; omega) (fun h st => ?_)))))))))))
     rw [set_bv c2] at st
     refine WO.nil (WP.reg (WO.valS (v := .int .i64 ((k + 1 : Nat) : Int)) (L.addE rfl rfl (by omega) (And.intro (by omega) (by omega))) (WO.nil ?_)))
     exact ⟨k + 1, (by omega), (.bool true), by omega, by kernel_rfl, st⟩
    ·refine WO.val (v := .bool true) (L.load rfl (by rw [bv_at hu2 (hur k c2), hqa])) (WO.yes rfl (WO.val (v := v) rfl (WO.yes rfl (WO.val (v := .int .i64 (b : Int)) rfl (WO.yes rfl (WO.val (v := .ptr (slB v) (slO v + b * 1)) (L.iaddrBT (st.stb_at 4 rfl) (by rw [sq.len]; omega) rfl rfl) (WO.yes rfl (WO.val (v := u2) (L.load rfl hw1) (WO.yes rfl (WO.val (v := .int .i64 (k : Int)) rfl (WO.yes rfl (WO.val (v := .ptr (slB u2) (slO u2 + k * 1)) (L.iaddrZ hw2 (by rw [List.length_map]; omega) rfl rfl) (WO.yes rfl (WO.val (v := .bool (Lab.at2 M b k)) (L.load rfl (bv_at hw2 (hur2 k c2))) (WO.val (v := .bool (Lab.at2 M b k)) rfl (WO.val (v := .ptr cb (0 + k * 1)) (L.iaddr rfl rfl (by omega)) (WO.storeCelF st rfl (show _ = some [V.bool ((fun x => Lab.at2 M a x && Lab.at2 M b x) k)] from by rw [show (fun x => Lab.at2 M a x && Lab.at2 M b x) k = Lab.at2 M b k from by simp [hqa]]; rfl) (by rw [List.length_map, Lab.candS_len]; omega) (fun h st => ?_))))))))))))))))))
     rw [set_bv c2] at st
     refine WO.nil (WP.reg (WO.valS (v := .int .i64 ((k + 1 : Nat) : Int)) (L.addE rfl rfl (by omega) (And.intro (by omega) (by omega))) (WO.nil ?_)))
     exact ⟨k + 1, (by omega), (.bool true), by omega, by kernel_rfl, st⟩
   ·have ec2 : k = n := by omega
    rw [ec2] at st
    rw [ec2]
    refine WO.nil (WP.cond (t := false) rfl (WP.exit (WP.seq (WP.reg ?_))))
    have hRc : Rows 1 h (.sl cb 0 n (some n)) ((Lab.candS n (fun x => Lab.at2 M a x && Lab.at2 M b x) n).map bv) := by have := st.celRows (cap := some n) 0 rfl; rw [List.length_map, Lab.candS_len] at this; exact this
    refine WO.callFS rfl (rleast_c D.r hn sq (st.stb_at 4 rfl) hRc (Lab.candS_len _ _ _) (fun k hk => Lab.candS_at hk)) ?_
    rintro _ _ ⟨rfl, rfl⟩
    rw [show Lab.least n (Lab.at2 M) (fun x => Lab.at2 M a x && Lab.at2 M b x) = Lab.join n M a b from rfl]
    cases hj : Lab.join n M a b with
    | none =>
     have ez : leastZ (none) = (-1) := rfl
     rw [ez]
     refine WO.nil (WP.seq (WP.seq (WP.reg (WO.ifS (L.lss rfl rfl) (fun _ => ?_) (fun c9 => by exfalso; omega)))))
     refine WO.nil (WP.cond (t := true) rfl (WP.seq (WP.reg (WO.valS (v := .slN) rfl (WO.valS (v := .bool false) rfl (WO.nil (WP.ret ?_)))))))
     rw [Lab.okJ_no (by omega) (by omega) hj]
     exact ⟨_, (res_cons (res_tmp (v := .slN) rfl) (res_cons (res_tmp (v := .bool false) rfl) (res_nil _ _))), rfl, st.tail.tail.tail.tail⟩
    | some jx =>
     have ez : leastZ (some jx) = (jx : Int) := rfl
     rw [ez]
     refine WO.nil (WP.seq (WP.seq (WP.reg (WO.ifS (L.lss rfl rfl) (fun c9 => by exfalso; omega) (fun _ => ?_)))))
     refine WO.nil (WP.cond (t := false) rfl (WP.skip (WP.reg (WO.bslF (rows := [[.int .i64 (jx : Int)]]) st rfl (by decide) rfl (by simp) (fun il1 h st => ?_)))))
     refine WO.appFS st 2 rfl rfl rfl (st.stb_at 0 rfl) (by decide) (by rw [List.length_map, Lab.joinRow_len]; simp only [List.length_cons, List.length_nil]; omega) (fun fN vN h st => ?_)
     have e1 := Lab.joinRow_succ n M a b
     rw [hj] at e1
     rw [show (Lab.joinRow n M a b).map iv ++ [[V.int .i64 (jx : Int)]] = (Lab.joinRow n M a (b + 1)).map iv from by rw [e1, List.map_append]; rfl] at st
     refine WO.nil (WP.reg (WO.valS (v := .int .i64 ((b + 1 : Nat) : Int)) (L.addE rfl rfl (by omega) (And.intro (by omega) (by omega))) (WO.nil ?_)))
     exact ⟨b + 1, (by omega), fN, vN, x1, x2, (.bool true), (.int .i64 (n : Int)), (.bool false), (.sl cb 0 n (some n)), (.int .i64 (jx : Int)), (.bool false), ⟨by omega, by rw [Lab.okJr_succ, hokr, hj]; rfl⟩, by kernel_rfl, st.tail.tail⟩
  ·have ec3 : b = n := by omega
   rw [ec3] at st hokr
   rw [ec3]
   have hcr := (st.acc_at 0 rfl).cells
   replace st : St (.stb (fun h => Rows 1 h vr ((Lab.joinRow n M a n).map iv)) :: .stb (fun h => IRows h (Lab.joinT n M a) js) :: .acc fJ 1 vJ (js.map fun x => [x]) :: .stb (fun h => BTab h v M) :: fs) h := (st).shut (by decide)
   refine WO.nil (WP.cond (t := false) rfl (WP.exit (WP.reg (WO.bslF (rows := [[vr]]) st (fill_one hcr) (by decide) rfl (by simp) (fun rl1 h st => ?_)))))
   refine WO.appFS st 3 rfl rfl rfl (st.stb_at 0 rfl) (by decide) (by simp; omega) (fun fN vN h st => ?_)
   rw [show (js.map fun x => [x]) ++ [[vr]] = (js ++ [vr]).map fun x => [x] from by simp] at st
   replace st : St (.stb (fun h => IRows h (Lab.joinT n M a ++ [Lab.joinRow n M a n]) (js ++ [vr])) :: .stb (fun h => Rows 1 h (.sl rl1 0 1 (some 1)) [[vr]]) :: .acc fN 1 vN ((js ++ [vr]).map fun x => [x]) :: .stb (fun h => BTab h v M) :: fs) h := (((st.pick 2 rfl).pick 2 rfl)).and.imp0 fun h hx => hx.2.snoc hx.1
   refine WO.nil (WP.reg (WO.valS (v := .int .i64 ((a + 1 : Nat) : Int)) (L.addE rfl rfl (by omega) (And.intro (by omega) (by omega))) (WO.nil ?_)))
   rw [← Lab.joinT_succ] at st
   exact ⟨a + 1, (by omega), fN, vN, (js ++ [vr]), x1, x2, (.bool true), (.int .i64 (n : Int)), (.bool false), x7, x8, x9, x10, x11, vr, ⟨by omega, by simp [hjl], by rw [Lab.okJ_succ, hok, hokr]; rfl⟩, by kernel_rfl, (st.pick 1 rfl).tail⟩
 ·have ec1 : a = n := by omega
  refine WO.nil (WP.cond (t := false) rfl (WP.exit (WP.seq (WP.reg (WO.valS (v := vJ) rfl (WO.valS (v := .bool true) rfl (WO.nil (WP.ret ?_))))))))
  rw [ec1] at st hok
  rw [hok]
  refine ⟨_, (res_cons (res_tmp (v := vJ) rfl) (res_cons (res_tmp (v := .bool true) rfl) (res_nil _ _))), _, rfl, ?_⟩
  exact (((st.pick 1 rfl)).shut (by decide)).and.imp0 fun h hx => ⟨_, hx.1, hx.2⟩
end
end Go.Eng.Ytjgmahbgfbkhnaa
namespace Go.Eng.Ytjgmahbgfbkhnaa
open Go.Eng
noncomputable section
variable {c : Ctx}
structure HasH (c : Ctx) : Prop where
 f28 : T.get 28 c.funs = some i28
 f30 : T.get 30 c.funs = some i30
 g : HasG c
theorem lattice_c (D : HasH c) {fs : List Fact} {h : Heap} {vn v : V} {n : Nat} {M : List (List Bool)} {NS : List Lab.Txt} (hn : n < 4294967296) (hNS : NS.length = n) (sq : Sq n M) (st : St (.stb (fun h => Rows 1 h vn (SR NS)) :: .stb (fun h => BTab h v M) :: fs) h) :
  RunP c 30 [vn, v] h fun v1 h1 => match Lab.okT n M n with
   | true => ∃ vJ vK, v1 = .tup [.agg [vn, v, vJ, vK, .int .i64 (Lab.loF n M n : Int), .int .i64 (Lab.hiF n M n : Int)], .bool true] ∧ St (.stb (fun h => ITab h vJ (Lab.joinT n M n)) :: .stb (fun h => ITab h vK (Lab.meetT n M n)) :: .stb (fun h => Rows 1 h vn (SR NS)) :: .stb (fun h => BTab h v M) :: fs) h1
   | false => v1 = .tup [.agg [.slN, .slN, .slN, .slN, .int .i64 0, .int .i64 0], .bool false] ∧ St (.stb (fun h => Rows 1 h vn (SR NS)) :: .stb (fun h => BTab h v M) :: fs) h1 := by
 refine RunP.fun_ D.f30 rfl (WP.seq (WP.reg (WO.boxFS st L.alloc (fun res h st => ?_))))
 refine WO.valS (v := .bool false) rfl (WO.nil (WP.seq (WP.reg (WO.valS (v := .int .i64 (n : Int)) (L.llenRn rfl (st.stb_at 1 rfl) (by rw [SR_len]; exact hNS)) (WO.nil (WP.seq (WP.seq (WP.reg (WO.valS (v := .int .i64 0) rfl (WO.nil (WP.block (WP.loopG (α := Nat) (fun a env h => ∃ x3 x6 x7 x8 x9, (a ≤ n ∧ Lab.antiP n M a) ∧ env = argsP [vn, v, .ptr res 0, x3, .int .i64 (a : Int), .int .i64 (n : Int), x6, x7, x8, x9] 0 Env.nil ∧ St (.box res [.slN, .slN, .slN, .slN, .int .i64 0, .int .i64 0] :: .stb (fun h => Rows 1 h vn (SR NS)) :: .stb (fun h => BTab h v M) :: fs) h) (fun a => n - a) 0 ?_ ?_))))))))))))
 ·exact ⟨(.bool false), .bot, .bot, .bot, .bot, ⟨Nat.zero_le _, fun x y hx => absurd hx (by omega)⟩, by kernel_rfl, st⟩
 rintro a _ h ⟨x3, x6, x7, x8, x9, ⟨ha, hp⟩, rfl, st⟩
 refine WP.seq (WP.seq (WP.reg (WO.ifS (L.lss rfl rfl) (fun c1 => ?_) (fun c1 => ?_))))
 ·replace c1 : a < n := by omega
  refine WO.nil (WP.cond (t := true) rfl (WP.skip (WP.seq (WP.block (WP.seq (WP.reg (WO.valS (v := .int .i64 0) rfl (WO.nil (WP.block (WP.loopG (α := Nat) (fun b env h => ∃ x3 x8 x9, (b ≤ n ∧ Lab.antiQ M a b) ∧ env = argsP [vn, v, .ptr res 0, x3, .int .i64 (a : Int), .int .i64 (n : Int), .bool true, .int .i64 (b : Int), x8, x9] 0 Env.nil ∧ St (.box res [.slN, .slN, .slN, .slN, .int .i64 0, .int .i64 0] :: .stb (fun h => Rows 1 h vn (SR NS)) :: .stb (fun h => BTab h v M) :: fs) h) (fun b => n - b) 0 ?_ ?_))))))))))
  ·exact ⟨x3, x8, x9, ⟨Nat.zero_le _, fun y hy => absurd hy (by omega)⟩, by kernel_rfl, st⟩
  rintro b _ h ⟨x3, x8, x9, ⟨hb, hq⟩, rfl, st⟩
  refine WP.seq (WP.seq (WP.reg (WO.ifS (L.lss rfl rfl) (fun c2 => ?_) (fun c2 => ?_))))
  ·replace c2 : b < n := by omega
   obtain ⟨u, r, hu1, hu2, hrl, hur⟩ := mat_row sq (st.stb_at 2 rfl) (show a < n by omega)
   obtain ⟨u2, r2, hw1, hw2, hrl2, hur2⟩ := mat_row sq (st.stb_at 2 rfl) (show b < n by omega)
   refine WO.nil (WP.cond (t := true) rfl (WP.skip (WP.seq (WP.block (WP.seq (WP.reg (WO.ifV (L.neq rfl rfl) (fun cn => ?_) (fun cn => ?_))))))))
   ·replace cn : a ≠ b := by omega
    refine WO.yes rfl (WO.val (v := v) rfl (WO.yes rfl (WO.val (v := .int .i64 (a : Int)) rfl (WO.yes rfl (WO.val (v := .ptr (slB v) (slO v + a * 1)) (L.iaddrBT (st.stb_at 2 rfl) (by rw [sq.len]; omega) rfl rfl) (WO.yes rfl (WO.val (v := u) (L.load rfl hu1) (WO.yes rfl (WO.val (v := .int .i64 (b : Int)) rfl (WO.yes rfl (WO.val (v := .ptr (slB u) (slO u + b * 1)) (L.iaddrZ hu2 (by rw [List.length_map]; omega) rfl rfl) (WO.yes rfl ?_))))))))))))
    rcases bool_or (Lab.at2 M a b) with hqa | hqa
    ·refine WO.val (v := .bool false) (L.load rfl (by rw [bv_at hu2 (hur b c2), hqa])) (WO.val (v := .bool false) rfl (WO.no rfl (WO.no rfl (WO.no rfl (WO.no rfl (WO.no rfl (WO.no rfl (WO.no rfl (WO.valS (v := .bool false) rfl (WO.nil (WP.cond (t := false) rfl (WP.skip (WP.reg (WO.valS (v := .int .i64 ((b + 1 : Nat) : Int)) (L.addE rfl rfl (by omega) (And.intro (by omega) (by omega))) (WO.nil ?_)))))))))))))))
     exact ⟨b + 1, (by omega), x3, (.bool true), (.bool false), ⟨by omega, Lab.antiQ_succ hq (fun _ h2 => by rw [hqa] at h2; exact absurd h2.1 (by decide))⟩, by kernel_rfl, st⟩
    ·refine WO.val (v := .bool true) (L.load rfl (by rw [bv_at hu2 (hur b c2), hqa])) (WO.val (v := .bool true) rfl (WO.yes rfl (WO.val (v := v) rfl (WO.yes rfl (WO.val (v := .int .i64 (b : Int)) rfl (WO.yes rfl (WO.val (v := .ptr (slB v) (slO v + b * 1)) (L.iaddrBT (st.stb_at 2 rfl) (by rw [sq.len]; omega) rfl rfl) (WO.yes rfl (WO.val (v := u2) (L.load rfl hw1) (WO.yes rfl (WO.val (v := .int .i64 (a : Int)) rfl (WO.yes rfl (WO.val (v := .ptr (slB u2) (slO u2 + a * 1)) (L.iaddrZ hw2 (by rw [List.length_map]; omega) rfl rfl) (WO.yes rfl ?_))))))))))))))
     rcases bool_or (Lab.at2 M b a) with hqb | hqb
     ·refine WO.val (v := .bool false) (L.load rfl (by rw [bv_at hw2 (hur2 a c1), hqb])) (WO.valS (v := .bool false) rfl (WO.nil (WP.cond (t := false) rfl (WP.skip (WP.reg (WO.valS (v := .int .i64 ((b + 1 : Nat) : Int)) (L.addE rfl rfl (by omega) (And.intro (by omega) (by omega))) (WO.nil ?_)))))))
      exact ⟨b + 1, (by omega), x3, (.bool true), (.bool false), ⟨by omega, Lab.antiQ_succ hq (fun _ h2 => by rw [hqb] at h2; exact absurd h2.2 (by decide))⟩, by kernel_rfl, st⟩
     ·refine WO.val (v := .bool true) (L.load rfl (by rw [bv_at hw2 (hur2 a c1), hqb])) (WO.valS (v := .bool true) rfl (WO.nil (WP.cond (t := true) rfl (WP.seq (WP.reg (WO.val (v := .agg [.slN, .slN, .slN, .slN, .int .i64 0, .int .i64 0]) (L.build rfl) (WO.storeF (row' := [.slN, .slN, .slN, .slN, .int .i64 0, .int .i64 0]) st 0 rfl rfl rfl rfl rfl rfl rfl (fun h st => ?_))))))))
      refine WO.valS (v := .bool false) rfl (WO.nil (WP.ret ?_))
      rw [Lab.okT_anti sq (by omega) (by omega) cn hqa hqb]
      exact ⟨_, (res_cons (res_cellA (l := [.slN, .slN, .slN, .slN, .int .i64 0, .int .i64 0]) rfl (L.load_box (st.box_at 0 rfl) rfl rfl rfl)) (res_cons (res_tmp (v := .bool false) rfl) (res_nil _ _))), rfl, st.tail⟩
   ·replace cn : a = b := by omega
    refine WO.no rfl (WO.no rfl (WO.no rfl (WO.no rfl (WO.no rfl (WO.no rfl (WO.no rfl (WO.val (v := .bool false) rfl (WO.no rfl (WO.no rfl (WO.no rfl (WO.no rfl (WO.no rfl (WO.no rfl (WO.no rfl (WO.valS (v := .bool false) rfl (WO.nil (WP.cond (t := false) rfl (WP.skip (WP.reg (WO.valS (v := .int .i64 ((b + 1 : Nat) : Int)) (L.addE rfl rfl (by omega) (And.intro (by omega) (by omega))) (WO.nil ?_)))))))))))))))))))))
    exact ⟨b + 1, (by omega), x3, (.bool true), (.bool false), ⟨by omega, Lab.antiQ_succ hq (fun hne => absurd cn hne)⟩, by kernel_rfl, st⟩
  ·have ec2 : b = n := by omega
   rw [ec2] at hq
   refine WO.nil (WP.cond (t := false) rfl (WP.exit (WP.reg (WO.valS (v := .int .i64 ((a + 1 : Nat) : Int)) (L.addE rfl rfl (by omega) (And.intro (by omega) (by omega))) (WO.nil ?_)))))
   exact ⟨a + 1, (by omega), x3, (.bool true), (.int .i64 (b : Int)), (.bool false), x9, ⟨by omega, Lab.antiP_succ hp hq⟩, by kernel_rfl, st⟩
 ·have ec1 : a = n := by omega
  have hanti : Lab.anti n M := fun x y hx hy => hp x y (by omega) hy
  rw [ec1]
  refine WO.nil (WP.cond (t := false) rfl (WP.exit (WP.seq (WP.reg (WO.callF rfl (joins_c D.g hn sq (st.pick 2 rfl)) ?_)))))
  rintro v1 h hp1
  cases hJ : Lab.okJ n M n with
  | false =>
   rw [hJ] at hp1
   obtain ⟨rfl, st⟩ := hp1
   refine WO.val (v := .slN) rfl (WO.val (v := .bool false) rfl (WO.valS (v := .slN) rfl (WO.valS (v := .bool false) rfl (WO.nil (WP.seq (WP.reg (WO.callF rfl (turned_c D.g hn sq st) ?_)))))))
   rintro v2 h st
   refine WO.callF rfl (joins_c D.g hn (Lab.tr_sq n M) st) ?_
   rintro v1 h hp1
   cases hK : Lab.okJ n (Lab.tr n M) n with
   | false =>
    rw [hK] at hp1
    obtain ⟨rfl, st⟩ := hp1
    refine WO.val (v := .slN) rfl (WO.val (v := .bool false) rfl (WO.valS (v := .slN) rfl (WO.valS (v := .bool false) rfl (WO.nil (WP.seq (WP.seq (WP.reg (WO.val (v := .bool true) rfl (WO.no rfl (WO.no rfl (WO.valS (v := .bool true) rfl (WO.nil (WP.cond (t := true) rfl (WP.seq (WP.reg (WO.val (v := .agg [.slN, .slN, .slN, .slN, .int .i64 0, .int .i64 0]) (L.build rfl) (WO.storeF (row' := [.slN, .slN, .slN, .slN, .int .i64 0, .int .i64 0]) st 2 rfl rfl rfl rfl rfl rfl rfl (fun h st => ?_))))))))))))))))))
    refine WO.valS (v := .bool false) rfl (WO.nil (WP.ret ?_))
    rw [Lab.okT_join sq hJ]
    exact ⟨_, (res_cons (res_cellA (l := [.slN, .slN, .slN, .slN, .int .i64 0, .int .i64 0]) rfl (L.load_box (st.box_at 2 rfl) rfl rfl rfl)) (res_cons (res_tmp (v := .bool false) rfl) (res_nil _ _))), rfl, ((st.tail.pick 1 rfl).tail.pick 1 rfl)⟩
   | true =>
    rw [hK] at hp1
    obtain ⟨vK, rfl, st⟩ := hp1
    rw [Lab.joinT_tr sq] at st
    refine WO.val (v := vK) rfl (WO.val (v := .bool true) rfl (WO.valS (v := vK) rfl (WO.valS (v := .bool true) rfl (WO.nil (WP.seq (WP.seq (WP.reg (WO.val (v := .bool true) rfl (WO.no rfl (WO.no rfl (WO.valS (v := .bool true) rfl (WO.nil (WP.cond (t := true) rfl (WP.seq (WP.reg (WO.val (v := .agg [.slN, .slN, .slN, .slN, .int .i64 0, .int .i64 0]) (L.build rfl) (WO.storeF (row' := [.slN, .slN, .slN, .slN, .int .i64 0, .int .i64 0]) st 3 rfl rfl rfl rfl rfl rfl rfl (fun h st => ?_))))))))))))))))))
    refine WO.valS (v := .bool false) rfl (WO.nil (WP.ret ?_))
    rw [Lab.okT_join sq hJ]
    exact ⟨_, (res_cons (res_cellA (l := [.slN, .slN, .slN, .slN, .int .i64 0, .int .i64 0]) rfl (L.load_box (st.box_at 3 rfl) rfl rfl rfl)) (res_cons (res_tmp (v := .bool false) rfl) (res_nil _ _))), rfl, ((st.tail.tail.pick 1 rfl).tail.pick 1 rfl)⟩
  | true =>
   rw [hJ] at hp1
   obtain ⟨vJ, rfl, st⟩ := hp1
   refine WO.val (v := vJ) rfl (WO.val (v := .bool true) rfl (WO.valS (v := vJ) rfl (WO.valS (v := .bool true) rfl (WO.nil (WP.seq (WP.reg (WO.callF rfl (turned_c D.g hn sq (st.pick 1 rfl)) ?_)))))))
   rintro v2 h st
   refine WO.callF rfl (joins_c D.g hn (Lab.tr_sq n M) st) ?_
   rintro v1 h hp1
   cases hK : Lab.okJ n (Lab.tr n M) n with
   | false =>
    rw [hK] at hp1
    obtain ⟨rfl, st⟩ := hp1
    refine WO.val (v := .slN) rfl (WO.val (v := .bool false) rfl (WO.valS (v := .slN) rfl (WO.valS (v := .bool false) rfl (WO.nil (WP.seq (WP.seq (WP.reg (WO.val (v := .bool false) rfl (WO.yes rfl (WO.val (v := .bool false) rfl (WO.yes rfl (WO.val (v := .bool true) rfl (WO.valS (v := .bool true) rfl (WO.nil (WP.cond (t := true) rfl (WP.seq (WP.reg (WO.val (v := .agg [.slN, .slN, .slN, .slN, .int .i64 0, .int .i64 0]) (L.build rfl) (WO.storeF (row' := [.slN, .slN, .slN, .slN, .int .i64 0, .int .i64 0]) st 3 rfl rfl rfl rfl rfl rfl rfl (fun h st => ?_))))))))))))))))))))
    refine WO.valS (v := .bool false) rfl (WO.nil (WP.ret ?_))
    rw [Lab.okT_meet sq hK]
    exact ⟨_, (res_cons (res_cellA (l := [.slN, .slN, .slN, .slN, .int .i64 0, .int .i64 0]) rfl (L.load_box (st.box_at 3 rfl) rfl rfl rfl)) (res_cons (res_tmp (v := .bool false) rfl) (res_nil _ _))), rfl, (((st.tail.pick 1 rfl).tail.pick 1 rfl).tail.pick 1 rfl)⟩
   | true =>
    rw [hK] at hp1
    obtain ⟨vK, rfl, st⟩ := hp1
    rw [Lab.joinT_tr sq] at st
    refine WO.val (v := vK) rfl (WO.val (v := .bool true) rfl (WO.valS (v := vK) rfl (WO.valS (v := .bool true) rfl (WO.nil (WP.seq (WP.seq (WP.reg (WO.val (v := .bool false) rfl (WO.yes rfl (WO.val (v := .bool true) rfl (WO.yes rfl (WO.val (v := .bool false) rfl (WO.valS (v := .bool false) rfl (WO.nil (WP.cond (t := false) rfl (WP.skip (WP.seq (WP.reg (WO.val (v := .agg [vn, v, vJ, vK, .int .i64 0, .int .i64 0]) (L.build (fill_four (Rows.cellsR (st.stb_at 5 rfl)) (BTab.cells (st.stb_at 2 rfl)) (ITab.cells (st.stb_at 3 rfl)) (ITab.cells (st.stb_at 0 rfl)))) (WO.boxFS st L.alloc (fun tb h st => ?_)))))))))))))))))))))
    refine WO.storeF (row' := [vn, v, vJ, vK, .int .i64 0, .int .i64 0]) st 0 rfl rfl rfl rfl rfl rfl rfl (fun h st => ?_)
    refine WO.nil (WP.seq (WP.seq (WP.reg (WO.valS (v := .int .i64 0) rfl (WO.nil (WP.block (WP.loopG (α := Nat) (fun a env h => ∃ x16, (a ≤ n) ∧ env = argsP [vn, v, .ptr res 0, x3, .int .i64 (n : Int), .int .i64 (n : Int), .bool false, x7, x8, x9, .bool true, .bool true, .bool false, vJ, vK, .int .i64 (a : Int), x16, .ptr tb 0] 0 Env.nil ∧ St (.box tb [vn, v, vJ, vK, .int .i64 (Lab.loF n M a : Int), .int .i64 (Lab.hiF n M a : Int)] :: .box res [.slN, .slN, .slN, .slN, .int .i64 0, .int .i64 0] :: .stb (fun h => ITab h vJ (Lab.joinT n M n)) :: .stb (fun h => ITab h vK (Lab.meetT n M n)) :: .stb (fun h => Rows 1 h vn (SR NS)) :: .stb (fun h => BTab h v M) :: fs) h) (fun a => n - a) 0 ?_ ?_)))))))
    ·exact ⟨.bot, Nat.zero_le _, by kernel_rfl, ((((((st.pick 2 rfl).tail.pick 5 rfl).pick 2 rfl).pick 4 rfl).pick 5 rfl).pick 4 rfl)⟩
    rintro a _ h ⟨x16, ha, rfl, st⟩
    refine WP.seq (WP.seq (WP.reg (WO.ifS (L.lss rfl rfl) (fun c3 => ?_) (fun c3 => ?_))))
    ·replace c3 : a < n := by omega
     refine WO.nil (WP.cond (t := true) rfl (WP.skip (WP.seq (WP.block (WP.seq (WP.reg (WO.val (v := .ptr tb 5) (L.faddr rfl) (WO.val (v := .int .i64 (Lab.hiF n M a : Int)) (L.loadB rfl (st.box_at 0 rfl) rfl) ?_))))))))
     have hx0 : Lab.hiF n M a < n := Lab.hiF_lt (by omega) a
     obtain ⟨u, hu1, hu2⟩ := (st.stb_at 2 rfl).at (Lab.joinT_at hx0)
     refine WO.val (v := .ptr (slB vJ) (slO vJ + Lab.hiF n M a * 1)) (L.iaddrIT (st.stb_at 2 rfl) (by rw [Lab.joinT_len]; exact hx0) rfl rfl) (WO.val (v := u) (L.load rfl hu1) (WO.val (v := .ptr (slB u) (slO u + a * 1)) (L.iaddrZ hu2 (by rw [List.length_map, Lab.joinRow_len]; omega) rfl rfl) (WO.val (v := .int .i64 (Lab.hiF n M (a + 1) : Int)) (L.load rfl (by rw [Lab.hiF_succ]; exact iv_at hu2 (Lab.joinRow_at c3))) (WO.val (v := .ptr tb 5) (L.faddr rfl) (WO.storeF (row' := [vn, v, vJ, vK, .int .i64 (Lab.loF n M a : Int), .int .i64 (Lab.hiF n M (a + 1) : Int)]) st 0 rfl rfl rfl rfl rfl rfl rfl (fun h st => ?_))))))
     refine WO.nil (WP.reg (WO.val (v := .ptr tb 4) (L.faddr rfl) (WO.val (v := .int .i64 (Lab.loF n M a : Int)) (L.loadB rfl (st.box_at 0 rfl) rfl) ?_)))
     have hx0 : Lab.loF n M a < n := Lab.loF_lt (by omega) a
     obtain ⟨u, hu1, hu2⟩ := (st.stb_at 3 rfl).at (Lab.meetT_at hx0)
     refine WO.val (v := .ptr (slB vK) (slO vK + Lab.loF n M a * 1)) (L.iaddrIT (st.stb_at 3 rfl) (by rw [Lab.meetT_len]; exact hx0) rfl rfl) (WO.val (v := u) (L.load rfl hu1) (WO.val (v := .ptr (slB u) (slO u + a * 1)) (L.iaddrZ hu2 (by rw [List.length_map, Lab.meetRow_len]; omega) rfl rfl) (WO.val (v := .int .i64 (Lab.loF n M (a + 1) : Int)) (L.load rfl (by rw [Lab.loF_succ]; exact iv_at hu2 (Lab.meetRow_at c3))) (WO.val (v := .ptr tb 4) (L.faddr rfl) (WO.storeF (row' := [vn, v, vJ, vK, .int .i64 (Lab.loF n M (a + 1) : Int), .int .i64 (Lab.hiF n M (a + 1) : Int)]) st 0 rfl rfl rfl rfl rfl rfl rfl (fun h st => ?_))))))
     refine WO.nil (WP.reg (WO.valS (v := .int .i64 ((a + 1 : Nat) : Int)) (L.addE rfl rfl (by omega) (And.intro (by omega) (by omega))) (WO.nil ?_)))
     exact ⟨a + 1, (by omega), (.bool true), by omega, by kernel_rfl, st⟩
    ·have ec3 : a = n := by omega
     rw [ec3] at st
     rw [ec3]
     refine WO.nil (WP.cond (t := false) rfl (WP.exit (WP.seq (WP.reg (WO.val (v := .agg [vn, v, vJ, vK, .int .i64 (Lab.loF n M n : Int), .int .i64 (Lab.hiF n M n : Int)]) (L.loadnB rfl (st.box_at 0 rfl) rfl rfl rfl) (WO.storeF (row' := [vn, v, vJ, vK, .int .i64 (Lab.loF n M n : Int), .int .i64 (Lab.hiF n M n : Int)]) st 1 rfl rfl rfl rfl rfl rfl rfl (fun h st => ?_)))))))
     refine WO.valS (v := .bool true) rfl (WO.nil (WP.ret ?_))
     rw [(Lab.okT_iff sq).2 ⟨(by exact hanti), hJ, hK⟩]
     refine ⟨_, (res_cons (res_cellA (l := [vn, v, vJ, vK, .int .i64 (Lab.loF n M n : Int), .int .i64 (Lab.hiF n M n : Int)]) rfl (L.load_box (st.box_at 1 rfl) rfl rfl rfl)) (res_cons (res_tmp (v := .bool true) rfl) (res_nil _ _))), _, _, rfl, ?_⟩
     exact st.tail.tail
end
end Go.Eng.Ytjgmahbgfbkhnaa
