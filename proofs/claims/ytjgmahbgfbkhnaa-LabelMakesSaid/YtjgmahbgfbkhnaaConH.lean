/- Part of a proof of a law, by an evaluator that the machine follows: rules, contracts of functions, what they come to. No condition of its own. -/
import Derived.Test.YtjgmahbgfbkhnaaConG
import Derived.Test.YtjgmahbgfbkhnaaSymI
import Derived.Test.YtjgmahbgfbkhnaaConF
set_option linter.unusedVariables false
set_option linter.unusedSimpArgs false
namespace Go.Eng.Ytjgmahbgfbkhnaa
open Go.Eng
noncomputable section
variable {c : Ctx}
structure HasG (c : Ctx) : Prop where
 f53 : T.get 53 c.funs = some i53
 f54 : T.get 54 c.funs = some i54
 r : HasR c
theorem turned_c (D : HasG c) {fs : List Fact} {h : Heap} {v : V} {n : Nat} {M : List (List Bool)} (hn : n < 4294967296) (sq : Sq n M) (st : St (.stb (fun h => BTab h v M) :: fs) h) :
  RunP c 54 [v] h fun v1 h1 => St (.stb (fun h => BTab h v1 (Lab.tr n M)) :: .stb (fun h => BTab h v M) :: fs) h1 := by
 refine RunP.fun_ D.f54 rfl (WP.seq (WP.reg (WO.valS (v := .slN) rfl (WO.nil (WP.seq (WP.reg (WO.valS (v := .slN) rfl (WO.nil (WP.seq (WP.seq (WP.reg (WO.valS (v := .int .i64 0) rfl (WO.nil (WP.block ?_))))))))))))))
 replace st : St (.stb (fun h => BRows h ([]) ([])) :: .acc 0 1 .slN (([] : List V).map fun x => [x]) :: .stb (fun h => BTab h v M) :: fs) h := (st.acc0 1).triv (P := fun h => BRows h [] []) fun _ => trivial
 refine WP.loopG (α := Nat) (fun i env h => ∃ fK vK ks x3 x4 x5 x6, (i ≤ n ∧ ks.length = i) ∧ env = argsP [v, .slN, .int .i64 (i : Int), x3, x4, x5, x6, vK] 0 Env.nil ∧ St (.stb (fun h => BRows h (Lab.trK n M i) ks) :: .acc fK 1 vK (ks.map fun x => [x]) :: .stb (fun h => BTab h v M) :: fs) h) (fun i => n - i) 0 ?_ ?_
 ·exact ⟨0, .slN, [], .bot, .bot, .bot, .bot, ⟨Nat.zero_le _, rfl⟩, by kernel_rfl, st⟩
 rintro i _ h ⟨fK, vK, ks, x3, x4, x5, x6, ⟨hi, hkl⟩, rfl, st⟩
 refine WP.seq (WP.seq (WP.reg (WO.val (v := .int .i64 (n : Int)) (L.llenBTn rfl (st.stb_at 2 rfl) sq.len) (WO.ifS (L.lss rfl rfl) (fun c1 => ?_) (fun c1 => ?_)))))
 ·replace c1 : i < n := by omega
  refine WO.nil (WP.cond (t := true) rfl (WP.skip (WP.seq (WP.block (WP.seq (WP.reg (WO.val (v := .int .i64 (n : Int)) (L.llenBTn rfl (st.stb_at 2 rfl) sq.len) (WO.mkslFS st rfl rfl (by decide) rfl (by omega) (fun cb h st => ?_)))))))))
  rw [rep_bv n (fun x => Lab.at2 M x i)] at st
  refine WO.nil (WP.seq (WP.seq (WP.reg (WO.valS (v := .int .i64 0) rfl (WO.nil (WP.block (WP.loopG (α := Nat) (fun k env h => ∃ x5, (k ≤ n) ∧ env = argsP [v, .slN, .int .i64 (i : Int), .bool true, .int .i64 (k : Int), x5, .sl cb 0 n (some n), vK] 0 Env.nil ∧ St (.cel cb 1 ((Lab.candS n (fun x => Lab.at2 M x i) k).map bv) :: .stb (fun h => BRows h (Lab.trK n M i) ks) :: .acc fK 1 vK (ks.map fun x => [x]) :: .stb (fun h => BTab h v M) :: fs) h) (fun k => n - k) 0 ?_ ?_)))))))
  ·exact ⟨x5, Nat.zero_le _, by kernel_rfl, st⟩
  rintro k _ h ⟨x5, hk, rfl, st⟩
  refine WP.seq (WP.seq (WP.reg (WO.val (v := .int .i64 (n : Int)) (L.llenBTn rfl (st.stb_at 3 rfl) sq.len) (WO.ifS (L.lss rfl rfl) (fun c2 => ?_) (fun c2 => ?_)))))
  ·replace c2 : k < n := by omega
   obtain ⟨u, r, hu1, hu2, hrl, hur⟩ := mat_row sq (st.stb_at 3 rfl) (show k < n by omega)
   refine WO.nil (WP.cond (t := true) rfl (WP.skip (WP.seq (WP.block (WP.reg (WO.val (v := .ptr (slB v) (slO v + k * 1)) (L.iaddrBT (st.stb_at 3 rfl) (by rw [sq.len]; omega) rfl rfl) (WO.val (v := u) (L.load rfl hu1) (WO.val (v := .ptr (slB u) (slO u + i * 1)) (L.iaddrZ hu2 (by rw [List.length_map]; omega) rfl rfl) (WO.val (v := .bool (Lab.at2 M k i)) (L.load rfl (bv_at hu2 (hur i (by omega)))) (WO.val (v := .ptr cb (0 + k * 1)) (L.iaddr rfl rfl (by omega)) (WO.storeCelF st rfl (show _ = some [V.bool ((fun x => Lab.at2 M x i) k)] from rfl) (by rw [List.length_map, Lab.candS_len]; omega) (fun h st => ?_))))))))))))
   rw [set_bv c2] at st
   refine WO.nil (WP.reg (WO.valS (v := .int .i64 ((k + 1 : Nat) : Int)) (L.addE rfl rfl (by omega) (And.intro (by omega) (by omega))) (WO.nil ?_)))
   exact ⟨k + 1, (by omega), (.bool true), by omega, by kernel_rfl, st⟩
  ·have ec2 : k = n := by omega
   rw [ec2] at st
   rw [ec2]
   replace st : St (.stb (fun h => Rows 1 h (.sl cb 0 n (some n)) ((Lab.candS n (fun x => Lab.at2 M x i) n).map bv)) :: .stb (fun h => BRows h (Lab.trK n M i) ks) :: .acc fK 1 vK (ks.map fun x => [x]) :: .stb (fun h => BTab h v M) :: fs) h := cel_bv (st) (Lab.candS_len _ _ _)
   refine WO.nil (WP.cond (t := false) rfl (WP.exit (WP.reg (WO.bslF (rows := [[.sl cb 0 n (some n)]]) st rfl (by decide) rfl (by simp) (fun cl1 h st => ?_)))))
   refine WO.appFS st 3 rfl rfl rfl (st.stb_at 0 rfl) (by decide) (by simp; omega) (fun fN vN h st => ?_)
   rw [show (ks.map fun x => [x]) ++ [[V.sl cb 0 n (some n)]] = (ks ++ [V.sl cb 0 n (some n)]).map fun x => [x] from by simp] at st
   replace st : St (.stb (fun h => BRows h (Lab.trK n M i ++ [Lab.candS n (fun x => Lab.at2 M x i) n]) (ks ++ [V.sl cb 0 n (some n)])) :: .stb (fun h => Rows 1 h (.sl cl1 0 1 (some 1)) [[.sl cb 0 n (some n)]]) :: .acc fN 1 vN ((ks ++ [V.sl cb 0 n (some n)]).map fun x => [x]) :: .stb (fun h => BTab h v M) :: fs) h := (((st.pick 2 rfl).pick 2 rfl)).and.imp0 fun h hx => hx.2.snoc hx.1
   refine WO.nil (WP.reg (WO.valS (v := .int .i64 ((i + 1 : Nat) : Int)) (L.addE rfl rfl (by omega) (And.intro (by omega) (by omega))) (WO.nil ?_)))
   rw [← Lab.trK_succ] at st
   exact ⟨i + 1, (by omega), fN, vN, (ks ++ [V.sl cb 0 n (some n)]), (.bool true), (.int .i64 (n : Int)), (.bool false), (.sl cb 0 n (some n)), ⟨by omega, by simp [hkl]⟩, by kernel_rfl, (st.pick 1 rfl).tail⟩
 ·have ec1 : i = n := by omega
  refine WO.nil (WP.cond (t := false) rfl (WP.exit (WP.seq (WP.reg (WO.valS (v := vK) rfl (WO.nil (WP.ret ?_)))))))
  rw [ec1, Lab.trK_all] at st
  exact ⟨_, (res_cons (res_tmp (v := vK) rfl) (res_nil _ _)), (((st.pick 1 rfl)).shut (by decide)).and.imp0 fun h hx => ⟨_, hx.1, hx.2⟩⟩
theorem joins_c (D : HasG c) {fs : List Fact} {h : Heap} {v : V} {n : Nat} {M : List (List Bool)} (hn : n < 4294967296) (sq : Sq n M) (st : St (.stb (fun h => BTab h v M) :: fs) h) :
  RunP c 53 [v] h fun v1 h1 => match Lab.okJ n M n with
   | true => ∃ vJ, v1 = .tup [vJ, .bool true] ∧ St (.stb (fun h => ITab h vJ (Lab.joinT n M n)) :: .stb (fun h => BTab h v M) :: fs) h1
   | false => v1 = .tup [.slN, .bool false] ∧ St (.stb (fun h => BTab h v M) :: fs) h1 := by
 refine RunP.fun_ D.f53 rfl (WP.seq (WP.reg (WO.valS (v := .slN) rfl (WO.valS (v := .bool false) rfl (WO.nil (WP.seq (WP.reg (WO.valS (v := .slN) rfl (WO.nil (WP.seq (WP.seq (WP.reg (WO.valS (v := .int .i64 0) rfl (WO.nil (WP.block ?_)))))))))))))))
 replace st : St (.stb (fun h => IRows h ([]) ([])) :: .acc 0 1 .slN (([] : List V).map fun x => [x]) :: .stb (fun h => BTab h v M) :: fs) h := (st.acc0 1).triv (P := fun h => IRows h [] []) fun _ => trivial
 refine WP.loopG (α := Nat) (fun a env h => ∃ fJ vJ js x1 x2 x4 x5 x6 x7 x8 x9 x10 x11 x12, (a ≤ n ∧ js.length = a ∧ Lab.okJ n M a = true) ∧ env = argsP [v, x1, x2, .int .i64 (a : Int), x4, x5, x6, x7, x8, x9, x10, x11, x12, vJ] 0 Env.nil ∧ St (.stb (fun h => IRows h (Lab.joinT n M a) js) :: .acc fJ 1 vJ (js.map fun x => [x]) :: .stb (fun h => BTab h v M) :: fs) h) (fun a => n - a) 0 ?_ ?_
 ·exact ⟨0, .slN, [], .slN, (.bool false), .bot, .bot, .bot, .bot, .bot, .bot, .bot, .bot, .bot, ⟨Nat.zero_le _, rfl, rfl⟩, by kernel_rfl, st⟩
 rintro a _ h ⟨fJ, vJ, js, x1, x2, x4, x5, x6, x7, x8, x9, x10, x11, x12, ⟨ha, hjl, hok⟩, rfl, st⟩
 refine WP.seq (WP.seq (WP.reg (WO.val (v := .int .i64 (n : Int)) (L.llenBTn rfl (st.stb_at 2 rfl) sq.len) (WO.ifS (L.lss rfl rfl) (fun c1 => ?_) (fun c1 => ?_)))))
 ·replace c1 : a < n := by omega
  refine WO.nil (WP.cond (t := true) rfl (WP.skip (WP.seq (WP.block (WP.seq (WP.reg (WO.valS (v := .slN) rfl (WO.nil (WP.seq (WP.seq (WP.reg (WO.valS (v := .int .i64 0) rfl (WO.nil (WP.block ?_))))))))))))))
  replace st : St (.acc 0 1 .slN (([] : List Nat).map iv) :: .stb (fun h => IRows h (Lab.joinT n M a) js) :: .acc fJ 1 vJ (js.map fun x => [x]) :: .stb (fun h => BTab h v M) :: fs) h := st.acc0 1
  refine WP.loopG (α := Nat) (fun b env h => ∃ fr vr x1 x2 x6 x7 x8 x9 x10 x11, (b ≤ n ∧ Lab.okJr n M a b = true) ∧ env = argsP [v, x1, x2, .int .i64 (a : Int), .bool true, .int .i64 (b : Int), x6, x7, x8, x9, x10, x11, vr, vJ] 0 Env.nil ∧ St (.acc fr 1 vr ((Lab.joinRow n M a b).map iv) :: .stb (fun h => IRows h (Lab.joinT n M a) js) :: .acc fJ 1 vJ (js.map fun x => [x]) :: .stb (fun h => BTab h v M) :: fs) h) (fun b => n - b) 0 ?_ ?_
  ·exact ⟨0, .slN, x1, x2, x6, x7, x8, x9, x10, x11, ⟨Nat.zero_le _, rfl⟩, by kernel_rfl, st⟩
  rintro b _ h ⟨fr, vr, x1, x2, x6, x7, x8, x9, x10, x11, ⟨hb, hokr⟩, rfl, st⟩
  refine WP.seq (WP.seq (WP.reg (WO.val (v := .int .i64 (n : Int)) (L.llenBTn rfl (st.stb_at 3 rfl) sq.len) (WO.ifS (L.lss rfl rfl) (fun c3 => ?_) (fun c3 => ?_)))))
  ·replace c3 : b < n := by omega
   refine WO.nil (WP.cond (t := true) rfl (WP.skip (WP.seq (WP.block (WP.seq (WP.reg (WO.val (v := .int .i64 (n : Int)) (L.llenBTn rfl (st.stb_at 3 rfl) sq.len) (WO.mkslFS st rfl rfl (by decide) rfl (by omega) (fun cb h st => ?_)))))))))
   rw [rep_bv n (fun x => Lab.at2 M a x && Lab.at2 M b x)] at st
   refine WO.nil (WP.seq (WP.seq (WP.reg (WO.valS (v := .int .i64 0) rfl (WO.nil (WP.block (WP.loopG (α := Nat) (fun k env h => ∃ x8, (k ≤ n) ∧ env = argsP [v, x1, x2, .int .i64 (a : Int), .bool true, .int .i64 (b : Int), .bool true, .int .i64 (k : Int), x8, .sl cb 0 n (some n), x10, x11, vr, vJ] 0 Env.nil ∧ St (.cel cb 1 ((Lab.candS n (fun x => Lab.at2 M a x && Lab.at2 M b x) k).map bv) :: .acc fr 1 vr ((Lab.joinRow n M a b).map iv) :: .stb (fun h => IRows h (Lab.joinT n M a) js) :: .acc fJ 1 vJ (js.map fun x => [x]) :: .stb (fun h => BTab h v M) :: fs) h) (fun k => n - k) 0 ?_ ?_)))))))
   ·exact ⟨x8, Nat.zero_le _, by kernel_rfl, st⟩
   rintro k _ h ⟨x8, hk, rfl, st⟩
   refine WP.seq (WP.seq (WP.reg (WO.val (v := .int .i64 (n : Int)) (L.llenBTn rfl (st.stb_at 4 rfl) sq.len) (WO.ifS (L.lss rfl rfl) (fun c2 => ?_) (fun c2 => ?_)))))
   ·replace c2 : k < n := by omega
    obtain ⟨u, r, hu1, hu2, hrl, hur⟩ := mat_row sq (st.stb_at 4 rfl) (show a < n by omega)
    obtain ⟨u2, r2, hw1, hw2, hrl2, hur2⟩ := mat_row sq (st.stb_at 4 rfl) (show b < n by omega)
    refine WO.nil (WP.cond (t := true) rfl (WP.skip (WP.seq (WP.block (WP.reg (WO.val (v := .ptr (slB v) (slO v + a * 1)) (L.iaddrBT (st.stb_at 4 rfl) (by rw [sq.len]; omega) rfl rfl) (WO.val (v := u) (L.load rfl hu1) (WO.val (v := .ptr (slB u) (slO u + k * 1)) (L.iaddrZ hu2 (by rw [List.length_map]; omega) rfl rfl) ?_))))))))
    rcases bool_or (Lab.at2 M a k) with hqa | hqa
    ·refine WO.val (v := .bool false) (L.load rfl (by rw [bv_at hu2 (hur k c2), hqa])) (WO.no rfl (WO.no rfl (WO.no rfl (WO.no rfl (WO.no rfl (WO.no rfl (WO.no rfl (WO.val (v := .bool false) rfl (WO.val (v := .ptr cb (0 + k * 1)) (L.iaddr rfl rfl (by omega)) (WO.storeCelF st rfl (show _ = some [V.bool ((fun x => Lab.at2 M a x && Lab.at2 M b x) k)] from by rw [show (fun x => Lab.at2 M a x && Lab.at2 M b x) k = false from by simp [hqa]]; rfl) (by rw [List.length_map, Lab.candS_len]; omega) (fun h st => ?_)))))))))))
     rw [set_bv c2] at st
     refine WO.nil (WP.reg (WO.valS (v := .int .i64 ((k + 1 : Nat) : Int)) (L.addE rfl rfl (by omega) (And.intro (by omega) (by omega))) (WO.nil ?_)))
     exact ⟨k + 1, (by omega), (.bool true), by omega, by kernel_rfl, st⟩
    ·refine WO.val (v := .bool true) (L.load rfl (by rw [bv_at hu2 (hur k c2), hqa])) (WO.yes rfl (WO.val (v := v) rfl (WO.yes rfl (WO.val (v := .int .i64 (b : Int)) rfl (WO.yes rfl (WO.val (v := .ptr (slB v) (slO v + b * 1)) (L.iaddrBT (st.stb_at 4 rfl) (by rw [sq.len]; omega) rfl rfl) (WO.yes rfl (WO.val (v := u2) (L.load rfl hw1) (WO.yes rfl (WO.val (v := .int .i64 (k : Int)) rfl (WO.yes rfl (WO.val (v := .ptr (slB u2) (slO u2 + k * 1)) (L.iaddrZ hw2 (by rw [List.length_map]; omega) rfl rfl) (WO.yes rfl (WO.val (v := .bool (Lab.at2 M b k)) (L.load rfl (bv_at hw2 (hur2 k c2))) (WO.val (v := .bool (Lab.at2 M b k)) rfl (WO.val (v := .ptr cb (0 + k * 1)) (L.iaddr rfl rfl (by omega)) (WO.storeCelF st rfl (show _ = some [V.bool ((fun x => Lab.at2 M a x && Lab.at2 M b x) k)] from by rw [show (fun x => Lab.at2 M a x && Lab.at2 M b x) k = Lab.at2 M b k from by simp [hqa]]; rfl) (by rw [List.length_map, Lab.candS_len]; omega) (fun h st => ?_))))))))))))))))))
     rw [set_bv c2] at st
     refine WO.nil (WP.reg (WO.valS (v := .int .i64 ((k + 1 : Nat) : Int)) (L.addE rfl rfl (by omega) (And.intro (by omega) (by omega))) (WO.nil ?_)))
     exact ⟨k + 1, (by omega), (.bool true), by omega, by kernel_rfl, st⟩
   ·have ec2 : k = n := by omega
    rw [ec2] at st
    rw [ec2]
    refine WO.nil (WP.cond (t := false) rfl (WP.exit (WP.seq (WP.reg ?_))))
    have hRc : Rows 1 h (.sl cb 0 n (some n)) ((Lab.candS n (fun x => Lab.at2 M a x && Lab.at2 M b x) n).map bv) := by have := st.celRows (cap := some n) 0 rfl; rw [List.length_map, Lab.candS_len] at this; exact this
    refine WO.callFS rfl (rleast_c D.r hn sq (st.stb_at 4 rfl) hRc (Lab.candS_len _ _ _) (fun k hk => Lab.candS_at hk)) ?_
    rintro _ _ ⟨rfl, rfl⟩
    rw [show Lab.least n (Lab.at2 M) (fun x => Lab.at2 M a x && Lab.at2 M b x) = Lab.join n M a b from rfl]
    cases hj : Lab.join n M a b with
    | none =>
     have ez : leastZ (none) = (-1) := rfl
     rw [ez]
     refine WO.nil (WP.seq (WP.seq (WP.reg (WO.ifS (L.lss rfl rfl) (fun _ => ?_) (fun c9 => by exfalso; omega)))))
     refine WO.nil (WP.cond (t := true) rfl (WP.seq (WP.reg (WO.valS (v := .slN) rfl (WO.valS (v := .bool false) rfl (WO.nil (WP.ret ?_)))))))
     rw [Lab.okJ_no (by omega) (by omega) hj]
     exact ⟨_, (res_cons (res_tmp (v := .slN) rfl) (res_cons (res_tmp (v := .bool false) rfl) (res_nil _ _))), rfl, st.tail.tail.tail.tail⟩
    | some jx =>
     have ez : leastZ (some jx) = (jx : Int) := rfl
     rw [ez]
     refine WO.nil (WP.seq (WP.seq (WP.reg (WO.ifS (L.lss rfl rfl) (fun c9 => by exfalso; omega) (fun _ => ?_)))))
     refine WO.nil (WP.cond (t := false) rfl (WP.skip (WP.reg (WO.bslF (rows := [[.int .i64 (jx : Int)]]) st rfl (by decide) rfl (by simp) (fun il1 h st => ?_)))))
     refine WO.appFS st 2 rfl rfl rfl (st.stb_at 0 rfl) (by decide) (by rw [List.length_map, Lab.joinRow_len]; simp only [List.length_cons, List.length_nil]; omega) (fun fN vN h st => ?_)
     have e1 := Lab.joinRow_succ n M a b
     rw [hj] at e1
     rw [show (Lab.joinRow n M a b).map iv ++ [[V.int .i64 (jx : Int)]] = (Lab.joinRow n M a (b + 1)).map iv from by rw [e1, List.map_append]; rfl] at st
     refine WO.nil (WP.reg (WO.valS (v := .int .i64 ((b + 1 : Nat) : Int)) (L.addE rfl rfl (by omega) (And.intro (by omega) (by omega))) (WO.nil ?_)))
     exact ⟨b + 1, (by omega), fN, vN, x1, x2, (.bool true), (.int .i64 (n : Int)), (.bool false), (.sl cb 0 n (some n)), (.int .i64 (jx : Int)), (.bool false), ⟨by omega, by rw [Lab.okJr_succ, hokr, hj]; rfl⟩, by kernel_rfl, st.tail.tail⟩
  ·have ec3 : b = n := by omega
   rw [ec3] at st hokr
   rw [ec3]
   have hcr := (st.acc_at 0 rfl).cells
   replace st : St (.stb (fun h => Rows 1 h vr ((Lab.joinRow n M a n).map iv)) :: .stb (fun h => IRows h (Lab.joinT n M a) js) :: .acc fJ 1 vJ (js.map fun x => [x]) :: .stb (fun h => BTab h v M) :: fs) h := (st).shut (by decide)
   refine WO.nil (WP.cond (t := false) rfl (WP.exit (WP.reg (WO.bslF (rows := [[vr]]) st (fill_one hcr) (by decide) rfl (by simp) (fun rl1 h st => ?_)))))
   refine WO.appFS st 3 rfl rfl rfl (st.stb_at 0 rfl) (by decide) (by simp; omega) (fun fN vN h st => ?_)
   rw [show (js.map fun x => [x]) ++ [[vr]] = (js ++ [vr]).map fun x => [x] from by simp] at st
   replace st : St (.stb (fun h => IRows h (Lab.joinT n M a ++ [Lab.joinRow n M a n]) (js ++ [vr])) :: .stb (fun h => Rows 1 h (.sl rl1 0 1 (some 1)) [[vr]]) :: .acc fN 1 vN ((js ++ [vr]).map fun x => [x]) :: .stb (fun h => BTab h v M) :: fs) h := (((st.pick 2 rfl).pick 2 rfl)).and.imp0 fun h hx => hx.2.snoc hx.1
   refine WO.nil (WP.reg (WO.valS (v := .int .i64 ((a + 1 : Nat) : Int)) (L.addE rfl rfl (by omega) (And.intro (by omega) (by omega))) (WO.nil ?_)))
   rw [← Lab.joinT_succ] at st
   exact ⟨a + 1, (by omega), fN, vN, (js ++ [vr]), x1, x2, (.bool true), (.int .i64 (n : Int)), (.bool false), x7, x8, x9, x10, x11, vr, ⟨by omega, by simp [hjl], by rw [Lab.okJ_succ, hok, hokr]; rfl⟩, by kernel_rfl, (st.pick 1 rfl).tail⟩
 ·have ec1 : a = n := by omega
  refine WO.nil (WP.cond (t := false) rfl (WP.exit (WP.seq (WP.reg (WO.valS (v := vJ) rfl (WO.valS (v := .bool true) rfl (WO.nil (WP.ret ?_))))))))
  rw [ec1] at st hok
  rw [hok]
  refine ⟨_, (res_cons (res_tmp (v := vJ) rfl) (res_cons (res_tmp (v := .bool true) rfl) (res_nil _ _))), _, rfl, ?_⟩
  exact (((st.pick 1 rfl)).shut (by decide)).and.imp0 fun h hx => ⟨_, hx.1, hx.2⟩
end
end Go.Eng.Ytjgmahbgfbkhnaa
namespace Go.Eng.Ytjgmahbgfbkhnaa
open Go.Eng
noncomputable section
variable {c : Ctx}
structure HasH (c : Ctx) : Prop where
 f28 : T.get 28 c.funs = some i28
 f30 : T.get 30 c.funs = some i30
 g : HasG c
theorem lattice_c (D : HasH c) {fs : List Fact} {h : Heap} {vn v : V} {n : Nat} {M : List (List Bool)} {NS : List Lab.Txt} (hn : n < 4294967296) (hNS : NS.length = n) (sq : Sq n M) (st : St (.stb (fun h => Rows 1 h vn (SR NS)) :: .stb (fun h => BTab h v M) :: fs) h) :
  RunP c 30 [vn, v] h fun v1 h1 => match Lab.okT n M n with
   | true => ∃ vJ vK, v1 = .tup [.agg [vn, v, vJ, vK, .int .i64 (Lab.loF n M n : Int), .int .i64 (Lab.hiF n M n : Int)], .bool true] ∧ St (.stb (fun h => ITab h vJ (Lab.joinT n M n)) :: .stb (fun h => ITab h vK (Lab.meetT n M n)) :: .stb (fun h => Rows 1 h vn (SR NS)) :: .stb (fun h => BTab h v M) :: fs) h1
   | false => v1 = .tup [.agg [.slN, .slN, .slN, .slN, .int .i64 0, .int .i64 0], .bool false] ∧ St (.stb (fun h => Rows 1 h vn (SR NS)) :: .stb (fun h => BTab h v M) :: fs) h1 := by
 refine RunP.fun_ D.f30 rfl (WP.seq (WP.reg (WO.boxFS st L.alloc (fun res h st => ?_))))
 refine WO.valS (v := .bool false) rfl (WO.nil (WP.seq (WP.reg (WO.valS (v := .int .i64 (n : Int)) (L.llenRn rfl (st.stb_at 1 rfl) (by rw [SR_len]; exact hNS)) (WO.nil (WP.seq (WP.seq (WP.reg (WO.valS (v := .int .i64 0) rfl (WO.nil (WP.block (WP.loopG (α := Nat) (fun a env h => ∃ x3 x6 x7 x8 x9, (a ≤ n ∧ Lab.antiP n M a) ∧ env = argsP [vn, v, .ptr res 0, x3, .int .i64 (a : Int), .int .i64 (n : Int), x6, x7, x8, x9] 0 Env.nil ∧ St (.box res [.slN, .slN, .slN, .slN, .int .i64 0, .int .i64 0] :: .stb (fun h => Rows 1 h vn (SR NS)) :: .stb (fun h => BTab h v M) :: fs) h) (fun a => n - a) 0 ?_ ?_))))))))))))
 ·exact ⟨(.bool false), .bot, .bot, .bot, .bot, ⟨Nat.zero_le _, fun x y hx => absurd hx (by omega)⟩, by kernel_rfl, st⟩
 rintro a _ h ⟨x3, x6, x7, x8, x9, ⟨ha, hp⟩, rfl, st⟩
 refine WP.seq (WP.seq (WP.reg (WO.ifS (L.lss rfl rfl) (fun c1 => ?_) (fun c1 => ?_))))
 ·replace c1 : a < n := by omega
  refine WO.nil (WP.cond (t := true) rfl (WP.skip (WP.seq (WP.block (WP.seq (WP.reg (WO.valS (v := .int .i64 0) rfl (WO.nil (WP.block (WP.loopG (α := Nat) (fun b env h => ∃ x3 x8 x9, (b ≤ n ∧ Lab.antiQ M a b) ∧ env = argsP [vn, v, .ptr res 0, x3, .int .i64 (a : Int), .int .i64 (n : Int), .bool true, .int .i64 (b : Int), x8, x9] 0 Env.nil ∧ St (.box res [.slN, .slN, .slN, .slN, .int .i64 0, .int .i64 0] :: .stb (fun h => Rows 1 h vn (SR NS)) :: .stb (fun h => BTab h v M) :: fs) h) (fun b => n - b) 0 ?_ ?_))))))))))
  ·exact ⟨x3, x8, x9, ⟨Nat.zero_le _, fun y hy => absurd hy (by omega)⟩, by kernel_rfl, st⟩
  rintro b _ h ⟨x3, x8, x9, ⟨hb, hq⟩, rfl, st⟩
  refine WP.seq (WP.seq (WP.reg (WO.ifS (L.lss rfl rfl) (fun c2 => ?_) (fun c2 => ?_))))
  ·replace c2 : b < n := by omega
   obtain ⟨u, r, hu1, hu2, hrl, hur⟩ := mat_row sq (st.stb_at 2 rfl) (show a < n by omega)
   obtain ⟨u2, r2, hw1, hw2, hrl2, hur2⟩ := mat_row sq (st.stb_at 2 rfl) (show b < n by omega)
   refine WO.nil (WP.cond (t := true) rfl (WP.skip (WP.seq (WP.block (WP.seq (WP.reg (WO.ifV (L.neq rfl rfl) (fun cn => ?_) (fun cn => ?_))))))))
   ·replace cn : a ≠ b := by omega
    refine WO.yes rfl (WO.val (v := v) rfl (WO.yes rfl (WO.val (v := .int .i64 (a : Int)) rfl (WO.yes rfl (WO.val (v := .ptr (slB v) (slO v + a * 1)) (L.iaddrBT (st.stb_at 2 rfl) (by rw [sq.len]; omega) rfl rfl) (WO.yes rfl (WO.val (v := u) (L.load rfl hu1) (WO.yes rfl (WO.val (v := .int .i64 (b : Int)) rfl (WO.yes rfl (WO.val (v := .ptr (slB u) (slO u + b * 1)) (L.iaddrZ hu2 (by rw [List.length_map]; omega) rfl rfl) (WO.yes rfl ?_))))))))))))
    rcases bool_or (Lab.at2 M a b) with hqa | hqa
    ·refine WO.val (v := .bool false) (L.load rfl (by rw [bv_at hu2 (hur b c2), hqa])) (WO.val (v := .bool false) rfl (WO.no rfl (WO.no rfl (WO.no rfl (WO.no rfl (WO.no rfl (WO.no rfl (WO.no rfl (WO.valS (v := .bool false) rfl (WO.nil (WP.cond (t := false) rfl (WP.skip (WP.reg (WO.valS (v := .int .i64 ((b + 1 : Nat) : Int)) (L.addE rfl rfl (by omega) (And.intro (by omega) (by omega))) (WO.nil ?_)))))))))))))))
     exact ⟨b + 1, (by omega), x3, (.bool true), (.bool false), ⟨by omega, Lab.antiQ_succ hq (fun _ h2 => by rw [hqa] at h2; exact absurd h2.1 (by decide))⟩, by kernel_rfl, st⟩
    ·refine WO.val (v := .bool true) (L.load rfl (by rw [bv_at hu2 (hur b c2), hqa])) (WO.val (v := .bool true) rfl (WO.yes rfl (WO.val (v := v) rfl (WO.yes rfl (WO.val (v := .int .i64 (b : Int)) rfl (WO.yes rfl (WO.val (v := .ptr (slB v) (slO v + b * 1)) (L.iaddrBT (st.stb_at 2 rfl) (by rw [sq.len]; omega) rfl rfl) (WO.yes rfl (WO.val (v := u2) (L.load rfl hw1) (WO.yes rfl (WO.val (v := .int .i64 (a : Int)) rfl (WO.yes rfl (WO.val (v := .ptr (slB u2) (slO u2 + a * 1)) (L.iaddrZ hw2 (by rw [List.length_map]; omega) rfl rfl) (WO.yes rfl ?_))))))))))))))
     rcases bool_or (Lab.at2 M b a) with hqb | hqb
     ·refine WO.val (v := .bool false) (L.load rfl (by rw [bv_at hw2 (hur2 a c1), hqb])) (WO.valS (v := .bool false) rfl (WO.nil (WP.cond (t := false) rfl (WP.skip (WP.reg (WO.valS (v := .int .i64 ((b + 1 : Nat) : Int)) (L.addE rfl rfl (by omega) (And.intro (by omega) (by omega))) (WO.nil ?_)))))))
      exact ⟨b + 1, (by omega), x3, (.bool true), (.bool false), ⟨by omega, Lab.antiQ_succ hq (fun _ h2 => by rw [hqb] at h2; exact absurd h2.2 (by decide))⟩, by kernel_rfl, st⟩
     ·refine WO.val (v := .bool true) (L.load rfl (by rw [bv_at hw2 (hur2 a c1), hqb])) (WO.valS (v := .bool true) rfl (WO.nil (WP.cond (t := true) rfl (WP.seq (WP.reg (WO.val (v := .agg [.slN, .slN, .slN, .slN, .int .i64 0, .int .i64 0]) (L.build rfl) (WO.storeF (row' := [.slN, .slN, .slN, .slN, .int .i64 0, .int .i64 0]) st 0 rfl rfl rfl rfl rfl rfl rfl (fun h st => ?_))))))))
      refine WO.valS (v := .bool false) rfl (WO.nil (WP.ret ?_))
      rw [Lab.okT_anti sq (by omega) (by omega) cn hqa hqb]
      exact ⟨_, (res_cons (res_cellA (l := [.slN, .slN, .slN, .slN, .int .i64 0, .int .i64 0]) rfl (L.load_box (st.box_at 0 rfl) rfl rfl rfl)) (res_cons (res_tmp (v := .bool false) rfl) (res_nil _ _))), rfl, st.tail⟩
   ·replace cn : a = b := by omega
    refine WO.no rfl (WO.no rfl (WO.no rfl (WO.no rfl (WO.no rfl (WO.no rfl (WO.no rfl (WO.val (v := .bool false) rfl (WO.no rfl (WO.no rfl (WO.no rfl (WO.no rfl (WO.no rfl (WO.no rfl (WO.no rfl (WO.valS (v := .bool false) rfl (WO.nil (WP.cond (t := false) rfl (WP.skip (WP.reg (WO.valS (v := .int .i64 ((b + 1 : Nat) : Int)) (L.addE rfl rfl (by omega) (And.intro (by omega) (by omega))) (WO.nil ?_)))))))))))))))))))))
    exact ⟨b + 1, (by omega), x3, (.bool true), (.bool false), ⟨by omega, Lab.antiQ_succ hq (fun hne => absurd cn hne)⟩, by kernel_rfl, st⟩
  ·have ec2 : b = n := by omega
   rw [ec2] at hq
   refine WO.nil (WP.cond (t := false) rfl (WP.exit (WP.reg (WO.valS (v := .int .i64 ((a + 1 : Nat) : Int)) (L.addE rfl rfl (by omega) (And.intro (by omega) (by omega))) (WO.nil ?_)))))
   exact ⟨a + 1, (by omega), x3, (.bool true), (.int .i64 (b : Int)), (.bool false), x9, ⟨by omega, Lab.antiP_succ hp hq⟩, by kernel_rfl, st⟩
 ·have ec1 : a = n := by omega
  have hanti : Lab.anti n M := fun x y hx hy => hp x y (by omega) hy
  rw [ec1]
  refine WO.nil (WP.cond (t := false) rfl (WP.exit (WP.seq (WP.reg (WO.callF rfl (joins_c D.g hn sq (st.pick 2 rfl)) ?_)))))
  rintro v1 h hp1
  cases hJ : Lab.okJ n M n with
  | false =>
   rw [hJ] at hp1
   obtain ⟨rfl, st⟩ := hp1
   refine WO.val (v := .slN) rfl (WO.val (v := .bool false) rfl (WO.valS (v := .slN) rfl (WO.valS (v := .bool false) rfl (WO.nil (WP.seq (WP.reg (WO.callF rfl (turned_c D.g hn sq st) ?_)))))))
   rintro v2 h st
   refine WO.callF rfl (joins_c D.g hn (Lab.tr_sq n M) st) ?_
   rintro v1 h hp1
   cases hK : Lab.okJ n (Lab.tr n M) n with
   | false =>
    rw [hK] at hp1
    obtain ⟨rfl, st⟩ := hp1
    refine WO.val (v := .slN) rfl (WO.val (v := .bool false) rfl (WO.valS (v := .slN) rfl (WO.valS (v := .bool false) rfl (WO.nil (WP.seq (WP.seq (WP.reg (WO.val (v := .bool true) rfl (WO.no rfl (WO.no rfl (WO.valS (v := .bool true) rfl (WO.nil (WP.cond (t := true) rfl (WP.seq (WP.reg (WO.val (v := .agg [.slN, .slN, .slN, .slN, .int .i64 0, .int .i64 0]) (L.build rfl) (WO.storeF (row' := [.slN, .slN, .slN, .slN, .int .i64 0, .int .i64 0]) st 2 rfl rfl rfl rfl rfl rfl rfl (fun h st => ?_))))))))))))))))))
    refine WO.valS (v := .bool false) rfl (WO.nil (WP.ret ?_))
    rw [Lab.okT_join sq hJ]
    exact ⟨_, (res_cons (res_cellA (l := [.slN, .slN, .slN, .slN, .int .i64 0, .int .i64 0]) rfl (L.load_box (st.box_at 2 rfl) rfl rfl rfl)) (res_cons (res_tmp (v := .bool false) rfl) (res_nil _ _))), rfl, ((st.tail.pick 1 rfl).tail.pick 1 rfl)⟩
   | true =>
    rw [hK] at hp1
    obtain ⟨vK, rfl, st⟩ := hp1
    rw [Lab.joinT_tr sq] at st
    refine WO.val (v := vK) rfl (WO.val (v := .bool true) rfl (WO.valS (v := vK) rfl (WO.valS (v := .bool true) rfl (WO.nil (WP.seq (WP.seq (WP.reg (WO.val (v := .bool true) rfl (WO.no rfl (WO.no rfl (WO.valS (v := .bool true) rfl (WO.nil (WP.cond (t := true) rfl (WP.seq (WP.reg (WO.val (v := .agg [.slN, .slN, .slN, .slN, .int .i64 0, .int .i64 0]) (L.build rfl) (WO.storeF (row' := [.slN, .slN, .slN, .slN, .int .i64 0, .int .i64 0]) st 3 rfl rfl rfl rfl rfl rfl rfl (fun h st => ?_))))))))))))))))))
    refine WO.valS (v := .bool false) rfl (WO.nil (WP.ret ?_))
    rw [Lab.okT_join sq hJ]
    exact ⟨_, (res_cons (res_cellA (l := [.slN, .slN, .slN, .slN, .int .i64 0, .int .i64 0]) rfl (L.load_box (st.box_at 3 rfl) rfl rfl rfl)) (res_cons (res_tmp (v := .bool false) rfl) (res_nil _ _))), rfl, ((st.tail.tail.pick 1 rfl).tail.pick 1 rfl)⟩
  | true =>
   rw [hJ] at hp1
   obtain ⟨vJ, rfl, st⟩ := hp1
   refine WO.val (v := vJ) rfl (WO.val (v := .bool true) rfl (WO.valS (v := vJ) rfl (WO.valS (v := .bool true) rfl (WO.nil (WP.seq (WP.reg (WO.callF rfl (turned_c D.g hn sq (st.pick 1 rfl)) ?_)))))))
   rintro v2 h st
   refine WO.callF rfl (joins_c D.g hn (Lab.tr_sq n M) st) ?_
   rintro v1 h hp1
   cases hK : Lab.okJ n (Lab.tr n M) n with
   | false =>
    rw [hK] at hp1
    obtain ⟨rfl, st⟩ := hp1
    refine WO.val (v := .slN) rfl (WO.val (v := .bool false) rfl (WO.valS (v := .slN) rfl (WO.valS (v := .bool false) rfl (WO.nil (WP.seq (WP.seq (WP.reg (WO.val (v := .bool false) rfl (WO.yes rfl (WO.val (v := .bool false) rfl (WO.yes rfl (WO.val (v := .bool true) rfl (WO.valS (v := .bool true) rfl (WO.nil (WP.cond (t := true) rfl (WP.seq (WP.reg (WO.val (v := .agg [.slN, .slN, .slN, .slN, .int .i64 0, .int .i64 0]) (L.build rfl) (WO.storeF (row' := [.slN, .slN, .slN, .slN, .int .i64 0, .int .i64 0]) st 3 rfl rfl rfl rfl rfl rfl rfl (fun h st => ?_))))))))))))))))))))
    refine WO.valS (v := .bool false) rfl (WO.nil (WP.ret ?_))
    rw [Lab.okT_meet sq hK]
    exact ⟨_, (res_cons (res_cellA (l := [.slN, .slN, .slN, .slN, .int .i64 0, .int .i64 0]) rfl (L.load_box (st.box_at 3 rfl) rfl rfl rfl)) (res_cons (res_tmp (v := .bool false) rfl) (res_nil _ _))), rfl, (((st.tail.pick 1 rfl).tail.pick 1 rfl).tail.pick 1 rfl)⟩
   | true =>
    rw [hK] at hp1
    obtain ⟨vK, rfl, st⟩ := hp1
    rw [Lab.joinT_tr sq] at st
    refine WO.val (v := vK) rfl (WO.val (v := .bool true) rfl (WO.valS (v := vK) rfl (WO.valS (v := .bool true) rfl (WO.nil (WP.seq (WP.seq (WP.reg (WO.val (v := .bool false) rfl (WO.yes rfl (WO.val (v := .bool true) rfl (WO.yes rfl (WO.val (v := .bool false) rfl (WO.valS (v := .bool false) rfl (WO.nil (WP.cond (t := false) rfl (WP.skip (WP.seq (WP.reg (WO.val (v := .agg [vn, v, vJ, vK, .int .i64 0, .int .i64 0]) (L.build (fill_four (Rows.cellsR (st.stb_at 5 rfl)) (BTab.cells (st.stb_at 2 rfl)) (ITab.cells (st.stb_at 3 rfl)) (ITab.cells (st.stb_at 0 rfl)))) (WO.boxFS st L.alloc (fun tb h st => ?_)))))))))))))))))))))
    refine WO.storeF (row' := [vn, v, vJ, vK, .int .i64 0, .int .i64 0]) st 0 rfl rfl rfl rfl rfl rfl rfl (fun h st => ?_)
    refine WO.nil (WP.seq (WP.seq (WP.reg (WO.valS (v := .int .i64 0) rfl (WO.nil (WP.block (WP.loopG (α := Nat) (fun a env h => ∃ x16, (a ≤ n) ∧ env = argsP [vn, v, .ptr res 0, x3, .int .i64 (n : Int), .int .i64 (n : Int), .bool false, x7, x8, x9, .bool true, .bool true, .bool false, vJ, vK, .int .i64 (a : Int), x16, .ptr tb 0] 0 Env.nil ∧ St (.box tb [vn, v, vJ, vK, .int .i64 (Lab.loF n M a : Int), .int .i64 (Lab.hiF n M a : Int)] :: .box res [.slN, .slN, .slN, .slN, .int .i64 0, .int .i64 0] :: .stb (fun h => ITab h vJ (Lab.joinT n M n)) :: .stb (fun h => ITab h vK (Lab.meetT n M n)) :: .stb (fun h => Rows 1 h vn (SR NS)) :: .stb (fun h => BTab h v M) :: fs) h) (fun a => n - a) 0 ?_ ?_)))))))
    ·exact ⟨.bot, Nat.zero_le _, by kernel_rfl, ((((((st.pick 2 rfl).tail.pick 5 rfl).pick 2 rfl).pick 4 rfl).pick 5 rfl).pick 4 rfl)⟩
    rintro a _ h ⟨x16, ha, rfl, st⟩
    refine WP.seq (WP.seq (WP.reg (WO.ifS (L.lss rfl rfl) (fun c3 => ?_) (fun c3 => ?_))))
    ·replace c3 : a < n := by omega
     refine WO.nil (WP.cond (t := true) rfl (WP.skip (WP.seq (WP.block (WP.seq (WP.reg (WO.val (v := .ptr tb 5) (L.faddr rfl) (WO.val (v := .int .i64 (Lab.hiF n M a : Int)) (L.loadB rfl (st.box_at 0 rfl) rfl) ?_))))))))
     have hx0 : Lab.hiF n M a < n := Lab.hiF_lt (by omega) a
     obtain ⟨u, hu1, hu2⟩ := (st.stb_at 2 rfl).at (Lab.joinT_at hx0)
     refine WO.val (v := .ptr (slB vJ) (slO vJ + Lab.hiF n M a * 1)) (L.iaddrIT (st.stb_at 2 rfl) (by rw [Lab.joinT_len]; exact hx0) rfl rfl) (WO.val (v := u) (L.load rfl hu1) (WO.val (v := .ptr (slB u) (slO u + a * 1)) (L.iaddrZ hu2 (by rw [List.length_map, Lab.joinRow_len]; omega) rfl rfl) (WO.val (v := .int .i64 (Lab.hiF n M (a + 1) : Int)) (L.load rfl (by rw [Lab.hiF_succ]; exact iv_at hu2 (Lab.joinRow_at c3))) (WO.val (v := .ptr tb 5) (L.faddr rfl) (WO.storeF (row' := [vn, v, vJ, vK, .int .i64 (Lab.loF n M a : Int), .int .i64 (Lab.hiF n M (a + 1) : Int)]) st 0 rfl rfl rfl rfl rfl rfl rfl (fun h st => ?_))))))
     refine WO.nil (WP.reg (WO.val (v := .ptr tb 4) (L.faddr rfl) (WO.val (v := .int .i64 (Lab.loF n M a : Int)) (L.loadB rfl (st.box_at 0 rfl) rfl) ?_)))
     have hx0 : Lab.loF n M a < n := Lab.loF_lt (by omega) a
     obtain ⟨u, hu1, hu2⟩ := (st.stb_at 3 rfl).at (Lab.meetT_at hx0)
     refine WO.val (v := .ptr (slB vK) (slO vK + Lab.loF n M a * 1)) (L.iaddrIT (st.stb_at 3 rfl) (by rw [Lab.meetT_len]; exact hx0) rfl rfl) (WO.val (v := u) (L.load rfl hu1) (WO.val (v := .ptr (slB u) (slO u + a * 1)) (L.iaddrZ hu2 (by rw [List.length_map, Lab.meetRow_len]; omega) rfl rfl) (WO.val (v := .int .i64 (Lab.loF n M (a + 1) : Int)) (L.load rfl (by rw [Lab.loF_succ]; exact iv_at hu2 (Lab.meetRow_at c3))) (WO.val (v := .ptr tb 4) (L.faddr rfl) (WO.storeF (row' := [vn, v, vJ, vK, .int .i64 (Lab.loF n M (a + 1) : Int), .int .i64 (Lab.hiF n M (a + 1) : Int)]) st 0 rfl rfl rfl rfl rfl rfl rfl (fun h st => ?_))))))
     refine WO.nil (WP.reg (WO.valS (v := .int .i64 ((a + 1 : Nat) : Int)) (L.addE rfl rfl (by omega) (And.intro (by omega) (by omega))) (WO.nil ?_)))
     exact ⟨a + 1, (by omega), (.bool true), by omega, by kernel_rfl, st⟩
    ·have ec3 : a = n := by omega
     rw [ec3] at st
     rw [ec3]
     refine WO.nil (WP.cond (t := false) rfl (WP.exit (WP.seq (WP.reg (WO.val (v := .agg [vn, v, vJ, vK, .int .i64 (Lab.loF n M n : Int), .int .i64 (Lab.hiF n M n : Int)]) (L.loadnB rfl (st.box_at 0 rfl) rfl rfl rfl) (WO.storeF (row' := [vn, v, vJ, vK, .int .i64 (Lab.loF n M n : Int), .int .i64 (Lab.hiF n M n : Int)]) st 1 rfl rfl rfl rfl rfl rfl rfl (fun h st => ?_)))))))
     refine WO.valS (v := .bool true) rfl (WO.nil (WP.ret ?_))
     rw [(Lab.okT_iff sq).2 ⟨(by exact hanti), hJ, hK⟩]
     refine ⟨_, (res_cons (res_cellA (l := [vn, v, vJ, vK, .int .i64 (Lab.loF n M n : Int), .int .i64 (Lab.hiF n M n : Int)]) rfl (L.load_box (st.box_at 1 rfl) rfl rfl rfl)) (res_cons (res_tmp (v := .bool true) rfl) (res_nil _ _))), _, _, rfl, ?_⟩
     exact st.tail.tail
theorem lt_take {S : List Lab.Txt} {s x : Lab.Txt} {i : Nat} (h : ∀ x ∈ S.take i, x < s) (hx : S[i]? = some x) (hxs : x < s) : ∀ x ∈ S.take (i + 1), x < s := by
 intro y hy
 rw [List.take_add_one, hx] at hy
 rcases List.mem_append.1 hy with hy | hy
 ·exact h y hy
 ·have : y = x := by simpa using hy
  exact this ▸ hxs
theorem shift_get {S : List Lab.Txt} {w y : Lab.Txt} {q : Nat} (hy : S[q]? = some y) : (S.take (q + 1) ++ w :: S.drop (q + 1))[q]? = some y := by
 have hl := (List.getElem?_eq_some_iff.1 hy).1
 rw [List.getElem?_append_left (by rw [List.length_take]; omega), List.getElem?_take_of_lt (by omega)]; exact hy
theorem put_set {S : List Lab.Txt} {w s : Lab.Txt} {k : Nat} (hk : k ≤ S.length) : (S.take k ++ w :: S.drop k).set k s = S.take k ++ s :: S.drop k := by
 have e : (S.take k).length = k := by rw [List.length_take]; omega
 rw [List.set_append_right _ _ (by omega), e, Nat.sub_self]; rfl
theorem shift_set {S : List Lab.Txt} {w y : Lab.Txt} {q : Nat} (hy : S[q]? = some y) : (S.take (q + 1) ++ w :: S.drop (q + 1)).set (q + 1) y = S.take q ++ y :: S.drop q := by
 have hl := (List.getElem?_eq_some_iff.1 hy).1
 rw [put_set (by omega), List.take_add_one, hy, List.drop_eq_getElem_cons hl, (List.getElem?_eq_some_iff.1 hy).2]; simp
theorem insert_c (D : HasH c) {fs : List Fact} {h : Heap} {bs : List Nat} {f : Nat} {v : V} {S : List Lab.Txt} {s : Lab.Txt} (hn : S.length < 4294967296) (st : St (.acu bs f 1 v (SR S) :: fs) h) :
  RunP c 28 [v, L.str s] h fun v1 h1 => ∃ bs1 f1 S1, Lab.Ins S s S1 ∧ St (.acu bs1 f1 1 v1 (SR S1) :: fs) h1 := by
 refine RunP.fun_ D.f28 rfl (WP.seq (WP.reg (WO.valS (v := .slN) rfl (WO.nil (WP.seq (WP.reg (WO.valS (v := .int .i64 0) rfl (WO.nil (WP.seq (WP.block (WP.loopG (α := Nat) (fun i env h => ∃ x4, (i ≤ S.length ∧ ∀ x ∈ S.take i, x < s) ∧ env = argsP [v, L.str s, .slN, .int .i64 (i : Int), x4] 0 Env.nil ∧ St (.acu bs f 1 v (SR S) :: fs) h) (fun i => S.length - i) 0 ?_ ?_)))))))))))
 ·exact ⟨.bot, ⟨Nat.zero_le _, fun x hx => by simp at hx⟩, by kernel_rfl, st⟩
 rintro i _ h ⟨x4, ⟨hi, hlt⟩, rfl, st⟩
 refine WP.seq (WP.seq (WP.reg (WO.val (v := .int .i64 (S.length : Int)) (L.llenRn rfl (st.acuRows 0 rfl (by decide)) (SR_len _)) (WO.ifV (L.lss rfl rfl) (fun c1 => ?_) (fun c1 => ?_)))))
 ·replace c1 : i < S.length := by omega
  obtain ⟨x, hx⟩ : ∃ y, S[i]? = some y := ⟨S[i]'(by omega), List.getElem?_eq_getElem (by omega)⟩
  refine WO.yes rfl (WO.val (v := v) rfl (WO.yes rfl (WO.val (v := .int .i64 (i : Int)) rfl (WO.yes rfl (WO.val (v := .ptr (slB v) (slO v + i * 1)) (L.iaddrZ (st.acuRows 0 rfl (by decide)) (by rw [SR_len]; omega) rfl rfl) (WO.yes rfl (WO.val (v := L.str x) (L.load rfl ((st.acuRows 0 rfl (by decide)).load1Z (SR_at hx))) (WO.yes rfl (WO.val (v := L.str s) rfl (WO.yes rfl (WO.ifV (L.slss rfl rfl) (fun c2 => ?_) (fun c2 => ?_))))))))))))
  ·refine WO.valS (v := .bool true) rfl (WO.nil (WP.cond (t := true) rfl (WP.skip (WP.block (WP.reg (WO.valS (v := .int .i64 ((i + 1 : Nat) : Int)) (L.addE rfl rfl (by omega) (And.intro (by omega) (by omega))) (WO.nil ?_)))))))
   exact ⟨i + 1, (by omega), (.bool true), ⟨by omega, lt_take hlt hx c2⟩, by kernel_rfl, st⟩
  ·have hge : ∀ z, S[i]? = some z → ¬ z < s := fun z h => by rw [hx] at h; cases h; exact c2
   refine WO.valS (v := .bool false) rfl (WO.nil (WP.cond (t := false) rfl (WP.exit (WP.seq (WP.seq (WP.reg (WO.val (v := .int .i64 (S.length : Int)) (L.llenRn rfl (st.acuRows 0 rfl (by decide)) (SR_len _)) (WO.ifV (L.lss rfl rfl) (fun _ => ?_) (fun c_ => by exfalso; omega)))))))))
   refine WO.yes rfl (WO.val (v := v) rfl (WO.yes rfl (WO.val (v := .int .i64 (i : Int)) rfl (WO.yes rfl (WO.val (v := .ptr (slB v) (slO v + i * 1)) (L.iaddrZ (st.acuRows 0 rfl (by decide)) (by rw [SR_len]; omega) rfl rfl) (WO.yes rfl (WO.val (v := L.str x) (L.load rfl ((st.acuRows 0 rfl (by decide)).load1Z (SR_at hx))) (WO.yes rfl (WO.val (v := L.str s) rfl (WO.yes rfl (WO.ifV (L.seq rfl rfl) (fun c3 => ?_) (fun c3 => ?_))))))))))))
   ·refine WO.valS (v := .bool true) rfl (WO.nil (WP.cond (t := true) rfl (WP.seq (WP.reg (WO.valS (v := v) rfl (WO.nil (WP.ret ?_)))))))
    exact ⟨_, (res_cons (res_tmp (v := v) rfl) (res_nil _ _)), _, _, S, ⟨i, hi, hlt, hge, (if_pos (by rw [hx, c3])).symm⟩, st⟩
   ·have hne : ¬ S[i]? = some s := by rw [hx]; intro e; exact c3 (Option.some.inj e)
    refine WO.valS (v := .bool false) rfl (WO.nil (WP.cond (t := false) rfl (WP.skip (WP.seq (WP.reg (WO.bslF (rows := [[.str 0 0]]) st rfl (by decide) rfl (by simp) (fun lit1 h st => ?_)))))))
    refine WO.appUS (st.pick 1 rfl) rfl rfl (new := [[V.str 0 0]]) (st.stb_at 0 rfl) (by decide) (by rw [SR_len]; simp only [List.length_cons, List.length_nil]; omega) (fun bs1 f1 v1 h st => ?_)
    rw [show SR S ++ [[V.str 0 0]] = SR (S.take S.length ++ [] :: S.drop S.length) from by rw [List.take_length, List.drop_length, SR_app]; rfl] at st
    obtain ⟨b, rfl⟩ : ∃ b, v1 = .sl b 0 (S.length + 1) none := acu_sl (st.acu_at 0 rfl) (by rw [SR_len]; simp) (by omega)
    refine WO.nil (WP.seq (WP.seq (WP.reg (WO.val (v := .int .i64 ((S.length + 1 : Nat) : Int)) (L.llen rfl) (WO.valS (v := .int .i64 (S.length : Int)) (L.subE rfl rfl (by omega) (And.intro (by omega) (by omega))) (WO.nil (WP.block (WP.loopG (α := Nat) (fun k env h => ∃ w x7, (i ≤ k ∧ k ≤ S.length) ∧ env = argsP [.sl b 0 (S.length + 1) none, L.str s, .slN, .int .i64 (i : Int), .bool false, .bool false, .int .i64 (k : Int), x7] 0 Env.nil ∧ St (.acu bs1 f1 1 (.sl b 0 (S.length + 1) none) (SR (S.take k ++ w :: S.drop k)) :: fs) h) (fun k => k) S.length ?_ ?_))))))))
    ·exact ⟨[], .bot, ⟨hi, Nat.le_refl _⟩, by kernel_rfl, (st.pick 1 rfl).tail⟩
    rintro k _ h ⟨w, x7, ⟨hik, hk⟩, rfl, st⟩
    refine WP.seq (WP.seq (WP.reg (WO.ifS (L.gtr rfl rfl) (fun c4 => ?_) (fun c4 => ?_))))
    ·obtain ⟨q, rfl⟩ : ∃ q, k = q + 1 := ⟨k - 1, by omega⟩
     obtain ⟨y, hy⟩ : ∃ y, S[q]? = some y := ⟨S[q]'(by omega), List.getElem?_eq_getElem (by omega)⟩
     refine WO.nil (WP.cond (t := true) rfl (WP.skip (WP.seq (WP.block (WP.reg (WO.val (v := .int .i64 (q : Int)) (L.subE rfl rfl (by omega) (And.intro (by omega) (by omega))) (WO.val (v := .ptr b (0 + q * 1)) (L.iaddr rfl rfl (by omega)) (WO.val (v := L.str y) (L.load rfl ((st.acuRows 0 rfl (by decide)).load1 (SR_at (shift_get hy)))) (WO.val (v := .ptr b (0 + (q + 1) * 1)) (L.iaddr rfl rfl (by omega)) (WO.storeU st rfl rfl (by decide) (by rw [SR_len]; simp; omega) rfl (fun h st => ?_)))))))))))
     replace st : St (.acu bs1 f1 1 (.sl b 0 (S.length + 1) none) (SR (S.take q ++ y :: S.drop q)) :: fs) h := by rw [← shift_set hy (w := w), ← SR_set]; exact st
     refine WO.nil (WP.reg (WO.valS (v := .int .i64 (q : Int)) (L.subE rfl rfl (by omega) (And.intro (by omega) (by omega))) (WO.nil ?_)))
     exact ⟨q, (by omega), y, (.bool true), ⟨by omega, by omega⟩, by kernel_rfl, st⟩
    ·obtain rfl : k = i := by omega
     refine WO.nil (WP.cond (t := false) rfl (WP.exit (WP.seq (WP.reg (WO.val (v := .ptr b (0 + k * 1)) (L.iaddr rfl rfl (by omega)) (WO.storeU st rfl rfl (by decide) (by rw [SR_len]; simp; omega) rfl (fun h st => ?_)))))))
     replace st : St (.acu bs1 f1 1 (.sl b 0 (S.length + 1) none) (SR (S.take k ++ s :: S.drop k)) :: fs) h := by rw [← put_set (w := w) (show k ≤ S.length by omega), ← SR_set]; exact st
     refine WO.nil (WP.seq (WP.reg (WO.valS (v := .sl b 0 (S.length + 1) none) rfl (WO.nil (WP.ret ?_)))))
     exact ⟨_, (res_cons (res_tmp (v := .sl b 0 (S.length + 1) none) rfl) (res_nil _ _)), _, _, _, ⟨k, by omega, hlt, hge, (if_neg hne).symm⟩, st⟩
 ·replace c1 : ¬ i < S.length := by omega
  have hx : S[i]? = none := List.getElem?_eq_none (by omega)
  have hge : ∀ x, S[i]? = some x → ¬ x < s := fun x h => by rw [hx] at h; cases h
  have hne : ¬ S[i]? = some s := by rw [hx]; simp
  refine WO.no rfl (WO.no rfl (WO.no rfl (WO.no rfl (WO.no rfl (WO.no rfl (WO.valS (v := .bool false) rfl (WO.nil (WP.cond (t := false) rfl (WP.exit (WP.seq (WP.seq (WP.reg (WO.val (v := .int .i64 (S.length : Int)) (L.llenRn rfl (st.acuRows 0 rfl (by decide)) (SR_len _)) (WO.ifV (L.lss rfl rfl) (fun c_ => by exfalso; omega) (fun _ => ?_)))))))))))))))
  refine WO.no rfl (WO.no rfl (WO.no rfl (WO.no rfl (WO.no rfl (WO.no rfl (WO.valS (v := .bool false) rfl (WO.nil (WP.cond (t := false) rfl (WP.skip (WP.seq (WP.reg (WO.bslF (rows := [[.str 0 0]]) st rfl (by decide) rfl (by simp) (fun lit2 h st => ?_)))))))))))))
  refine WO.appUS (st.pick 1 rfl) rfl rfl (new := [[V.str 0 0]]) (st.stb_at 0 rfl) (by decide) (by rw [SR_len]; simp only [List.length_cons, List.length_nil]; omega) (fun bs1 f1 v1 h st => ?_)
  rw [show SR S ++ [[V.str 0 0]] = SR (S.take S.length ++ [] :: S.drop S.length) from by rw [List.take_length, List.drop_length, SR_app]; rfl] at st
  obtain ⟨b, rfl⟩ : ∃ b, v1 = .sl b 0 (S.length + 1) none := acu_sl (st.acu_at 0 rfl) (by rw [SR_len]; simp) (by omega)
  refine WO.nil (WP.seq (WP.seq (WP.reg (WO.val (v := .int .i64 ((S.length + 1 : Nat) : Int)) (L.llen rfl) (WO.valS (v := .int .i64 (S.length : Int)) (L.subE rfl rfl (by omega) (And.intro (by omega) (by omega))) (WO.nil (WP.block (WP.loopG (α := Nat) (fun k env h => ∃ w x7, (i ≤ k ∧ k ≤ S.length) ∧ env = argsP [.sl b 0 (S.length + 1) none, L.str s, .slN, .int .i64 (i : Int), .bool false, .bool false, .int .i64 (k : Int), x7] 0 Env.nil ∧ St (.acu bs1 f1 1 (.sl b 0 (S.length + 1) none) (SR (S.take k ++ w :: S.drop k)) :: fs) h) (fun k => k) S.length ?_ ?_))))))))
  ·exact ⟨[], .bot, ⟨hi, Nat.le_refl _⟩, by kernel_rfl, (st.pick 1 rfl).tail⟩
  rintro k _ h ⟨w, x7, ⟨hik, hk⟩, rfl, st⟩
  refine WP.seq (WP.seq (WP.reg (WO.ifS (L.gtr rfl rfl) (fun c4 => ?_) (fun c4 => ?_))))
  ·obtain ⟨q, rfl⟩ : ∃ q, k = q + 1 := ⟨k - 1, by omega⟩
   obtain ⟨y, hy⟩ : ∃ y, S[q]? = some y := ⟨S[q]'(by omega), List.getElem?_eq_getElem (by omega)⟩
   refine WO.nil (WP.cond (t := true) rfl (WP.skip (WP.seq (WP.block (WP.reg (WO.val (v := .int .i64 (q : Int)) (L.subE rfl rfl (by omega) (And.intro (by omega) (by omega))) (WO.val (v := .ptr b (0 + q * 1)) (L.iaddr rfl rfl (by omega)) (WO.val (v := L.str y) (L.load rfl ((st.acuRows 0 rfl (by decide)).load1 (SR_at (shift_get hy)))) (WO.val (v := .ptr b (0 + (q + 1) * 1)) (L.iaddr rfl rfl (by omega)) (WO.storeU st rfl rfl (by decide) (by rw [SR_len]; simp; omega) rfl (fun h st => ?_)))))))))))
   replace st : St (.acu bs1 f1 1 (.sl b 0 (S.length + 1) none) (SR (S.take q ++ y :: S.drop q)) :: fs) h := by rw [← shift_set hy (w := w), ← SR_set]; exact st
   refine WO.nil (WP.reg (WO.valS (v := .int .i64 (q : Int)) (L.subE rfl rfl (by omega) (And.intro (by omega) (by omega))) (WO.nil ?_)))
   exact ⟨q, (by omega), y, (.bool true), ⟨by omega, by omega⟩, by kernel_rfl, st⟩
  ·obtain rfl : k = i := by omega
   refine WO.nil (WP.cond (t := false) rfl (WP.exit (WP.seq (WP.reg (WO.val (v := .ptr b (0 + k * 1)) (L.iaddr rfl rfl (by omega)) (WO.storeU st rfl rfl (by decide) (by rw [SR_len]; simp; omega) rfl (fun h st => ?_)))))))
   replace st : St (.acu bs1 f1 1 (.sl b 0 (S.length + 1) none) (SR (S.take k ++ s :: S.drop k)) :: fs) h := by rw [← put_set (w := w) (show k ≤ S.length by omega), ← SR_set]; exact st
   refine WO.nil (WP.seq (WP.reg (WO.valS (v := .sl b 0 (S.length + 1) none) rfl (WO.nil (WP.ret ?_)))))
   exact ⟨_, (res_cons (res_tmp (v := .sl b 0 (S.length + 1) none) rfl) (res_nil _ _)), _, _, _, ⟨k, by omega, hlt, hge, (if_neg hne).symm⟩, st⟩
end
end Go.Eng.Ytjgmahbgfbkhnaa
namespace Go.Eng.Ytjgmahbgfbkhnaa
open Go.Eng
noncomputable section
variable {c : Ctx}
structure HasI (c : Ctx) : Prop where
 f13 : T.get 13 c.funs = some i13
 h : HasH c
theorem rmake_c (D : HasI c) {fs : List Fact} {h : Heap} {v : V} {ps : List Prm} (hn : ps.length < 2147483648) (st : St (.stb (fun h => PRows h v ps) :: fs) h) :
  RunP c 13 [v] h fun v1 h1 => ∃ vN vL vJ vK, v1 = .tup [.agg ((mkLat (pr ps)).num vN vL vJ vK), .int .i64 ((Lab.made (pr ps)).1 : Int)] ∧ St (.stb (fun h => LatR h vN vL vJ vK (mkLat (pr ps))) :: .stb (fun h => PRows h v ps) :: fs) h1 := by
 refine RunP.fun_ D.f13 rfl (WP.seq (WP.reg (WO.boxFS st L.alloc (fun res h st => ?_))))
 refine WO.valS (v := .int .i64 0) rfl (WO.nil (WP.seq (WP.reg (WO.valS (v := .slN) rfl (WO.nil (WP.seq (WP.seq (WP.reg (WO.valS (v := .int .i64 0) rfl (WO.nil (WP.block ?_)))))))))))
 replace st : St (.acu ([]) 0 1 .slN ([]) :: .box res [.slN, .slN, .slN, .slN, .int .i64 0, .int .i64 0] :: .stb (fun h => PRows h v ps) :: fs) h := st.acu0 1
 refine WP.loopG (α := Nat) (fun i env h => ∃ bs f vn S x4 x6 x7, (i ≤ ps.length ∧ Lab.Seen (pr (ps.take i)) S ∧ S.length ≤ 13) ∧ env = argsP [v, .ptr res 0, .int .i64 0, .int .i64 (i : Int), x4, vn, x6, x7] 0 Env.nil ∧ St (.acu bs f 1 vn (SR S) :: .box res [.slN, .slN, .slN, .slN, .int .i64 0, .int .i64 0] :: .stb (fun h => PRows h v ps) :: fs) h) (fun i => ps.length - i) 0 ?_ ?_
 ·exact ⟨[], 0, .slN, [], .bot, .bot, .bot, ⟨Nat.zero_le _, Lab.Seen.nil, Nat.zero_le _⟩, by kernel_rfl, st⟩
 rintro i _ h ⟨bs, f, vn, S, x4, x6, x7, ⟨hi, hseen, hS⟩, rfl, st⟩
 refine WP.seq (WP.seq (WP.reg (WO.val (v := .int .i64 (ps.length : Int)) (L.llenP rfl (st.stb_at 2 rfl)) (WO.ifS (L.lss rfl rfl) (fun c1 => ?_) (fun c1 => ?_)))))
 ·replace c1 : i < ps.length := by omega
  obtain ⟨p, hp⟩ : ∃ y, ps[i]? = some y := ⟨ps[i]'(by omega), List.getElem?_eq_getElem (by omega)⟩
  refine WO.nil (WP.cond (t := true) rfl (WP.skip (WP.seq (WP.block (WP.seq (WP.reg (WO.val (v := .ptr (slB v) (slO v + i * 3)) (L.iaddrP (st.stb_at 2 rfl) c1 rfl rfl) (WO.val (v := .ptr (slB v) (slO v + i * 3 + 0)) (L.faddr rfl) (WO.val (v := L.str p.1) (L.load rfl (PRows.at1 (j := 0) (st.stb_at 2 rfl) hp rfl)) (WO.callFS rfl (insert_c D.h (by omega) st) ?_))))))))))
  rintro w1 h ⟨bs1, f1, S1, hi1, st⟩
  have hl1 := hi1.len
  refine WO.nil (WP.seq (WP.seq (WP.reg (WO.val (v := .ptr (slB v) (slO v + i * 3)) (L.iaddrP (st.stb_at 2 rfl) c1 rfl rfl) (WO.val (v := .ptr (slB v) (slO v + i * 3 + 1)) (L.faddr rfl) (WO.val (v := L.str p.2.1) (L.load rfl (PRows.at1 (j := 1) (st.stb_at 2 rfl) hp rfl)) (WO.ifS (L.sne (m := []) rfl rfl) (fun cl => ?_) (fun cl => ?_))))))))
  ·refine WO.nil (WP.cond (t := true) rfl (WP.reg (WO.val (v := .ptr (slB v) (slO v + i * 3)) (L.iaddrP (st.stb_at 2 rfl) c1 rfl rfl) (WO.val (v := .ptr (slB v) (slO v + i * 3 + 1)) (L.faddr rfl) (WO.val (v := L.str p.2.1) (L.load rfl (PRows.at1 (j := 1) (st.stb_at 2 rfl) hp rfl)) (WO.callFS rfl (insert_c D.h (by omega) st) ?_))))))
   rintro w2 h ⟨bs2, f2, S2, hi2, st⟩
   have hl2 := hi2.len
   refine WO.nil (WP.seq (WP.reg (WO.val (v := .int .i64 (S2.length : Int)) (L.llenRn rfl (st.acuRows 0 rfl (by decide)) (SR_len _)) (WO.ifS (L.gtr rfl rfl) (fun cg => ?_) (fun cg => ?_)))))
   ·replace cg : 13 < S2.length := by omega
    have hmany := (hseen.two (p := (p.1, p.2.1)) hi1 hi2 cl).many (rest := (pr ps).drop (i + 1))
    rw [← pr_take hp, pr_split] at hmany
    refine WO.nil (WP.cond (t := true) rfl (WP.exit (WP.seq (WP.reg (WO.valS (v := .int .i64 (S2.length : Int)) (L.llenRn rfl (st.acuRows 0 rfl (by decide)) (SR_len _)) (WO.nil (WP.seq (WP.seq (WP.reg (WO.ifS (L.eql rfl rfl) (fun c_ => by exfalso; omega) (fun _ => ?_)))))))))))
    refine WO.nil (WP.cond (t := false) rfl (WP.skip (WP.seq (WP.seq (WP.reg (WO.ifS (L.gtr rfl rfl) (fun _ => ?_) (fun c_ => by exfalso; omega)))))))
    refine WO.nil (WP.cond (t := true) rfl (WP.seq (WP.reg (WO.val (v := .agg [.slN, .slN, .slN, .slN, .int .i64 0, .int .i64 0]) (L.build rfl) (WO.storeF (row' := [.slN, .slN, .slN, .slN, .int .i64 0, .int .i64 0]) st 1 rfl rfl rfl rfl rfl rfl rfl (fun h st => ?_))))))
    refine WO.valS (v := .int .i64 14) rfl (WO.nil (WP.ret ?_))
    rw [show mkLat (pr ps) = Lat.none from by unfold mkLat; rw [Lab.made_many (by omega)], Lab.made_many (by omega)]
    exact ⟨_, (res_cons (res_cellA (l := [.slN, .slN, .slN, .slN, .int .i64 0, .int .i64 0]) rfl (L.load_box (st.box_at 1 rfl) rfl rfl rfl)) (res_cons (res_tmp (v := .int .i64 14) rfl) (res_nil _ _))), .slN, .slN, .slN, .slN, rfl, St.triv (P := fun h => LatR h .slN .slN .slN .slN Lat.none) (st.tail.tail) fun h => LatR.none h⟩
   ·replace cg : ¬ 13 < S2.length := by omega
    refine WO.nil (WP.cond (t := false) rfl (WP.skip (WP.reg (WO.valS (v := .int .i64 ((i + 1 : Nat) : Int)) (L.addE rfl rfl (by omega) (And.intro (by omega) (by omega))) (WO.nil ?_)))))
    exact ⟨i + 1, (by omega), bs2, f2, w2, S2, (.bool true), (.bool true), (.bool false), ⟨by omega, (by have := hseen.two (p := (p.1, p.2.1)) hi1 hi2 cl; rw [← pr_take hp] at this; exact this), by omega⟩, by kernel_rfl, st⟩
  ·refine WO.nil (WP.cond (t := false) rfl (WP.skip (WP.seq (WP.reg (WO.val (v := .int .i64 (S1.length : Int)) (L.llenRn rfl (st.acuRows 0 rfl (by decide)) (SR_len _)) (WO.ifS (L.gtr rfl rfl) (fun cg => ?_) (fun cg => ?_)))))))
   ·replace cg : 13 < S1.length := by omega
    have hmany := (hseen.one (p := (p.1, p.2.1)) hi1 (Decidable.not_not.1 cl)).many (rest := (pr ps).drop (i + 1))
    rw [← pr_take hp, pr_split] at hmany
    refine WO.nil (WP.cond (t := true) rfl (WP.exit (WP.seq (WP.reg (WO.valS (v := .int .i64 (S1.length : Int)) (L.llenRn rfl (st.acuRows 0 rfl (by decide)) (SR_len _)) (WO.nil (WP.seq (WP.seq (WP.reg (WO.ifS (L.eql rfl rfl) (fun c_ => by exfalso; omega) (fun _ => ?_)))))))))))
    refine WO.nil (WP.cond (t := false) rfl (WP.skip (WP.seq (WP.seq (WP.reg (WO.ifS (L.gtr rfl rfl) (fun _ => ?_) (fun c_ => by exfalso; omega)))))))
    refine WO.nil (WP.cond (t := true) rfl (WP.seq (WP.reg (WO.val (v := .agg [.slN, .slN, .slN, .slN, .int .i64 0, .int .i64 0]) (L.build rfl) (WO.storeF (row' := [.slN, .slN, .slN, .slN, .int .i64 0, .int .i64 0]) st 1 rfl rfl rfl rfl rfl rfl rfl (fun h st => ?_))))))
    refine WO.valS (v := .int .i64 14) rfl (WO.nil (WP.ret ?_))
    rw [show mkLat (pr ps) = Lat.none from by unfold mkLat; rw [Lab.made_many (by omega)], Lab.made_many (by omega)]
    exact ⟨_, (res_cons (res_cellA (l := [.slN, .slN, .slN, .slN, .int .i64 0, .int .i64 0]) rfl (L.load_box (st.box_at 1 rfl) rfl rfl rfl)) (res_cons (res_tmp (v := .int .i64 14) rfl) (res_nil _ _))), .slN, .slN, .slN, .slN, rfl, St.triv (P := fun h => LatR h .slN .slN .slN .slN Lat.none) (st.tail.tail) fun h => LatR.none h⟩
   ·replace cg : ¬ 13 < S1.length := by omega
    refine WO.nil (WP.cond (t := false) rfl (WP.skip (WP.reg (WO.valS (v := .int .i64 ((i + 1 : Nat) : Int)) (L.addE rfl rfl (by omega) (And.intro (by omega) (by omega))) (WO.nil ?_)))))
    exact ⟨i + 1, (by omega), bs1, f1, w1, S1, (.bool true), (.bool false), (.bool false), ⟨by omega, (by have := hseen.one (p := (p.1, p.2.1)) hi1 (Decidable.not_not.1 cl); rw [← pr_take hp] at this; exact this), by omega⟩, by kernel_rfl, st⟩
 ·replace c1 : ¬ i < ps.length := by omega
  rw [List.take_of_length_le (by omega)] at hseen
  obtain rfl : i = ps.length := by omega
  have hnS : S = Lab.names (pr ps) := hseen.is
  obtain ⟨NS, hNS⟩ : ∃ NS, NS = Lab.names (pr ps) := ⟨_, rfl⟩
  rw [hnS, ← hNS] at st
  have hN13 : NS.length ≤ 13 := by rw [hNS, ← hnS]; exact hS
  have hN32 : NS.length < 4294967296 := by omega
  refine WO.nil (WP.cond (t := false) rfl (WP.exit (WP.seq (WP.reg (WO.valS (v := .int .i64 (NS.length : Int)) (L.llenRn rfl (st.acuRows 0 rfl (by decide)) (SR_len _)) (WO.nil (WP.seq (WP.seq (WP.reg (WO.ifS (L.eql rfl rfl) (fun e0 => ?_) (fun e0 => ?_)))))))))))
  ·replace e0 : NS.length = 0 := by omega
   refine WO.nil (WP.cond (t := true) rfl (WP.seq (WP.reg (WO.val (v := .agg [.slN, .slN, .slN, .slN, .int .i64 0, .int .i64 0]) (L.build rfl) (WO.storeF (row' := [.slN, .slN, .slN, .slN, .int .i64 0, .int .i64 0]) st 1 rfl rfl rfl rfl rfl rfl rfl (fun h st => ?_))))))
   refine WO.valS (v := .int .i64 13) rfl (WO.nil (WP.ret ?_))
   rw [show mkLat (pr ps) = Lat.none from by unfold mkLat; rw [Lab.made_none (by rw [← hNS]; exact e0)], Lab.made_none (by rw [← hNS]; exact e0)]
   exact ⟨_, (res_cons (res_cellA (l := [.slN, .slN, .slN, .slN, .int .i64 0, .int .i64 0]) rfl (L.load_box (st.box_at 1 rfl) rfl rfl rfl)) (res_cons (res_tmp (v := .int .i64 13) rfl) (res_nil _ _))), .slN, .slN, .slN, .slN, rfl, St.triv (P := fun h => LatR h .slN .slN .slN .slN Lat.none) (st.tail.tail) fun h => LatR.none h⟩
  ·replace e0 : ¬ NS.length = 0 := by omega
   refine WO.nil (WP.cond (t := false) rfl (WP.skip (WP.seq (WP.seq (WP.reg (WO.ifS (L.gtr rfl rfl) (fun e1 => ?_) (fun e1 => ?_)))))))
   ·replace e1 : 12 < NS.length := by omega
    refine WO.nil (WP.cond (t := true) rfl (WP.seq (WP.reg (WO.val (v := .agg [.slN, .slN, .slN, .slN, .int .i64 0, .int .i64 0]) (L.build rfl) (WO.storeF (row' := [.slN, .slN, .slN, .slN, .int .i64 0, .int .i64 0]) st 1 rfl rfl rfl rfl rfl rfl rfl (fun h st => ?_))))))
    refine WO.valS (v := .int .i64 14) rfl (WO.nil (WP.ret ?_))
    rw [show mkLat (pr ps) = Lat.none from by unfold mkLat; rw [Lab.made_many (by rw [← hNS]; exact e1)], Lab.made_many (by rw [← hNS]; exact e1)]
    exact ⟨_, (res_cons (res_cellA (l := [.slN, .slN, .slN, .slN, .int .i64 0, .int .i64 0]) rfl (L.load_box (st.box_at 1 rfl) rfl rfl rfl)) (res_cons (res_tmp (v := .int .i64 14) rfl) (res_nil _ _))), .slN, .slN, .slN, .slN, rfl, St.triv (P := fun h => LatR h .slN .slN .slN .slN Lat.none) (st.tail.tail) fun h => LatR.none h⟩
   ·replace e1 : ¬ 12 < NS.length := by omega
    refine WO.nil (WP.cond (t := false) rfl (WP.skip (WP.seq (WP.reg (WO.valS (v := .slN) rfl (WO.nil (WP.seq (WP.seq (WP.reg (WO.valS (v := .int .i64 0) rfl (WO.nil (WP.block ?_))))))))))))
    replace st : St (.stb (fun h => Rows 1 h vn (SR NS)) :: .box res [.slN, .slN, .slN, .slN, .int .i64 0, .int .i64 0] :: .stb (fun h => PRows h v ps) :: fs) h := (st).shutU (by decide)
    replace st : St (.acc 0 1 .slN ([]) :: .stb (fun h => Rows 1 h vn (SR NS)) :: .box res [.slN, .slN, .slN, .slN, .int .i64 0, .int .i64 0] :: .stb (fun h => PRows h v ps) :: fs) h := st.acc0 1
    refine WP.loopG (α := Nat) (fun a env h => ∃ bl fL vL x12 x13, (a ≤ NS.length ∧ bl.length = a) ∧ env = argsP [v, .ptr res 0, .int .i64 0, .int .i64 (ps.length : Int), .bool false, vn, x6, x7, .int .i64 (NS.length : Int), .bool false, .bool false, .int .i64 (a : Int), x12, x13, vL] 0 Env.nil ∧ St (.acc fL 1 vL (bl.map fun b => [V.sl b 0 NS.length (some NS.length)]) :: .stb (fun h => Rows 1 h vn (SR NS)) :: .box res [.slN, .slN, .slN, .slN, .int .i64 0, .int .i64 0] :: .stb (fun h => PRows h v ps) :: (tabF bl (Lab.unitK NS.length a) ++ fs)) h) (fun a => NS.length - a) 0 ?_ ?_
    ·exact ⟨[], 0, .slN, .bot, .bot, ⟨Nat.zero_le _, rfl⟩, by kernel_rfl, st⟩
    rintro a _ h ⟨bl, fL, vL, x12, x13, ⟨ha, hbl⟩, rfl, st⟩
    refine WP.seq (WP.seq (WP.reg (WO.ifS (L.lss rfl rfl) (fun ca => ?_) (fun ca => ?_))))
    ·replace ca : a < NS.length := by omega
     refine WO.nil (WP.cond (t := true) rfl (WP.skip (WP.seq (WP.block (WP.seq (WP.reg (WO.mkslFS st rfl rfl (by decide) rfl (by omega) (fun rb h st => ?_))))))))
     refine WO.nil (WP.seq (WP.reg (WO.val (v := .ptr rb (0 + a * 1)) (L.iaddr rfl rfl (by omega)) (WO.storeCelF st rfl rfl (by simp; omega) (fun h st => ?_)))))
     refine WO.nil (WP.reg (WO.bslF (rows := [[.sl rb 0 NS.length (some NS.length)]]) st rfl (by decide) rfl (by simp) (fun rl1 h st => ?_)))
     refine WO.appFS st 2 rfl rfl rfl (st.stb_at 0 rfl) (by decide) (by simp; omega) (fun fL1 vL1 h st => ?_)
     rw [show (bl.map fun b => [V.sl b 0 NS.length (some NS.length)]) ++ [[V.sl rb 0 NS.length (some NS.length)]] = (bl ++ [rb]).map fun b => [V.sl b 0 NS.length (some NS.length)] from by simp] at st
     refine WO.nil (WP.reg (WO.valS (v := .int .i64 ((a + 1 : Nat) : Int)) (L.addE rfl rfl (by omega) (And.intro (by omega) (by omega))) (WO.nil ?_)))
     have st2 := St.snocG (gs := [_, _, _, _]) (l := tabF bl (Lab.unitK NS.length a)) st.tail
     rw [show tabF bl (Lab.unitK NS.length a) ++ [_] = tabF (bl ++ [rb]) (Lab.unitK NS.length (a + 1)) from by rw [Lab.unitK_succ, tabF_snoc (by rw [Lab.unitK_len]; exact hbl)]; unfold celB; rw [List.map_set, List.map_replicate]] at st2
     replace st := st2
     exact ⟨a + 1, (by omega), (bl ++ [rb]), fL1, vL1, (.bool true), (.sl rb 0 NS.length (some NS.length)), ⟨by omega, by simp [hbl]⟩, by kernel_rfl, st⟩
    ·obtain rfl : a = NS.length := by omega
     obtain ⟨lb, rfl⟩ := acc_sl (st.acc_at 0 rfl) (by rw [List.length_map]; exact hbl) e0
     replace st : St (.stb (fun h => Rows 1 h (.sl lb 0 NS.length none) (bl.map fun b => [V.sl b 0 NS.length (some NS.length)])) :: .stb (fun h => Rows 1 h vn (SR NS)) :: .box res [.slN, .slN, .slN, .slN, .int .i64 0, .int .i64 0] :: .stb (fun h => PRows h v ps) :: (tabF bl (Lab.table NS (pr (ps.take 0))) ++ fs)) h := (st).shut (by decide)
     replace st : St (.stb (TabV lb 0 NS.length bl) :: .stb (fun h => Rows 1 h (.sl lb 0 NS.length none) (bl.map fun b => [V.sl b 0 NS.length (some NS.length)])) :: .stb (fun h => Rows 1 h vn (SR NS)) :: .box res [.slN, .slN, .slN, .slN, .int .i64 0, .int .i64 0] :: .stb (fun h => PRows h v ps) :: (tabF bl (Lab.table NS (pr (ps.take 0))) ++ fs)) h := st.imp fun h hx a b hb => ⟨_, hx.load1 (by rw [List.getElem?_map, hb]; rfl)⟩
     replace st : St (.stb (fun h => Rows 1 h (.sl lb 0 NS.length none) (bl.map fun b => [V.sl b 0 NS.length (some NS.length)])) :: .stb (fun h => Rows 1 h vn (SR NS)) :: .box res [.slN, .slN, .slN, .slN, .int .i64 0, .int .i64 0] :: .stb (fun h => PRows h v ps) :: .stb (TabV lb 0 NS.length bl) :: (tabF bl (Lab.table NS (pr (ps.take 0))) ++ fs)) h := ((((st.pick 4 rfl).pick 4 rfl).pick 4 rfl).pick 4 rfl)
     refine WO.nil (WP.cond (t := false) rfl (WP.exit (WP.seq (WP.seq (WP.reg (WO.valS (v := .int .i64 0) rfl (WO.nil (WP.block (WP.loopG (α := Nat) (fun i env h => ∃ x16 x17, (i ≤ ps.length) ∧ env = argsP [v, .ptr res 0, .int .i64 0, .int .i64 (ps.length : Int), .bool false, vn, x6, x7, .int .i64 (NS.length : Int), .bool false, .bool false, .int .i64 (NS.length : Int), .bool false, x13, .sl lb 0 NS.length none, .int .i64 (i : Int), x16, x17] 0 Env.nil ∧ St (.stb (fun h => Rows 1 h (.sl lb 0 NS.length none) (bl.map fun b => [V.sl b 0 NS.length (some NS.length)])) :: .stb (fun h => Rows 1 h vn (SR NS)) :: .box res [.slN, .slN, .slN, .slN, .int .i64 0, .int .i64 0] :: .stb (fun h => PRows h v ps) :: .stb (TabV lb 0 NS.length bl) :: (tabF bl (Lab.table NS (pr (ps.take i))) ++ fs)) h) (fun i => ps.length - i) 0 ?_ ?_)))))))))
     ·exact ⟨.bot, .bot, Nat.zero_le _, by kernel_rfl, st⟩
     rintro i _ h ⟨x16, x17, hi, rfl, st⟩
     refine WP.seq (WP.seq (WP.reg (WO.val (v := .int .i64 (ps.length : Int)) (L.llenP rfl (st.stb_at 3 rfl)) (WO.ifS (L.lss rfl rfl) (fun c1 => ?_) (fun c1 => ?_)))))
     ·replace c1 : i < ps.length := by omega
      obtain ⟨p, hp⟩ : ∃ y, ps[i]? = some y := ⟨ps[i]'(by omega), List.getElem?_eq_getElem (by omega)⟩
      refine WO.nil (WP.cond (t := true) rfl (WP.skip (WP.seq (WP.block (WP.seq (WP.reg (WO.val (v := .ptr (slB v) (slO v + i * 3)) (L.iaddrP (st.stb_at 3 rfl) c1 rfl rfl) (WO.val (v := .ptr (slB v) (slO v + i * 3 + 1)) (L.faddr rfl) (WO.val (v := L.str p.2.1) (L.load rfl (PRows.at1 (j := 1) (st.stb_at 3 rfl) hp rfl)) (WO.ifS (L.sne (m := []) rfl rfl) (fun cl => ?_) (fun cl => ?_)))))))))))
      ·have hm : p.1 ∈ NS ∧ p.2.1 ∈ NS := by rw [hNS]; exact Lab.names_has (p.1, p.2.1) (List.mem_map.2 ⟨p, List.mem_of_getElem? hp, rfl⟩) cl
       have h1l : NS.idxOf p.1 < NS.length := List.idxOf_lt_length_of_mem hm.1
       have h2l : NS.idxOf p.2.1 < NS.length := List.idxOf_lt_length_of_mem hm.2
       obtain ⟨rb, hrb⟩ : ∃ b, bl[NS.idxOf p.1]? = some b := ⟨bl[NS.idxOf p.1]'(by omega), List.getElem?_eq_getElem (by omega)⟩
       have hrow : (bl.map fun b => [V.sl b 0 NS.length (some NS.length)])[NS.idxOf p.1]? = some [.sl rb 0 NS.length (some NS.length)] := by rw [List.getElem?_map, hrb]; rfl
       obtain ⟨rr, hrr, hrl⟩ := (Lab.table_sq NS (pr (ps.take i))).at h1l
       refine WO.nil (WP.cond (t := true) rfl (WP.draw (WD.val (v := .sl lb 0 NS.length none) rfl (WD.val (v := vn) rfl (WD.val (v := v) rfl (WD.val (v := .int .i64 (i : Int)) rfl (WD.val (v := .ptr (slB v) (slO v + i * 3)) (L.iaddrP (st.stb_at 3 rfl) c1 rfl rfl) (WD.val (v := .ptr (slB v) (slO v + i * 3 + 0)) (L.faddr rfl) (WD.val (v := L.str p.1) (L.load rfl (PRows.at1 (j := 0) (st.stb_at 3 rfl) hp rfl)) (WD.val (v := vn) rfl (WD.val (v := v) rfl (WD.val (v := .int .i64 (i : Int)) rfl (WD.val (v := .ptr (slB v) (slO v + i * 3)) (L.iaddrP (st.stb_at 3 rfl) c1 rfl rfl) (WD.val (v := .ptr (slB v) (slO v + i * 3 + 1)) (L.faddr rfl) (WD.val (v := L.str p.2.1) (L.load rfl (PRows.at1 (j := 1) (st.stb_at 3 rfl) hp rfl)) (WD.callF rfl (rplace_c D.h.g.r hN32 (st.stb_at 1 rfl)) (fun _ h1_ hp2 => ?_) ?_))))))))))))))))
       ·obtain ⟨_, rfl⟩ := hp2
        exact stills_cons (by first | exact still_rd (L.load rfl (PRows.at1 (j := 1) (st.stb_at 3 rfl) hp rfl)) | exact still_rd (L.load rfl ((st.stb_at 0 rfl).load1 hrow)) | exact still_rd (L.loadB rfl (st.box_at 2 rfl) rfl) | exact still_box st 2 rfl | exact still_rd (L.loadnB rfl (st.box_at 2 rfl) rfl rfl rfl)) (stills_nil _ _)
       rintro _ _ ⟨rfl, rfl⟩
       rw [show placeZ NS p.1 = (NS.idxOf p.1 : Int) from if_pos hm.1]
       refine WD.val (v := .ptr lb (0 + NS.idxOf p.1 * 1)) (L.iaddr rfl rfl (by omega)) (WD.val (v := .sl rb 0 NS.length (some NS.length)) (L.load rfl ((st.stb_at 0 rfl).load1 hrow)) (WD.callF rfl (rplace_c D.h.g.r hN32 (st.stb_at 1 rfl)) (fun _ h1_ hp2 => ?_) ?_))
       ·obtain ⟨_, rfl⟩ := hp2
        exact stills_cons (by first | exact still_rd (L.load rfl (PRows.at1 (j := 1) (st.stb_at 3 rfl) hp rfl)) | exact still_rd (L.load rfl ((st.stb_at 0 rfl).load1 hrow)) | exact still_rd (L.loadB rfl (st.box_at 2 rfl) rfl) | exact still_box st 2 rfl | exact still_rd (L.loadnB rfl (st.box_at 2 rfl) rfl rfl rfl)) (stills_nil _ _)
       rintro _ _ ⟨rfl, rfl⟩
       rw [show placeZ NS p.2.1 = (NS.idxOf p.2.1 : Int) from if_pos hm.2]
       refine WD.val (v := .ptr rb (0 + NS.idxOf p.2.1 * 1)) (L.iaddr rfl rfl (by omega)) (WD.storeT (St.rot (gs := [_, _, _, _]) st) rfl rfl hrb hrr (by rw [hrl]; omega) (fun h st => ?_))
       have epu : (Lab.table NS (pr (ps.take i))).set (NS.idxOf p.1) (rr.set (NS.idxOf p.2.1) true) = Lab.put (Lab.table NS (pr (ps.take i))) (NS.idxOf p.1) (NS.idxOf p.2.1) := by unfold Lab.put; rw [hrr]; rfl
       rw [epu] at st
       replace st : St (.stb (fun h => Rows 1 h (.sl lb 0 NS.length none) (bl.map fun b => [V.sl b 0 NS.length (some NS.length)])) :: .stb (fun h => Rows 1 h vn (SR NS)) :: .box res [.slN, .slN, .slN, .slN, .int .i64 0, .int .i64 0] :: .stb (fun h => PRows h v ps) :: .stb (TabV lb 0 NS.length bl) :: (tabF bl (Lab.put (Lab.table NS (pr (ps.take i))) (NS.idxOf p.1) (NS.idxOf p.2.1)) ++ fs)) h := St.unrot (gs := [_, _, _, _]) st
       refine WD.nil (WP.reg (WO.valS (v := .int .i64 ((i + 1 : Nat) : Int)) (L.addE rfl rfl (by omega) (And.intro (by omega) (by omega))) (WO.nil ?_)))
       have et := Lab.table_take (ns := NS) hp
       unfold Lab.putP at et
       rw [if_neg cl] at et
       rw [← et] at st
       exact ⟨i + 1, (by omega), (.bool true), (.bool true), by omega, by kernel_rfl, st⟩
      ·refine WO.nil (WP.cond (t := false) rfl (WP.skip (WP.reg (WO.valS (v := .int .i64 ((i + 1 : Nat) : Int)) (L.addE rfl rfl (by omega) (And.intro (by omega) (by omega))) (WO.nil ?_)))))
       have et := Lab.table_take (ns := NS) hp
       unfold Lab.putP at et
       rw [if_pos (Decidable.not_not.1 cl)] at et
       rw [← et] at st
       exact ⟨i + 1, (by omega), (.bool true), (.bool false), by omega, by kernel_rfl, st⟩
     ·obtain rfl : i = ps.length := by omega
      rw [List.take_of_length_le (by omega)] at st
      obtain ⟨M0, hM0⟩ : ∃ M0, M0 = Lab.table NS (pr ps) := ⟨_, rfl⟩
      have sq0 : Sq NS.length M0 := by rw [hM0]; exact Lab.table_sq NS (pr ps)
      rw [← hM0] at st
      refine WO.nil (WP.cond (t := false) rfl (WP.exit (WP.seq (WP.seq (WP.reg (WO.valS (v := .int .i64 0) rfl (WO.nil (WP.block (WP.loopG (α := Nat) (fun k env h => ∃ x19 x20 x21 x22 x23, (k ≤ NS.length) ∧ env = argsP [v, .ptr res 0, .int .i64 0, .int .i64 (ps.length : Int), .bool false, vn, x6, x7, .int .i64 (NS.length : Int), .bool false, .bool false, .int .i64 (NS.length : Int), .bool false, x13, .sl lb 0 NS.length none, .int .i64 (ps.length : Int), .bool false, x17, .int .i64 (k : Int), x19, x20, x21, x22, x23] 0 Env.nil ∧ St (.stb (fun h => Rows 1 h (.sl lb 0 NS.length none) (bl.map fun b => [V.sl b 0 NS.length (some NS.length)])) :: .stb (fun h => Rows 1 h vn (SR NS)) :: .box res [.slN, .slN, .slN, .slN, .int .i64 0, .int .i64 0] :: .stb (fun h => PRows h v ps) :: .stb (TabV lb 0 NS.length bl) :: (tabF bl (Lab.closed k M0) ++ fs)) h) (fun k => NS.length - k) 0 ?_ ?_)))))))))
      ·exact ⟨.bot, .bot, .bot, .bot, .bot, Nat.zero_le _, by kernel_rfl, st⟩
      rintro k _ h ⟨x19, x20, x21, x22, x23, hk, rfl, st⟩
      refine WP.seq (WP.seq (WP.reg (WO.ifS (L.lss rfl rfl) (fun ck => ?_) (fun ck => ?_))))
      ·replace ck : k < NS.length := by omega
       obtain ⟨Mk, hMk⟩ : ∃ Mk, Mk = Lab.closed k M0 := ⟨_, rfl⟩
       have sqk : Sq NS.length Mk := hMk ▸ Lab.closed_sq sq0 k hk
       rw [← hMk] at st
       obtain ⟨rk, hrk, hrkl⟩ := sqk.at ck
       rw [show Mk = Lab.clPart k 0 Mk from (Lab.clPart_zero k Mk).symm] at st
       refine WO.nil (WP.cond (t := true) rfl (WP.skip (WP.seq (WP.block (WP.seq (WP.reg (WO.valS (v := .int .i64 0) rfl (WO.nil (WP.block (WP.loopG (α := Nat) (fun a env h => ∃ x21 x22 x23, (a ≤ NS.length) ∧ env = argsP [v, .ptr res 0, .int .i64 0, .int .i64 (ps.length : Int), .bool false, vn, x6, x7, .int .i64 (NS.length : Int), .bool false, .bool false, .int .i64 (NS.length : Int), .bool false, x13, .sl lb 0 NS.length none, .int .i64 (ps.length : Int), .bool false, x17, .int .i64 (k : Int), .bool true, .int .i64 (a : Int), x21, x22, x23] 0 Env.nil ∧ St (.stb (fun h => Rows 1 h (.sl lb 0 NS.length none) (bl.map fun b => [V.sl b 0 NS.length (some NS.length)])) :: .stb (fun h => Rows 1 h vn (SR NS)) :: .box res [.slN, .slN, .slN, .slN, .int .i64 0, .int .i64 0] :: .stb (fun h => PRows h v ps) :: .stb (TabV lb 0 NS.length bl) :: (tabF bl (Lab.clPart k a Mk) ++ fs)) h) (fun a => NS.length - a) 0 ?_ ?_))))))))))
       ·exact ⟨x21, x22, x23, Nat.zero_le _, by kernel_rfl, st⟩
       rintro a _ h ⟨x21, x22, x23, ha2, rfl, st⟩
       refine WP.seq (WP.seq (WP.reg (WO.ifS (L.lss rfl rfl) (fun ca => ?_) (fun ca => ?_))))
       ·replace ca : a < NS.length := by omega
        obtain ⟨ra, hra, hral⟩ := sqk.at ca
        obtain ⟨ab, hab⟩ : ∃ b, bl[a]? = some b := ⟨bl[a]'(by omega), List.getElem?_eq_getElem (by omega)⟩
        obtain ⟨kb, hkb⟩ : ∃ b, bl[k]? = some b := ⟨bl[k]'(by omega), List.getElem?_eq_getElem (by omega)⟩
        have hrowa : (bl.map fun b => [V.sl b 0 NS.length (some NS.length)])[a]? = some [.sl ab 0 NS.length (some NS.length)] := by rw [List.getElem?_map, hab]; rfl
        have hrowk : (bl.map fun b => [V.sl b 0 NS.length (some NS.length)])[k]? = some [.sl kb 0 NS.length (some NS.length)] := by rw [List.getElem?_map, hkb]; rfl
        obtain ⟨y, hy⟩ : ∃ y, ra[k]? = some y := ⟨ra[k]'(by omega), List.getElem?_eq_getElem (by omega)⟩
        rw [show Lab.clPart k a Mk = (Lab.clPart k a Mk).set a (Lab.rowB y 0 ra rk) from (Lab.rowB_zero sqk ca hra y rk).symm] at st
        refine WO.nil (WP.cond (t := true) rfl (WP.skip (WP.seq (WP.block (WP.seq (WP.reg (WO.valS (v := .int .i64 0) rfl (WO.nil (WP.block (WP.loopG (α := Nat) (fun b env h => ∃ x23, (b ≤ NS.length) ∧ env = argsP [v, .ptr res 0, .int .i64 0, .int .i64 (ps.length : Int), .bool false, vn, x6, x7, .int .i64 (NS.length : Int), .bool false, .bool false, .int .i64 (NS.length : Int), .bool false, x13, .sl lb 0 NS.length none, .int .i64 (ps.length : Int), .bool false, x17, .int .i64 (k : Int), .bool true, .int .i64 (a : Int), .bool true, .int .i64 (b : Int), x23] 0 Env.nil ∧ St (.stb (fun h => Rows 1 h (.sl lb 0 NS.length none) (bl.map fun b => [V.sl b 0 NS.length (some NS.length)])) :: .stb (fun h => Rows 1 h vn (SR NS)) :: .box res [.slN, .slN, .slN, .slN, .int .i64 0, .int .i64 0] :: .stb (fun h => PRows h v ps) :: .stb (TabV lb 0 NS.length bl) :: (tabF bl ((Lab.clPart k a Mk).set a (Lab.rowB y b ra rk)) ++ fs)) h) (fun b => NS.length - b) 0 ?_ ?_))))))))))
        ·exact ⟨x23, Nat.zero_le _, by kernel_rfl, st⟩
        rintro b _ h ⟨x23, hb2, rfl, st⟩
        refine WP.seq (WP.seq (WP.reg (WO.ifS (L.lss rfl rfl) (fun cb => ?_) (fun cb => ?_))))
        ·replace cb : b < NS.length := by omega
         obtain ⟨x, hx⟩ : ∃ x, ra[b]? = some x := ⟨ra[b]'(by omega), List.getElem?_eq_getElem (by omega)⟩
         obtain ⟨z, hz⟩ : ∃ z, rk[b]? = some z := ⟨rk[b]'(by omega), List.getElem?_eq_getElem (by omega)⟩
         have hA := (tab_at (St.rot (gs := [_, _, _, _]) st) hab (Lab.rowB_row sqk ca)).2
         have hK := (tab_at (St.rot (gs := [_, _, _, _]) st) hkb (Lab.rowB_k sqk ca ck hrk (ra := ra) hra)).2
         have hAb := hA b x (Lab.rowB_at hral hrkl cb (by omega) hx (Nat.le_refl _))
         have hAk := hA k y (Lab.rowB_pivot hral hrkl ck hy (by omega))
         have hKb := hK b z (Lab.rowB_kb hrkl hz (by omega))
         refine WO.nil (WP.cond (t := true) rfl (WP.skip (WP.seq (WP.block (WP.draw (WD.val (v := .sl lb 0 NS.length none) rfl (WD.val (v := .int .i64 (a : Int)) rfl (WD.val (v := .ptr lb (0 + a * 1)) (L.iaddr rfl rfl (by omega)) (WD.val (v := .sl ab 0 NS.length (some NS.length)) (L.load rfl ((st.stb_at 0 rfl).load1 hrowa)) (WD.val (v := .int .i64 (b : Int)) rfl (WD.val (v := .sl lb 0 NS.length none) rfl (WD.val (v := .int .i64 (a : Int)) rfl (WD.val (v := .ptr lb (0 + a * 1)) (L.iaddr rfl rfl (by omega)) (WD.val (v := .sl ab 0 NS.length (some NS.length)) (L.load rfl ((st.stb_at 0 rfl).load1 hrowa)) (WD.val (v := .int .i64 (b : Int)) rfl (WD.val (v := .ptr ab (0 + b * 1)) (L.iaddr rfl rfl (by omega)) ?_))))))))))))))))
         rcases bool_or x with hxv | hxv
         ·refine WD.val (v := .bool false) (L.load rfl (by rw [hAb, hxv])) (WD.val (v := .bool false) rfl (WD.yes rfl (WD.val (v := .sl lb 0 NS.length none) rfl (WD.yes rfl (WD.val (v := .int .i64 (a : Int)) rfl (WD.yes rfl (WD.val (v := .ptr lb (0 + a * 1)) (L.iaddr rfl rfl (by omega)) (WD.yes rfl (WD.val (v := .sl ab 0 NS.length (some NS.length)) (L.load rfl ((st.stb_at 0 rfl).load1 hrowa)) (WD.yes rfl (WD.val (v := .int .i64 (k : Int)) rfl (WD.yes rfl (WD.val (v := .ptr ab (0 + k * 1)) (L.iaddr rfl rfl (by omega)) (WD.yes rfl ?_))))))))))))))
          rcases bool_or y with hyv | hyv
          ·refine WD.val (v := .bool false) (L.load rfl (by rw [hAk, hyv])) (WD.yes rfl (WD.val (v := .bool false) rfl (WD.no rfl (WD.no rfl (WD.no rfl (WD.no rfl (WD.no rfl (WD.no rfl (WD.no rfl (WD.yes rfl (WD.val (v := .bool false) rfl (WD.val (v := .bool false) rfl (WD.val (v := .ptr ab (0 + b * 1)) (L.iaddr rfl rfl (by omega)) (WD.storeT (t := x || (y && z)) (St.rot (gs := [_, _, _, _]) st) rfl (by rw [hxv, hyv]; rfl) hab (Lab.rowB_row sqk ca) (by rw [Lab.rowB_len hral hrkl (by omega)]; omega) (fun h st => ?_)))))))))))))))
           rw [List.set_set, Lab.rowB_succ hral hrkl cb hx hz] at st
           replace st : St (.stb (fun h => Rows 1 h (.sl lb 0 NS.length none) (bl.map fun b => [V.sl b 0 NS.length (some NS.length)])) :: .stb (fun h => Rows 1 h vn (SR NS)) :: .box res [.slN, .slN, .slN, .slN, .int .i64 0, .int .i64 0] :: .stb (fun h => PRows h v ps) :: .stb (TabV lb 0 NS.length bl) :: (tabF bl ((Lab.clPart k a Mk).set a (Lab.rowB y (b + 1) ra rk)) ++ fs)) h := St.unrot (gs := [_, _, _, _]) st
           refine WD.nil (WP.reg (WO.valS (v := .int .i64 ((b + 1 : Nat) : Int)) (L.addE rfl rfl (by omega) (And.intro (by omega) (by omega))) (WO.nil ?_)))
           exact ⟨b + 1, (by omega), (.bool true), by omega, by kernel_rfl, st⟩
          ·refine WD.val (v := .bool true) (L.load rfl (by rw [hAk, hyv])) (WD.yes rfl (WD.val (v := .bool true) rfl (WD.yes rfl (WD.val (v := .sl lb 0 NS.length none) rfl (WD.yes rfl (WD.val (v := .int .i64 (k : Int)) rfl (WD.yes rfl (WD.val (v := .ptr lb (0 + k * 1)) (L.iaddr rfl rfl (by omega)) (WD.yes rfl (WD.val (v := .sl kb 0 NS.length (some NS.length)) (L.load rfl ((st.stb_at 0 rfl).load1 hrowk)) (WD.yes rfl (WD.val (v := .int .i64 (b : Int)) rfl (WD.yes rfl (WD.val (v := .ptr kb (0 + b * 1)) (L.iaddr rfl rfl (by omega)) (WD.yes rfl ?_)))))))))))))))
           rcases bool_or z with hzv | hzv
           ·refine WD.val (v := .bool false) (L.load rfl (by rw [hKb, hzv])) (WD.yes rfl (WD.val (v := .bool false) rfl (WD.val (v := .bool false) rfl (WD.val (v := .ptr ab (0 + b * 1)) (L.iaddr rfl rfl (by omega)) (WD.storeT (t := x || (y && z)) (St.rot (gs := [_, _, _, _]) st) rfl (by rw [hxv, hyv, hzv]; rfl) hab (Lab.rowB_row sqk ca) (by rw [Lab.rowB_len hral hrkl (by omega)]; omega) (fun h st => ?_))))))
            rw [List.set_set, Lab.rowB_succ hral hrkl cb hx hz] at st
            replace st : St (.stb (fun h => Rows 1 h (.sl lb 0 NS.length none) (bl.map fun b => [V.sl b 0 NS.length (some NS.length)])) :: .stb (fun h => Rows 1 h vn (SR NS)) :: .box res [.slN, .slN, .slN, .slN, .int .i64 0, .int .i64 0] :: .stb (fun h => PRows h v ps) :: .stb (TabV lb 0 NS.length bl) :: (tabF bl ((Lab.clPart k a Mk).set a (Lab.rowB y (b + 1) ra rk)) ++ fs)) h := St.unrot (gs := [_, _, _, _]) st
            refine WD.nil (WP.reg (WO.valS (v := .int .i64 ((b + 1 : Nat) : Int)) (L.addE rfl rfl (by omega) (And.intro (by omega) (by omega))) (WO.nil ?_)))
            exact ⟨b + 1, (by omega), (.bool true), by omega, by kernel_rfl, st⟩
           ·refine WD.val (v := .bool true) (L.load rfl (by rw [hKb, hzv])) (WD.yes rfl (WD.val (v := .bool true) rfl (WD.val (v := .bool true) rfl (WD.val (v := .ptr ab (0 + b * 1)) (L.iaddr rfl rfl (by omega)) (WD.storeT (t := x || (y && z)) (St.rot (gs := [_, _, _, _]) st) rfl (by rw [hxv, hyv, hzv]; rfl) hab (Lab.rowB_row sqk ca) (by rw [Lab.rowB_len hral hrkl (by omega)]; omega) (fun h st => ?_))))))
            rw [List.set_set, Lab.rowB_succ hral hrkl cb hx hz] at st
            replace st : St (.stb (fun h => Rows 1 h (.sl lb 0 NS.length none) (bl.map fun b => [V.sl b 0 NS.length (some NS.length)])) :: .stb (fun h => Rows 1 h vn (SR NS)) :: .box res [.slN, .slN, .slN, .slN, .int .i64 0, .int .i64 0] :: .stb (fun h => PRows h v ps) :: .stb (TabV lb 0 NS.length bl) :: (tabF bl ((Lab.clPart k a Mk).set a (Lab.rowB y (b + 1) ra rk)) ++ fs)) h := St.unrot (gs := [_, _, _, _]) st
            refine WD.nil (WP.reg (WO.valS (v := .int .i64 ((b + 1 : Nat) : Int)) (L.addE rfl rfl (by omega) (And.intro (by omega) (by omega))) (WO.nil ?_)))
            exact ⟨b + 1, (by omega), (.bool true), by omega, by kernel_rfl, st⟩
         ·refine WD.val (v := .bool true) (L.load rfl (by rw [hAb, hxv])) (WD.val (v := .bool true) rfl (WD.no rfl (WD.no rfl (WD.no rfl (WD.no rfl (WD.no rfl (WD.no rfl (WD.no rfl (WD.no rfl (WD.no rfl (WD.no rfl (WD.no rfl (WD.no rfl (WD.no rfl (WD.no rfl (WD.no rfl (WD.no rfl (WD.val (v := .bool true) rfl (WD.val (v := .ptr ab (0 + b * 1)) (L.iaddr rfl rfl (by omega)) (WD.storeT (t := x || (y && z)) (St.rot (gs := [_, _, _, _]) st) rfl (by rw [hxv]; rfl) hab (Lab.rowB_row sqk ca) (by rw [Lab.rowB_len hral hrkl (by omega)]; omega) (fun h st => ?_)))))))))))))))))))))
          rw [List.set_set, Lab.rowB_succ hral hrkl cb hx hz] at st
          replace st : St (.stb (fun h => Rows 1 h (.sl lb 0 NS.length none) (bl.map fun b => [V.sl b 0 NS.length (some NS.length)])) :: .stb (fun h => Rows 1 h vn (SR NS)) :: .box res [.slN, .slN, .slN, .slN, .int .i64 0, .int .i64 0] :: .stb (fun h => PRows h v ps) :: .stb (TabV lb 0 NS.length bl) :: (tabF bl ((Lab.clPart k a Mk).set a (Lab.rowB y (b + 1) ra rk)) ++ fs)) h := St.unrot (gs := [_, _, _, _]) st
          refine WD.nil (WP.reg (WO.valS (v := .int .i64 ((b + 1 : Nat) : Int)) (L.addE rfl rfl (by omega) (And.intro (by omega) (by omega))) (WO.nil ?_)))
          exact ⟨b + 1, (by omega), (.bool true), by omega, by kernel_rfl, st⟩
        ·have eb : b = NS.length := by omega
         rw [eb, Lab.rowB_all hral hrkl, Lab.rowB_cl hrk hy, Lab.clPart_succ sqk ca hra] at st
         refine WO.nil (WP.cond (t := false) rfl (WP.exit (WP.reg (WO.valS (v := .int .i64 ((a + 1 : Nat) : Int)) (L.addE rfl rfl (by omega) (And.intro (by omega) (by omega))) (WO.nil ?_)))))
         exact ⟨a + 1, (by omega), (.bool true), (.int .i64 (b : Int)), (.bool false), by omega, by kernel_rfl, st⟩
       ·have ea : a = NS.length := by omega
        rw [ea, Lab.clPart_all sqk, hMk, ← Lab.closed_succ] at st
        refine WO.nil (WP.cond (t := false) rfl (WP.exit (WP.reg (WO.valS (v := .int .i64 ((k + 1 : Nat) : Int)) (L.addE rfl rfl (by omega) (And.intro (by omega) (by omega))) (WO.nil ?_)))))
        exact ⟨k + 1, (by omega), (.bool true), (.int .i64 (a : Int)), (.bool false), x22, x23, by omega, by kernel_rfl, st⟩
      ·have ek : k = NS.length := by omega
       rw [ek] at st
       rw [ek]
       refine WO.nil (WP.cond (t := false) rfl (WP.exit (WP.seq (WP.reg ?_))))
       obtain ⟨M, hM⟩ : ∃ M, M = Lab.order (pr ps) := ⟨_, rfl⟩
       have hM2 : M = Lab.closed NS.length M0 := by rw [hM, hM0, hNS]; rfl
       rw [← hM2] at st
       have sq : Sq NS.length M := by rw [hM2]; exact Lab.closed_sq sq0 _ (Nat.le_refl _)
       replace st := (tab_freeze (n := NS.length) (by rw [hbl, sq.len]) sq.row (St.rot (gs := [_, _, _, _]) st).tail)
       replace st : St (.stb (fun h => Rows 1 h (.sl lb 0 NS.length none) (bl.map fun b => [V.sl b 0 NS.length (some NS.length)])) :: .stb (fun h => Rows 1 h vn (SR NS)) :: .box res [.slN, .slN, .slN, .slN, .int .i64 0, .int .i64 0] :: .stb (fun h => PRows h v ps) :: .stb (fun h => BRows h M (bl.map fun b => .sl b 0 NS.length (some NS.length))) :: fs) h := St.unrot (gs := [_, _, _, _]) (l := []) (fs := fs) st
       replace st : St (.stb (fun h => BTab h (.sl lb 0 NS.length none) M) :: .stb (fun h => Rows 1 h vn (SR NS)) :: .box res [.slN, .slN, .slN, .slN, .int .i64 0, .int .i64 0] :: .stb (fun h => PRows h v ps) :: fs) h := (((st.pick 4 rfl).pick 1 rfl)).and.imp0 fun h hx => ⟨_, by have := hx.1; rw [List.map_map]; exact this, hx.2⟩
       refine WO.callF rfl (lattice_c D.h (n := NS.length) hN32 rfl sq (st.pick 1 rfl)) ?_
       rintro _ h hp1
       have tr_ : ∀ a b c, Lab.at2 M a b = true → Lab.at2 M b c = true → Lab.at2 M a c = true := fun a b c h1 h2 => by rw [hM2] at h1 h2 ⊢; exact Lab.closed_trans sq0 h1 h2
       have hcis := Lab.complete_is sq (by omega) tr_
       cases hT : Lab.okT NS.length M NS.length with
       | false =>
        rw [hT] at hp1 hcis
        obtain ⟨rfl, st⟩ := hp1
        refine WO.val (v := .agg [.slN, .slN, .slN, .slN, .int .i64 0, .int .i64 0]) rfl (WO.val (v := .bool false) rfl (WO.boxFS st L.alloc (fun tb h st => ?_)))
        refine WO.storeF (row' := [.slN, .slN, .slN, .slN, .int .i64 0, .int .i64 0]) st 0 rfl rfl rfl rfl rfl rfl rfl (fun h st => ?_)
        refine WO.valS (v := .bool false) rfl (WO.nil (WP.seq (WP.seq (WP.reg (WO.valS (v := .bool true) rfl (WO.nil (WP.cond (t := true) rfl (WP.seq (WP.reg (WO.val (v := .agg [.slN, .slN, .slN, .slN, .int .i64 0, .int .i64 0]) (L.build rfl) (WO.storeF (row' := [.slN, .slN, .slN, .slN, .int .i64 0, .int .i64 0]) st 3 rfl rfl rfl rfl rfl rfl rfl (fun h st => ?_))))))))))))
        refine WO.valS (v := .int .i64 13) rfl (WO.nil (WP.ret ?_))
        rw [show mkLat (pr ps) = Lat.none from by unfold mkLat; rw [Lab.made_no (by rw [← hNS]; exact e0) (by rw [← hNS]; exact e1) (by rw [← hNS, ← hM]; exact hcis)], Lab.made_no (by rw [← hNS]; exact e0) (by rw [← hNS]; exact e1) (by rw [← hNS, ← hM]; exact hcis)]
        exact ⟨_, (res_cons (res_cellA (l := [.slN, .slN, .slN, .slN, .int .i64 0, .int .i64 0]) rfl (L.load_box (st.box_at 3 rfl) rfl rfl rfl)) (res_cons (res_tmp (v := .int .i64 13) rfl) (res_nil _ _))), .slN, .slN, .slN, .slN, rfl, St.triv (P := fun h => LatR h .slN .slN .slN .slN Lat.none) (st.tail.tail.tail.tail) fun h => LatR.none h⟩
       | true =>
        rw [hT] at hp1 hcis
        obtain ⟨vJ, vK, rfl, st⟩ := hp1
        refine WO.val (v := .agg [vn, .sl lb 0 NS.length none, vJ, vK, .int .i64 (Lab.loF NS.length M NS.length : Int), .int .i64 (Lab.hiF NS.length M NS.length : Int)]) rfl (WO.val (v := .bool true) rfl (WO.boxFS st L.alloc (fun tb h st => ?_)))
        refine WO.storeF (row' := [vn, .sl lb 0 NS.length none, vJ, vK, .int .i64 (Lab.loF NS.length M NS.length : Int), .int .i64 (Lab.hiF NS.length M NS.length : Int)]) st 0 rfl rfl rfl rfl rfl rfl rfl (fun h st => ?_)
        refine WO.valS (v := .bool true) rfl (WO.nil (WP.seq (WP.seq (WP.reg (WO.valS (v := .bool false) rfl (WO.nil (WP.cond (t := false) rfl (WP.skip (WP.seq (WP.reg (WO.val (v := .agg [vn, .sl lb 0 NS.length none, vJ, vK, .int .i64 (Lab.loF NS.length M NS.length : Int), .int .i64 (Lab.hiF NS.length M NS.length : Int)]) (L.loadnB rfl (st.box_at 0 rfl) rfl rfl rfl) (WO.storeF (row' := [vn, .sl lb 0 NS.length none, vJ, vK, .int .i64 (Lab.loF NS.length M NS.length : Int), .int .i64 (Lab.hiF NS.length M NS.length : Int)]) st 5 rfl rfl rfl rfl rfl rfl rfl (fun h st => ?_)))))))))))))
        refine WO.valS (v := .int .i64 0) rfl (WO.nil (WP.ret ?_))
        have s0 := (((st.tail.pick 4 rfl).tail.pick 3 rfl).pick 3 rfl)
        have s1 := ((s0.pick 3 rfl).pick 3 rfl).and
        have s2 := (s1.pick 2 rfl).and
        have s3 := (s2.pick 1 rfl).and
        have e9 : mkLat (pr ps) = ⟨NS, M, Lab.joinT NS.length M NS.length, Lab.meetT NS.length M NS.length, Lab.loF NS.length M NS.length, Lab.hiF NS.length M NS.length⟩ := by unfold mkLat; rw [Lab.made_some (by rw [← hNS]; exact e0) (by rw [← hNS]; exact e1) (by rw [← hNS, ← hM]; exact hcis), ← hNS, ← hM]
        rw [Lab.made_some (by rw [← hNS]; exact e0) (by rw [← hNS]; exact e1) (by rw [← hNS, ← hM]; exact hcis), e9]
        exact ⟨_, (res_cons (res_cellA (l := [vn, .sl lb 0 NS.length none, vJ, vK, .int .i64 (Lab.loF NS.length M NS.length : Int), .int .i64 (Lab.hiF NS.length M NS.length : Int)]) rfl (L.load_box (st.box_at 5 rfl) rfl rfl rfl)) (res_cons (res_tmp (v := .int .i64 0) rfl) (res_nil _ _))), _, _, _, _, rfl, s3.imp0 fun h hx => ⟨hx.1, hx.2.1, hx.2.2.1, hx.2.2.2⟩⟩
end
end Go.Eng.Ytjgmahbgfbkhnaa
namespace Go.Eng.Ytjgmahbgfbkhnaa
open Go.Eng
noncomputable section
variable {c : Ctx}
structure HasK (c : Ctx) : Prop where
 f3 : T.get 3 c.funs = some i3
 f10 : T.get 10 c.funs = some i10
 f11 : ∀ h, RunP c 11 [] h fun v h1 => v = .bool true ∧ h1 = h
 f15 : T.get 15 c.funs = some i15
 m : HasM c
 s : HasS c
 i : HasI c
theorem great_c (D : HasK c) {h0 : Heap} {v : V} {ps : List Prm} (a : PRows h0 v ps) :
  RunP c 10 [v] h0 fun v1 h1 => ∃ g, v1 = .bool g ∧ (g = false → ps.length ≤ 150) ∧ h1 = h0 := by
 refine RunP.fun_ D.f10 rfl (WP.seq (WP.reg (WO.valS (v := .bool false) rfl (WO.nil (WP.seq (WP.seq (WP.reg (WO.valS (v := .int .i64 0) rfl (WO.nil (WP.block (WP.loopG (α := Nat) (fun i env h_ => ∃ x1 x3 x4, (i ≤ ps.length) ∧ env = argsP [v, x1, .int .i64 (i : Int), x3, x4] 0 Env.nil ∧ h_ = h0) (fun i => ps.length - i) 0 ?_ ?_)))))))))))
 ·exact ⟨(.bool false), .bot, .bot, Nat.zero_le _, by kernel_rfl, rfl⟩
 rintro i _ h ⟨x1, x3, x4, hi, rfl, rfl⟩
 refine WP.seq (WP.seq (WP.reg (WO.val (v := .int .i64 (ps.length : Int)) (L.llenP rfl a) (WO.ifV (L.lss rfl rfl) (fun c1 => ?_) (fun c1 => ?_)))))
 ·replace c1 : i < ps.length := by omega
  obtain ⟨p, hp⟩ : ∃ y, ps[i]? = some y := ⟨ps[i]'(by omega), List.getElem?_eq_getElem (by omega)⟩
  refine WO.yes rfl (WO.val (v := .int .i64 (i : Int)) rfl (WO.yes rfl (WO.ifV (L.lss rfl rfl) (fun c2 => ?_) (fun c2 => ?_))))
  ·refine WO.valS (v := .bool true) rfl (WO.nil (WP.cond (t := true) rfl (WP.skip (WP.seq (WP.block (WP.seq (WP.reg (WO.val (v := .ptr (slB v) (slO v + i * 3)) (L.iaddrP a c1 rfl rfl) (WO.val (v := .ptr (slB v) (slO v + i * 3 + 0)) (L.faddr rfl) (WO.val (v := L.str p.1) (L.load rfl (PRows.at1 (j := 0) a hp rfl)) (WO.val (v := .int .i64 (p.1.length : Int)) (L.slen rfl) (WO.ifV (L.gtr rfl rfl) (fun c3 => ?_) (fun c3 => ?_)))))))))))))
   ·refine WO.no rfl (WO.no rfl (WO.no rfl (WO.no rfl (WO.no rfl (WO.no rfl (WO.no rfl (WO.valS (v := .bool true) rfl (WO.nil (WP.cond (t := true) rfl (WP.seq (WP.reg (WO.valS (v := .bool true) rfl (WO.nil (WP.ret ?_))))))))))))))
    exact ⟨_, (res_cons (res_tmp (v := .bool true) rfl) (res_nil _ _)), true, rfl, fun h => absurd h (by decide), rfl⟩
   ·refine WO.yes rfl (WO.val (v := v) rfl (WO.yes rfl (WO.val (v := .int .i64 (i : Int)) rfl (WO.yes rfl (WO.val (v := .ptr (slB v) (slO v + i * 3)) (L.iaddrP a c1 rfl rfl) (WO.yes rfl (WO.val (v := .ptr (slB v) (slO v + i * 3 + 1)) (L.faddr rfl) (WO.yes rfl (WO.val (v := L.str p.2.1) (L.load rfl (PRows.at1 (j := 1) a hp rfl)) (WO.yes rfl (WO.val (v := .int .i64 (p.2.1.length : Int)) (L.slen rfl) (WO.yes rfl (WO.ifV (L.gtr rfl rfl) (fun c4 => ?_) (fun c4 => ?_))))))))))))))
    ·refine WO.valS (v := .bool true) rfl (WO.nil (WP.cond (t := true) rfl (WP.seq (WP.reg (WO.valS (v := .bool true) rfl (WO.nil (WP.ret ?_)))))))
     exact ⟨_, (res_cons (res_tmp (v := .bool true) rfl) (res_nil _ _)), true, rfl, fun h => absurd h (by decide), rfl⟩
    ·refine WO.valS (v := .bool false) rfl (WO.nil (WP.cond (t := false) rfl (WP.skip (WP.reg (WO.valS (v := .int .i64 ((i + 1 : Nat) : Int)) (L.addE rfl rfl (by omega) (And.intro (by omega) (by omega))) (WO.nil ?_))))))
     exact ⟨i + 1, (by omega), x1, (.bool true), (.bool false), by omega, by kernel_rfl, rfl⟩
  ·refine WO.valS (v := .bool false) rfl (WO.nil (WP.cond (t := false) rfl (WP.exit (WP.seq (WP.reg (WO.val (v := .int .i64 (ps.length : Int)) (L.llenP rfl a) (WO.valS (v := .bool (decide ((150 : Int) < (ps.length : Int)))) (L.gtr rfl rfl) (WO.nil (WP.ret ?_)))))))))
   exact ⟨_, (res_cons (res_tmp (v := .bool (decide ((150 : Int) < (ps.length : Int)))) rfl) (res_nil _ _)), _, rfl, fun h => by have := of_decide_eq_false h; omega, rfl⟩
 ·replace c1 : ¬ i < ps.length := by omega
  refine WO.no rfl (WO.no rfl (WO.valS (v := .bool false) rfl (WO.nil (WP.cond (t := false) rfl (WP.exit (WP.seq (WP.reg (WO.val (v := .int .i64 (ps.length : Int)) (L.llenP rfl a) (WO.valS (v := .bool (decide ((150 : Int) < (ps.length : Int)))) (L.gtr rfl rfl) (WO.nil (WP.ret ?_)))))))))))
  exact ⟨_, (res_cons (res_tmp (v := .bool (decide ((150 : Int) < (ps.length : Int)))) rfl) (res_nil _ _)), _, rfl, fun h => by have := of_decide_eq_false h; omega, rfl⟩
theorem num_c (H : T.get 15 c.funs = some i15) {h0 : Heap} {x : Int} : RunP c 15 [.int .i64 x] h0 fun v1 h1 => v1 = .int .i64 x ∧ h1 = h0 := by
 refine RunP.fun_ H rfl (WP.seq (WP.reg (WO.valS (v := .int .i64 0) rfl (WO.nil (WP.seq (WP.reg (WO.valS (v := .int .i64 x) rfl (WO.nil (WP.ret ?_)))))))))
 exact ⟨_, (res_cons (res_tmp (v := .int .i64 x) rfl) (res_nil _ _)), rfl, rfl⟩
theorem makes_c (D : HasK c) {h : Heap} {v : V} {ps : List Prm} (st : St [.stb (fun h => PRows h v ps)] h) :
  RunP c 3 [v] h fun v1 _ => v1 = .bool true := by
 refine RunP.fun_ D.f3 rfl (WP.seq (WP.reg (WO.valS (v := .bool false) rfl (WO.nil (WP.seq (WP.seq (WP.reg (WO.callFS rfl (great_c D ((st.stb_at 0 rfl))) ?_))))))))
 rintro _ _ ⟨g, rfl, hg, rfl⟩
 rcases bool_or g with rfl | rfl
 ·have hps := hg rfl
  refine WO.nil (WP.cond (t := false) rfl (WP.skip (WP.seq (WP.reg (WO.callF rfl (make_L D.m (by omega) st) ?_)))))
  rintro _ h ⟨n1, l1, j1, k1, rfl, st⟩
  refine WO.val (v := .agg [n1, l1, j1, k1, .int .i64 ((mkLat (pr ps)).lo : Int), .int .i64 ((mkLat (pr ps)).hi : Int)]) rfl (WO.val (v := .int .i64 ((Lab.made (pr ps)).1 : Int)) rfl (WO.boxFS st L.alloc (fun b1 h st => ?_)))
  refine WO.storeF (row' := [n1, l1, j1, k1, .int .i64 ((mkLat (pr ps)).lo : Int), .int .i64 ((mkLat (pr ps)).hi : Int)]) st 0 rfl rfl rfl rfl rfl rfl rfl (fun h st => ?_)
  refine WO.valS (v := .int .i64 ((Lab.made (pr ps)).1 : Int)) rfl (WO.nil (WP.seq (WP.reg (WO.callF rfl (rmake_c D.i (by omega) (st.pick 2 rfl)) ?_))))
  rintro _ h ⟨n2, l2, j2, k2, rfl, st⟩
  refine WO.val (v := .agg [n2, l2, j2, k2, .int .i64 ((mkLat (pr ps)).lo : Int), .int .i64 ((mkLat (pr ps)).hi : Int)]) rfl (WO.val (v := .int .i64 ((Lab.made (pr ps)).1 : Int)) rfl (WO.boxFS st L.alloc (fun b2 h st => ?_)))
  refine WO.storeF (row' := [n2, l2, j2, k2, .int .i64 ((mkLat (pr ps)).lo : Int), .int .i64 ((mkLat (pr ps)).hi : Int)]) st 0 rfl rfl rfl rfl rfl rfl rfl (fun h st => ?_)
  refine WO.valS (v := .int .i64 ((Lab.made (pr ps)).1 : Int)) rfl (WO.nil (WP.seq (WP.reg (WO.val (v := .agg [n1, l1, j1, k1, .int .i64 ((mkLat (pr ps)).lo : Int), .int .i64 ((mkLat (pr ps)).hi : Int)]) (L.loadnB rfl (st.box_at 3 rfl) rfl rfl rfl) (WO.val (v := .agg [n2, l2, j2, k2, .int .i64 ((mkLat (pr ps)).lo : Int), .int .i64 ((mkLat (pr ps)).hi : Int)]) (L.loadnB rfl (st.box_at 0 rfl) rfl rfl rfl) (WO.callF rfl (same_t D.s (mkLat_small (pr ps)) ((st.pick 1 rfl).pick 4 rfl)) ?_))))))
  rintro _ h ⟨rfl, st⟩
  refine WO.yes rfl (WO.val (v := .int .i64 ((Lab.made (pr ps)).1 : Int)) rfl (WO.yes rfl (WO.callF rfl (num_c D.f15) ?_)))
  rintro _ _ ⟨rfl, rfl⟩
  refine WO.yes rfl (WO.val (v := .int .i64 ((Lab.made (pr ps)).1 : Int)) rfl (WO.yes rfl (WO.ifV (L.eql rfl rfl) (fun c1 => ?_) (fun c1 => by exfalso; exact c1 rfl))))
  refine WO.val (v := .bool true) rfl (WO.yes rfl (WO.callF rfl (D.f11 _) ?_))
  rintro _ _ ⟨rfl, rfl⟩
  refine WO.valS (v := .bool true) rfl (WO.nil (WP.ret ?_))
  exact ⟨_, (res_cons (res_tmp (v := .bool true) rfl) (res_nil _ _)), rfl⟩
 ·have _ := trivial
  refine WO.nil (WP.cond (t := true) rfl (WP.seq (WP.reg (WO.callFS rfl (D.f11 _) ?_))))
  rintro _ _ ⟨rfl, rfl⟩
  refine WO.nil (WP.ret ?_)
  exact ⟨_, (res_cons (res_tmp (v := .bool true) rfl) (res_nil _ _)), rfl⟩
end
end Go.Eng.Ytjgmahbgfbkhnaa
