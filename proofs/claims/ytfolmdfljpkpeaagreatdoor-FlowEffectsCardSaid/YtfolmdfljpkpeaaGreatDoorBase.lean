/- What the evaluator is told of this program's functions is checked against the loaded program; one library function is met by the shelf's contract, one of the program's by a summary. No condition. -/
import Derived.Test.YtfolmdfljpkpeaaGreatDoorCtx
import Derived.Test.YtfolmdfljpkpeaaGreatDoorChecked
import Derived.Shelf.Strings.Search1
import Derived.Shelf.Small.Strs
set_option maxRecDepth 1000000
namespace Go.Proofs
open Go.Shelf
def Tryz.lays213_ren : Go.Shelf.Ren := ⟨fun | 213 => 110 | 265 => 155 | n => n, fun n => n, fun n => n⟩
theorem Tryz.lays213 : Go.Proofs.Lays.n213 Tryz.prog Tryz.lays213_ren := {
  mixed := by kernel_rfl
  f213 := Tryz.func110.trans (congrArg some (by kernel_rfl))
  f265 := Tryz.func155.trans (congrArg some (by kernel_rfl))
  t3 := Tryz.underlying3
  a3 := Tryz.isAgg3
  z3 := Tryz.sizeOf3
  v3 := Tryz.zeroValue3
  t9 := Tryz.underlying9
  a9 := Tryz.isAgg9
  z9 := Tryz.sizeOf9
  v9 := Tryz.zeroValue9 }
open Go.RowKit Go.Lib in
theorem Tryz.bytealg_CompareString (a b : ByteArray) (w : World) :
    Calls Tryz.prog 110 #[.string a, .string b] w fun e w' => e = .returned (.int .i64 (Lib.compareBytes a.data.toList b.data.toList)) ∧ w' = w := Any.bytealg_CompareString Tryz.lays213 a b w
end Go.Proofs
namespace Go.Eng.YtfolmdfljpkpeaaGreatDoor
open Go.Eng
noncomputable section
theorem chkAll0 : allT (chkF Go.Proofs.Tryz.prog) funs = true := by kernel_rfl
theorem chkAll : allT (chkF Go.Proofs.Tryz.prog) funsB = true := by kernel_rfl
theorem chkdAll : allT (chkFD Go.Proofs.Tryz.prog) dfuns = true := by kernel_rfl
theorem cmpBody : hasBody Go.Proofs.Tryz.prog 110 := ⟨Go.Proofs.Tryz.f110, Go.Proofs.Tryz.func110, by kernel_rfl, by kernel_rfl⟩
theorem moreOk0 : MoreOk Go.Proofs.Tryz.prog (moreCmp 110) := moreCmp_ok cmpBody Go.Proofs.Tryz.bytealg_CompareString
theorem mixed : Go.Proofs.Tryz.prog.follows .mixedOrders = true := by kernel_rfl
/- the pieces of the two functions -/
abbrev B : Code := codeOf Go.Proofs.Tryz.f124
abbrev G : Code := codeOf Go.Proofs.Tryz.f185
abbrev X : Code := nth B 2
abbrev Y : Code := condB (rest X 1)
abbrev R : Code := blkC (rest Y 1)
theorem body124 : Go.Proofs.Tryz.f124.body = some (.seq (nth B 0) (.seq (nth B 1) (.seq (.seq (nth X 0) (.cond (.tmp 18) (condA (rest X 1)) (.seq (nth Y 0) (.block 0 (.rangeFunc (.tmp 29) #[30, 31] (asgCode (opOf (rfA R) 0 0) (opOf (rfA R) 0 1) 5)
    (bodCode (opOf (rfB R) 0 0) (opOf (rfB R) 0 1) (opOf (rfB R) 0 2) (opOf (rfB R) 0 3) (opOf (rfB R) 1 0) (opOf (rfB R) 1 1) (opOf (rfB R) 1 2) (opOf (rfB R) 1 3) 6 7 1)))))) (rest B 3)))) := by kernel_rfl
theorem body185 : Go.Proofs.Tryz.f185.body = some (backCode (opOf G 0 0) (opOf G 0 1) (opOf G 0 2) (opOf G 0 3) (opOf G 1 0) (opOf G 1 1) (opOf G 2 0) (opOf G 2 1) (opOf G 2 2) (opOf G 2 3) (opOf G 2 4) (opOf G 2 5) (opOf G 2 6) (opOf G 2 7) (opOf G 3 0) (opOf G 3 1) (opOf G 3 2) 0 1 2 3 0 1) := by kernel_rfl
theorem backT : BackT Go.Proofs.Tryz.prog 94 106 3 3 4 := ⟨by kernel_rfl, by kernel_rfl, by kernel_rfl, by kernel_rfl⟩
theorem backO : BackO 94 106 3 4 (opOf G 0 0) (opOf G 0 1) (opOf G 0 2) (opOf G 0 3) (opOf G 1 0) (opOf G 1 1) (opOf G 2 0) (opOf G 2 1) (opOf G 2 2) (opOf G 2 3) (opOf G 2 4) (opOf G 2 5) (opOf G 2 6) (opOf G 2 7) (opOf G 3 0) (opOf G 3 1) (opOf G 3 2) :=
  ⟨⟨by kernel_rfl, by kernel_rfl, by kernel_rfl⟩, ⟨by kernel_rfl, by kernel_rfl, by kernel_rfl⟩, ⟨by kernel_rfl, by kernel_rfl, by kernel_rfl⟩, ⟨by kernel_rfl, by kernel_rfl, by kernel_rfl⟩, ⟨by kernel_rfl, by kernel_rfl, by kernel_rfl⟩, ⟨by kernel_rfl, by kernel_rfl, by kernel_rfl⟩, ⟨by kernel_rfl, by kernel_rfl, by kernel_rfl⟩, ⟨by kernel_rfl, by kernel_rfl, by kernel_rfl⟩, ⟨by kernel_rfl, by kernel_rfl, by kernel_rfl⟩, ⟨by kernel_rfl, by kernel_rfl, by kernel_rfl⟩, ⟨by kernel_rfl, by kernel_rfl, by kernel_rfl⟩, ⟨by kernel_rfl, by kernel_rfl, by kernel_rfl⟩, ⟨by kernel_rfl, by kernel_rfl, by kernel_rfl⟩, ⟨by kernel_rfl, by kernel_rfl, by kernel_rfl⟩, ⟨by kernel_rfl, by kernel_rfl, by kernel_rfl⟩, ⟨by kernel_rfl, by kernel_rfl, by kernel_rfl⟩, ⟨by kernel_rfl, by kernel_rfl, by kernel_rfl⟩⟩
theorem rndT : RndT Go.Proofs.Tryz.prog 106 9 3 := ⟨by kernel_rfl, by kernel_rfl, by kernel_rfl, by kernel_rfl, by kernel_rfl, by kernel_rfl, by kernel_rfl⟩
theorem rndO : RndO 106 9 3 (opOf (rfA R) 0 0) (opOf (rfA R) 0 1) (opOf (rfB R) 0 0) (opOf (rfB R) 0 1) (opOf (rfB R) 0 2) (opOf (rfB R) 0 3) (opOf (rfB R) 1 0) (opOf (rfB R) 1 1) (opOf (rfB R) 1 2) (opOf (rfB R) 1 3) :=
  ⟨⟨by kernel_rfl, by kernel_rfl, by kernel_rfl⟩, ⟨by kernel_rfl, by kernel_rfl, by kernel_rfl⟩, ⟨by kernel_rfl, by kernel_rfl, by kernel_rfl⟩, ⟨by kernel_rfl, by kernel_rfl, by kernel_rfl⟩, ⟨by kernel_rfl, by kernel_rfl, by kernel_rfl⟩, ⟨by kernel_rfl, by kernel_rfl, by kernel_rfl⟩, ⟨by kernel_rfl, by kernel_rfl, by kernel_rfl⟩, ⟨by kernel_rfl, by kernel_rfl, by kernel_rfl⟩, ⟨by kernel_rfl, by kernel_rfl, by kernel_rfl⟩, ⟨by kernel_rfl, by kernel_rfl, by kernel_rfl⟩⟩
theorem varOk : VarOk Go.Proofs.Tryz.prog 124 v124 :=
  ⟨⟨Go.Proofs.Tryz.f124, Go.Proofs.Tryz.func124, by kernel_rfl, by kernel_rfl⟩, fun _ hcs hcm _ _ hne => var_sound mixed hcs hcm Go.Proofs.Tryz.func124 body124 (by kernel_rfl) (by decide) (by decide) (by decide) (by kernel_rfl) rfl rfl rfl rfl rfl
    (by kernel_rfl) (by kernel_rfl) (by kernel_rfl) (by kernel_rfl) (by kernel_rfl) (by kernel_rfl) Go.Proofs.Tryz.func185 body185 (by kernel_rfl) (by kernel_rfl) (by kernel_rfl) backT backO rndT rndO hne⟩
theorem chkCtx0 : allT (chkF Go.Proofs.Tryz.prog) ctx0.funs = true := chkAll0
theorem sumsOk0 : SumsOk Go.Proofs.Tryz.prog ctx0 := withV_ok mixed (sums_ok mixed chkdAll moreOk0) varOk (by kernel_rfl)
/-- the document's example, once -/
theorem yes12 : isTrue (lev ctx0 60 12 [] .none Heap.empty).1 = true := by kernel_rfl
theorem awakeOk : MoreOk Go.Proofs.Tryz.prog (moreYes 12) := moreYes_ok ⟨Go.Proofs.Tryz.f12, Go.Proofs.Tryz.func12, by kernel_rfl, by kernel_rfl⟩ fun w => law_runC mixed chkCtx0 sumsOk0 yes12 rfl w
theorem moreOk : MoreOk Go.Proofs.Tryz.prog (more2 (moreCmp 110) (moreYes 12)) := more2_ok moreOk0 awakeOk
theorem chkCtx : allT (chkF Go.Proofs.Tryz.prog) ctx.funs = true := chkAll
theorem sumsOk : SumsOk Go.Proofs.Tryz.prog ctx := withV_ok mixed (sums_ok mixed chkdAll moreOk) varOk (by kernel_rfl)
end
end Go.Eng.YtfolmdfljpkpeaaGreatDoor
