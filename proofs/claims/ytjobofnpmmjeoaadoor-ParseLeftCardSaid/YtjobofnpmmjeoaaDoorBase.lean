/- What the evaluator is told of this program's functions is checked against the loaded program; IndexByte is met by the shelf's contract. No condition. -/
import Derived.Test.YtjobofnpmmjeoaaDoorCode
import Derived.Test.YtjobofnpmmjeoaaDoorEng3
import Derived.Test.YtjobofnpmmjeoaaDoorChecked
import Derived.Shelf.Strings.Search1
import Derived.Shelf.Small.Strs
set_option linter.unusedVariables false
set_option linter.unusedSimpArgs false
set_option maxRecDepth 1000000
namespace Go.Proofs
open Go.Shelf
def Tryd.lays217_ren : Go.Shelf.Ren := ⟨fun | 217 => 56 | 266 => 62 | n => n, fun | 9 => 9 | 5 => 5 | 3 => 3 | n => n, fun | n => n⟩
theorem Tryd.lays217 : Go.Proofs.Lays.n217 Tryd.prog Tryd.lays217_ren := {
  mixed := by kernel_rfl
  f217 := Tryd.func56.trans (congrArg some (by kernel_rfl))
  f266 := Tryd.func62.trans (congrArg some (by kernel_rfl))
  t3 := Tryd.underlying3
  a3 := Tryd.isAgg3
  z3 := Tryd.sizeOf3
  v3 := Tryd.zeroValue3
  t5 := Tryd.underlying5
  a5 := Tryd.isAgg5
  z5 := Tryd.sizeOf5
  v5 := Tryd.zeroValue5
  t9 := Tryd.underlying9
  a9 := Tryd.isAgg9
  z9 := Tryd.sizeOf9
  v9 := Tryd.zeroValue9 }
open Go.RowKit Go.Lib in
theorem Tryd.stringslite_IndexByte (s : ByteArray) (c : Int) (w : World) :
    Calls Tryd.prog 56 #[.string s, .int .u8 c] w fun e w' => e = .returned (.int .i64 (Lib.indexByte s.data.toList c.toNat.toUInt8)) ∧ w' = w := Any.stringslite_IndexByte Tryd.lays217 s c w
end Go.Proofs
namespace Go.Eng.YtjobofnpmmjeoaaDoor
open Go.Eng
noncomputable section
theorem chkAll : allT (chkF Go.Proofs.Tryd.prog) funs = true := by kernel_rfl
theorem chkdAll : allT (chkFD Go.Proofs.Tryd.prog) dfuns = true := by kernel_rfl
theorem idxBody : hasBody Go.Proofs.Tryd.prog 56 := ⟨Go.Proofs.Tryd.f56, Go.Proofs.Tryd.func56, by kernel_rfl, by kernel_rfl⟩
theorem moreOk : MoreOk Go.Proofs.Tryd.prog (moreIdx 56) := moreIdx_ok idxBody Go.Proofs.Tryd.stringslite_IndexByte
def ctx : Ctx := Ctx.of funs dfuns (moreIdx 56)
end
end Go.Eng.YtjobofnpmmjeoaaDoor
