/- What the evaluator is told of this program's functions is checked against the loaded program; IndexByte is met by the shelf's contract. No condition. -/
import Derived.Test.YtjgmahbgfbkhnaaCode
import Derived.Test.YtjgmahbgfbkhnaaEng3
import Derived.Test.YtjgmahbgfbkhnaaChecked
import Derived.Shelf.Strings.Search1
import Derived.Shelf.Small.Strs
set_option maxRecDepth 1000000
namespace Go.Proofs
open Go.Shelf
def Try.lays217_ren : Go.Shelf.Ren := ⟨fun | 217 => 116 | 266 => 117 | n => n, fun | 9 => 9 | 5 => 5 | 3 => 3 | n => n, fun | n => n⟩
theorem Try.lays217 : Go.Proofs.Lays.n217 Try.prog Try.lays217_ren := {
  mixed := by kernel_rfl
  f217 := Try.func116.trans (congrArg some (by kernel_rfl))
  f266 := Try.func117.trans (congrArg some (by kernel_rfl))
  t3 := Try.underlying3
  a3 := Try.isAgg3
  z3 := Try.sizeOf3
  v3 := Try.zeroValue3
  t5 := Try.underlying5
  a5 := Try.isAgg5
  z5 := Try.sizeOf5
  v5 := Try.zeroValue5
  t9 := Try.underlying9
  a9 := Try.isAgg9
  z9 := Try.sizeOf9
  v9 := Try.zeroValue9 }
open Go.RowKit Go.Lib in
theorem Try.stringslite_IndexByte (s : ByteArray) (c : Int) (w : World) :
    Calls Try.prog 116 #[.string s, .int .u8 c] w fun e w' => e = .returned (.int .i64 (Lib.indexByte s.data.toList c.toNat.toUInt8)) ∧ w' = w := Any.stringslite_IndexByte Try.lays217 s c w
end Go.Proofs
namespace Go.Eng.Ytjgmahbgfbkhnaa
open Go.Eng
noncomputable section
theorem chkAll : allT (chkF Go.Proofs.Try.prog) funs = true := by kernel_rfl
theorem chkdAll : allT (chkFD Go.Proofs.Try.prog) dfuns = true := by kernel_rfl
theorem idxBody : hasBody Go.Proofs.Try.prog 116 := ⟨Go.Proofs.Try.f116, Go.Proofs.Try.func116, by kernel_rfl, by kernel_rfl⟩
theorem moreOk : MoreOk Go.Proofs.Try.prog (moreIdx 116) := moreIdx_ok idxBody Go.Proofs.Try.stringslite_IndexByte
def ctx : Ctx := Ctx.of funs dfuns (moreIdx 116)
end
end Go.Eng.Ytjgmahbgfbkhnaa
