/- What the evaluator is told of this program's functions is checked against the loaded program; four library functions are met by the shelf's contracts, one of the program's by a summary. No condition. -/
import Derived.Test.YtbokieoaabpjfaaGreatDoorCtx
import Derived.Test.YtbokieoaabpjfaaGreatDoorChecked
import Derived.Shelf.Strings.Search1
import Derived.Shelf.Small.Strs
set_option maxRecDepth 1000000
namespace Go.Proofs
open Go.Shelf
def Tryz.lays217_ren : Go.Shelf.Ren := ⟨fun | 217 => 278 | 266 => 294 | n => n, fun n => n, fun n => n⟩
theorem Tryz.lays217 : Go.Proofs.Lays.n217 Tryz.prog Tryz.lays217_ren := {
  mixed := by kernel_rfl
  f217 := Tryz.func278.trans (congrArg some (by kernel_rfl))
  f266 := Tryz.func294.trans (congrArg some (by kernel_rfl))
  t3 := Tryz.underlying3
  a3 := Tryz.isAgg3
  z3 := Tryz.sizeOf3
  v3 := Tryz.zeroValue3
  t5 := Tryz.underlying5
  a5 := Tryz.isAgg5
  z5 := Tryz.sizeOf5
  v5 := Tryz.zeroValue5
  t9 := Tryz.underlying9
  a9 := Tryz.isAgg9
  z9 := Tryz.sizeOf9
  v9 := Tryz.zeroValue9 }
def Tryz.lays213_ren : Go.Shelf.Ren := ⟨fun | 213 => 117 | 265 => 192 | n => n, fun n => n, fun n => n⟩
theorem Tryz.lays213 : Go.Proofs.Lays.n213 Tryz.prog Tryz.lays213_ren := {
  mixed := by kernel_rfl
  f213 := Tryz.func117.trans (congrArg some (by kernel_rfl))
  f265 := Tryz.func192.trans (congrArg some (by kernel_rfl))
  t3 := Tryz.underlying3
  a3 := Tryz.isAgg3
  z3 := Tryz.sizeOf3
  v3 := Tryz.zeroValue3
  t9 := Tryz.underlying9
  a9 := Tryz.isAgg9
  z9 := Tryz.sizeOf9
  v9 := Tryz.zeroValue9 }
open Go.RowKit Go.Lib in
theorem Tryz.stringslite_IndexByte (s : ByteArray) (c : Int) (w : World) :
    Calls Tryz.prog 278 #[.string s, .int .u8 c] w fun e w' => e = .returned (.int .i64 (Lib.indexByte s.data.toList c.toNat.toUInt8)) ∧ w' = w := Any.stringslite_IndexByte Tryz.lays217 s c w
open Go.RowKit Go.Lib in
theorem Tryz.bytealg_CompareString (a b : ByteArray) (w : World) :
    Calls Tryz.prog 117 #[.string a, .string b] w fun e w' => e = .returned (.int .i64 (Lib.compareBytes a.data.toList b.data.toList)) ∧ w' = w := Any.bytealg_CompareString Tryz.lays213 a b w
end Go.Proofs
namespace Go.Eng.YtbokieoaabpjfaaGreatDoor
open Go.Eng
noncomputable section
theorem chkAll : allT (chkF Go.Proofs.Tryz.prog) funs = true := by kernel_rfl
theorem chkdAll : allT (chkFD Go.Proofs.Tryz.prog) dfuns = true := by kernel_rfl
theorem idxBody : hasBody Go.Proofs.Tryz.prog 278 := ⟨Go.Proofs.Tryz.f278, Go.Proofs.Tryz.func278, by kernel_rfl, by kernel_rfl⟩
theorem cmpBody : hasBody Go.Proofs.Tryz.prog 117 := ⟨Go.Proofs.Tryz.f117, Go.Proofs.Tryz.func117, by kernel_rfl, by kernel_rfl⟩
theorem rdyOk : MoreOk Go.Proofs.Tryz.prog (moreRdy 150) :=
  moreRdy_of (tt := 246) (tm := 165) (ts := 9) (tb := 4) ⟨by kernel_rfl, by kernel_rfl, by kernel_rfl, by kernel_rfl, by kernel_rfl, by kernel_rfl, by kernel_rfl⟩ Go.Proofs.Tryz.func150 (by kernel_rfl) (by kernel_rfl)
    ⟨⟨by kernel_rfl, by kernel_rfl, by kernel_rfl⟩, ⟨by kernel_rfl, by kernel_rfl, by kernel_rfl⟩, ⟨by kernel_rfl, by kernel_rfl, by kernel_rfl⟩, ⟨by kernel_rfl, by kernel_rfl, by kernel_rfl⟩, ⟨by kernel_rfl, by kernel_rfl, by kernel_rfl⟩, ⟨by kernel_rfl, by kernel_rfl, by kernel_rfl⟩, ⟨by kernel_rfl, by kernel_rfl, by kernel_rfl⟩, ⟨by kernel_rfl, by kernel_rfl, by kernel_rfl⟩, ⟨by kernel_rfl, by kernel_rfl, by kernel_rfl⟩, ⟨by kernel_rfl, by kernel_rfl, by kernel_rfl⟩, ⟨by kernel_rfl, by kernel_rfl, by kernel_rfl⟩, ⟨by kernel_rfl, by kernel_rfl, by kernel_rfl⟩, ⟨by kernel_rfl, by kernel_rfl, by kernel_rfl⟩, ⟨by kernel_rfl, by kernel_rfl, by kernel_rfl⟩, ⟨by kernel_rfl, by kernel_rfl, by kernel_rfl⟩, ⟨by kernel_rfl, by kernel_rfl, by kernel_rfl⟩⟩ (by kernel_rfl) (by kernel_rfl)
theorem moreOk : MoreOk Go.Proofs.Tryz.prog (more2 (more2 (moreIdx 278) (moreCmp 117)) (moreRdy 150)) := more2_ok (more2_ok (moreIdx_ok idxBody Go.Proofs.Tryz.stringslite_IndexByte) (moreCmp_ok cmpBody Go.Proofs.Tryz.bytealg_CompareString)) rdyOk
end
end Go.Eng.YtbokieoaabpjfaaGreatDoor
