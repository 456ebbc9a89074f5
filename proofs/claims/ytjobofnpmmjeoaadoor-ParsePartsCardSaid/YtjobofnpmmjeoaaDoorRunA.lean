/- Part of a proof of a law: rules of an evaluator, contracts, plain laws. No condition of its own. -/
import Derived.Test.YtjobofnpmmjeoaaDoorConB
import Derived.Test.YtjobofnpmmjeoaaDoorBaseA
set_option linter.unusedVariables false
set_option linter.unusedSimpArgs false
set_option maxRecDepth 1000000
namespace Go.Eng.YtjobofnpmmjeoaaDoor
open Go.Eng Go.Proofs
noncomputable section
theorem hasP:Pq.fZ Ih:=by constructor<;>rfl
theorem hasPD:Pq.uE Ih:={is_:=⟨_,_,rfl,rfl,rfl⟩,idx:=idxM}
theorem hasL:HasL Ih:={p:=hasP,q:=hasPD,f9:=yesM,f12:=rfl,f32:=rfl,f57:=rfl,f45:=rfl,f33:=rfl,f19:=rfl,f8:=rfl,f15:=rfl}
theorem PS (s:List UInt8) (w:Nat) (hw:w<256):bZ Ih 8 [L.str s, .int .u8 (w:Int)] Heap.empty fun v _=>v= .bool true:=parts_c hasL hw St.empty rfl
end
end Go.Eng.YtjobofnpmmjeoaaDoor
