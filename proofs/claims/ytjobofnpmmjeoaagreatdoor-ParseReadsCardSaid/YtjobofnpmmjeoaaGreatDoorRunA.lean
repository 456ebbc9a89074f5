/- Part of a proof of a law: rules of an evaluator, contracts, plain laws. No condition of its own. -/
import Derived.Test.YtjobofnpmmjeoaaGreatDoorConG
import Derived.Test.YtjobofnpmmjeoaaGreatDoorBaseA
set_option linter.unusedVariables false
set_option linter.unusedSimpArgs false
set_option maxRecDepth 1000000
namespace Go.Eng.YtjobofnpmmjeoaaGreatDoor
open Go.Eng Go.Proofs
noncomputable section
theorem hasX:ko FR:=by constructor<;>rfl
theorem hasP:Pq.gq FR:=by constructor<;>rfl
theorem hasPD:Pq.uL FR:={is_:=⟨_,_,rfl,rfl,rfl⟩,idx:=idxM}
theorem hasL:I9 FR:={x:=hasX,p:=hasP,q:=hasPD,f4:=yesM,f10:=rfl,f39:=rfl,f68:=rfl,f57:=rfl,f40:=rfl,f23:=rfl,f3:=rfl,f9:=rfl,f11:=rfl}
theorem Ta (s:List UInt8):aV FR 3 [L.str s] Heap.empty fun v _=>v= .bool true:=reads_c hasL St.empty
end
end Go.Eng.YtjobofnpmmjeoaaGreatDoor
