/- The law ParseBlanks's function returns true for all inputs, by the evaluator's contracts. No condition. -/
import Derived.Test.YtjobofnpmmjeoaaDoorBlanks
import Derived.Test.YtjobofnpmmjeoaaDoorBase
set_option maxRecDepth 1000000
namespace Go.Eng.YtjobofnpmmjeoaaDoor
open Go.Eng
noncomputable section
theorem runBlanks (s : List UInt8) (w : Nat) (hw : w < 256) : RunP (Ctx.of funs dfuns (moreIdx 56)) 3 [L.str s, .int .u8 (.ofNat w)] Heap.empty fun v _ => v = .bool true := by
  obtain ⟨v, h1, hr, hv, _⟩ := blanks_c (c := ctxS) (s := s) (w := w) hasF rfl rfl rfl rfl rfl rfl rfl rfl hasD hw St.empty
  exact ⟨v, h1, hr, hv⟩
end
end Go.Eng.YtjobofnpmmjeoaaDoor
