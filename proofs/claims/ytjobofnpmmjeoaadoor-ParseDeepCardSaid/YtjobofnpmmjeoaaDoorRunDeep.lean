/- The law ParseDeep's function returns true for all inputs, by the evaluator's contracts. No condition. -/
import Derived.Test.YtjobofnpmmjeoaaDoorDeep
import Derived.Test.YtjobofnpmmjeoaaDoorBase
set_option maxRecDepth 1000000
namespace Go.Eng.YtjobofnpmmjeoaaDoor
open Go.Eng
noncomputable section
theorem runDeep (a : Nat) (ha : a < 256) (b : Nat) (hb : b < 256) : RunP (Ctx.of funs dfuns (moreIdx 56)) 5 [.int .u8 (.ofNat a), .int .u8 (.ofNat b)] Heap.empty fun v _ => v = .bool true := by
  obtain ⟨v, h1, hr, hv, _⟩ := deep_c (c := ctxS) (n := a) (w := b) hasF rfl rfl hasD ha (fun k h1 h2 y z hy hz => textS b k h1 h2 y z hy hz) (fun k h1 h2 => textT k h1 h2) St.empty
  exact ⟨v, h1, hr, hv⟩
end
end Go.Eng.YtjobofnpmmjeoaaDoor
