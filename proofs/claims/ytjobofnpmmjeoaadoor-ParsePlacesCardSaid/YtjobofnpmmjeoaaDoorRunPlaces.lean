/- The law ParsePlaces's function returns true for all inputs, by the evaluator's contracts. No condition. -/
import Derived.Test.YtjobofnpmmjeoaaDoorPlaces
import Derived.Test.YtjobofnpmmjeoaaDoorBase
set_option maxRecDepth 1000000
namespace Go.Eng.YtjobofnpmmjeoaaDoor
open Go.Eng
noncomputable section
theorem runPlaces (s mo : List UInt8) : RunP (Ctx.of funs dfuns (moreIdx 56)) 4 [L.str s, L.str mo] Heap.empty fun v _ => v = .bool true := by
  obtain ⟨v, h1, hr, hv, _⟩ := places_c (c := ctxS) (s := s) (mo := mo) hasF rfl rfl hasD St.empty
  exact ⟨v, h1, hr, hv⟩
end
end Go.Eng.YtjobofnpmmjeoaaDoor
