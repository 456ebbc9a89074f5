/- Part of a proof of a law: rules of an evaluator, contracts, plain laws. No condition of its own. -/
import Derived.Test.YtmcjcbldmoijiaaGreatDoorEngC
import Derived.Maps.RangeRun
set_option linter.unusedVariables false
set_option linter.unusedSimpArgs false
namespace Go.Eng
noncomputable section
open Go.ChangeMaps (setBlock)
structure ag7 (o:Oper) (d:Nat) (op:Go.Op):Prop where
 dst:o.dst=some d
 op:o.op=op
 guard:o.guard=none
structure ag8 (a:Act) (l:List (Nat×Value)):Prop where
 size:a.tmps.size=18
 defers:a.defers=[]
 at_:∀p∈l,a.tmps.getD p.1 undef=p.2
structure ag9 (P:Program) (QP qG aP cr:TypeId):Prop where
 aW:oe P QP false=true
 bu:oe P qG false=true
 aha:P.underlying QP=some (.map aP qG)
 we:P.underlying qG=some (.map aP cr)
 s:P.underlying aP=some .string
 pH:MQ P qG .kp=true
 z2:MQ P cr (.bool false)=true
end
end Go.Eng
