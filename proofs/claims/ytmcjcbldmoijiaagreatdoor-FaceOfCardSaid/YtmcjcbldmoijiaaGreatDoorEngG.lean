/- Part of a proof of a law: rules of an evaluator, contracts, plain laws. No condition of its own. -/
import Derived.Test.YtmcjcbldmoijiaaGreatDoorEngC
import Derived.Maps.RangeRun
set_option linter.unusedVariables false
set_option linter.unusedSimpArgs false
namespace Go.Eng
noncomputable section
open Go.ChangeMaps (setBlock)
structure ai7 (o:Oper) (d:Nat) (op:Go.Op):Prop where
 dst:o.dst=some d
 op:o.op=op
 guard:o.guard=none
structure ai8 (a:Act) (l:List (Nat×Value)):Prop where
 size:a.tmps.size=18
 defers:a.defers=[]
 at_:∀p∈l,a.tmps.getD p.1 undef=p.2
structure ai9 (P:Program) (SF rM a8 ch:TypeId):Prop where
 aZ:pb P SF false=true
 bF:pb P rM false=true
 aja:P.underlying SF=some (.map a8 rM)
 xp:P.underlying rM=some (.map a8 ch)
 s:P.underlying a8=some .string
 qE:OY P rM .k9=true
 z2:OY P ch (.bool false)=true
end
end Go.Eng
