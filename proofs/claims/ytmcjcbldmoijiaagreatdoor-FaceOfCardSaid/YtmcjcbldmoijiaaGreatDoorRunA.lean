/- Part of a proof of a law: rules of an evaluator, contracts, plain laws. No condition of its own. -/
import Derived.Test.YtmcjcbldmoijiaaGreatDoorConF
import Derived.Test.YtmcjcbldmoijiaaGreatDoorBaseD
import Derived.Test.YtmcjcbldmoijiaaGreatDoorSymA
set_option linter.unusedVariables false
set_option linter.unusedSimpArgs false
set_option maxRecDepth 1000000
namespace Go.Eng.YtmcjcbldmoijiaaGreatDoor
open Go.Eng Go.Proofs
noncomputable section
theorem ah3:gO jQ:=by constructor<;>rfl
theorem Jv:sP jQ:=by constructor<;>rfl
theorem hasB:sR jQ:={f74:=rfl,f78:=rfl,f44:=rfl,f45:=rfl,f17:=rfl,sort:=ahZ,grow:=ah0}
theorem ah4:zj jQ:={f85:=rfl,f62:=rfl,f63:=rfl,f25:=rfl,f26:=rfl,f27:=rfl,f9:=rfl,a:=Jv,b:=hasB}
theorem ah5:It jQ:={f27:=rfl,f9:=rfl,f:=ah4,b:=hasB,TH:=ah1,TI:=ah2}
theorem ah6:EO jQ:={f70:=rfl,f34:=rfl,f35:=rfl,f11:=rfl,f13:=rfl,f12:=rfl,f36:=rfl,a:=Jv}
theorem ah7:Ns jQ:={f36:=rfl,a:=Jv}
theorem ah8:ux jQ:={f11:=rfl,f13:=rfl,f12:=rfl,a:=Jv,q:=ah6,e:=ah7}
theorem ah9:Lt.ux jQ:=by constructor<;>rfl
theorem aia:Lt.Jr jQ:={f121:=rfl,f120:=rfl,r:=ah9}
theorem aib:Lt.Ju jQ:={f105:=rfl,f47:=rfl,g:=aia}
theorem aic:Lt.Of jQ:={f69:=rfl,h:=aib}
theorem aid:zL jQ:={f33:=rfl,f10:=rfl,x:=ah3,i:=aic,o:=ah5,r:=ah8,yes:=ahY}
theorem aie:UT jQ:={f3:=rfl,l:=aid}
theorem akV (s u:List UInt8):bU jQ 3 [L.str s,L.str u] ag.empty fun v _=>v= .bool true:=ahu aie ak.empty
end
end Go.Eng.YtmcjcbldmoijiaaGreatDoor
