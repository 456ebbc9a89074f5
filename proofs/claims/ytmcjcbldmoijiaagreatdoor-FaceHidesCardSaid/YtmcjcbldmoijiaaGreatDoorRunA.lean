/- Part of a proof of a law: rules of an evaluator, contracts, plain laws. No condition of its own. -/
import Derived.Test.YtmcjcbldmoijiaaGreatDoorConF
import Derived.Test.YtmcjcbldmoijiaaGreatDoorBaseD
import Derived.Test.YtmcjcbldmoijiaaGreatDoorSymA
set_option linter.unusedVariables false
set_option linter.unusedSimpArgs false
set_option maxRecDepth 1000000
namespace Go.Eng.YtmcjcbldmoijiaaGreatDoor
open Go.Eng Go.Proofs
noncomputable section
theorem agb:gj jF:=by constructor<;>rfl
theorem Tr:zY jF:=by constructor<;>rfl
theorem hasB:rM jF:={f74:=rfl,f78:=rfl,f44:=rfl,f45:=rfl,f17:=rfl,sort:=af7,grow:=af8}
theorem agc:x8 jF:={f85:=rfl,f62:=rfl,f63:=rfl,f25:=rfl,f26:=rfl,f27:=rfl,f9:=rfl,a:=Tr,b:=hasB}
theorem agd:GG jF:={f27:=rfl,f9:=rfl,f:=agc,b:=hasB,RU:=af9,RV:=aga}
theorem age:uO jF:={f13:=rfl,f12:=rfl,a:=Tr}
theorem agf:Lt.uO jF:=by constructor<;>rfl
theorem agh:Lt.Ht jF:={f121:=rfl,f120:=rfl,r:=agf}
theorem agi:Lt.yx jF:={f105:=rfl,f47:=rfl,g:=agh}
theorem agj:Lt.L8 jF:={f69:=rfl,h:=agi}
theorem agk:yB jF:={f33:=rfl,f10:=rfl,x:=agb,i:=agj,o:=agd,r:=age,yes:=af6}
theorem agl:yx jF:={f6:=rfl,l:=agk}
theorem aiI (s u:List UInt8):bT jF 6 [L.str s,L.str u] ae.empty fun v _=>v= .bool true:=afC agl aq.empty
end
end Go.Eng.YtmcjcbldmoijiaaGreatDoor
