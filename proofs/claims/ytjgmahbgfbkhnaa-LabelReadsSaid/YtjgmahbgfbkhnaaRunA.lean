/- Part of a proof of a law: rules of an evaluator, contracts, plain laws. No condition of its own. -/
import Derived.Test.YtjgmahbgfbkhnaaConF
import Derived.Test.YtjgmahbgfbkhnaaBaseA
import Derived.Test.YtjgmahbgfbkhnaaConJ
set_option linter.unusedVariables false
set_option linter.unusedSimpArgs false
set_option maxRecDepth 1000000
namespace Go.Eng.Ytjgmahbgfbkhnaa
open Go.Eng
noncomputable section
theorem hasLab:HasF nW:=by constructor<;>rfl
theorem sortM:∀args h r,ja 24 24 args h=r→r≠.bad→Runs nW 24 args h r:=by
 intro args h r e hr
 exact Runs.more (c:=nW) rfl rfl rfl (qN ((pq rfl).trans e) hr)
theorem hasM:yD nW:={f12:=rfl,f18:=rfl,f25:=rfl,f35:=rfl,f24:=sortM,f26:=rfl,lab:=hasLab}
theorem hasS:EI nW:=by constructor<;>rfl
theorem yesM (h:Heap):aM nW 11 [] h fun v h1=>v= .bool true∧h1=h:=
 ⟨_,_,Runs.more (c:=nW) (r:= .ok (.bool true) h) rfl rfl rfl ((pq ((pq rfl).trans rfl)).trans rfl),rfl,rfl⟩
end
end Go.Eng.Ytjgmahbgfbkhnaa
set_option maxRecDepth 1000000
namespace Go.Eng.Ytjgmahbgfbkhnaa
open Go.Eng Go.Proofs
noncomputable section
theorem hasR:HasR nW:=by constructor<;>rfl
theorem hasG:HasG nW:={f53:=rfl,f54:=rfl,r:=hasR}
theorem hasH:HasH nW:={f28:=rfl,f30:=rfl,g:=hasG}
theorem hasI:HasI nW:={f13:=rfl,h:=hasH}
theorem hasX:qZ nW:=by constructor<;>rfl
theorem hasP:Pq.jd nW:=by constructor<;>rfl
theorem idxM {fs:List Fact} {h:Heap} {l:List UInt8} {b:UInt8} (st:St fs h):aM nW 116 [L.str l, .int .u8 (b.toNat:Int)] h fun v h1=>v= .int .i64 (Lib.indexByte l b)∧St fs h1:=by
 refine ⟨_,h,Runs.more (c:=nW) rfl rfl rfl (qN (qN (wW l b h) (by intro e;cases e)) (by intro e;cases e)),rfl,st⟩
theorem hasPD:Pq.uS nW:={is_:=⟨_,_,rfl,rfl⟩,idx:=idxM}
theorem hasRd:zy nW:={x:=hasX,p:=hasP,q:=hasPD,m:=hasM,s:=hasS,i:=hasI,f11:=yesM,f15:=rfl,f4:=rfl,f16:=rfl,f17:=rfl,f19:=rfl}
theorem K6 (s x:List UInt8):aM nW 4 [L.str s,L.str x] Heap.empty fun v _=>v= .bool true:=reads_c hasRd St.empty
theorem law4 {w:World} (_:0<w.heap.size) (s x:ByteArray):Calls Try.prog 4 #[.string s, .string x] w fun e w'=>e= .returned (.bool true)∧Kept w w':=
 JZ (P:=Try.prog) mixed chkB Gv moreOk (K6 s.data.toList x.data.toList) (args:= #[.string s, .string x]) ⟨_,_,rfl,⟨_,rfl,rfl,rfl⟩,_,_,rfl,⟨_,rfl,rfl,rfl⟩,rfl⟩ w
end
end Go.Eng.Ytjgmahbgfbkhnaa
