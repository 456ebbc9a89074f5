/- Part of a proof of a law: rules of an evaluator, contracts, plain laws. No condition of its own. -/
import Derived.Test.YtjobofnpmmjeoaaDoorCodeA
import Derived.Test.YtjobofnpmmjeoaaDoorEngC
import Derived.Test.YtjobofnpmmjeoaaDoorEngD
import Derived.Test.YtjobofnpmmjeoaaDoorSymA
import Derived.Test.YtjobofnpmmjeoaaDoorChecked
import Derived.Shelf.Strings.Search1
import Derived.Shelf.Small.Strs
set_option linter.unusedVariables false
set_option linter.unusedSimpArgs false
set_option maxRecDepth 1000000
namespace Go.Proofs
open Go.Shelf
def Tryd.Ie:Go.Shelf.Ren:=⟨fun|217=>56|266=>62|n=>n,fun|9=>9|5=>5|3=>3|n=>n,fun|n=>n⟩
theorem Tryd.lays217:Go.Proofs.Lays.n217 Tryd.prog Tryd.Ie:={
 mixed:=by kernel_rfl
 f217:=Tryd.func56.trans (congrArg some (by kernel_rfl))
 f266:=Tryd.func62.trans (congrArg some (by kernel_rfl))
 t3:=Tryd.underlying3
 a3:=Tryd.isAgg3
 z3:=Tryd.sizeOf3
 v3:=Tryd.zeroValue3
 t5:=Tryd.underlying5
 a5:=Tryd.isAgg5
 z5:=Tryd.sizeOf5
 v5:=Tryd.zeroValue5
 t9:=Tryd.underlying9
 a9:=Tryd.isAgg9
 z9:=Tryd.sizeOf9
 v9:=Tryd.zeroValue9}
open Go.RowKit Go.Lib in
theorem Tryd.stringslite_IndexByte (s:ByteArray) (c:Int) (w:World):
  Calls Tryd.prog 56 #[.string s, .int .u8 c] w fun e w'=>e= .returned (.int .i64 (Lib.indexByte s.data.toList c.toNat.toUInt8))∧w'=w:=Any.stringslite_IndexByte Tryd.lays217 s c w
end Go.Proofs
namespace Go.Eng.YtjobofnpmmjeoaaDoor
open Go.Eng
noncomputable section
theorem JK {a b:Nat→List V→Heap→OR} {f:Nat} {l:List V} {h:Heap} {r:OR} (e:a f l h=r) (hr:r≠.bad):Ed a b f l h=r:=by
 unfold Ed;rw [e];cases r<;>first|rfl|exact absurd rfl hr
theorem Ig {a b:Nat→List V→Heap→OR} {f:Nat} {l:List V} {h:Heap} (e:a f l h= .bad):Ed a b f l h=b f l h:=by
 unfold Ed;rw [e]
theorem mixed:Go.Proofs.Tryd.prog.follows .mixedOrders=true:=by kernel_rfl
theorem chkAll:allT (CG Go.Proofs.Tryd.prog) bJ=true:=by kernel_rfl
theorem K8:allT (Dn Go.Proofs.Tryd.prog) gY=true:=by kernel_rfl
theorem idxBody:j5 Go.Proofs.Tryd.prog 56:=⟨Go.Proofs.Tryd.f56,Go.Proofs.Tryd.func56,by kernel_rfl,by kernel_rfl⟩
def PO:Nat→List V→Heap→OR:=uU 56
theorem K9:lS Go.Proofs.Tryd.prog PO:=Jh idxBody Go.Proofs.Tryd.stringslite_IndexByte
def ctx0:Ctx:=Ctx.of bJ gY PO
theorem yesA:isTrue (lev ctx0 60 9 [] .none Heap.empty).1=true:=by kernel_rfl
theorem awakeOk:lS Go.Proofs.Tryd.prog (Am 9):=JJ ⟨Go.Proofs.Tryd.f9,Go.Proofs.Tryd.func9,by kernel_rfl,by kernel_rfl⟩ fun w=>PN (c:=ctx0) mixed chkAll (EK mixed K8 K9) yesA rfl w
def funsB:T Fun:=⟨⟨⟨⟨none,none,none,none,none,none,none,none⟩,⟨(some i8),none,(some i10),(some i11),(some i12),none,none,(some i15)⟩,⟨(some i16),(some i17),(some i18),(some i19),none,(some i21),none,(some i23)⟩,⟨(some i24),(some i25),(some i26),(some i27),(some i28),(some i29),(some i30),(some i31)⟩,⟨(some i32),(some i33),none,(some i35),(some i36),(some i37),(some i38),none⟩,⟨(some i40),(some i41),(some i42),(some i43),(some i44),(some i45),(some i46),(some i47)⟩,⟨(some i48),(some i49),(some i50),(some i51),(some i52),(some i53),(some i54),(some i55)⟩,⟨none,(some i57),(some i58),(some i59),(some i60),(some i61),none,(some i63)⟩⟩,⟨⟨none,(some i65),(some i66),(some i67),none,none,none,none⟩,⟨none,(some i73),none,none,none,none,(some i78),(some i79)⟩,⟨(some i80),none,none,none,(some i84),(some i85),none,(some i87)⟩,⟨none,none,none,none,none,none,none,none⟩,⟨none,none,none,none,none,none,none,none⟩,n1,n1,⟨none,none,none,none,none,none,none,none⟩⟩,n2,n2,n2,n2,n2,n2⟩,none, .mt⟩
theorem chkB:allT (CG Go.Proofs.Tryd.prog) funsB=true:=by kernel_rfl
def bX:Nat→List V→Heap→OR:=Ed PO (Am 9)
theorem moreOk:lS Go.Proofs.Tryd.prog bX:=PL K9 awakeOk
def Ih:Ctx:=Ctx.of funsB gY bX
theorem yesM (h:Heap):bZ Ih 9 [] h fun v h1=>v= .bool true∧h1=h:=
 ⟨_,_,Runs.more (c:=Ih) (r:= .ok (.bool true) h) rfl rfl rfl ((Ig rfl).trans rfl),rfl,rfl⟩
theorem idxM {fs:List Fact} {h:Heap} {l:List UInt8} {b:UInt8} (st:St fs h):bZ Ih 56 [L.str l, .int .u8 (b.toNat:Int)] h fun v h1=>v= .int .i64 (Lib.indexByte l b)∧St fs h1:=by
 refine ⟨_,h,Runs.more (c:=Ih) rfl rfl rfl (JK (BA l b h) (by intro e;cases e)),rfl,st⟩
end
end Go.Eng.YtjobofnpmmjeoaaDoor
