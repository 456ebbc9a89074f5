/- Part of a proof of a law: rules of an evaluator, contracts, plain laws. No condition of its own. -/
import Derived.Test.YtjobofnpmmjeoaaGreatDoorCodeA
import Derived.Test.YtjobofnpmmjeoaaGreatDoorEngC
import Derived.Test.YtjobofnpmmjeoaaGreatDoorEngD
import Derived.Test.YtjobofnpmmjeoaaGreatDoorSymA
import Derived.Test.YtjobofnpmmjeoaaGreatDoorChecked
import Derived.Shelf.Strings.Search1
import Derived.Shelf.Small.Strs
set_option linter.unusedVariables false
set_option linter.unusedSimpArgs false
set_option maxRecDepth 1000000
namespace Go.Proofs
open Go.Shelf
def Tryz.Jb:Go.Shelf.Ren:=⟨fun|217=>71|266=>79|n=>n,fun|9=>9|5=>5|3=>3|n=>n,fun|n=>n⟩
theorem Tryz.lays217:Go.Proofs.Lays.n217 Tryz.prog Tryz.Jb:={
 mixed:=by kernel_rfl
 f217:=Tryz.func71.trans (congrArg some (by kernel_rfl))
 f266:=Tryz.func79.trans (congrArg some (by kernel_rfl))
 t3:=Tryz.underlying3
 a3:=Tryz.isAgg3
 z3:=Tryz.sizeOf3
 v3:=Tryz.zeroValue3
 t5:=Tryz.underlying5
 a5:=Tryz.isAgg5
 z5:=Tryz.sizeOf5
 v5:=Tryz.zeroValue5
 t9:=Tryz.underlying9
 a9:=Tryz.isAgg9
 z9:=Tryz.sizeOf9
 v9:=Tryz.zeroValue9}
open Go.RowKit Go.Lib in
theorem Tryz.stringslite_IndexByte (s:ByteArray) (c:Int) (w:World):
  Calls Tryz.prog 71 #[.string s, .int .u8 c] w fun e w'=>e= .returned (.int .i64 (Lib.indexByte s.data.toList c.toNat.toUInt8))∧w'=w:=Any.stringslite_IndexByte Tryz.lays217 s c w
end Go.Proofs
namespace Go.Eng.YtjobofnpmmjeoaaGreatDoor
open Go.Eng
noncomputable section
theorem KF {a b:Nat→List V→Heap→OR} {f:Nat} {l:List V} {h:Heap} {r:OR} (e:a f l h=r) (hr:r≠.bad):EF a b f l h=r:=by
 unfold EF;rw [e];cases r<;>first|rfl|exact absurd rfl hr
theorem Jc {a b:Nat→List V→Heap→OR} {f:Nat} {l:List V} {h:Heap} (e:a f l h= .bad):EF a b f l h=b f l h:=by
 unfold EF;rw [e]
theorem mixed:Go.Proofs.Tryz.prog.follows .mixedOrders=true:=by kernel_rfl
theorem chkAll:allT (Fe Go.Proofs.Tryz.prog) bf=true:=by kernel_rfl
theorem Mv:allT (Hg Go.Proofs.Tryz.prog) jA=true:=by kernel_rfl
theorem idxBody:kI Go.Proofs.Tryz.prog 71:=⟨Go.Proofs.Tryz.f71,Go.Proofs.Tryz.func71,by kernel_rfl,by kernel_rfl⟩
def SY:Nat→List V→Heap→OR:=xX 71
theorem Mw:ql Go.Proofs.Tryz.prog SY:=JM idxBody Go.Proofs.Tryz.stringslite_IndexByte
def ctx0:Ctx:=Ctx.of bf jA SY
theorem yesA:isTrue (lev ctx0 60 4 [] .none Heap.empty).1=true:=by kernel_rfl
theorem awakeOk:ql Go.Proofs.Tryz.prog (Aw 4):=KE ⟨Go.Proofs.Tryz.f4,Go.Proofs.Tryz.func4,by kernel_rfl,by kernel_rfl⟩ fun w=>SV (c:=ctx0) mixed chkAll (Lc mixed Mv Mw) yesA rfl w
def funsB:T Fun:=⟨⟨⟨⟨none,none,none,(some i3),none,(some i5),(some i6),(some i7)⟩,⟨(some i8),(some i9),(some i10),(some i11),(some i12),(some i13),(some i14),(some i15)⟩,⟨none,(some i17),(some i18),(some i19),(some i20),(some i21),(some i22),(some i23)⟩,⟨(some i24),none,(some i26),(some i27),(some i28),(some i29),(some i30),(some i31)⟩,⟨(some i32),(some i33),none,(some i35),(some i36),(some i37),(some i38),(some i39)⟩,⟨(some i40),(some i41),(some i42),(some i43),(some i44),(some i45),(some i46),(some i47)⟩,⟨(some i48),none,(some i50),(some i51),(some i52),(some i53),(some i54),(some i55)⟩,⟨(some i56),(some i57),(some i58),(some i59),(some i60),(some i61),(some i62),(some i63)⟩⟩,⟨⟨(some i64),(some i65),(some i66),(some i67),(some i68),(some i69),(some i70),none⟩,⟨(some i72),(some i73),(some i74),(some i75),(some i76),(some i77),(some i78),none⟩,⟨(some i80),none,(some i82),(some i83),(some i84),(some i85),(some i86),none⟩,⟨none,none,none,none,(some i92),(some i93),none,none⟩,⟨none,none,(some i98),(some i99),(some i100),(some i101),none,none⟩,⟨none,(some i105),(some i106),none,(some i108),none,none,none⟩,⟨none,none,none,none,none,none,none,none⟩,n1⟩,⟨n1,n1,⟨none,none,none,none,none,none,none,none⟩,n1,n1,n1,n1,n1⟩,n2,n2,n2,n2,n2⟩,none, .mt⟩
theorem chkB:allT (Fe Go.Proofs.Tryz.prog) funsB=true:=by kernel_rfl
def moreB:Nat→List V→Heap→OR:=EF SY (Aw 4)
theorem moreOk:ql Go.Proofs.Tryz.prog moreB:=SS Mw awakeOk
def FR:Ctx:=Ctx.of funsB jA moreB
theorem yesM (h:Heap):aV FR 4 [] h fun v h1=>v= .bool true∧h1=h:=
 ⟨_,_,Runs.more (c:=FR) (r:= .ok (.bool true) h) rfl rfl rfl ((Jc rfl).trans rfl),rfl,rfl⟩
theorem idxM {fs:List Fact} {h:Heap} {l:List UInt8} {b:UInt8} (st:St fs h):aV FR 71 [L.str l, .int .u8 (b.toNat:Int)] h fun v h1=>v= .int .i64 (Lib.indexByte l b)∧St fs h1:=by
 refine ⟨_,h,Runs.more (c:=FR) rfl rfl rfl (KF (JS l b h) (by intro e;cases e)),rfl,st⟩
end
end Go.Eng.YtjobofnpmmjeoaaGreatDoor
