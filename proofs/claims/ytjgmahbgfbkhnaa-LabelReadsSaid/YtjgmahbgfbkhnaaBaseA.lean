/- Part of a proof of a law: rules of an evaluator, contracts, plain laws. No condition of its own. -/
import Derived.Test.YtjgmahbgfbkhnaaCodeA
import Derived.Test.YtjgmahbgfbkhnaaEngD
import Derived.Test.YtjgmahbgfbkhnaaEngE
import Derived.Test.YtjgmahbgfbkhnaaEngF
import Derived.Test.YtjgmahbgfbkhnaaChecked
import Derived.Shelf.Strings.Search1
import Derived.Shelf.Small.Strs
import Derived.Shelf.Sort.Plain
import Derived.Shelf.Slices.In.SortNone
set_option linter.unusedVariables false
set_option linter.unusedSimpArgs false
set_option maxRecDepth 1000000
namespace Go.Proofs
open Go.Shelf
def Try.Dk:Go.Shelf.Ren:=⟨fun|217=>116|266=>117|n=>n,fun|9=>9|5=>5|3=>3|n=>n,fun|n=>n⟩
theorem Try.lays217:Go.Proofs.Lays.n217 Try.prog Try.Dk:={
 mixed:=by kernel_rfl
 f217:=Try.func116.trans (congrArg some (by kernel_rfl))
 f266:=Try.func117.trans (congrArg some (by kernel_rfl))
 t3:=Try.underlying3
 a3:=Try.isAgg3
 z3:=Try.sizeOf3
 v3:=Try.zeroValue3
 t5:=Try.underlying5
 a5:=Try.isAgg5
 z5:=Try.sizeOf5
 v5:=Try.zeroValue5
 t9:=Try.underlying9
 a9:=Try.isAgg9
 z9:=Try.sizeOf9
 v9:=Try.zeroValue9}
open Go.RowKit Go.Lib in
theorem Try.stringslite_IndexByte (s:ByteArray) (c:Int) (w:World):
  Calls Try.prog 116 #[.string s, .int .u8 c] w fun e w'=>e= .returned (.int .i64 (Lib.indexByte s.data.toList c.toNat.toUInt8))∧w'=w:=Any.stringslite_IndexByte Try.lays217 s c w
def Try.Dl:Go.Shelf.Ren:=⟨fun|190=>24|125=>45|258=>44|128=>77|129=>78|302=>68|303=>69|304=>70|305=>71|306=>72|307=>73|308=>74|309=>75|310=>76|333=>93|329=>94|330=>95|334=>96|335=>97|336=>98|344=>110|n=>n,fun|31=>25|9=>9|3=>3|46=>49|0=>0|51=>117|53=>70|4=>4|183=>111|182=>110|131=>81|5=>5|218=>130|222=>134|228=>143|229=>144|n=>n,fun|n=>n⟩
theorem Try.Gu:Go.Proofs.Lays.n190 Try.prog Try.Dl:={
 mixed:=by kernel_rfl
 f125:=Try.func45.trans (congrArg some (by kernel_rfl))
 f128:=Try.func77.trans (congrArg some (by kernel_rfl))
 f129:=Try.func78.trans (congrArg some (by kernel_rfl))
 f190:=Try.func24.trans (congrArg some (by kernel_rfl))
 f258:=Try.func44.trans (congrArg some (by kernel_rfl))
 f302:=Try.func68.trans (congrArg some (by kernel_rfl))
 f303:=Try.func69.trans (congrArg some (by kernel_rfl))
 f304:=Try.func70.trans (congrArg some (by kernel_rfl))
 f305:=Try.func71.trans (congrArg some (by kernel_rfl))
 f306:=Try.func72.trans (congrArg some (by kernel_rfl))
 f307:=Try.func73.trans (congrArg some (by kernel_rfl))
 f308:=Try.func74.trans (congrArg some (by kernel_rfl))
 f309:=Try.func75.trans (congrArg some (by kernel_rfl))
 f310:=Try.func76.trans (congrArg some (by kernel_rfl))
 f329:=Try.func94.trans (congrArg some (by kernel_rfl))
 f330:=Try.func95.trans (congrArg some (by kernel_rfl))
 f333:=Try.func93.trans (congrArg some (by kernel_rfl))
 f334:=Try.func96.trans (congrArg some (by kernel_rfl))
 f335:=Try.func97.trans (congrArg some (by kernel_rfl))
 f336:=Try.func98.trans (congrArg some (by kernel_rfl))
 f344:=Try.func110.trans (congrArg some (by kernel_rfl))
 t0:=Try.underlying0
 a0:=Try.isAgg0
 z0:=Try.sizeOf0
 v0:=Try.zeroValue0
 t3:=Try.underlying3
 a3:=Try.isAgg3
 z3:=Try.sizeOf3
 v3:=Try.zeroValue3
 t4:=Try.underlying4
 a4:=Try.isAgg4
 z4:=Try.sizeOf4
 v4:=Try.zeroValue4
 t5:=Try.underlying5
 a5:=Try.isAgg5
 z5:=Try.sizeOf5
 v5:=Try.zeroValue5
 t9:=Try.underlying9
 a9:=Try.isAgg9
 z9:=Try.sizeOf9
 v9:=Try.zeroValue9
 t31:=Try.underlying25
 a31:=Try.isAgg25
 z31:=Try.sizeOf25
 v31:=Try.zeroValue25
 t46:=Try.underlying49
 a46:=Try.isAgg49
 z46:=Try.sizeOf49
 v46:=Try.zeroValue49
 t51:=Try.underlying117
 a51:=Try.isAgg117
 z51:=Try.sizeOf117
 v51:=Try.zeroValue117
 t53:=Try.underlying70
 a53:=Try.isAgg70
 z53:=Try.sizeOf70
 v53:=Try.zeroValue70
 t131:=Try.underlying81
 a131:=Try.isAgg81
 z131:=Try.sizeOf81
 v131:=Try.zeroValue81
 t182:=Try.underlying110
 a182:=Try.isAgg110
 z182:=Try.sizeOf110
 v182:=Try.zeroValue110
 t183:=Try.underlying111
 a183:=Try.isAgg111
 z183:=Try.sizeOf111
 v183:=Try.zeroValue111
 t218:=Try.underlying130
 a218:=Try.isAgg130
 z218:=Try.sizeOf130
 v218:=Try.zeroValue130
 t222:=Try.underlying134
 a222:=Try.isAgg134
 z222:=Try.sizeOf134
 v222:=Try.zeroValue134
 t228:=Try.underlying143
 a228:=Try.isAgg143
 z228:=Try.sizeOf143
 v228:=Try.zeroValue143
 t229:=Try.underlying144
 a229:=Try.isAgg144
 z229:=Try.sizeOf144
 v229:=Try.zeroValue144}
open Go.Sort Go.RowKit in
theorem Try.slices_Sort_string (blk off cap:Nat) (ss:List (List UInt8)) (w:World) (hH:Holds encStr w blk off ss.toArray) (hblk:blk<w.heap.size) (hsz:ss.length<4611686018427387904):
  Calls Try.prog 24 #[.slice (some ⟨blk,off,none⟩) ss.length cap] w fun e w'=>
   e= .returned (.tuple #[])∧∃n os,w'=grow (putRow encStr (Sort.ahead w n) blk off (ss.mergeSort fun x y=>decide (x≤y)).toArray) os:=Any.slices_Sort_string Try.Gu blk off cap ss w hH hblk hsz
def Try.Dm:Go.Shelf.Ren:=⟨fun|194=>25|n=>n,fun|31=>25|9=>9|3=>3|4=>4|0=>0|n=>n,fun|n=>n⟩
theorem Try.lays194:Go.Proofs.Lays.n194 Try.prog Try.Dm:={
 mixed:=by kernel_rfl
 f194:=Try.func25.trans (congrArg some (by kernel_rfl))
 t0:=Try.underlying0
 a0:=Try.isAgg0
 z0:=Try.sizeOf0
 v0:=Try.zeroValue0
 t3:=Try.underlying3
 a3:=Try.isAgg3
 z3:=Try.sizeOf3
 v3:=Try.zeroValue3
 t4:=Try.underlying4
 a4:=Try.isAgg4
 z4:=Try.sizeOf4
 v4:=Try.zeroValue4
 t9:=Try.underlying9
 a9:=Try.isAgg9
 z9:=Try.sizeOf9
 v9:=Try.zeroValue9
 t31:=Try.underlying25
 a31:=Try.isAgg25
 z31:=Try.sizeOf25
 v31:=Try.zeroValue25}
open Go.RowKit Go.Sort in
theorem Try.slices_Sort_string_none (p:Option Addr) (cap:Nat) (w:World):
  Calls Try.prog 24 #[.slice p 0 cap] w fun e w'=>e= .returned (.tuple #[])∧w'=w:=Any.slices_Sort_string_none Try.Gu p cap w
end Go.Proofs
namespace Go.Eng.Ytjgmahbgfbkhnaa
open Go.Eng
noncomputable section
theorem mixed:Go.Proofs.Try.prog.follows .mixedOrders=true:=by kernel_rfl
theorem chkAll:allT (sO Go.Proofs.Try.prog) aR=true:=by kernel_rfl
theorem Gv:allT (uF Go.Proofs.Try.prog) dF=true:=by kernel_rfl
theorem idxBody:fF Go.Proofs.Try.prog 116:=⟨Go.Proofs.Try.f116,Go.Proofs.Try.func116,by kernel_rfl,by kernel_rfl⟩
theorem K4:fF Go.Proofs.Try.prog 24:=⟨Go.Proofs.Try.f24,Go.Proofs.Try.func24,by kernel_rfl,by kernel_rfl⟩
def K5:Nat→List V→Heap→OR:=xE (pV 116) (ja 24)
theorem Gw:gZ Go.Proofs.Try.prog K5:=Cj (Ec idxBody Go.Proofs.Try.stringslite_IndexByte) (Co K4 Go.Proofs.Try.slices_Sort_string Go.Proofs.Try.slices_Sort_string_none)
def ctx0:Ctx:=Ctx.of aR dF K5
theorem yes11:isTrue (lev ctx0 60 11 [] .none Heap.empty).1=true:=by kernel_rfl
theorem awakeOk:gZ Go.Proofs.Try.prog (vw 11):=Et ⟨Go.Proofs.Try.f11,Go.Proofs.Try.func11,by kernel_rfl,by kernel_rfl⟩ fun w=>Kl (c:=ctx0) mixed chkAll (vg mixed Gv Gw) yes11 rfl w
def funsB:T Fun:=⟨⟨⟨⟨none,none,none,(some i3),(some i4),none,none,none⟩,⟨none,none,(some i10),none,(some i12),(some i13),(some i14),(some i15)⟩,⟨(some i16),(some i17),(some i18),(some i19),(some i20),none,none,none⟩,⟨none,(some i25),(some i26),(some i27),(some i28),(some i29),(some i30),(some i31)⟩,⟨(some i32),(some i33),(some i34),(some i35),none,none,none,none⟩,⟨none,none,none,none,none,none,(some i46),(some i47)⟩,⟨(some i48),(some i49),(some i50),(some i51),(some i52),(some i53),(some i54),(some i55)⟩,⟨none,(some i57),(some i58),(some i59),(some i60),(some i61),(some i62),(some i63)⟩⟩,⟨⟨none,none,none,none,none,none,none,none⟩,⟨none,none,none,none,none,none,none,(some i79)⟩,⟨(some i80),none,(some i82),(some i83),(some i84),(some i85),(some i86),(some i87)⟩,⟨(some i88),(some i89),(some i90),none,none,none,none,none⟩,⟨none,none,none,(some i99),(some i100),(some i101),(some i102),(some i103)⟩,⟨(some i104),(some i105),(some i106),(some i107),(some i108),(some i109),none,(some i111)⟩,⟨(some i112),(some i113),(some i114),(some i115),none,none,none,none⟩,n1⟩,n2,n2,n2,n2,n2,n2⟩,none, .mt⟩
theorem chkB:allT (sO Go.Proofs.Try.prog) funsB=true:=by kernel_rfl
def moreB:Nat→List V→Heap→OR:=xE K5 (vw 11)
theorem moreOk:gZ Go.Proofs.Try.prog moreB:=Cj Gw awakeOk
def nW:Ctx:=Ctx.of funsB dF moreB
end
end Go.Eng.Ytjgmahbgfbkhnaa
