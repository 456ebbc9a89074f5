/- Part of a proof of a law: rules of an evaluator, contracts, plain laws. No condition of its own. -/
import Derived.Shelf.SlGeneric
import Derived.Shelf.SlSortCmp.WholeK
import Derived.Ground.SlsfProg
import Derived.Test.YtmcjcbldmoijiaaGreatDoorChecked
import Derived.Test.YtmcjcbldmoijiaaGreatDoorEngH
import Derived.Shelf.Small.Strs
import Derived.Shelf.SlSortCmp.NoneTotal
import Derived.WalkKit
import Derived.Test.YtmcjcbldmoijiaaGreatDoorEngE
import Derived.Lib.AppendZeros
import Derived.Shelf.Strings.Search1
import Derived.Shelf.Sort.Plain
import Derived.Shelf.Slices.In.SortNone
import Derived.Test.YtmcjcbldmoijiaaGreatDoorCodeA
import Derived.Test.YtmcjcbldmoijiaaGreatDoorEngD
import Derived.Test.YtmcjcbldmoijiaaGreatDoorEngC
import Derived.Test.YtmcjcbldmoijiaaGreatDoorSymA
set_option linter.unusedVariables false
set_option linter.unusedSimpArgs false
namespace Go.Proofs
open Go.Shelf
def Tryz.srt28_ren:Go.Shelf.Ren:=⟨fun|6=>28|15=>65|14=>64|28=>94|29=>95|20=>86|21=>87|22=>88|23=>89|24=>90|25=>91|26=>92|27=>93|46=>112|47=>113|48=>114|49=>115|50=>116|57=>143|n=>n,fun|22=>23|24=>75|25=>81|3=>3|39=>124|0=>0|53=>153|55=>155|4=>4|46=>147|45=>146|50=>131|5=>5|9=>9|66=>168|70=>172|76=>199|77=>200|n=>n,fun|n=>n⟩
theorem Tryz.srt28:Go.Proofs.SlLaysF0.n6 Tryz.prog Tryz.srt28_ren:={
 mixed:=by kernel_rfl
 f6:=⟨Tryz.f28.name,by decide,Tryz.func28.trans (congrArg some (by kernel_rfl))⟩
 f14:=⟨Tryz.f64.name,by decide,Tryz.func64.trans (congrArg some (by kernel_rfl))⟩
 f15:=Tryz.func65.trans (congrArg some (by kernel_rfl))
 f20:=⟨Tryz.f86.name,by decide,Tryz.func86.trans (congrArg some (by kernel_rfl))⟩
 f21:=⟨Tryz.f87.name,by decide,Tryz.func87.trans (congrArg some (by kernel_rfl))⟩
 f22:=⟨Tryz.f88.name,by decide,Tryz.func88.trans (congrArg some (by kernel_rfl))⟩
 f23:=⟨Tryz.f89.name,by decide,Tryz.func89.trans (congrArg some (by kernel_rfl))⟩
 f24:=⟨Tryz.f90.name,by decide,Tryz.func90.trans (congrArg some (by kernel_rfl))⟩
 f25:=⟨Tryz.f91.name,by decide,Tryz.func91.trans (congrArg some (by kernel_rfl))⟩
 f26:=⟨Tryz.f92.name,by decide,Tryz.func92.trans (congrArg some (by kernel_rfl))⟩
 f27:=⟨Tryz.f93.name,by decide,Tryz.func93.trans (congrArg some (by kernel_rfl))⟩
 f28:=Tryz.func94.trans (congrArg some (by kernel_rfl))
 f29:=Tryz.func95.trans (congrArg some (by kernel_rfl))
 f46:=⟨Tryz.f112.name,by decide,Tryz.func112.trans (congrArg some (by kernel_rfl))⟩
 f47:=Tryz.func113.trans (congrArg some (by kernel_rfl))
 f48:=Tryz.func114.trans (congrArg some (by kernel_rfl))
 f49:=⟨Tryz.f115.name,by decide,Tryz.func115.trans (congrArg some (by kernel_rfl))⟩
 f50:=⟨Tryz.f116.name,by decide,Tryz.func116.trans (congrArg some (by kernel_rfl))⟩
 f57:=⟨Tryz.f143.name,by decide,Tryz.func143.trans (congrArg some (by kernel_rfl))⟩
 t0:=Tryz.underlying0
 a0:=Tryz.isAgg0
 z0:=Tryz.sizeOf0
 v0:=Tryz.zeroValue0
 t3:=Tryz.underlying3
 a3:=Tryz.isAgg3
 z3:=Tryz.sizeOf3
 v3:=Tryz.zeroValue3
 t4:=Tryz.underlying4
 a4:=Tryz.isAgg4
 z4:=Tryz.sizeOf4
 v4:=Tryz.zeroValue4
 t5:=Tryz.underlying5
 a5:=Tryz.isAgg5
 z5:=Tryz.sizeOf5
 v5:=Tryz.zeroValue5
 t9:=Tryz.underlying9
 a9:=Tryz.isAgg9
 z9:=Tryz.sizeOf9
 v9:=Tryz.zeroValue9
 t22:=Tryz.underlying23
 a22:=Tryz.isAgg23
 z22:=Tryz.sizeOf23
 v22:=Tryz.zeroValue23
 t25:=Tryz.underlying81
 a25:=Tryz.isAgg81
 z25:=Tryz.sizeOf81
 v25:=Tryz.zeroValue81
 t39:=Tryz.underlying124
 a39:=Tryz.isAgg124
 z39:=Tryz.sizeOf124
 v39:=Tryz.zeroValue124
 t45:=Tryz.underlying146
 a45:=Tryz.isAgg146
 z45:=Tryz.sizeOf146
 v45:=Tryz.zeroValue146
 t46:=Tryz.underlying147
 a46:=Tryz.isAgg147
 z46:=Tryz.sizeOf147
 v46:=Tryz.zeroValue147
 t50:=Tryz.underlying131
 a50:=Tryz.isAgg131
 z50:=Tryz.sizeOf131
 v50:=Tryz.zeroValue131
 t53:=Tryz.underlying153
 a53:=Tryz.isAgg153
 z53:=Tryz.sizeOf153
 v53:=Tryz.zeroValue153
 t55:=Tryz.underlying155
 a55:=Tryz.isAgg155
 z55:=Tryz.sizeOf155
 v55:=Tryz.zeroValue155
 t66:=Tryz.underlying168
 a66:=Tryz.isAgg168
 z66:=Tryz.sizeOf168
 v66:=Tryz.zeroValue168
 t70:=Tryz.underlying172
 a70:=Tryz.isAgg172
 z70:=Tryz.sizeOf172
 v70:=Tryz.zeroValue172
 t76:=Tryz.underlying199
 a76:=Tryz.isAgg199
 z76:=Tryz.sizeOf199
 v76:=Tryz.zeroValue199
 t77:=Tryz.underlying200
 a77:=Tryz.isAgg200
 z77:=Tryz.sizeOf200
 v77:=Tryz.zeroValue200}
def Tryz.srt31_ren:Go.Shelf.Ren:=⟨fun|6=>31|15=>65|14=>67|28=>94|29=>95|20=>97|21=>98|22=>99|23=>100|24=>101|25=>102|26=>103|27=>104|46=>117|47=>113|48=>114|49=>118|50=>119|57=>144|n=>n,fun|22=>30|24=>77|25=>83|3=>3|39=>124|0=>0|53=>153|55=>155|4=>4|46=>147|45=>146|50=>131|5=>5|9=>9|66=>168|70=>172|76=>199|77=>200|n=>n,fun|n=>n⟩
theorem Tryz.srt31:Go.Proofs.SlLaysF0.n6 Tryz.prog Tryz.srt31_ren:={
 mixed:=by kernel_rfl
 f6:=⟨Tryz.f31.name,by decide,Tryz.func31.trans (congrArg some (by kernel_rfl))⟩
 f14:=⟨Tryz.f67.name,by decide,Tryz.func67.trans (congrArg some (by kernel_rfl))⟩
 f15:=Tryz.func65.trans (congrArg some (by kernel_rfl))
 f20:=⟨Tryz.f97.name,by decide,Tryz.func97.trans (congrArg some (by kernel_rfl))⟩
 f21:=⟨Tryz.f98.name,by decide,Tryz.func98.trans (congrArg some (by kernel_rfl))⟩
 f22:=⟨Tryz.f99.name,by decide,Tryz.func99.trans (congrArg some (by kernel_rfl))⟩
 f23:=⟨Tryz.f100.name,by decide,Tryz.func100.trans (congrArg some (by kernel_rfl))⟩
 f24:=⟨Tryz.f101.name,by decide,Tryz.func101.trans (congrArg some (by kernel_rfl))⟩
 f25:=⟨Tryz.f102.name,by decide,Tryz.func102.trans (congrArg some (by kernel_rfl))⟩
 f26:=⟨Tryz.f103.name,by decide,Tryz.func103.trans (congrArg some (by kernel_rfl))⟩
 f27:=⟨Tryz.f104.name,by decide,Tryz.func104.trans (congrArg some (by kernel_rfl))⟩
 f28:=Tryz.func94.trans (congrArg some (by kernel_rfl))
 f29:=Tryz.func95.trans (congrArg some (by kernel_rfl))
 f46:=⟨Tryz.f117.name,by decide,Tryz.func117.trans (congrArg some (by kernel_rfl))⟩
 f47:=Tryz.func113.trans (congrArg some (by kernel_rfl))
 f48:=Tryz.func114.trans (congrArg some (by kernel_rfl))
 f49:=⟨Tryz.f118.name,by decide,Tryz.func118.trans (congrArg some (by kernel_rfl))⟩
 f50:=⟨Tryz.f119.name,by decide,Tryz.func119.trans (congrArg some (by kernel_rfl))⟩
 f57:=⟨Tryz.f144.name,by decide,Tryz.func144.trans (congrArg some (by kernel_rfl))⟩
 t0:=Tryz.underlying0
 a0:=Tryz.isAgg0
 z0:=Tryz.sizeOf0
 v0:=Tryz.zeroValue0
 t3:=Tryz.underlying3
 a3:=Tryz.isAgg3
 z3:=Tryz.sizeOf3
 v3:=Tryz.zeroValue3
 t4:=Tryz.underlying4
 a4:=Tryz.isAgg4
 z4:=Tryz.sizeOf4
 v4:=Tryz.zeroValue4
 t5:=Tryz.underlying5
 a5:=Tryz.isAgg5
 z5:=Tryz.sizeOf5
 v5:=Tryz.zeroValue5
 t9:=Tryz.underlying9
 a9:=Tryz.isAgg9
 z9:=Tryz.sizeOf9
 v9:=Tryz.zeroValue9
 t22:=Tryz.underlying30
 a22:=Tryz.isAgg30
 z22:=Tryz.sizeOf30
 v22:=Tryz.zeroValue30
 t25:=Tryz.underlying83
 a25:=Tryz.isAgg83
 z25:=Tryz.sizeOf83
 v25:=Tryz.zeroValue83
 t39:=Tryz.underlying124
 a39:=Tryz.isAgg124
 z39:=Tryz.sizeOf124
 v39:=Tryz.zeroValue124
 t45:=Tryz.underlying146
 a45:=Tryz.isAgg146
 z45:=Tryz.sizeOf146
 v45:=Tryz.zeroValue146
 t46:=Tryz.underlying147
 a46:=Tryz.isAgg147
 z46:=Tryz.sizeOf147
 v46:=Tryz.zeroValue147
 t50:=Tryz.underlying131
 a50:=Tryz.isAgg131
 z50:=Tryz.sizeOf131
 v50:=Tryz.zeroValue131
 t53:=Tryz.underlying153
 a53:=Tryz.isAgg153
 z53:=Tryz.sizeOf153
 v53:=Tryz.zeroValue153
 t55:=Tryz.underlying155
 a55:=Tryz.isAgg155
 z55:=Tryz.sizeOf155
 v55:=Tryz.zeroValue155
 t66:=Tryz.underlying168
 a66:=Tryz.isAgg168
 z66:=Tryz.sizeOf168
 v66:=Tryz.zeroValue168
 t70:=Tryz.underlying172
 a70:=Tryz.isAgg172
 z70:=Tryz.sizeOf172
 v70:=Tryz.zeroValue172
 t76:=Tryz.underlying199
 a76:=Tryz.isAgg199
 z76:=Tryz.sizeOf199
 v76:=Tryz.zeroValue199
 t77:=Tryz.underlying200
 a77:=Tryz.isAgg200
 z77:=Tryz.sizeOf200
 v77:=Tryz.zeroValue200}
end Go.Proofs
set_option maxRecDepth 1000000
namespace Go.Eng
open Go.Sort Go.Proofs Go.RowKit Go.Lib Go.Shelf
theorem U1 (a b:List UInt8):Lib.compareBytes a b=xM a b:=by
 rw [L9,yV]
 unfold xM
 by_cases h:a=b
 · subst h;simp [List.lt_irrefl]
 · by_cases h1:a<b
   · simp [h,h1]
   · have h2:b<a:=by
      rcases List.le_total a b with g|g
      · exact absurd (List.le_antisymm g h1) h
      · exact Classical.byContradiction fun h2=>h (List.le_antisymm h2 h1)
     simp [h,h1,h2]
set_option maxHeartbeats 1000000 in
theorem ahx (l9:∀(a b:ByteArray) (w:World),Calls Tryz.prog 30 #[.string a, .string b] w fun e w'=>e= .returned (.int .i64 (Lib.compareBytes a.data.toList b.data.toList))∧w'=w) (s u:List UInt8) (a b c bp bT dT:Value) (W:World):Calls Tryz.prog 29 #[.agg #[encStr s,a,b,c], .agg #[encStr u,bp,bT,dT]] W fun e w'=>e= .returned (.int .i64 (xM s u))∧∃q os',w'=grow (W.drewN q) os':=by
 have zQ:=fun W'=>l9 ⟨s.toArray⟩ ⟨u.toArray⟩ W'
 simp only [U1] at zQ
 unfold encStr
 generalize xM s u=r at zQ ⊢
 go_enter Tryz.func29,Tryz.ntmps29
 go_wp2_with (go_at_call 30;refine (zQ _).mono ?_;rintro e w' ⟨rfl,rfl⟩)
 go_ret
 exact ⟨rfl,0,_,by rw [alloc_eq_grow,alloc_eq_grow,grow_grow];rfl⟩
theorem ahy (l9:∀(a b:ByteArray) (w:World),Calls Tryz.prog 30 #[.string a, .string b] w fun e w'=>e= .returned (.int .i64 (Lib.compareBytes a.data.toList b.data.toList))∧w'=w) [Inhabited (dt 4)] (cr off size:Nat) (w:World):CmpLays Tryz.prog 29 #[] (dt.enc (k:=4)) 4 dt.aY cr off size w:=by
 intro m os ahz _ x y
 obtain ⟨⟨s,l⟩,h,_⟩:=x
 obtain ⟨⟨u,aP⟩,aB,_⟩:=y
 have h:l.length=3:=by simpa using h
 have aB:aP.length=3:=by simpa using aB
 match l,h,aP,aB with
 |[a,b,c],_,[bp,bT,dT],_=>exact ahx l9 s u a b c bp bT dT _
theorem ahA (l9:∀(a b:ByteArray) (w:World),Calls Tryz.prog 30 #[.string a, .string b] w fun e w'=>e= .returned (.int .i64 (Lib.compareBytes a.data.toList b.data.toList))∧w'=w):
  ∀(cr off cap:Nat) (X:List (List UInt8×List Value)) (w:World),(∀r∈X,r.2.length+1=4∧∀v∈r.2,v.oneCell'=true)→(X.map (·.1)).Nodup→
   Sort.Holds id w cr off ((X.map fun r=>encStr r.1::r.2).flatten).toArray→cr<w.heap.size→X.length<4611686018427387904→
   Calls Tryz.prog 28 #[.slice (some ⟨cr,off,none⟩) X.length cap, .func (.func 29) #[] #[]] w fun e w'=>e= .returned (.tuple #[])∧∃n os,w'=grow (putRow id (Sort.ahead w n) cr off ((fT X).map fun r=>encStr r.1::r.2).flatten.toArray) os:=by
 obtain ⟨_⟩:=dt.UW (k:=4) (by decide)
 have Ot:∀args w,(callFunc 29 args).run Tryz.prog w= .ok (.enter 29 args) w:=enters_of Tryz.func29 (by kernel_rfl) rfl
 exact U0 (by decide) fun cr off cap d w hH hb au=>AnyQ.slices_SortFunc Tryz.srt28 4 Tryz.isAgg75 Tryz.sizeOf75 dt.enc dt.len dt.one dt.aY dt.swo 29 #[] cr off cap d w Ot (ahy l9 cr off d.size w) hH hb au
set_option maxHeartbeats 1000000 in
theorem ahB (l9:∀(a b:ByteArray) (w:World),Calls Tryz.prog 30 #[.string a, .string b] w fun e w'=>e= .returned (.int .i64 (Lib.compareBytes a.data.toList b.data.toList))∧w'=w) (s u:List UInt8) (a b c d x bp bT dT d' gR:Value) (W:World):Calls Tryz.prog 32 #[.agg #[encStr s,a,b,c,d,x], .agg #[encStr u,bp,bT,dT,d',gR]] W fun e w'=>e= .returned (.int .i64 (xM s u))∧∃q os',w'=grow (W.drewN q) os':=by
 have zQ:=fun W'=>l9 ⟨s.toArray⟩ ⟨u.toArray⟩ W'
 simp only [U1] at zQ
 unfold encStr
 generalize xM s u=r at zQ ⊢
 go_enter Tryz.func32,Tryz.ntmps32
 go_wp2_with (go_at_call 30;refine (zQ _).mono ?_;rintro e w' ⟨rfl,rfl⟩)
 go_ret
 exact ⟨rfl,0,_,by rw [alloc_eq_grow,alloc_eq_grow,grow_grow];rfl⟩
theorem ahC (l9:∀(a b:ByteArray) (w:World),Calls Tryz.prog 30 #[.string a, .string b] w fun e w'=>e= .returned (.int .i64 (Lib.compareBytes a.data.toList b.data.toList))∧w'=w) [Inhabited (dt 6)] (cr off size:Nat) (w:World):CmpLays Tryz.prog 32 #[] (dt.enc (k:=6)) 6 dt.aY cr off size w:=by
 intro m os ahz _ x y
 obtain ⟨⟨s,l⟩,h,_⟩:=x
 obtain ⟨⟨u,aP⟩,aB,_⟩:=y
 have h:l.length=5:=by simpa using h
 have aB:aP.length=5:=by simpa using aB
 match l,h,aP,aB with
 |[a,b,c,d,e],_,[bp,bT,dT,d',bN],_=>exact ahB l9 s u a b c d e bp bT dT d' bN _
theorem ahD (l9:∀(a b:ByteArray) (w:World),Calls Tryz.prog 30 #[.string a, .string b] w fun e w'=>e= .returned (.int .i64 (Lib.compareBytes a.data.toList b.data.toList))∧w'=w):
  ∀(cr off cap:Nat) (X:List (List UInt8×List Value)) (w:World),(∀r∈X,r.2.length+1=6∧∀v∈r.2,v.oneCell'=true)→(X.map (·.1)).Nodup→
   Sort.Holds id w cr off ((X.map fun r=>encStr r.1::r.2).flatten).toArray→cr<w.heap.size→X.length<4611686018427387904→
   Calls Tryz.prog 31 #[.slice (some ⟨cr,off,none⟩) X.length cap, .func (.func 32) #[] #[]] w fun e w'=>e= .returned (.tuple #[])∧∃n os,w'=grow (putRow id (Sort.ahead w n) cr off ((fT X).map fun r=>encStr r.1::r.2).flatten.toArray) os:=by
 obtain ⟨_⟩:=dt.UW (k:=6) (by decide)
 have Ot:∀args w,(callFunc 32 args).run Tryz.prog w= .ok (.enter 32 args) w:=enters_of Tryz.func32 (by kernel_rfl) rfl
 exact U0 (by decide) fun cr off cap d w hH hb au=>AnyQ.slices_SortFunc Tryz.srt31 6 Tryz.isAgg77 Tryz.sizeOf77 dt.enc dt.len dt.one dt.aY dt.swo 32 #[] cr off cap d w Ot (ahC l9 cr off d.size w) hH hb au
theorem ahE (p:Option Addr) (cap:Nat) (w:World):Calls Tryz.prog 28 #[.slice p 0 cap, .func (.func 29) #[] #[]] w fun e w'=>e= .returned (.tuple #[])∧w'=w:=
 AnyF.slices_SortFunc_none Tryz.srt28 p cap _ w
theorem ahF (l9:∀(a b:ByteArray) (w:World),Calls Tryz.prog 30 #[.string a, .string b] w fun e w'=>e= .returned (.int .i64 (Lib.compareBytes a.data.toList b.data.toList))∧w'=w):mq Tryz.prog (pD 28 29 4):=
 Sh ⟨Tryz.f28,Tryz.func28,by kernel_rfl,by kernel_rfl⟩ (ahA l9) ahE
theorem ahG (p:Option Addr) (cap:Nat) (w:World):Calls Tryz.prog 31 #[.slice p 0 cap, .func (.func 32) #[] #[]] w fun e w'=>e= .returned (.tuple #[])∧w'=w:=
 AnyF.slices_SortFunc_none Tryz.srt31 p cap _ w
theorem ahH (l9:∀(a b:ByteArray) (w:World),Calls Tryz.prog 30 #[.string a, .string b] w fun e w'=>e= .returned (.int .i64 (Lib.compareBytes a.data.toList b.data.toList))∧w'=w):mq Tryz.prog (pD 31 32 6):=
 Sh ⟨Tryz.f31,Tryz.func31,by kernel_rfl,by kernel_rfl⟩ (ahD l9) ahG
end Go.Eng
set_option maxRecDepth 1000000
namespace Go.Eng
open Go.Proofs Go.RowKit Go.Lib
theorem U2:(Tryz.prog.info? 9).map (fun i=>(i.zero,i.size,i.bytes))=some (some (.string ⟨#[]⟩),1,16):=by kernel_rfl
theorem U3 (n:Nat):Builtin.zeroCells (Value.string ⟨#[]⟩).cells n=(List.replicate n (Value.string ⟨#[]⟩)).toArray:=by
 have e:(Value.string ⟨#[]⟩).cells= #[Value.string ⟨#[]⟩]:=rfl
 rw [e]
 apply Array.ext
 · simp [Builtin.zeroCells]
 · intro i h1 h2
   simp [Builtin.zeroCells,Nat.mod_one]
set_option maxHeartbeats 1000000 in
theorem ahI (n:Nat) (w:World) (h0:0<n) (hn:n≤4294967296):Calls Tryz.prog 79 #[.slice none 0 0, .int .i64 n] w fun e w'=>∃cap el,n≤cap∧e= .returned (.slice (some ⟨w.heap.size,0,none⟩) 0 cap)∧w'=w.drew.alloc (.cells (List.replicate cap (Value.string ⟨#[]⟩)).toArray el (0,0)):=by
 cases aq:Tryz.prog.info? 9 with
 |none=>have:=U2;rw [aq] at this;cases this
 |some i=>
  have hz:=U2
  rw [aq] at hz
  simp only [Option.map_some,Option.some.injEq,Prod.mk.injEq] at hz
  obtain ⟨ahJ,tH,ahK⟩:=hz
  have Ou:=Lib.run_append_nil_zeros (P:=Tryz.prog) w 36 3 36 9 i (.string ⟨#[]⟩) .i64 .i64 Tryz.underlying36 Tryz.underlying3 aq ahJ n h0 (by omega) (by omega) (by rw [ahK];omega)
  generalize oC:grownCap w n 0 9=Cl at Ou
  have ahL:n≤Cl:=by rw [←oC];exact grownCap_ge w _ 0 9
  generalize qq:(Builtin.zeroCells (Value.string ⟨#[]⟩).cells n++Builtin.zeroCells (Value.string ⟨#[]⟩).cells (Cl - n))=Z at Ou
  have ahM:Z=(List.replicate Cl (Value.string ⟨#[]⟩)).toArray:=by
   rw [←qq,U3,U3,List.append_toArray,List.replicate_append_replicate,show n+(Cl - n)=Cl by omega]
  clear oC qq
  subst ahM
  go_enter Tryz.func79,Tryz.ntmps79
  go_wp2_with (at_builtin;refine Lib.wpList_append_run _ rfl _ _ _ _ rfl _ _ rfl rfl _ _ Ou ?_)
  go_ret
  exact ⟨Cl,9,ahL,rfl,rfl⟩
theorem ahN (w:World):Calls Tryz.prog 79 #[.slice none 0 0, .int .i64 0] w fun e w'=>e= .returned (.slice none 0 0)∧w'=w:=by
 go_enter Tryz.func79,Tryz.ntmps79
 go_wp2
 go_ret
 exact ⟨rfl,rfl⟩
theorem ahO:ph Tryz.prog 79:=⟨Tryz.f79,Tryz.func79,by kernel_rfl,by kernel_rfl⟩
theorem ahP:mq Tryz.prog (Bm 79):=abq ahO (fun n w h0 hn=>ahI n w h0 hn) ahN
end Go.Eng
namespace Go.Proofs
open Go.Shelf
def Tryz.lays213_ren:Go.Shelf.Ren:=⟨fun|213=>66|265=>96|n=>n,fun|9=>9|3=>3|n=>n,fun|n=>n⟩
theorem Tryz.lays213:Go.Proofs.Lays.n213 Tryz.prog Tryz.lays213_ren:={
 mixed:=by kernel_rfl
 f213:=Tryz.func66.trans (congrArg some (by kernel_rfl))
 f265:=Tryz.func96.trans (congrArg some (by kernel_rfl))
 t3:=Tryz.underlying3
 a3:=Tryz.isAgg3
 z3:=Tryz.sizeOf3
 v3:=Tryz.zeroValue3
 t9:=Tryz.underlying9
 a9:=Tryz.isAgg9
 z9:=Tryz.sizeOf9
 v9:=Tryz.zeroValue9}
open Go.RowKit in
theorem Tryz.bytealg_CompareString (a b:ByteArray) (w:World):
  Calls Tryz.prog 66 #[.string a, .string b] w fun e w'=>e= .returned (.int .i64 (Lib.compareBytes a.data.toList b.data.toList))∧w'=w:=Any.bytealg_CompareString Tryz.lays213 a b w
def Tryz.lays106_ren:Go.Shelf.Ren:=⟨fun|106=>30|213=>66|265=>96|n=>n,fun|9=>9|3=>3|n=>n,fun|n=>n⟩
theorem Tryz.lays106:Go.Proofs.Lays.n106 Tryz.prog Tryz.lays106_ren:={
 mixed:=by kernel_rfl
 f106:=Tryz.func30.trans (congrArg some (by kernel_rfl))
 f213:=Tryz.func66.trans (congrArg some (by kernel_rfl))
 f265:=Tryz.func96.trans (congrArg some (by kernel_rfl))
 t3:=Tryz.underlying3
 a3:=Tryz.isAgg3
 z3:=Tryz.sizeOf3
 v3:=Tryz.zeroValue3
 t9:=Tryz.underlying9
 a9:=Tryz.isAgg9
 z9:=Tryz.sizeOf9
 v9:=Tryz.zeroValue9}
open Go.RowKit in
theorem Tryz.strings_Compare (a b:ByteArray) (w:World):
  Calls Tryz.prog 30 #[.string a, .string b] w fun e w'=>e= .returned (.int .i64 (Lib.compareBytes a.data.toList b.data.toList))∧w'=w:=Any.strings_Compare Tryz.lays106 a b w
def Tryz.lays190_ren:Go.Shelf.Ren:=⟨fun|190=>77|125=>65|258=>109|128=>94|129=>95|302=>131|303=>132|304=>133|305=>134|306=>135|307=>136|308=>137|309=>138|310=>139|333=>153|329=>113|330=>114|334=>154|335=>155|336=>156|344=>163|n=>n,fun|31=>36|9=>9|3=>3|46=>124|0=>0|51=>153|53=>155|4=>4|183=>147|182=>146|131=>131|5=>5|218=>168|222=>172|228=>199|229=>200|n=>n,fun|n=>n⟩
theorem Tryz.lays190:Go.Proofs.Lays.n190 Tryz.prog Tryz.lays190_ren:={
 mixed:=by kernel_rfl
 f125:=Tryz.func65.trans (congrArg some (by kernel_rfl))
 f128:=Tryz.func94.trans (congrArg some (by kernel_rfl))
 f129:=Tryz.func95.trans (congrArg some (by kernel_rfl))
 f190:=Tryz.func77.trans (congrArg some (by kernel_rfl))
 f258:=Tryz.func109.trans (congrArg some (by kernel_rfl))
 f302:=Tryz.func131.trans (congrArg some (by kernel_rfl))
 f303:=Tryz.func132.trans (congrArg some (by kernel_rfl))
 f304:=Tryz.func133.trans (congrArg some (by kernel_rfl))
 f305:=Tryz.func134.trans (congrArg some (by kernel_rfl))
 f306:=Tryz.func135.trans (congrArg some (by kernel_rfl))
 f307:=Tryz.func136.trans (congrArg some (by kernel_rfl))
 f308:=Tryz.func137.trans (congrArg some (by kernel_rfl))
 f309:=Tryz.func138.trans (congrArg some (by kernel_rfl))
 f310:=Tryz.func139.trans (congrArg some (by kernel_rfl))
 f329:=Tryz.func113.trans (congrArg some (by kernel_rfl))
 f330:=Tryz.func114.trans (congrArg some (by kernel_rfl))
 f333:=Tryz.func153.trans (congrArg some (by kernel_rfl))
 f334:=Tryz.func154.trans (congrArg some (by kernel_rfl))
 f335:=Tryz.func155.trans (congrArg some (by kernel_rfl))
 f336:=Tryz.func156.trans (congrArg some (by kernel_rfl))
 f344:=Tryz.func163.trans (congrArg some (by kernel_rfl))
 t0:=Tryz.underlying0
 a0:=Tryz.isAgg0
 z0:=Tryz.sizeOf0
 v0:=Tryz.zeroValue0
 t3:=Tryz.underlying3
 a3:=Tryz.isAgg3
 z3:=Tryz.sizeOf3
 v3:=Tryz.zeroValue3
 t4:=Tryz.underlying4
 a4:=Tryz.isAgg4
 z4:=Tryz.sizeOf4
 v4:=Tryz.zeroValue4
 t5:=Tryz.underlying5
 a5:=Tryz.isAgg5
 z5:=Tryz.sizeOf5
 v5:=Tryz.zeroValue5
 t9:=Tryz.underlying9
 a9:=Tryz.isAgg9
 z9:=Tryz.sizeOf9
 v9:=Tryz.zeroValue9
 t31:=Tryz.underlying36
 a31:=Tryz.isAgg36
 z31:=Tryz.sizeOf36
 v31:=Tryz.zeroValue36
 t46:=Tryz.underlying124
 a46:=Tryz.isAgg124
 z46:=Tryz.sizeOf124
 v46:=Tryz.zeroValue124
 t51:=Tryz.underlying153
 a51:=Tryz.isAgg153
 z51:=Tryz.sizeOf153
 v51:=Tryz.zeroValue153
 t53:=Tryz.underlying155
 a53:=Tryz.isAgg155
 z53:=Tryz.sizeOf155
 v53:=Tryz.zeroValue155
 t131:=Tryz.underlying131
 a131:=Tryz.isAgg131
 z131:=Tryz.sizeOf131
 v131:=Tryz.zeroValue131
 t182:=Tryz.underlying146
 a182:=Tryz.isAgg146
 z182:=Tryz.sizeOf146
 v182:=Tryz.zeroValue146
 t183:=Tryz.underlying147
 a183:=Tryz.isAgg147
 z183:=Tryz.sizeOf147
 v183:=Tryz.zeroValue147
 t218:=Tryz.underlying168
 a218:=Tryz.isAgg168
 z218:=Tryz.sizeOf168
 v218:=Tryz.zeroValue168
 t222:=Tryz.underlying172
 a222:=Tryz.isAgg172
 z222:=Tryz.sizeOf172
 v222:=Tryz.zeroValue172
 t228:=Tryz.underlying199
 a228:=Tryz.isAgg199
 z228:=Tryz.sizeOf199
 v228:=Tryz.zeroValue199
 t229:=Tryz.underlying200
 a229:=Tryz.isAgg200
 z229:=Tryz.sizeOf200
 v229:=Tryz.zeroValue200}
open Go.Sort Go.RowKit in
theorem Tryz.slices_Sort_string (cr off cap:Nat) (ss:List (List UInt8)) (w:World) (hH:Holds encStr w cr off ss.toArray) (hblk:cr<w.heap.size) (ec:ss.length<4611686018427387904):
  Calls Tryz.prog 77 #[.slice (some ⟨cr,off,none⟩) ss.length cap] w fun e w'=>
   e= .returned (.tuple #[])∧∃n os,w'=grow (putRow encStr (Sort.ahead w n) cr off (ss.mergeSort fun x y=>decide (x≤y)).toArray) os:=Any.slices_Sort_string Tryz.lays190 cr off cap ss w hH hblk ec
open Go.RowKit Go.Sort in
theorem Tryz.slices_Sort_string_none (p:Option Addr) (cap:Nat) (w:World):
  Calls Tryz.prog 77 #[.slice p 0 cap] w fun e w'=>e= .returned (.tuple #[])∧w'=w:=Any.slices_Sort_string_none Tryz.lays190 p cap w
end Go.Proofs
set_option maxRecDepth 1000000
namespace Go.Eng.YtmcjcbldmoijiaaGreatDoor
open Go.Eng
noncomputable section
theorem xN {a b:Nat→List V→ag→bg} {f:Nat} {l:List V} {h:ag} {r:bg} (e:a f l h=r) (hr:r≠.bad):tZ a b f l h=r:=by
 unfold tZ;rw [e];cases r<;>first|rfl|exact absurd rfl hr
theorem xO {a b:Nat→List V→ag→bg} {f:Nat} {l:List V} {h:ag} (e:a f l h= .bad):tZ a b f l h=b f l h:=by
 unfold tZ;rw [e]
theorem mixed:Go.Proofs.Tryz.prog.follows .mixedOrders=true:=by kernel_rfl
theorem ahQ:sE (vl Go.Proofs.Tryz.prog) cF=true:=by kernel_rfl
theorem ahR:sE (Lw Go.Proofs.Tryz.prog) kS=true:=by kernel_rfl
theorem ahS:mq Go.Proofs.Tryz.prog (ua 77):=aas ⟨Go.Proofs.Tryz.f77,Go.Proofs.Tryz.func77,by kernel_rfl,by kernel_rfl⟩ (fun cr off cap ss w hH hb au=>Go.Proofs.Tryz.slices_Sort_string cr off cap ss w hH hb au) (fun p cap w=>Go.Proofs.Tryz.slices_Sort_string_none p cap w)
theorem ahT:mq Go.Proofs.Tryz.prog (HC 66):=aai ⟨Go.Proofs.Tryz.f66,Go.Proofs.Tryz.func66,by kernel_rfl,by kernel_rfl⟩ Go.Proofs.Tryz.bytealg_CompareString
def ahU:Nat→List V→ag→bg:=tZ (HC 66) (ua 77)
def ahV:Nat→List V→ag→bg:=tZ (tZ (pD 28 29 4) (pD 31 32 6)) (Bm 79)
def Ov:Nat→List V→ag→bg:=tZ ahU ahV
theorem U4:mq Go.Proofs.Tryz.prog Ov:=Eb (Eb ahT ahS) (Eb (Eb (ahF Go.Proofs.Tryz.strings_Compare) (ahH Go.Proofs.Tryz.strings_Compare)) ahP)
def U5:Ctx:=Ctx.of cF kS Ov
theorem ahW:isTrue (JR U5 60 8 [] .none ag.empty).1=true:=by kernel_rfl
theorem ahX:mq Go.Proofs.Tryz.prog (HD 8):=aak ⟨Go.Proofs.Tryz.f8,Go.Proofs.Tryz.func8,by kernel_rfl,by kernel_rfl⟩ fun w=>aaj (c:=U5) mixed ahQ (QF mixed ahR U4) ahW rfl w
def U6:T ct:=⟨⟨⟨⟨none,none,none,(some i3),none,none,none,(some i7)⟩,⟨none,(some i9),(some i10),(some i11),(some i12),(some i13),(some i14),(some i15)⟩,⟨(some i16),(some i17),none,(some i19),(some i20),(some i21),none,(some i23)⟩,⟨(some i24),(some i25),(some i26),(some i27),none,(some i29),(some i30),none⟩,⟨(some i32),(some i33),(some i34),(some i35),(some i36),(some i37),(some i38),(some i39)⟩,⟨(some i40),(some i41),(some i42),(some i43),(some i44),(some i45),(some i46),(some i47)⟩,⟨(some i48),(some i49),(some i50),(some i51),(some i52),(some i53),(some i54),(some i55)⟩,⟨(some i56),(some i57),(some i58),(some i59),(some i60),(some i61),(some i62),(some i63)⟩⟩,⟨⟨none,none,none,none,(some i68),(some i69),(some i70),(some i71)⟩,⟨(some i72),(some i73),(some i74),(some i75),(some i76),none,(some i78),none⟩,⟨(some i80),(some i81),(some i82),(some i83),(some i84),(some i85),none,none⟩,⟨none,none,none,none,none,none,none,(some i95)⟩,⟨none,none,none,none,none,none,none,none⟩,⟨none,(some i105),(some i106),none,(some i108),none,(some i110),(some i111)⟩,⟨none,none,none,none,none,none,none,none⟩,⟨(some i120),(some i121),none,none,none,none,none,(some i127)⟩⟩,⟨⟨(some i128),(some i129),(some i130),none,none,none,none,none⟩,⟨none,none,none,none,(some i140),(some i141),(some i142),none⟩,⟨none,(some i145),none,none,none,(some i149),(some i150),(some i151)⟩,⟨(some i152),none,none,none,none,(some i157),(some i158),none⟩,⟨none,(some i161),(some i162),none,(some i164),(some i165),none,none⟩,kX,kX,kX⟩,⟨⟨none,none,none,none,none,none,none,none⟩,kX,kX,kX,kX,kX,kX,kX⟩,eP,eP,eP,eP⟩,none, .mt⟩
theorem akT:sE (vl Go.Proofs.Tryz.prog) U6=true:=by kernel_rfl
def U7:Nat→List V→ag→bg:=tZ Ov (HD 8)
theorem akU:mq Go.Proofs.Tryz.prog U7:=Eb U4 ahX
def jQ:Ctx:=Ctx.of U6 kS U7
theorem ahY (h:ag):bU jQ 8 [] h fun v h1=>v= .bool true∧h1=h:=
 ⟨_,_,iL.more (c:=jQ) (r:= .ok (.bool true) h) rfl rfl rfl ((xO ((xO rfl).trans rfl)).trans rfl),rfl,rfl⟩
theorem ahZ:∀args h r,ua 77 77 args h=r→r≠.bad→iL jQ 77 args h r:=by
 intro args h r e hr
 exact iL.more (c:=jQ) rfl rfl rfl (xN (xN ((xO rfl).trans e) hr) hr)
theorem ah0:∀args h r,Bm 79 79 args h=r→r≠.bad→iL jQ 79 args h r:=by
 intro args h r e hr
 exact iL.more (c:=jQ) rfl rfl rfl (xN ((xO rfl).trans ((xO rfl).trans e)) hr)
theorem ah1:∀args h r,pD 28 29 4 28 args h=r→r≠.bad→iL jQ 28 args h r:=by
 intro args h r e hr
 exact iL.more (c:=jQ) rfl rfl rfl (xN ((xO rfl).trans (xN (xN e hr) hr)) hr)
theorem ah2:∀args h r,pD 31 32 6 31 args h=r→r≠.bad→iL jQ 31 args h r:=by
 intro args h r e hr
 exact iL.more (c:=jQ) rfl rfl rfl (xN ((xO rfl).trans (xN ((xO rfl).trans e) hr)) hr)
end
end Go.Eng.YtmcjcbldmoijiaaGreatDoor
