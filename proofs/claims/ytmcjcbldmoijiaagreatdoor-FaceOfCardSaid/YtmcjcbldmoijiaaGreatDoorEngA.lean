/- Part of a proof of a law: rules of an evaluator, contracts, plain laws. No condition of its own. -/
import Derived.Recover
import Derived.Laws.Sem
import Derived.Laws.Cells
import Derived.Laws.IdiomCopy
import Derived.Laws.Entries
import Derived.ChangeKeysEq
import Derived.Lib.Strings
import Derived.Laws.StructEq
import Derived.Laws.BytesString
import Derived.Laws.Slices
import Derived.Laws.Tables
import Derived.Great.FillDense
import Derived.Laws.MakeOwn
import Derived.Great.BuildSlice
set_option linter.unusedVariables false
set_option linter.unusedSimpArgs false
namespace Go.Eng
noncomputable section
structure aI (α:Type) where
 a:α
 b:α
 c:α
 d:α
 e:α
 f:α
 g:α
 h:α
inductive bx where
 |d0|d1|d2|d3|d4|d5|d6|d7
 deriving DecidableEq
def aI.g0 {α:Type} (r:aI α):α:=r.a
def aI.g1 {α:Type} (r:aI α):α:=r.b
def aI.g2 {α:Type} (r:aI α):α:=r.c
def aI.g3 {α:Type} (r:aI α):α:=r.d
def aI.g4 {α:Type} (r:aI α):α:=r.e
def aI.g5 {α:Type} (r:aI α):α:=r.f
def aI.g6 {α:Type} (r:aI α):α:=r.g
def aI.g7 {α:Type} (r:aI α):α:=r.h
def aI.get {α:Type} (i:bx):aI α→α:= @bx.rec (fun _=>aI α→α) aI.g0 aI.g1 aI.g2 aI.g3 aI.g4 aI.g5 aI.g6 aI.g7 i
def aI.kC {α:Type} (x:α) (r:aI α):aI α:=⟨x,r.b,r.c,r.d,r.e,r.f,r.g,r.h⟩
def aI.s1 {α:Type} (x:α) (r:aI α):aI α:=⟨r.a,x,r.c,r.d,r.e,r.f,r.g,r.h⟩
def aI.s2 {α:Type} (x:α) (r:aI α):aI α:=⟨r.a,r.b,x,r.d,r.e,r.f,r.g,r.h⟩
def aI.gb {α:Type} (x:α) (r:aI α):aI α:=⟨r.a,r.b,r.c,x,r.e,r.f,r.g,r.h⟩
def aI.jo {α:Type} (x:α) (r:aI α):aI α:=⟨r.a,r.b,r.c,r.d,x,r.f,r.g,r.h⟩
def aI.kD {α:Type} (x:α) (r:aI α):aI α:=⟨r.a,r.b,r.c,r.d,r.e,x,r.g,r.h⟩
def aI.tj {α:Type} (x:α) (r:aI α):aI α:=⟨r.a,r.b,r.c,r.d,r.e,r.f,x,r.h⟩
def aI.zR {α:Type} (x:α) (r:aI α):aI α:=⟨r.a,r.b,r.c,r.d,r.e,r.f,r.g,x⟩
def aI.set {α:Type} (i:bx):α→aI α→aI α:= @bx.rec (fun _=>α→aI α→aI α) aI.kC aI.s1 aI.s2 aI.gb aI.jo aI.kD aI.tj aI.zR i
def aI.m0 {α R:Type} (u:α→(α→R)→R) (r:aI α) (k:aI α→R):R:= @aI.rec α (fun _=>R) (fun a b c d e f g h=>u a (fun x=>k ⟨x,b,c,d,e,f,g,h⟩)) r
def aI.m1 {α R:Type} (u:α→(α→R)→R) (r:aI α) (k:aI α→R):R:= @aI.rec α (fun _=>R) (fun a b c d e f g h=>u b (fun x=>k ⟨a,x,c,d,e,f,g,h⟩)) r
def aI.m2 {α R:Type} (u:α→(α→R)→R) (r:aI α) (k:aI α→R):R:= @aI.rec α (fun _=>R) (fun a b c d e f g h=>u c (fun x=>k ⟨a,b,x,d,e,f,g,h⟩)) r
def aI.m3 {α R:Type} (u:α→(α→R)→R) (r:aI α) (k:aI α→R):R:= @aI.rec α (fun _=>R) (fun a b c d e f g h=>u d (fun x=>k ⟨a,b,c,x,e,f,g,h⟩)) r
def aI.m4 {α R:Type} (u:α→(α→R)→R) (r:aI α) (k:aI α→R):R:= @aI.rec α (fun _=>R) (fun a b c d e f g h=>u e (fun x=>k ⟨a,b,c,d,x,f,g,h⟩)) r
def aI.m5 {α R:Type} (u:α→(α→R)→R) (r:aI α) (k:aI α→R):R:= @aI.rec α (fun _=>R) (fun a b c d e f g h=>u f (fun x=>k ⟨a,b,c,d,e,x,g,h⟩)) r
def aI.m6 {α R:Type} (u:α→(α→R)→R) (r:aI α) (k:aI α→R):R:= @aI.rec α (fun _=>R) (fun a b c d e f g h=>u g (fun x=>k ⟨a,b,c,d,e,f,x,h⟩)) r
def aI.m7 {α R:Type} (u:α→(α→R)→R) (r:aI α) (k:aI α→R):R:= @aI.rec α (fun _=>R) (fun a b c d e f g h=>u h (fun x=>k ⟨a,b,c,d,e,f,g,x⟩)) r
def aI.pX {α R:Type} (i:bx):(α→(α→R)→R)→aI α→(aI α→R)→R:= @bx.rec (fun _=>(α→(α→R)→R)→aI α→(aI α→R)→R) aI.m0 aI.m1 aI.m2 aI.m3 aI.m4 aI.m5 aI.m6 aI.m7 i
def aI.all {α:Type} (x:α):aI α:=⟨x,x,x,x,x,x,x,x⟩
def bx.of (n:Nat):bx:=(Nat.rec bx.d0 (fun m1 _=>(Nat.rec bx.d1 (fun m2 _=>(Nat.rec bx.d2 (fun m3 _=>(Nat.rec bx.d3 (fun m4 _=>(Nat.rec bx.d4 (fun m5 _=>(Nat.rec bx.d5 (fun m6 _=>(Nat.rec bx.d6 (fun _ _=>bx.d7) m6)) m5)) m4)) m3)) m2)) m1)) n)
inductive B (α:Type) where
 |mt
 |dC (o:Option α) (a b c d e f g h:B α)
def B.get' {α:Type} (t:B α):Nat→Option α:= @B.rec α (fun _=>Nat→Option α) (fun _=>none)
 (fun o _ _ _ _ _ _ _ _ a b c d e f g h k=>Nat.rec o (fun m _=> @bx.rec (fun _=>Nat→Option α) a b c d e f g h (bx.of ((Nat.succ m).mod 8)) ((Nat.succ m).div 8)) k) t
def B.get {α:Type} (n:Nat) (t:B α):Option α:=B.get' t n
def B.Jw {α R:Type} (v:α) (t:B α):(B α→R)→R:= @B.rec α (fun _=>(B α→R)→R) (fun k=>k (.dC (some v) .mt .mt .mt .mt .mt .mt .mt .mt))
 (fun _ a b c d e f g h _ _ _ _ _ _ _ _ k=>k (.dC (some v) a b c d e f g h)) t
abbrev B.im (α R:Type):=B α→(B α→R)→R
def B.m0 {α R:Type} (u:B.im α R) (t:B α):(B α→R)→R:= @B.rec α (fun _=>(B α→R)→R) (fun k=>u .mt fun x=>k (.dC none x .mt .mt .mt .mt .mt .mt .mt)) (fun o a b c d e f g h _ _ _ _ _ _ _ _ k=>u a fun x=>k (.dC o x b c d e f g h)) t
def B.m1 {α R:Type} (u:B.im α R) (t:B α):(B α→R)→R:= @B.rec α (fun _=>(B α→R)→R) (fun k=>u .mt fun x=>k (.dC none .mt x .mt .mt .mt .mt .mt .mt)) (fun o a b c d e f g h _ _ _ _ _ _ _ _ k=>u b fun x=>k (.dC o a x c d e f g h)) t
def B.m2 {α R:Type} (u:B.im α R) (t:B α):(B α→R)→R:= @B.rec α (fun _=>(B α→R)→R) (fun k=>u .mt fun x=>k (.dC none .mt .mt x .mt .mt .mt .mt .mt)) (fun o a b c d e f g h _ _ _ _ _ _ _ _ k=>u c fun x=>k (.dC o a b x d e f g h)) t
def B.m3 {α R:Type} (u:B.im α R) (t:B α):(B α→R)→R:= @B.rec α (fun _=>(B α→R)→R) (fun k=>u .mt fun x=>k (.dC none .mt .mt .mt x .mt .mt .mt .mt)) (fun o a b c d e f g h _ _ _ _ _ _ _ _ k=>u d fun x=>k (.dC o a b c x e f g h)) t
def B.m4 {α R:Type} (u:B.im α R) (t:B α):(B α→R)→R:= @B.rec α (fun _=>(B α→R)→R) (fun k=>u .mt fun x=>k (.dC none .mt .mt .mt .mt x .mt .mt .mt)) (fun o a b c d e f g h _ _ _ _ _ _ _ _ k=>u e fun x=>k (.dC o a b c d x f g h)) t
def B.m5 {α R:Type} (u:B.im α R) (t:B α):(B α→R)→R:= @B.rec α (fun _=>(B α→R)→R) (fun k=>u .mt fun x=>k (.dC none .mt .mt .mt .mt .mt x .mt .mt)) (fun o a b c d e f g h _ _ _ _ _ _ _ _ k=>u f fun x=>k (.dC o a b c d e x g h)) t
def B.m6 {α R:Type} (u:B.im α R) (t:B α):(B α→R)→R:= @B.rec α (fun _=>(B α→R)→R) (fun k=>u .mt fun x=>k (.dC none .mt .mt .mt .mt .mt .mt x .mt)) (fun o a b c d e f g h _ _ _ _ _ _ _ _ k=>u g fun x=>k (.dC o a b c d e f x h)) t
def B.m7 {α R:Type} (u:B.im α R) (t:B α):(B α→R)→R:= @B.rec α (fun _=>(B α→R)→R) (fun k=>u .mt fun x=>k (.dC none .mt .mt .mt .mt .mt .mt .mt x)) (fun o a b c d e f g h _ _ _ _ _ _ _ _ k=>u h fun x=>k (.dC o a b c d e f g x)) t
def B.pX {α R:Type} (i:bx):B.im α R→B.im α R:= @bx.rec (fun _=>B.im α R→B.im α R) B.m0 B.m1 B.m2 B.m3 B.m4 B.m5 B.m6 B.m7 i
def B.Jx {α R:Type} (v:α) (n:Nat):Nat→B.im α R:= @Nat.rec (fun _=>Nat→B.im α R) (fun _=>B.Jw v)
 (fun _ bt k=> @Nat.rec (fun _=>B.im α R) (B.Jw v) (fun m _=>B.pX (bx.of ((Nat.succ m).mod 8)) (bt ((Nat.succ m).div 8))) k) n
def B.dF {α R:Type} (n:Nat) (v:α) (t:B α) (c:B α→R):R:=B.Jx v n n t c
def B.set {α:Type} (n:Nat) (v:α) (t:B α):B α:=B.dF n v t fun t=>t
def force {R:Type} (n:Nat) (f:Nat→R):R:=Nat.rec (f 0) (fun m _=>f (Nat.succ m)) n
structure T (α:Type) where
 x:aI (aI (aI (Option α)))
 y:Option (aI (aI (aI (aI (aI (Option α))))))
 z:B α
def T.e {α:Type}:T α:=⟨aI.all (aI.all (aI.all none)),none, .mt⟩
def T.xP {α:Type} (n:Nat) (t:aI (aI (aI (Option α)))):Option α:=aI.get (bx.of (n.mod 8)) (aI.get (bx.of ((n.div 8).mod 8)) (aI.get (bx.of (n.div 64)) t))
def T.uT {α:Type} (n:Nat) (t:aI (aI (aI (aI (aI (Option α)))))):Option α:=
 aI.get (bx.of (n.mod 8)) (aI.get (bx.of ((n.div 8).mod 8)) (aI.get (bx.of ((n.div 64).mod 8)) (aI.get (bx.of ((n.div 512).mod 8)) (aI.get (bx.of (n.div 4096)) t))))
def T.gY {α:Type}:aI (aI (aI (aI (aI (Option α))))):=aI.all (aI.all (aI.all (aI.all (aI.all none))))
def T.FI {α:Type} (n:Nat) (y:Option (aI (aI (aI (aI (aI (Option α))))))):Option α:=Option.rec none (fun y=>T.uT n y) y
def T.get {α:Type} (n:Nat) (t:T α):Option α:=force n fun n=> @T.rec α (fun _=>Option α) (fun x y z=>Bool.rec (Bool.rec (B.get n z) (T.FI n y) (n.blt 32768)) (T.xP n x) (n.blt 512)) t
def T.zS {α R:Type} (n:Nat) (v:α) (t:aI (aI (aI (Option α)))) (c:aI (aI (aI (Option α)))→R):R:=
 aI.pX (bx.of (n.div 64)) (aI.pX (bx.of ((n.div 8).mod 8)) (aI.pX (bx.of (n.mod 8)) (fun _ c=>c (some v)))) t c
def T.zT {α R:Type} (n:Nat) (v:α) (t:aI (aI (aI (aI (aI (Option α)))))) (c:aI (aI (aI (aI (aI (Option α)))))→R):R:=
 aI.pX (bx.of (n.div 4096)) (aI.pX (bx.of ((n.div 512).mod 8)) (aI.pX (bx.of ((n.div 64).mod 8)) (aI.pX (bx.of ((n.div 8).mod 8)) (aI.pX (bx.of (n.mod 8)) (fun _ c=>c (some v)))))) t c
def T.dF {α R:Type} (n:Nat) (v:α) (t:T α) (c:T α→R):R:=force n fun n=> @T.rec α (fun _=>R)
 (fun x y z=>Bool.rec (Bool.rec (B.dF n v z fun z=>c ⟨x,y,z⟩) (T.zT n v (Option.rec T.gY (fun y=>y) y) fun y=>c ⟨x,some y,z⟩) (n.blt 32768)) (T.zS n v x fun x=>c ⟨x,y,z⟩) (n.blt 512)) t
def T.set {α:Type} (n:Nat) (v:α) (t:T α):T α:=T.dF n v t fun t=>t
def hU {α R:Type} (l:List α):(List α→R)→R:= @List.rec α (fun _=>(List α→R)→R) (fun k=>k []) (fun v _ bt k=>bt fun l=>k (v::l)) l
inductive V where
 |bot
 |bool (b:Bool)
 |int (k:IntKind) (n:Int)
 |str (n x:Nat)
 |oj
 |ptr (b o:Nat)
 |U
 |av (b o len:Nat) (cap:Option Nat)
 |k9
 |map (b:Nat)
 |fn (f:Nat) (first captured:List V)
 |om
 |e8 (t:Nat) (v:V)
 |kj
 |agg (l:List V)
 |dD (l:List V)
 deriving Inhabited
def un:V:= .dD []
def V.asInt (v:V):Option (IntKind×Int):= @V.rec (fun _=>Option (IntKind×Int)) (fun _=>Unit)
 (none) (fun _=>none) (fun dk x1=>some (dk,x1)) (fun _ _=>none) (none) (fun _ _=>none) (none) (fun _ _ _ _=>none) (none) (fun _=>none) (fun _ _ _ _ _=>none) (none) (fun _ _ _=>none) (none) (fun _ _=>none) (fun _ _=>none)
 () (fun _ _ _ _=>()) v
def V.asBool (v:V):Option Bool:= @V.rec (fun _=>Option Bool) (fun _=>Unit)
 (none) (fun dk=>some dk) (fun _ _=>none) (fun _ _=>none) (none) (fun _ _=>none) (none) (fun _ _ _ _=>none) (none) (fun _=>none) (fun _ _ _ _ _=>none) (none) (fun _ _ _=>none) (none) (fun _ _=>none) (fun _ _=>none)
 () (fun _ _ _ _=>()) v
def V.r9 (v:V):Option (Nat×Nat):= @V.rec (fun _=>Option (Nat×Nat)) (fun _=>Unit)
 (none) (fun _=>none) (fun _ _=>none) (fun dk x1=>some (dk,x1)) (none) (fun _ _=>none) (none) (fun _ _ _ _=>none) (none) (fun _=>none) (fun _ _ _ _ _=>none) (none) (fun _ _ _=>none) (none) (fun _ _=>none) (fun _ _=>none)
 () (fun _ _ _ _=>()) v
def V.mM (v:V):Option (Nat×Nat):= @V.rec (fun _=>Option (Nat×Nat)) (fun _=>Unit)
 (none) (fun _=>none) (fun _ _=>none) (fun _ _=>none) (none) (fun dk x1=>some (dk,x1)) (none) (fun _ _ _ _=>none) (none) (fun _=>none) (fun _ _ _ _ _=>none) (none) (fun _ _ _=>none) (none) (fun _ _=>none) (fun _ _=>none)
 () (fun _ _ _ _=>()) v
def V.zU (v:V):Option (Nat×List V×List V):= @V.rec (fun _=>Option (Nat×List V×List V)) (fun _=>Unit)
 (none) (fun _=>none) (fun _ _=>none) (fun _ _=>none) (none) (fun _ _=>none) (none) (fun _ _ _ _=>none) (none) (fun _=>none) (fun dk x1 b2 _ _=>some (dk,x1,b2)) (none) (fun _ _ _=>none) (none) (fun _ _=>none) (fun _ _=>none)
 () (fun _ _ _ _=>()) v
def V.asNat (v:V):Option Nat:= @V.rec (fun _=>Option Nat) (fun _=>Unit)
 (none) (fun _=>none) (fun dk x1=>Int.rec (fun n=>some n) (fun _=>none) x1) (fun _ _=>none) (none) (fun _ _=>none) (none) (fun _ _ _ _=>none) (none) (fun _=>none) (fun _ _ _ _ _=>none) (none) (fun _ _ _=>none) (none) (fun _ _=>none) (fun _ _=>none)
 () (fun _ _ _ _=>()) v
def V.zV (v:V):Option Nat:= @V.rec (fun _=>Option Nat) (fun _=>Unit)
 (none) (fun _=>none) (fun dk x1=> @IntKind.rec (fun _=>Option Nat) none none none none (Int.rec (fun n=>some n) (fun _=>none) x1) none none none dk) (fun _ _=>none) (none) (fun _ _=>none) (none) (fun _ _ _ _=>none) (none) (fun _=>none) (fun _ _ _ _ _=>none) (none) (fun _ _ _=>none) (none) (fun _ _=>none) (fun _ _=>none)
 () (fun _ _ _ _=>()) v
def V.dy (v:V):Bool→Option Bool:= @V.rec (fun _=>Bool→Option Bool) (fun _=>Unit)
 (fun _=>none) (fun dk=>fun b=>some (b==dk)) (fun _ _=>fun _=>none) (fun _ _=>fun _=>none) (fun _=>none) (fun _ _=>fun _=>none) (fun _=>none) (fun _ _ _ _=>fun _=>none) (fun _=>none) (fun _=>fun _=>none) (fun _ _ _ _ _=>fun _=>none) (fun _=>none) (fun _ _ _=>fun _=>none) (fun _=>none) (fun _ _=>fun _=>none) (fun dk _=>fun _=>some false)
 () (fun _ _ _ _=>()) v
def V.dY (v:V):Option (List V):= @V.rec (fun _=>Option (List V)) (fun _=>Unit)
 (none) (fun dk=>some [.bool dk]) (fun dk x1=>some [.int dk x1]) (fun dk x1=>some [.str dk x1]) (some [.oj]) (fun dk x1=>some [.ptr dk x1]) (some [.U]) (fun dk x1 b2 b9=>some [.av dk x1 b2 b9]) (some [.k9]) (fun dk=>some [.map dk]) (fun dk x1 b2 _ _=>some [.fn dk x1 b2]) (some [.om]) (fun dk x1 _=>some [.e8 dk x1]) (some [.kj]) (fun dk _=>some dk) (fun dk _=>none)
 () (fun _ _ _ _=>()) v
def V.U8 (v:V):Option V:= @V.rec (fun _=>Option V) (fun _=>Unit)
 (none) (fun _=>none) (fun _ _=>none) (fun _ _=>none) (none) (fun dk x1=>some (.ptr dk x1)) (none) (fun _ _ _ _=>none) (none) (fun _=>none) (fun dk x1 b2 _ _=>some (.fn dk x1 b2)) (none) (fun dk x1 _=>some (.e8 dk x1)) (none) (fun _ _=>none) (fun _ _=>none)
 () (fun _ _ _ _=>()) v
def V.force {R:Type} (v:V):(V→R)→R:= @V.rec (fun _=>(V→R)→R) (fun _=>Unit)
 (fun k=>k (.bot)) (fun dk k=>k (.bool dk)) (fun dk x1 k=>k (.int dk x1)) (fun dk x1 k=>k (.str dk x1)) (fun k=>k (.oj)) (fun dk x1 k=>k (.ptr dk x1)) (fun k=>k (.U)) (fun dk x1 b2 b9 k=>k (.av dk x1 b2 b9)) (fun k=>k (.k9)) (fun dk k=>k (.map dk)) (fun dk x1 b2 _ _ k=>k (.fn dk x1 b2)) (fun k=>k (.om)) (fun dk x1 _ k=>k (.e8 dk x1)) (fun k=>k (.kj)) (fun dk _ k=>k (.agg dk)) (fun dk _ k=>k (.dD dk))
 () (fun _ _ _ _=>()) v
structure qW where
 key:V
 val:V
 born:Nat
inductive Obj where
 |box (row:List V)
 |cells (r c7 kE size:Nat) (rows:T (List V))
 |dead
 |map (es:List qW) (clock:Nat)
structure iw where
 last:Nat
 mem:List Nat
inductive Jy where
 |none
 |some (v:V)
 |recovered
structure ag where
 t:T Obj
 next:Nat
 bJ:T iw
 ds:List (V×List V)
 bI:Jy
def ag.empty:ag:=⟨T.e,8,T.e,[], .none⟩
inductive A where
 |l (d:Nat)
 |t (i j:bx)
 |c (v:V)
structure Row where
 a:V
 b:V
 c:V
 d:V
 e:V
 f:V
 g:V
 h:V
structure Env where
 a:Row
 b:Row
 c:Row
 d:Row
 e:Row
 f:Row
 g:Row
 h:Row
def Row.g0 (r:Row):V:=r.a
def Row.g1 (r:Row):V:=r.b
def Row.g2 (r:Row):V:=r.c
def Row.g3 (r:Row):V:=r.d
def Row.g4 (r:Row):V:=r.e
def Row.g5 (r:Row):V:=r.f
def Row.g6 (r:Row):V:=r.g
def Row.g7 (r:Row):V:=r.h
def Env.g0 (r:Env):Row:=r.a
def Env.g1 (r:Env):Row:=r.b
def Env.g2 (r:Env):Row:=r.c
def Env.g3 (r:Env):Row:=r.d
def Env.g4 (r:Env):Row:=r.e
def Env.g5 (r:Env):Row:=r.f
def Env.g6 (r:Env):Row:=r.g
def Env.g7 (r:Env):Row:=r.h
def Row.get (i:bx):Row→V:= @bx.rec (fun _=>Row→V) Row.g0 Row.g1 Row.g2 Row.g3 Row.g4 Row.g5 Row.g6 Row.g7 i
def Env.row (i:bx):Env→Row:= @bx.rec (fun _=>Env→Row) Env.g0 Env.g1 Env.g2 Env.g3 Env.g4 Env.g5 Env.g6 Env.g7 i
def Env.get (i j:bx) (env:Env):V:=Row.get j (Env.row i env)
def Row.nil:Row:=⟨.bot, .bot, .bot, .bot, .bot, .bot, .bot, .bot⟩
def Env.nil:Env:=⟨Row.nil,Row.nil,Row.nil,Row.nil,Row.nil,Row.nil,Row.nil,Row.nil⟩
def mN (l:List V):Nat→V:= @List.rec V (fun _=>Nat→V) (fun _=>V.bot) (fun v _ bt d=>Nat.rec v (fun d _=>bt d) d) l
def A.ev (a:A):List V→Env→V:= @A.rec (fun _=>List V→Env→V) (fun d vs _=>mN vs d) (fun i j _ env=>Env.get i j env) (fun v _ _=>v) a
inductive c4 where
 |int|str|bool|ptr|av|map|fn|e8
 |st (fs:List (Nat×c4))
inductive h7 where
 |dm (x:A)
 |pick (c a b:A)
 |alloc (cs:List V)
 |box (n:Nat) (x:A)
 |build (zero:List V) (parts:List (Nat×Nat×A))
 |fA (r n:Nat) (zero:List V) (parts:List (Nat×Nat×A))
 |load (x:A)
 |dd (n:Nat) (x:A)
 |pY (x:A)
 |bin (op:BinOp) (x y:A)
 |fu (op:BinOp) (x y:A)
 |mb (left:Bool) (x y:A)
 |eq (neg:Bool) (q:c4) (x y:A)
 |neg (x:A)
 |not (x:A)
 |conv (k:IntKind) (x:A)
 |v8 (x:A)
 |sa (x:A)
 |e8 (t:Nat) (x:A)
 |fn (f:Nat) (first captured:List A)
 |xQ
 |o1 (r:Nat) (zero:List V) (bytes:Nat) (l c:A)
 |o2 (x:A) (bH aq:Option A)
 |kF (r:Nat) (x:A) (bH aq mx:Option A)
 |wc (n r:Nat) (x:A) (bH aq mx:Option A)
 |b3 (off:Nat) (x:A)
 |field (off n:Nat) (tk:Bool) (x:A)
 |bQ (r:Nat) (x i:A)
 |tl (len r:Nat) (x i:A)
 |lM (x i:A)
 |lookup (q:c4) (zero:V) (ok:Bool) (m k:A)
 |Cm (t:Nat) (zero:V) (ok:Bool) (x:A)
 |ext (n:Nat) (x:A)
 |len (str:Bool) (x:A)
 |xR (x:A)
 |cap (x:A)
 |Cn (mx:Bool) (x y:A)
inductive oo where
 |store (n:Nat) (a x:A)
 |zW (q:c4) (m k v:A)
 |call (f:Nat) (as_:List A)
 |sb (f:A) (as_:List A)
 |append (r bytes:Nat) (s x:A)
 |copy (r:Nat) (d s:A)
 |clear (zero:List V) (x:A)
 |recover
 |defer (f:A) (as_:List A)
 |panic (x:A)
inductive Op where
 |L (op:h7)
 |H (op:oo)
inductive dp where
 |p (op:Op)
 |s (i j:bx) (op:Op)
 |g (g:A) (b:Bool) (op:Op)
 |gs (g:A) (b:Bool) (i j:bx) (op:Op)
structure eA where
 o:dp
 cK:List Nat
inductive C where
 |skip
 |ret
 |exit (id:Nat)
 |seq (a b:C)
 |cond (x:A) (a b:C)
 |block (id:Nat) (a:C)
 |loop (a:C)
 |aG (iH:Nat) (ops:List dp)
 |draw (perm:List Nat) (ops:List eA)
 |stuck
inductive aD where
 |tmp (i j:bx)
 |cell (i j:bx) (n:Option Nat)
structure ct where
 jq:Nat
 c8:List Nat
 results:List aD
 body:C
def Co (x i:Nat):Nat:=(x.shiftRight (Nat.mul 8 i)).mod 256
def FJ (x l n:Nat):Nat:=(x.shiftRight (Nat.mul 8 l)).mod (Nat.pow 2 (Nat.mul 8 n))
def Ow (n x y:Nat):Nat:=Nat.add x (y.shiftLeft (Nat.mul 8 n))
def gZ (n:Nat):Nat→List Nat:=Nat.rec (fun _=>[]) (fun _ bt x=>x.mod 256::bt (x.div 256)) n
def qX (a:List Nat):List Nat→Bool:= @List.rec Nat (fun _=>List Nat→Bool) (fun l=>List.rec false (fun _ _ _=>true) l)
 (fun a _ bt l=>List.rec false (fun b l _=>Bool.rec (Bool.rec false (bt l) (a.beq b)) true (a.blt b)) l) a
def nC (n:Nat):List V→List V:=Nat.rec (fun _=>[]) (fun _ bt l=>List.rec [] (fun v l _=>v::bt l) l) n
def ix (n:Nat):List V→List V:=Nat.rec (fun l=>l) (fun _ bt l=>List.rec [] (fun _ l _=>bt l) l) n
def gd (a b:List V):List V:=List.rec b (fun v _ bt=>v::bt) a
def cZ (l:List V):Nat:=List.rec 0 (fun _ _ n=>Nat.succ n) l
def hX (n:Nat):List V→List V→List V:=Nat.rec (fun vs l=>gd vs (ix (cZ vs) l)) (fun _ bt vs l=>List.rec [] (fun v l _=>v::bt vs l) l) n
def gQ {R:Type} (r:Nat) (k:Nat):Nat→List V→T (List V)→(T (List V)→R)→R:=
 @Nat.rec (fun _=>Nat→List V→T (List V)→(T (List V)→R)→R) (fun _ _ t c=>c t)
   (fun _ bt i vs t c=>hU (nC r vs) fun row=>T.dF i row t fun t=>bt (Nat.succ i) (ix r vs) t c) k
def lN (t:T (List V)) (k:Nat):Nat→Option (List V):=
 Nat.rec (fun _=>some []) (fun _ bt i=>Option.rec none (fun row=>Option.rec none (fun l=>some (gd row l)) (bt (Nat.succ i))) (T.get i t)) k
def ag.kG {R:Type} (h:ag) (b:Nat) (o:Obj) (k:ag→R):R:=T.dF b o h.t fun t=>k ⟨t,h.next,h.bJ,h.ds,h.bI⟩
def ag.la {R:Type} (h:ag) (o:Obj) (k:ag→R):R:=force h.next fun n=>T.dF n o h.t fun t=>k ⟨t,Nat.succ n,h.bJ,h.ds,h.bI⟩
def ag.obj (h:ag) (b:Nat):Option Obj:=T.get b h.t
def Obj.cells? {R:Type} (d:R) (f:Nat→Nat→Nat→Nat→T (List V)→R) (o:Option Obj):R:=
 Option.rec d (fun o=>Obj.rec (fun _=>d) f d (fun _ _=>d) o) o
def Obj.any {R:Type} (d:R) (g:List V→R) (f:Nat→Nat→Nat→Nat→T (List V)→R) (o:Option Obj):R:=
 Option.rec d (fun o=>Obj.rec g f d (fun _ _=>d) o) o
def Obj.map? {R:Type} (d:R) (f:List qW→Nat→R) (o:Option Obj):R:=
 Option.rec d (fun o=>Obj.rec (fun _=>d) (fun _ _ _ _ _=>d) d f o) o
def tm {R:Type} (bH aq:Nat) (m:Nat) (h:ag) (k:ag→R):R:=
 Obj.cells? (k h) (fun _ _ ap n _=>Bool.rec (k h) (h.kG m .dead k) (ap.blt aq&&bH.blt (Nat.add ap n))) (h.obj m)
def tn {R:Type} (bH aq:Nat) (but:Nat) (l:List Nat):ag→(ag→R)→R:=
 @List.rec Nat (fun _=>ag→(ag→R)→R) (fun h k=>k h) (fun m _ bt h k=>Bool.rec (tm bH aq m h fun h=>bt h k) (bt h k) (m.beq but)) l
def ag.uU {R:Type} (h:ag) (f:Nat) (bH aq:Nat) (but:Nat) (k:ag→R):R:=
 Option.rec (k h) (fun x=>tn bH aq but (iw.mem x) h k) (T.get f h.bJ)
def over {R:Type} (d:R) (r o n:Nat) (vs:List V) (rows:T (List V)) (k:T (List V)→R):R:=
 bif n.beq r&&(o.mod r).beq 0 then hU vs fun row=>T.dF (o.div r) row rows k else
 bif (Nat.add (o.mod r) n).ble r then
  Option.rec d (fun row=>hU (hX (o.mod r) vs row) fun row=>T.dF (o.div r) row rows k) (T.get (o.div r) rows)
 else bif (o.mod r).beq 0&&(n.mod r).beq 0 then gQ r (n.div r) (o.div r) vs rows k else d
def ag.ef {R:Type} (h:ag) (b o n:Nat) (vs:List V) (d:R) (k:ag→R):R:=
 bif n.beq 0 then k h else bif b.blt 8 then d else Obj.any d (fun row=>bif (Nat.add o n).ble (cZ row) then hU (hX o vs row) fun row=>h.kG b (.box row) k else d) (fun r f ap bo rows=>
  bif (Nat.add o n).ble bo then over d r o n vs rows fun rows=>h.uU f (Nat.add ap o) (Nat.add (Nat.add ap o) n) b fun h=>h.kG b (.cells r f ap bo rows) k
  else d) (h.obj b)
def cut (r o n:Nat) (rows:T (List V)):Option (List V):=
 bif n.beq r&&(o.mod r).beq 0 then T.get (o.div r) rows else
 bif (Nat.add (o.mod r) n).ble r then Option.rec none (fun row=>some (nC n (ix (o.mod r) row))) (T.get (o.div r) rows)
 else bif (o.mod r).beq 0&&(n.mod r).beq 0 then lN rows (n.div r) (o.div r) else none
def ag.load (h:ag) (b o n:Nat):Option (List V):=
 bif n.beq 0 then some [] else Obj.any none (fun row=>bif (Nat.add o n).ble (cZ row) then some (nC n (ix o row)) else none) (fun r _ _ bo rows=>bif (Nat.add o n).ble bo then cut r o n rows else none) (h.obj b)
def aX (l:List V):Option V:=List.rec none (fun v _ _=>some v) l
def kH (r o:Nat) (rows:T (List V)):Option V:=Option.rec none (fun row=>aX (ix (o.mod r) row)) (T.get (o.div r) rows)
def we (o:Nat):Option Obj→Option V:=fun x=>Option.rec none (fun x=> @Obj.rec (fun _=>Nat→Option V) (fun row o=>aX (ix o row)) (fun r _ _ bo rows o=>Bool.rec none (kH r o rows) (o.blt bo)) (fun _=>none) (fun _ _ _=>none) x o) x
def ag.eZ (h:ag) (b o:Nat):Option V:=we o (h.obj b)
def iX (k:IntKind) (n:Nat):V:=Nat.rec (.int k (.ofNat 0)) (fun m _=> .int k (.ofNat (Nat.succ m))) n
def FK (k:IntKind) (n:Nat):V:=Nat.rec (.int k (.negSucc 0)) (fun m _=> .int k (.negSucc (Nat.succ m))) n
def Cp (k:IntKind) (n:Int):V:=Int.rec (fun m=>iX k m) (fun m=>FK k m) n
def qY (k:IntKind) (n:Int):V:=Cp k (k.wrap n)
def Cq (k:IntKind) (lim:Nat) (n:Int):V:=Int.rec (fun m=>Bool.rec (qY k (.ofNat m)) (iX k m) (m.blt lim)) (fun m=>qY k (.negSucc m)) n
def Cr (k:IntKind) (lim:Nat) (n:Int):V:=Int.rec (fun m=>Bool.rec (qY k (.ofNat m)) (iX k m) (m.blt lim)) (fun m=>Bool.rec (qY k (.negSucc m)) (FK k m) (m.blt lim)) n
def kI (k:IntKind):Int→V:= @IntKind.rec (fun _=>Int→V) (Cr .i8 128) (Cr .i16 32768) (Cr .i32 2147483648) (Cr .i64 9223372036854775808)
 (Cq .u8 256) (Cq .u16 65536) (Cq .u32 4294967296) (Cq .u64 18446744073709551616) k
def o3 (a:Int):Int→Bool:= @Int.rec (fun _=>Int→Bool) (fun a b=>Int.rec (fun b=>a.beq b) (fun _=>false) b) (fun a b=>Int.rec (fun _=>false) (fun b=>a.beq b) b) a
def mO (a:Int):Int→Bool:= @Int.rec (fun _=>Int→Bool) (fun a b=>Int.rec (fun b=>a.blt b) (fun _=>false) b) (fun a b=>Int.rec (fun _=>true) (fun b=>b.blt a) b) a
def FL (a:Int):Int→Int:= @Int.rec (fun _=>Int→Int) (fun a b=>Int.rec (fun b=> .ofNat (Nat.add a b)) (fun b=>Int.add (.ofNat a) (.negSucc b)) b) (fun a b=>Int.add (.negSucc a) b) a
def Cs (a:Int):Int→Int:= @Int.rec (fun _=>Int→Int) (fun a b=>Int.rec (fun b=>Bool.rec (Int.sub (.ofNat a) (.ofNat b)) (.ofNat (Nat.sub a b)) (b.ble a)) (fun b=>Int.sub (.ofNat a) (.negSucc b)) b) (fun a b=>Int.sub (.negSucc a) b) a
def zX (a:Int):Int→Int:= @Int.rec (fun _=>Int→Int) (fun a b=>Int.rec (fun b=> .ofNat (Nat.mul a b)) (fun b=>Int.mul (.ofNat a) (.negSucc b)) b) (fun a b=>Int.mul (.negSucc a) b) a
def oq (b:Bool):Bool:=Bool.rec true false b
def ot (k:IntKind):IntKind→Bool:= @IntKind.rec (fun _=>IntKind→Bool)
 (fun j=>IntKind.rec true false false false false false false false j) (fun j=>IntKind.rec false true false false false false false false j)
 (fun j=>IntKind.rec false false true false false false false false j) (fun j=>IntKind.rec false false false true false false false false j)
 (fun j=>IntKind.rec false false false false true false false false j) (fun j=>IntKind.rec false false false false false true false false j)
 (fun j=>IntKind.rec false false false false false false true false j) (fun j=>IntKind.rec false false false false false false false true j) k
def lO (k:IntKind):Nat:=IntKind.rec 128 32768 2147483648 9223372036854775808 256 65536 4294967296 18446744073709551616 k
abbrev mP:=IntKind→Int→Int→Option V
def U9:mP:=fun k a b=>some (kI k (FL a b))
def Va:mP:=fun k a b=>some (kI k (Cs a b))
def Vb:mP:=fun k a b=>some (kI k (zX a b))
def Vc:mP:=fun k a b=>Bool.rec (some (kI k (a.tdiv b))) none (o3 b 0)
def Vd:mP:=fun k a b=>Bool.rec (some (Cp k (a.tmod b))) none (o3 b 0)
def Ct (f:Nat→Nat→Nat):mP:=fun k a b=>Int.rec (fun m=>Int.rec (fun n=>bif m.blt (lO k)&&n.blt (lO k) then some (iX k (f m n)) else none) (fun _=>none) b) (fun _=>none) a
def Jz:mP:=fun k a b=>Int.rec (fun n=>bif n.ble 64&&n.ble k.bits then some (kI k (zX a (.ofNat (Nat.pow 2 n)))) else none) (fun _=>none) b
def JA:mP:=fun k a b=>Int.rec (fun m=>Int.rec (fun n=>bif n.ble 64&&n.ble k.bits then some (iX k (m.div (Nat.pow 2 n))) else none) (fun _=>none) b) (fun _=>none) a
def JB:mP:=fun _ _ _=>none
def Ve:mP:=fun _ a b=>some (.bool (o3 a b))
def Vf:mP:=fun _ a b=>some (.bool (oq (o3 a b)))
def Vg:mP:=fun _ a b=>some (.bool (mO a b))
def Vh:mP:=fun _ a b=>some (.bool (oq (mO b a)))
def Vi:mP:=fun _ a b=>some (.bool (mO b a))
def Vj:mP:=fun _ a b=>some (.bool (oq (mO a b)))
def wg (op:BinOp):mP:= @BinOp.rec (fun _=>mP) U9 Va Vb Vc Vd (Ct Nat.land) (Ct Nat.lor) (Ct Nat.xor) JB JB JB Ve Vf Vg Vh Vi Vj op
def sc (n x:Nat):V:=force n fun n=>force x fun x=> .str n x
abbrev tp:=Nat→Nat→Nat→Nat→Option V
def JC:tp:=fun n x m y=>bif (Nat.add n m).blt 4294967296 then some (sc (Nat.add n m) (Ow n x y)) else none
def mQ (n x m y:Nat):Bool:=Bool.rec false (x.beq y) (n.beq m)
def JD:tp:=fun n x m y=>some (.bool (mQ n x m y))
def JE:tp:=fun n x m y=>some (.bool (oq (mQ n x m y)))
def JF:tp:=fun n x m y=>some (.bool (qX (gZ n x) (gZ m y)))
def JG:tp:=fun n x m y=>some (.bool (oq (qX (gZ m y) (gZ n x))))
def JH:tp:=fun n x m y=>some (.bool (qX (gZ m y) (gZ n x)))
def JI:tp:=fun n x m y=>some (.bool (oq (qX (gZ n x) (gZ m y))))
def tq:tp:=fun _ _ _ _=>none
def Cu (op:BinOp):tp:= @BinOp.rec (fun _=>tp) JC tq tq tq tq tq tq tq tq tq tq JD JE JF JG JH JI op
mutual
def c4.eq:c4→V→V→Option Bool
 | .int, .int j a, .int k b=>bif ot j k then some (o3 a b) else none
 | .str, .str n x, .str m y=>some (mQ n x m y)
 | .bool, .bool a, .bool b=>some (a==b)
 | .ptr, .oj, .oj=>some true
 | .ptr, .oj, .ptr _ _=>some false
 | .ptr, .ptr _ _, .oj=>some false
 | .ptr, .ptr a o, .ptr b q=>bif a.beq b then some (o.beq q) else none
 | .av, .U, .U=>some true
 | .av, .U, .av .. =>some false
 | .av, .av .., .U=>some false
 | .map, .k9, .k9=>some true
 | .map, .k9, .map _=>some false
 | .map, .map _, .k9=>some false
 | .fn, .om, .om=>some true
 | .fn, .om, .fn .. =>some false
 | .fn, .fn .., .om=>some false
 | .e8, .kj, .kj=>some true
 | .e8, .kj, .e8 .. =>some false
 | .e8, .e8 .., .kj=>some false
 | .st fs, .agg a, .agg b=>c4.eqs fs a b
 |_,_,_=>none
def c4.eqs:List (Nat×c4)→List V→List V→Option Bool
 |[],_,_=>some true
 |(off,q)::fs,a,b=>
  match aX (ix off a),aX (ix off b) with
  |some x,some y=>match c4.eq q x y with
   |some true=>c4.eqs fs a b
   |some false=>some false
   |none=>none
  |_,_=>none
end
def eqStr (k:V) (e:V):Option Bool:=Option.rec none (fun a=>Option.rec none (fun b=>some (mQ a.1 a.2 b.1 b.2)) e.r9) k.r9
def Vk (k:V) (e:V):Option Bool:=Option.rec none (fun a=>Option.rec none (fun b=>Bool.rec none (some (o3 a.2 b.2)) (ot a.1 b.1)) e.asInt) k.asInt
def wh (q:c4):V→V→Option Bool:=match q with| .str=>eqStr| .int=>Vk|_=>fun _ _=>none
def find (q:V→V→Option Bool) (k:V) (l:List qW):Option (Option qW):=
 List.rec (some none) (fun e _ bt=>Option.rec none (fun b=>Bool.rec bt (some (some e)) b) (q k e.key)) l
def xS (q:V→V→Option Bool) (k v:V) (clock:Nat) (l:List qW):Option (List qW×Nat):=
 List.rec (some ([⟨k,v,clock⟩],Nat.succ clock))
  (fun e l bt=>Option.rec none (fun b=>Bool.rec (Option.rec none (fun x=>some (e::x.1,x.2)) bt) (some (⟨k,v,e.born⟩::l,clock)) b) (q k e.key)) l
inductive bM where
 |val (v:V)
 |new (o:Obj) (v:V)
 |bad
def V.iy (v:V):(IntKind→Int→bM)→bM:= @V.rec (fun _=>(IntKind→Int→bM)→bM) (fun _=>Unit)
 (fun _=> .bad) (fun _ _=> .bad) (fun dk x1 f=>f dk x1) (fun _ _ _=> .bad) (fun _=> .bad) (fun _ _ _=> .bad) (fun _=> .bad) (fun _ _ _ _ _=> .bad) (fun _=> .bad) (fun _ _=> .bad) (fun _ _ _ _ _ _=> .bad) (fun _=> .bad) (fun _ _ _ _=> .bad) (fun _=> .bad) (fun _ _ _=> .bad) (fun _ _ _=> .bad)
 () (fun _ _ _ _=>()) v
def V.JJ (v:V):(Bool→bM)→bM:= @V.rec (fun _=>(Bool→bM)→bM) (fun _=>Unit)
 (fun _=> .bad) (fun dk f=>f dk) (fun _ _ _=> .bad) (fun _ _ _=> .bad) (fun _=> .bad) (fun _ _ _=> .bad) (fun _=> .bad) (fun _ _ _ _ _=> .bad) (fun _=> .bad) (fun _ _=> .bad) (fun _ _ _ _ _ _=> .bad) (fun _=> .bad) (fun _ _ _ _=> .bad) (fun _=> .bad) (fun _ _ _=> .bad) (fun _ _ _=> .bad)
 () (fun _ _ _ _=>()) v
def V.mR (v:V):(Nat→Nat→bM)→bM:= @V.rec (fun _=>(Nat→Nat→bM)→bM) (fun _=>Unit)
 (fun _=> .bad) (fun _ _=> .bad) (fun _ _ _=> .bad) (fun dk x1 f=>f dk x1) (fun _=> .bad) (fun _ _ _=> .bad) (fun _=> .bad) (fun _ _ _ _ _=> .bad) (fun _=> .bad) (fun _ _=> .bad) (fun _ _ _ _ _ _=> .bad) (fun _=> .bad) (fun _ _ _ _=> .bad) (fun _=> .bad) (fun _ _ _=> .bad) (fun _ _ _=> .bad)
 () (fun _ _ _ _=>()) v
def V.qZ (v:V):(Nat→Nat→bM)→bM:= @V.rec (fun _=>(Nat→Nat→bM)→bM) (fun _=>Unit)
 (fun _=> .bad) (fun _ _=> .bad) (fun _ _ _=> .bad) (fun _ _ _=> .bad) (fun _=> .bad) (fun dk x1 f=>f dk x1) (fun _=> .bad) (fun _ _ _ _ _=> .bad) (fun _=> .bad) (fun _ _=> .bad) (fun _ _ _ _ _ _=> .bad) (fun _=> .bad) (fun _ _ _ _=> .bad) (fun _=> .bad) (fun _ _ _=> .bad) (fun _ _ _=> .bad)
 () (fun _ _ _ _=>()) v
def V.JK (v:V):(Nat→Nat→Nat→bM)→bM:= @V.rec (fun _=>(Nat→Nat→Nat→bM)→bM) (fun _=>Unit)
 (fun _=> .bad) (fun _ _=> .bad) (fun _ _ _=> .bad) (fun _ _ _=> .bad) (fun _=> .bad) (fun _ _ _=> .bad) (fun _=> .bad) (fun dk x1 b2 b9 f=>f dk x1 b2) (fun _=> .bad) (fun _ _=> .bad) (fun _ _ _ _ _ _=> .bad) (fun _=> .bad) (fun _ _ _ _=> .bad) (fun _=> .bad) (fun _ _ _=> .bad) (fun _ _ _=> .bad)
 () (fun _ _ _ _=>()) v
def V.zY (v:V):(Nat→bM)→bM:= @V.rec (fun _=>(Nat→bM)→bM) (fun _=>Unit)
 (fun _=> .bad) (fun _ _=> .bad) (fun dk x1 f=>Int.rec f (fun _=> .bad) x1) (fun _ _ _=> .bad) (fun _=> .bad) (fun _ _ _=> .bad) (fun _=> .bad) (fun _ _ _ _ _=> .bad) (fun _=> .bad) (fun _ _=> .bad) (fun _ _ _ _ _ _=> .bad) (fun _=> .bad) (fun _ _ _ _=> .bad) (fun _=> .bad) (fun _ _ _=> .bad) (fun _ _ _=> .bad)
 () (fun _ _ _ _=>()) v
def V.Ox (v:V):(List V→bM)→bM:= @V.rec (fun _=>(List V→bM)→bM) (fun _=>Unit)
 (fun _=> .bad) (fun _ _=> .bad) (fun _ _ _=> .bad) (fun _ _ _=> .bad) (fun _=> .bad) (fun _ _ _=> .bad) (fun _=> .bad) (fun _ _ _ _ _=> .bad) (fun _=> .bad) (fun _ _=> .bad) (fun _ _ _ _ _ _=> .bad) (fun _=> .bad) (fun _ _ _ _=> .bad) (fun _=> .bad) (fun _ _ _=> .bad) (fun dk _ f=>f dk)
 () (fun _ _ _ _=>()) v
def V.Oy (v:V):(List V→bM)→bM:= @V.rec (fun _=>(List V→bM)→bM) (fun _=>Unit)
 (fun _=> .bad) (fun _ _=> .bad) (fun _ _ _=> .bad) (fun _ _ _=> .bad) (fun _=> .bad) (fun _ _ _=> .bad) (fun _=> .bad) (fun _ _ _ _ _=> .bad) (fun _=> .bad) (fun _ _=> .bad) (fun _ _ _ _ _ _=> .bad) (fun _=> .bad) (fun _ _ _ _=> .bad) (fun _=> .bad) (fun dk _ f=>f dk) (fun _ _ _=> .bad)
 () (fun _ _ _ _=>()) v
def V.FM (v:V):(Nat→bM)→bM:= @V.rec (fun _=>(Nat→bM)→bM) (fun _=>Unit)
 (fun _=> .bad) (fun _ _=> .bad) (fun _ _ _=> .bad) (fun _ _ _=> .bad) (fun _=> .bad) (fun _ _ _=> .bad) (fun f=>f 0) (fun dk x1 b2 b9 f=>f b2) (fun _=> .bad) (fun _ _=> .bad) (fun _ _ _ _ _ _=> .bad) (fun _=> .bad) (fun _ _ _ _=> .bad) (fun _=> .bad) (fun _ _ _=> .bad) (fun _ _ _=> .bad)
 () (fun _ _ _ _=>()) v
abbrev dM:=A→V
abbrev L:=dM→ag→bM
def bM.of (v:Option V):bM:=Option.rec .bad (fun v=> .val v) v
def fill (aQ:List (Nat×Nat×A)):dM→List V→Option (List V):=
 @List.rec (Nat×Nat×A) (fun _=>dM→List V→Option (List V)) (fun _ cs=>some cs)
   (fun p _ bt ev cs=>Option.rec none (fun l=>bif (cZ l).beq p.2.1&&(Nat.add p.1 p.2.1).ble (cZ cs) then bt ev (hX p.1 l cs) else none) (ev p.2.2).dY) aQ
def h8 (l:List A):dM→List V:= @List.rec A (fun _=>dM→List V) (fun _=>[]) (fun a _ bt ev=>ev a::bt ev) l
def ek (x:Option A) (ev:dM) (d:Nat):Option Nat:=Option.rec (some d) (fun x=>(ev x).asNat) x
def bytesOf (l:List V):Option (Nat×Nat):=
 List.rec (some (0,0)) (fun v _ bt=>Option.rec none (fun x=>Option.rec none (fun b=>bif b.blt 256 then some (Nat.succ x.1,Nat.add b (Nat.mul 256 x.2)) else none) v.zV) bt) l
def nD (l:List Nat):List V:=List.rec [] (fun b _ bt=>iX .u8 b::bt) l
def fv (o:Obj):Bool:=Obj.rec (fun _=>true) (fun r _ _ n _=>Nat.blt 0 r) true (fun _ _=>true) o
def rep (n:Nat) (l:List V):List V:=Nat.rec [] (fun _ bt=>gd l bt) n
def Vl (x:A):L:=fun ev _=> .val (ev x)
def Vm (c a b:A):L:=fun ev _=>(ev c).JJ fun t=>Bool.rec (.val (ev b)) (.val (ev a)) t
def Vn (cs:List V):L:=fun _ h=>force h.next fun b=> .new (.box cs) (.ptr b 0)
def Vo (n:Nat) (x:A):L:=fun ev h=>force h.next fun b=>Option.rec .bad (fun l=>Bool.rec .bad (hU l fun l=> .new (.box l) (.ptr b 0)) ((cZ l).beq n)) (ev x).dY
def Vp (zero:List V) (aQ:List (Nat×Nat×A)):L:=fun ev _=>Option.rec .bad (fun l=>hU l fun l=> .val (.agg l)) (fill aQ ev zero)
def Vq (r n:Nat) (zero:List V) (aQ:List (Nat×Nat×A)):L:=fun ev h=>force h.next fun b=>
 Option.rec .bad (fun l=>gQ r n 0 l T.e fun t=> .new (.cells r b 0 (Nat.mul n r) t) (.av b 0 n (some n))) (fill aQ ev (rep n zero))
def Vr (x:A):L:=fun ev h=>(ev x).qZ fun b o=> .of (h.eZ b o)
def Vs (n:Nat) (x:A):L:=fun ev h=>(ev x).qZ fun b o=>Option.rec .bad (fun l=>hU l fun l=> .val (.agg l)) (h.load b o n)
def Vt (x:A):L:=fun ev _=> .of (ev x).U8
def sd (op:BinOp) (k:IntKind) (a:Int) (j:IntKind) (b:Int):bM:=Bool.rec .bad (.of (wg op k a b)) (ot k j)
def Vu (op:BinOp) (x y:A):L:=fun ev _=>(ev x).iy fun k a=>(ev y).iy fun j b=>sd op k a j b
def Vv (left:Bool) (x y:A):L:=fun ev _=>(ev x).iy fun k a=>(ev y).iy fun _ b=> .of (Bool.rec (JA k a b) (Jz k a b) left)
def Vw (op:BinOp) (x y:A):L:=fun ev _=>(ev x).mR fun n a=>(ev y).mR fun m b=> .of (Cu op n a m b)
def Vx (neg:Bool) (q:c4) (x y:A):L:=fun ev _=>Option.rec .bad (fun b=> .val (.bool (b !=neg))) (q.eq (ev x) (ev y))
def Vy (x:A):L:=fun ev _=>(ev x).iy fun k a=> .val (kI k (Int.neg a))
def VE (x:A):L:=fun ev _=>(ev x).JJ fun b=> .val (.bool (oq b))
def VF (kd:IntKind) (x:A):L:=fun ev _=>(ev x).iy fun _ a=> .val (kI kd a)
def VG (x:A):L:=fun ev h=>force h.next fun b=>Option.rec .bad (fun x=>gQ 1 x.1 0 (nD (gZ x.1 x.2)) T.e fun t=> .new (.cells 1 b 0 x.1 t) (.av b 0 x.1 none)) (ev x).r9
def FN (x:A):L:=fun ev h=>match ev x with
 | .U=> .val (.str 0 0)
 | .av b o n _=>Option.rec .bad (fun l=>Option.rec .bad (fun x=> .val (sc x.1 x.2)) (bytesOf l)) (h.load b o n)
 |_=> .bad
def VH (t:Nat) (x:A):L:=fun ev _=> .val (.e8 t (ev x))
def VI (f:Nat) (a b:List A):L:=fun ev _=> .val (.fn f (h8 a ev) (h8 b ev))
def VJ:L:=fun _ h=>force h.next fun b=> .new (.map [] 0) (.map b)
def JL (r:Nat) (zero:List V) (bytes:Nat) (l c:A):L:=fun ev h=>match (ev l).asNat,(ev c).asNat with
 |some n,some m=>force h.next fun b=>bif n.ble m&&(Nat.mul m bytes).ble 1099511627776 then gQ r m 0 (rep m zero) T.e fun t=> .new (.cells r b 0 (Nat.mul m r) t) (.av b 0 n (some m)) else .bad
 |_,_=> .bad
def JM (n a:Nat) (aq bH:Option Nat):bM:=
 Option.rec .bad (fun j=>Option.rec .bad (fun i=>Bool.rec .bad (.val (sc (Nat.sub j i) (FJ a i (Nat.sub j i)))) (i.ble j&&j.ble n)) bH) aq
def VK (x:A) (bH aq:Option A):L:=fun ev _=>(ev x).mR fun n a=>JM n a (ek aq ev n) (ek bH ev 0)
def uV (b o n:Nat) (cap:Option Nat):bM:=force o fun o=>force n fun n=> .val (.av b o n cap)
def ou (b o i j m r:Nat):bM:=force (Nat.sub m i) fun c=>uV b (bif c.beq 0 then o else Nat.add o (Nat.mul i r)) (Nat.sub j i) (some c)
def ov (r b o n:Nat) (cap:Option Nat) (i j:Nat) (mx:Option (Option Nat)) (h:ag):bM:=
 match cap,mx with
 |some c,none=>bif i.ble j&&j.ble c then ou b o i j c r else .bad
 |some c,some (some m)=>bif i.ble j&&(j.ble m&&m.ble c) then ou b o i j m r else .bad
 |none,some (some m)=>bif Nat.blt 0 n&&(i.ble j&&(j.ble m&&m.ble n)) then ou b o i j m r else .bad
 |none,none=>
  match h.obj b with
  |some (.cells eT _ _ bo _)=>bif eT.beq r&&(i.ble j&&(j.ble n||(Nat.add o (Nat.mul j r)).ble bo)) then uV b (Nat.add o (Nat.mul i r)) (Nat.sub j i) none else .bad
  |_=> .bad
 |_,_=> .bad
def FO (r:Nat) (x:A) (bH aq mx:Option A):L:=fun ev h=>match ev x with
 | .U=>match ek aq ev 0,ek bH ev 0,ek mx ev 0 with
   |some 0,some 0,some 0=> .val .U
   |_,_,_=> .bad
 | .av b o n cap=>match ek aq ev n,ek bH ev 0 with
   |some j,some i=>ov r b o n cap i j (Option.rec none (fun x=>some (ev x).asNat) mx) h
   |_,_=> .bad
 |_=> .bad
def VL (n r:Nat) (x:A) (bH aq mx:Option A):L:=fun ev _=>match (ev x).mM with
 |some (b,o)=>match ek aq ev n,ek bH ev 0,ek mx ev n with
  |some j,some i,some m=>bif i.ble j&&(j.ble m&&m.ble n) then ou b o i j m r else .bad
  |_,_,_=> .bad
 |none=> .bad
def VM (off:Nat) (x:A):L:=fun ev _=>(ev x).qZ fun b o=>force (Nat.add o off) fun o=> .val (.ptr b o)
def VN (off n:Nat) (tk:Bool) (x:A):L:=fun ev _=>(ev x).Oy fun l=>
 Bool.rec (.of (aX (ix off l))) (Bool.rec .bad (hU (nC n (ix off l)) fun l=> .val (.agg l)) ((Nat.add off n).ble (cZ l))) tk
def JN (r:Nat) (b o n j:Nat):bM:=Bool.rec .bad (force (Nat.add o (Nat.mul j r)) fun o=> .val (.ptr b o)) (j.blt n)
def VO (r:Nat) (x i:A):L:=fun ev _=>(ev x).JK fun b o n=>(ev i).zY fun j=>JN r b o n j
def VP (len r:Nat) (x i:A):L:=fun ev _=>(ev x).qZ fun b o=>(ev i).zY fun j=>JN r b o len j
def VQ (x i:A):L:=fun ev _=>(ev x).mR fun n a=>(ev i).zY fun j=>Bool.rec .bad (.val (iX .u8 (Co a j))) (j.blt n)
def zZ (ok:Bool) (v:V) (b:Bool):V:=Bool.rec v (.dD [v, .bool b]) ok
def Oz (q:c4) (zero:V) (ok:Bool) (x:V) (es:List qW):bM:=
 Option.rec .bad (fun r=>Option.rec (.val (zZ ok zero false)) (fun e=> .val (zZ ok e.val true)) r) (find (wh q) x es)
def FP (q:c4) (zero:V) (ok:Bool) (m x:A):L:=fun ev h=>match ev m with
 | .k9=> .val (zZ ok zero false)
 | .map b=>Obj.map? .bad (fun es _=>Oz q zero ok (ev x) es) (h.obj b)
 |_=> .bad
def VR (t:Nat) (zero:V) (ok:Bool) (x:A):L:=fun ev _=>match ev x with
 | .e8 u v=>bif u.beq t then .val (zZ ok v true) else bif ok then .val (.dD [zero, .bool false]) else .bad
 | .kj=>bif ok then .val (.dD [zero, .bool false]) else .bad
 |_=> .bad
def VS (n:Nat) (x:A):L:=fun ev _=>(ev x).Ox fun l=> .of (aX (ix n l))
def VT (str:Bool) (x:A):L:=fun ev _=>Bool.rec ((ev x).FM fun n=> .val (iX .i64 n)) ((ev x).mR fun n _=> .val (iX .i64 n)) str
def FQ (x:A):L:=fun ev h=>match ev x with
 | .k9=> .val (.int .i64 (.ofNat 0))
 | .map b=>Obj.map? .bad (fun es _=> .val (iX .i64 es.length)) (h.obj b)
 |_=> .bad
def VU (x:A):L:=fun ev _=>match ev x with
 | .U=> .val (.int .i64 (.ofNat 0))
 | .av _ _ _ (some c)=> .val (iX .i64 c)
 |_=> .bad
def VV (mx:Bool) (x y:A):L:=fun ev _=>match (ev x).asInt,(ev y).asInt with
 |some (kd,a),some (z1,b)=>bif ot kd z1 then .val (.int kd (bif mx then (bif mO a b then b else a) else (bif mO b a then b else a))) else .bad
 |_,_=> .bad
def light (o:h7):L:= @h7.rec (fun _=>L) Vl Vm Vn Vo Vp Vq Vr Vs Vt Vu Vw Vv Vx Vy VE VF VG FN VH VI VJ JL
 VK FO VL VM VN VO VP VQ FP VR VS VT FQ VU VV o
inductive bg where
 |ok (v:V) (h:ag)
 |du (v:V) (h:ag)
 |bad
abbrev eU:=Nat→List V→Jy→ag→bg×Jy
abbrev q2:=eU→dM→ag→bg
def mk (h:ag) (o:Obj) (v:V):bg:=Bool.rec .bad (h.la o fun h=> .ok v h) (fv o)
def VW (n:Nat) (a x:A):q2:=fun _ ev h=>Option.rec .bad (fun p=>Option.rec .bad (fun l=>Bool.rec .bad (h.ef p.1 p.2 n l .bad fun h=> .ok un h) ((cZ l).beq n)) (ev x).dY) (ev a).mM
def VX (q:c4) (m x v:A):q2:=fun _ ev h=>match ev m with
 | .map b=>bif b.blt 8 then .bad else Obj.map? .bad (fun es c=>Option.rec .bad (fun y=>hU y.1 fun l=>force y.2 fun c=>h.kG b (.map l c) fun h=> .ok un h) ((ev x).force fun x=>(ev v).force fun v=>xS (wh q) x v c es)) (h.obj b)
 |_=> .bad
def back (_:ag) (aB:ag):ag:=aB
def se (h:ag) (r:bg):bg:=bg.rec (fun v aB=> .ok v (back h aB)) (fun v aB=> .du v (back h aB)) .bad r
def VY (f:Nat) (as_:List A):q2:=fun call ev h=>se h (call f (h8 as_ ev) .none h).1
def VZ (x:A) (as_:List A):q2:=fun call ev h=>Option.rec .bad (fun x=>se h (call x.1 (gd x.2.1 (gd (h8 as_ ev) x.2.2)) .none h).1) (ev x).zU
def mc {R:Type} (h:ag) (f top:Nat) (l:List Nat) (k:ag→R):R:=force top fun top=>T.dF f ⟨top,l⟩ h.bJ fun t=>k ⟨h.t,h.next,t,h.ds,h.bI⟩
def grown {R:Type} (h:ag) (b f ap bo e top:Nat) (k:ag→R):R:=
 Option.rec (Bool.rec (mc h f top [h.next,b] k) (h.kG b .dead fun h=>mc h f top [h.next,b] k) (e.blt (Nat.add ap bo)))
  (fun x=>Bool.rec (tn e (Nat.add (iw.last x) top) h.next (iw.mem x) h fun h=>mc h f top (h.next::iw.mem x) k) (mc h f top (h.next::iw.mem x) k) ((iw.last x).ble e)) (T.get f h.bJ)
def q3 (h:ag) (r bytes b o n:Nat) (cap:Option Nat) (new:List V) (m:Nat):bg:=
 force (Nat.add n m) fun o4=>force h.next fun hJ=>bif (Nat.mul o4 bytes).ble 1099511627776&&Nat.ble 8 b then
  Option.rec
   (Obj.cells? .bad (fun eT f ap bo rows=>
     bif eT.beq r&&(o.mod r).beq 0 then
      bif (Nat.add o (Nat.mul o4 r)).ble bo then h.ef b (Nat.add o (Nat.mul n r)) (Nat.mul m r) new .bad fun h=> .ok (.av b o o4 none) h
      else bif (Nat.add o (Nat.mul n r)).ble bo then
       grown h b f ap bo (Nat.add (Nat.add ap o) (Nat.mul n r)) (Nat.add (Nat.add ap o) (Nat.mul o4 r)) fun h=>
        bif o.beq 0 then gQ r m n new rows fun t=>mk h (.cells r f ap (Nat.mul o4 r) t) (.av hJ 0 o4 none)
        else Option.rec .bad (fun old=>force (Nat.add ap o) fun ap=>gQ r o4 0 (gd old new) T.e fun t=>mk h (.cells r f ap (Nat.mul o4 r) t) (.av hJ 0 o4 none)) (lN rows n (o.div r))
      else .bad
     else .bad) (h.obj b))
   (fun c=>bif o4.ble c then h.ef b (Nat.add o (Nat.mul n r)) (Nat.mul m r) new .bad fun h=> .ok (.av b o o4 (some c)) h
     else Option.rec .bad (fun old=>gQ r o4 0 (gd old new) T.e fun t=>mk h (.cells r hJ 0 (Nat.mul o4 r) t) (.av hJ 0 o4 none)) (h.load b o (Nat.mul n r)))
   cap
 else .bad
def gk (h:ag) (r bytes:Nat) (s:V) (new:List V) (m:Nat):bg:=
 match s with
 | .U=>bif m.beq 0 then .ok .U h else bif (Nat.mul m bytes).ble 1099511627776 then force h.next fun b=>gQ r m 0 new T.e fun t=>mk h (.cells r b 0 (Nat.mul m r) t) (.av b 0 m none) else .bad
 | .av b o n cap=>bif m.beq 0 then .ok (.av b o n cap) h else q3 h r bytes b o n cap new m
 |_=> .bad
def hAppend (r bytes:Nat) (s x:A):q2:=fun _ ev h=>match ev x with
 | .U=>gk h r bytes (ev s) [] 0
 | .av b o m _=>Option.rec .bad (fun new=>gk h r bytes (ev s) new m) (h.load b o (Nat.mul m r))
 | .str m a=>bif r.beq 1 then gk h r bytes (ev s) (nD (gZ m a)) m else .bad
 |_=> .bad
def o5 (m n:Nat):Nat:=Bool.rec n m (m.ble n)
def wi (h:ag) (b o m r:Nat) (l:Option (List V)):bg:=
 Option.rec .bad (fun l=>h.ef b o (Nat.mul m r) l .bad fun h=> .ok (iX .i64 m) h) l
def V0 (r:Nat) (d s:A):q2:=fun _ ev h=>match ev d with
 | .U=>match ev s with
   | .U| .av .. | .str .. => .ok (.int .i64 (.ofNat 0)) h
   |_=> .bad
 | .av b o n _=>match ev s with
   | .U=> .ok (.int .i64 (.ofNat 0)) h
   | .av c q m _=>wi h b o (o5 m n) r (h.load c q (Nat.mul (o5 m n) r))
   | .str m a=>wi h b o (o5 m n) 1 (some (nC (o5 m n) (nD (gZ m a))))
   |_=> .bad
 |_=> .bad
def JO (zero:List V) (x:A):q2:=fun _ ev h=>match ev x with
 | .U=> .ok un h
 | .av b o n _=>h.ef b o (Nat.mul n (cZ zero)) (rep n zero) .bad fun h=> .ok un h
 |_=> .bad
def V1:q2:=fun _ _ h=>match h.bI with
 | .some v=> .ok v ⟨h.t,h.next,h.bJ,h.ds, .recovered⟩
 |_=> .ok .kj h
def V2 (x:A) (as_:List A):q2:=fun _ ev h=>match ev x with
 | .fn f first cap=> .ok un ⟨h.t,h.next,h.bJ,(.fn f first cap,h8 as_ ev)::h.ds,h.bI⟩
 |_=> .bad
def V3 (x:A):q2:=fun _ ev h=>match ev x with
 | .e8 t v=> .du (.e8 t v) h
 |_=> .bad
def hK (o:oo):q2:= @oo.rec (fun _=>q2) VW VX VY VZ hAppend V0 JO V1 V2 V3 o
inductive X where
 |nrm|ret|exit (id:Nat)|du (v:V)
inductive bn where
 |ok (x:X) (env:Env) (h:ag)
 |bad
def Row.kC (v:V) (k:Row→bn) (r:Row):bn:= @Row.rec (fun _=>bn) (fun a b c d e f g h=>k ⟨v,b,c,d,e,f,g,h⟩) r
def Row.s1 (v:V) (k:Row→bn) (r:Row):bn:= @Row.rec (fun _=>bn) (fun a b c d e f g h=>k ⟨a,v,c,d,e,f,g,h⟩) r
def Row.s2 (v:V) (k:Row→bn) (r:Row):bn:= @Row.rec (fun _=>bn) (fun a b c d e f g h=>k ⟨a,b,v,d,e,f,g,h⟩) r
def Row.gb (v:V) (k:Row→bn) (r:Row):bn:= @Row.rec (fun _=>bn) (fun a b c d e f g h=>k ⟨a,b,c,v,e,f,g,h⟩) r
def Row.jo (v:V) (k:Row→bn) (r:Row):bn:= @Row.rec (fun _=>bn) (fun a b c d e f g h=>k ⟨a,b,c,d,v,f,g,h⟩) r
def Row.kD (v:V) (k:Row→bn) (r:Row):bn:= @Row.rec (fun _=>bn) (fun a b c d e f g h=>k ⟨a,b,c,d,e,v,g,h⟩) r
def Row.tj (v:V) (k:Row→bn) (r:Row):bn:= @Row.rec (fun _=>bn) (fun a b c d e f g h=>k ⟨a,b,c,d,e,f,v,h⟩) r
def Row.zR (v:V) (k:Row→bn) (r:Row):bn:= @Row.rec (fun _=>bn) (fun a b c d e f g h=>k ⟨a,b,c,d,e,f,g,v⟩) r
def Row.dF (j:bx):V→(Row→bn)→Row→bn:= @bx.rec (fun _=>V→(Row→bn)→Row→bn) Row.kC Row.s1 Row.s2 Row.gb Row.jo Row.kD Row.tj Row.zR j
def Env.kC (j:bx) (v:V) (k:Env→bn) (r:Env):bn:= @Env.rec (fun _=>bn) (fun a b c d e f g h=>Row.dF j v (fun x=>k ⟨x,b,c,d,e,f,g,h⟩) a) r
def Env.s1 (j:bx) (v:V) (k:Env→bn) (r:Env):bn:= @Env.rec (fun _=>bn) (fun a b c d e f g h=>Row.dF j v (fun x=>k ⟨a,x,c,d,e,f,g,h⟩) b) r
def Env.s2 (j:bx) (v:V) (k:Env→bn) (r:Env):bn:= @Env.rec (fun _=>bn) (fun a b c d e f g h=>Row.dF j v (fun x=>k ⟨a,b,x,d,e,f,g,h⟩) c) r
def Env.gb (j:bx) (v:V) (k:Env→bn) (r:Env):bn:= @Env.rec (fun _=>bn) (fun a b c d e f g h=>Row.dF j v (fun x=>k ⟨a,b,c,x,e,f,g,h⟩) d) r
def Env.jo (j:bx) (v:V) (k:Env→bn) (r:Env):bn:= @Env.rec (fun _=>bn) (fun a b c d e f g h=>Row.dF j v (fun x=>k ⟨a,b,c,d,x,f,g,h⟩) e) r
def Env.kD (j:bx) (v:V) (k:Env→bn) (r:Env):bn:= @Env.rec (fun _=>bn) (fun a b c d e f g h=>Row.dF j v (fun x=>k ⟨a,b,c,d,e,x,g,h⟩) f) r
def Env.tj (j:bx) (v:V) (k:Env→bn) (r:Env):bn:= @Env.rec (fun _=>bn) (fun a b c d e f g h=>Row.dF j v (fun x=>k ⟨a,b,c,d,e,f,x,h⟩) g) r
def Env.zR (j:bx) (v:V) (k:Env→bn) (r:Env):bn:= @Env.rec (fun _=>bn) (fun a b c d e f g h=>Row.dF j v (fun x=>k ⟨a,b,c,d,e,f,g,x⟩) h) r
def Env.dF (i:bx):bx→V→(Env→bn)→Env→bn:= @bx.rec (fun _=>bx→V→(Env→bn)→Env→bn) Env.kC Env.s1 Env.s2 Env.gb Env.jo Env.kD Env.tj Env.zR i
abbrev K:=Env→ag→bn
abbrev uW:=V→ag→bn
def xT (k:uW) (h:ag) (o:Obj) (v:V):bn:=Bool.rec .bad (h.la o fun h=>k v h) (fv o)
def bM.k (r:bM) (h:ag) (k:uW):bn:=bM.rec (fun v=>v.force fun v=>k v h) (fun o v=>xT k h o v) .bad r
def bg.k (r:bg) (env:Env) (k:uW):bn:=bg.rec (fun v h=>v.force fun v=>k v h) (fun v h=> .ok (.du v) env h) .bad r
def tr (o:Op):eU→dM→Env→ag→uW→bn:= @Op.rec (fun _=>eU→dM→Env→ag→uW→bn)
 (fun o _ ev _ h k=>(light o ev h).k h k) (fun o call ev env h k=>(hK o call ev h).k env k) o
abbrev o6:=eU→List V→K
def uX (op:Op):o6→o6:=fun next call vs env h=>tr op call (fun a=>a.ev vs env) env h fun v h=>next call (v::vs) env h
def xU (i j:bx) (op:Op):o6→o6:=fun next call vs env h=>tr op call (fun a=>a.ev vs env) env h fun v h=>Env.dF i j v (fun env=>next call (v::vs) env h) env
def V4 (g:A) (b:Bool) (op:Op):o6→o6:=fun next call vs env h=>Option.rec .bad (fun c=>Bool.rec (next call (un::vs) env h) (uX op next call vs env h) c) ((g.ev vs env).dy b)
def V5 (g:A) (b:Bool) (i j:bx) (op:Op):o6→o6:=fun next call vs env h=>Option.rec .bad (fun c=>Bool.rec (Env.dF i j un (fun env=>next call (un::vs) env h) env) (xU i j op next call vs env h) c) ((g.ev vs env).dy b)
def V6 (o:dp):o6→o6:= @dp.rec (fun _=>o6→o6) uX xU V4 V5 o
def e9 (l:List dp):o6:= @List.rec dp (fun _=>o6) (fun _ _ env h=> .ok .nrm env h) (fun o _ bt=>V6 o bt) l
mutual
def V.same:V→V→Bool
 | .bot, .bot=>true
 | .bool a, .bool b=>a==b
 | .int j a, .int k b=>ot j k&&o3 a b
 | .str n x, .str m y=>mQ n x m y
 | .oj, .oj=>true
 | .ptr a o, .ptr b q=>a.beq b&&o.beq q
 | .U, .U=>true
 | .av a o n c, .av b q m d=>a.beq b&&(o.beq q&&(n.beq m&&c==d))
 | .k9, .k9=>true
 | .map a, .map b=>a.beq b
 | .fn f a b, .fn g c d=>f.beq g&&(V.q4 a c&&V.q4 b d)
 | .om, .om=>true
 | .e8 t v, .e8 u w=>t.beq u&&V.same v w
 | .kj, .kj=>true
 | .agg a, .agg b=>V.q4 a b
 | .dD a, .dD b=>V.q4 a b
 |_,_=>false
def V.q4:List V→List V→Bool
 |[],[]=>true
 |a::l,b::m=>V.same a b&&V.q4 l m
 |_,_=>false
end
def JP:Option (List V)→Option (List V)→Bool
 |none,none=>true
 |some a,some b=>V.q4 a b
 |_,_=>false
def aI.same {α:Type} (p:α→α→Bool) (s t:aI α):Bool:=p s.a t.a&&(p s.b t.b&&(p s.c t.c&&(p s.d t.d&&(p s.e t.e&&(p s.f t.f&&(p s.g t.g&&p s.h t.h))))))
def B.empty {α:Type}:B α→Bool
 | .mt=>true
 | .dC .. =>false
def T.same (s t:T (List V)):Bool:=aI.same (aI.same (aI.same JP)) s.x t.x&&(s.y.isNone&&(t.y.isNone&&(s.z.empty&&t.z.empty)))
def Obj.same:Obj→Obj→Bool
 | .box a, .box b=>V.q4 a b
 | .cells r f a n t, .cells eT dG bp gf hY=>r.beq eT&&(f.beq dG&&(a.beq bp&&(n.beq gf&&T.same t hY)))
 | .map [] c, .map [] d=>c.beq d
 |_,_=>false
inductive Log where
 |rd (f:ag→bM) (v:V)
 |lP (id:Nat) (aO:Obj)
 |no
def logAt (l:List Log):Nat→Log:= @List.rec Log (fun _=>Nat→Log) (fun _=> .no) (fun x _ bt d=>Nat.rec x (fun d _=>bt d) d) l
def Cv (f:ag→bM) (v:V) (h:ag):Bool:=bM.rec (fun w=>V.same v w) (fun _ _=>false) false (f h)
def still (h:ag) (x:Log):Bool:=match x with
 | .rd f v=>Cv f v h
 | .lP id aO=>(match T.get id h.t,T.get id h.bJ with
   |some o,none=>Obj.same aO o
   |_,_=>false)
 | .no=>true
def kJ (cK:List Nat) (h:ag) (fI:List Log):Bool:=
 List.rec true (fun d _ bt=>Bool.rec false bt (still h (logAt fI d))) cK
abbrev FR:=eU→List V→List Log→K
def bM.kd (r:bM) (f:ag→bM) (h:ag) (next:Log→V→ag→bn):bn:=
 bM.rec (fun v=>v.force fun v=>next (.rd f v) v h) (fun o v=>force h.next fun id=>xT (fun v h=>next (.lP id o) v h) h o v) .bad r
def kK (o:Op) (cK:List Nat) (call:eU) (ev:dM) (fI:List Log) (env:Env) (h:ag) (next:Log→V→ag→bn):bn:=
 Op.rec (fun o=>(light o ev h).kd (light o ev) h next)
   (fun o=>(hK o call ev h).k env fun v aB=>Bool.rec .bad (next .no v aB) (kJ cK aB fI)) o
def V7 (o:dp) (cK:List Nat) (next:FR):FR:=fun call vs fI env h=>match o with
 | .p op=>kK op cK call (fun a=>a.ev vs env) fI env h fun l v h=>next call (v::vs) (l::fI) env h
 | .s i j op=>kK op cK call (fun a=>a.ev vs env) fI env h fun l v h=>Env.dF i j v (fun env=>next call (v::vs) (l::fI) env h) env
 | .g g b op=>Option.rec .bad (fun c=>Bool.rec (next call (un::vs) (.no::fI) env h) (kK op cK call (fun a=>a.ev vs env) fI env h fun l v h=>next call (v::vs) (l::fI) env h) c) ((g.ev vs env).dy b)
 | .gs g b i j op=>Option.rec .bad (fun c=>Bool.rec (Env.dF i j un (fun env=>next call (un::vs) (.no::fI) env h) env) (kK op cK call (fun a=>a.ev vs env) fI env h fun l v h=>Env.dF i j v (fun env=>next call (v::vs) (l::fI) env h) env) c) ((g.ev vs env).dy b)
def e3 (l:List eA):FR:= @List.rec eA (fun _=>FR) (fun _ _ _ env h=> .ok .nrm env h) (fun o _ bt=>V7 o.o o.cK bt) l
abbrev sf:=eU→Nat→K
def JQ (x:X):sf:=fun _ _ env h=> .ok x env h
def V8 (a b:sf):sf:=fun call n env h=>bn.rec (fun x env h=>X.rec (b call n env h) (.ok .ret env h) (fun i=> .ok (.exit i) env h) (fun v=> .ok (.du v) env h) x) .bad (a call n env h)
def V9 (x:A) (a b:sf):sf:=fun call n env h=>Option.rec .bad (fun t=>Bool.rec (b call n env h) (a call n env h) t) (x.ev [] env).asBool
def Wa (id:Nat) (a:sf):sf:=fun call n env h=>bn.rec (fun x env h=>X.rec (.ok .nrm env h) (.ok .ret env h) (fun i=> .ok (Bool.rec (.exit i) .nrm (i.beq id)) env h) (fun v=> .ok (.du v) env h) x) .bad (a call n env h)
def rounds (a:K) (n:Nat):K:= @Nat.rec (fun _=>K) (fun _ _=> .bad)
 (fun _ bt env h=>bn.rec (fun x env h=>X.rec (bt env h) (.ok .ret env h) (fun i=> .ok (.exit i) env h) (fun v=> .ok (.du v) env h) x) .bad (a env h)) n
def Wb (a:sf):sf:=fun call n=>rounds (a call n) n
def code (c:C):sf:= @C.rec (fun _=>sf) (JQ .nrm) (JQ .ret) (fun i=>JQ (.exit i)) (fun _ _ a b=>V8 a b) (fun x _ _ a b=>V9 x a b)
 (fun id _ a=>Wa id a) (fun _ a=>Wb a) (fun _ l call _=>e9 l call []) (fun _ l call _=>e3 l call [] []) (fun _ _ _ _=> .bad) c
def ts (h:ag) (env:Env) (r:aD):Option V:=match r with
 | .tmp i j=>some (Env.get i j env)
 | .cell i j n=>match (Env.get i j env).mM with
   |some (b,o)=>match n with
    |some n=>match h.load b o n with|some cs=>some (.agg cs)|none=>none
    |none=>h.eZ b o
   |none=>none
def results (env:Env) (h:ag) (l:List aD):Option (List V):=
 List.rec (some []) (fun r _ bt=>Option.rec none (fun v=>Option.rec none (fun vs=>some (v::vs)) bt) (ts h env r)) l
def one (l:List V):V:=match l with
 |[v]=>v
 |l=> .dD l
def gg (n:Nat):bx×bx:=(bx.of (n.div 8),bx.of (n.mod 8))
def args (l:List V):Nat→Env→(Env→bn)→bn:= @List.rec V (fun _=>Nat→Env→(Env→bn)→bn) (fun _ env k=>k env) (fun v _ bt i env k=>v.force fun v=>Env.dF (gg i).1 (gg i).2 v (fun env=>bt (Nat.succ i) env k) env) l
structure Ctx where
 cF:T ct
 xV:eU→Nat→List V→ag→bg
def finish (rs:List aD) (env:Env) (h:ag):bg:=Option.rec .bad (fun vs=> .ok (one vs) h) (results env h rs)
def Cw (rs:List aD) (r:bn):bg:=
 bn.rec (fun x env h=>X.rec (finish rs env h) (finish rs env h) (fun _=> .bad) (fun v=> .du v h) x) .bad r
def FT:Nat:=4611686018427387904
def q5 (fn:ct) (R:Nat) (call:eU) (as_:List V) (h:ag):bg:=
 Bool.rec .bad (Cw fn.results (args as_ 0 Env.nil fun env=>code fn.body call R env h)) ((cZ as_).beq fn.jq)
def Wc (c:Ctx) (R:Nat) (call:eU):eU:=fun f as_ _ h=>
 (Option.rec (c.xV call f as_ h) (fun fn=>q5 fn R call as_ h) (T.get f c.cF), .none)
def dg (c:Ctx) (R n:Nat):eU:= @Nat.rec (fun _=>eU) (fun _ _ _ _=>(.bad, .none)) (fun _ p=>Wc c R p) n
def JR (c:Ctx) (n:Nat):eU:=dg c FT n
end
end Go.Eng
namespace Go.Eng
theorem bx.FU {a b:Nat} (ha:a<8) (hb:b<8) (h:bx.of a=bx.of b):a=b:=by
 have Wd:a=0∨a=1∨a=2∨a=3∨a=4∨a=5∨a=6∨a=7:=by omega
 have eH:b=0∨b=1∨b=2∨b=3∨b=4∨b=5∨b=6∨b=7:=by omega
 rcases Wd with rfl|rfl|rfl|rfl|rfl|rfl|rfl|rfl<;>rcases eH with rfl|rfl|rfl|rfl|rfl|rfl|rfl|rfl<;>first|rfl|(exact absurd h (by decide))
section
variable {α R:Type}
def B.child (i:bx):B α→B α
 | .mt=> .mt
 | .dC _ a b c d bN f g h=>match i with| .d0=>a| .d1=>b| .d2=>c| .d3=>d| .d4=>bN| .d5=>f| .d6=>g| .d7=>h
def B.root:B α→Option α
 | .mt=>none
 | .dC o .. =>o
def B.Cx (i:bx) (x:B α):B α→B α
 | .mt=>match i with
   | .d0=> .dC none x .mt .mt .mt .mt .mt .mt .mt| .d1=> .dC none .mt x .mt .mt .mt .mt .mt .mt| .d2=> .dC none .mt .mt x .mt .mt .mt .mt .mt| .d3=> .dC none .mt .mt .mt x .mt .mt .mt .mt
   | .d4=> .dC none .mt .mt .mt .mt x .mt .mt .mt| .d5=> .dC none .mt .mt .mt .mt .mt x .mt .mt| .d6=> .dC none .mt .mt .mt .mt .mt .mt x .mt| .d7=> .dC none .mt .mt .mt .mt .mt .mt .mt x
 | .dC o a b c d bN f g h=>match i with
   | .d0=> .dC o x b c d bN f g h| .d1=> .dC o a x c d bN f g h| .d2=> .dC o a b x d bN f g h| .d3=> .dC o a b c x bN f g h
   | .d4=> .dC o a b c d x f g h| .d5=> .dC o a b c d bN x g h| .d6=> .dC o a b c d bN f x h| .d7=> .dC o a b c d bN f g x
def B.z6 (v:α):B α→B α
 | .mt=> .dC (some v) .mt .mt .mt .mt .mt .mt .mt .mt
 | .dC _ a b c d bN f g h=> .dC (some v) a b c d bN f g h
theorem B.z7 (i:bx) (u:B.im α R) (t:B α) (k:B α→R):B.pX i u t k=u (B.child i t) fun x=>k (B.Cx i x t):=by
 cases i<;>cases t<;>rfl
theorem B.OA (v:α) (t:B α) (k:B α→R):B.Jw v t k=k (B.z6 v t):=by cases t<;>rfl
def B.Cy (v:α):Nat→Nat→B α→B α
 |0,_,t=>B.z6 v t
 |_+1,0,t=>B.z6 v t
 |f+1,k+1,t=>B.Cx (bx.of ((k+1) % 8)) (B.Cy v f ((k+1) / 8) (B.child (bx.of ((k+1) % 8)) t)) t
theorem B.JS (v:α):∀(f k:Nat) (t:B α) (c:B α→R),B.Jx v f k t c=c (B.Cy v f k t)
 |0,k,t,c=>B.OA v t c
 |f+1,0,t,c=>B.OA v t c
 |f+1,k+1,t,c=>by
  show B.pX (bx.of ((k+1) % 8)) (B.Jx v f ((k+1) / 8)) t c=_
  rw [B.z7,B.JS v f];rfl
theorem B.JT (t:B α):B.get 0 t=B.root t:=by cases t<;>rfl
theorem B.Cz (k:Nat) (t:B α):B.get (k+1) t=B.get ((k+1) / 8) (B.child (bx.of ((k+1) % 8)) t):=by
 cases t with
 |mt=>rfl
 |dC o a b c d bN f g h=>
  show (@bx.rec (fun _=>Nat→Option α) (B.get' a) (B.get' b) (B.get' c) (B.get' d) (B.get' bN) (B.get' f) (B.get' g) (B.get' h) (bx.of ((k+1) % 8)) ((k+1) / 8))=_
  generalize bx.of ((k+1) % 8)=i
  cases i<;>rfl
theorem B.Wf (i j:bx) (x t:B α):B.child i (B.Cx j x t)=if i=j then x else B.child i t:=by
 cases t<;>cases j<;>cases i<;>rfl
theorem B.Wg (j:bx) (x t:B α):B.root (B.Cx j x t)=B.root t:=by cases t<;>cases j<;>rfl
theorem B.Wh (v:α) (i:bx) (t:B α):B.child i (B.z6 v t)=B.child i t:=by cases t<;>cases i<;>rfl
theorem B.Wi (v:α) (t:B α):B.root (B.z6 v t)=some v:=by cases t<;>rfl
theorem B.Wj (v:α):∀(f m:Nat) (t:B α) (n:Nat),m≤f→B.get n (B.Cy v f m t)=if n=m then some v else B.get n t:=by
 have base:∀(t:B α) (n:Nat),B.get n (B.z6 v t)=if n=0 then some v else B.get n t:=by
  intro t n
  cases n with
  |zero=>rw [B.JT,B.Wi];rfl
  |succ n=>rw [B.Cz,B.Wh,B.Cz,if_neg (by omega)]
 intro f
 induction f with
 |zero=>intro m t n hm;obtain rfl:m=0:=by omega
        exact base t n
 |succ f bt=>
  intro m t n hm
  cases m with
  |zero=>exact base t n
  |succ m=>
   show B.get n (B.Cx (bx.of ((m+1) % 8)) (B.Cy v f ((m+1) / 8) (B.child (bx.of ((m+1) % 8)) t)) t)=_
   cases n with
   |zero=>rw [B.JT,B.Wg,B.JT,if_neg (by omega)]
   |succ n=>
    rw [B.Cz,B.Wf]
    by_cases h:bx.of ((n+1) % 8)=bx.of ((m+1) % 8)
    · have aB:=bx.FU (Nat.mod_lt _ (by decide)) (Nat.mod_lt _ (by decide)) h
      rw [if_pos h,bt _ _ _ (by omega)]
      by_cases e:n=m
      · subst e;simp
      · rw [if_neg (by omega),if_neg (by omega),←h,←B.Cz]
    · rw [if_neg h,if_neg (fun e=>h (by rw [e])),←B.Cz]
theorem B.FV (n:Nat) (v:α) (t:B α):B.set n v t=B.Cy v n n t:=B.JS v n n t _
theorem B.fJ {n m:Nat} (_hn:0≤n) (_hm:0≤m) (v:α) (t:B α):B.get n (B.set m v t)=if n=m then some v else B.get n t:=by
 rw [B.FV,B.Wj v m m t n (Nat.le_refl _)]
theorem B.wj (n:Nat):B.get n (.mt:B α)=none:=rfl
theorem B.iY (n:Nat) (v:α) (t:B α) (c:B α→R):B.dF n v t c=c (B.set n v t):=by
 rw [B.FV];exact B.JS v n n t c
end
@[simp] theorem force_eq {R:Type} (n:Nat) (f:Nat→R):force n f=f n:=by cases n<;>rfl
section
variable {α R:Type}
theorem aI.fJ (i j:bx) (x:α) (r:aI α):aI.get i (aI.set j x r)=if i=j then x else aI.get i r:=by
 cases i<;>cases j<;>rfl
theorem aI.z7 (i:bx) (u:α→(α→R)→R) (r:aI α) (k:aI α→R):aI.pX i u r k=u (aI.get i r) fun x=>k (aI.set i x r):=by
 cases i<;>rfl
theorem aI.JU (i:bx) (x:α):aI.get i (aI.all x)=x:=by cases i<;>rfl
noncomputable def T.z8 (n:Nat) (v:α) (t:aI (aI (aI (Option α)))):aI (aI (aI (Option α))):=T.zS n v t fun t=>t
noncomputable def T.Aa (n:Nat) (v:α) (t:aI (aI (aI (aI (aI (Option α)))))):aI (aI (aI (aI (aI (Option α))))):=T.zT n v t fun t=>t
theorem T.Wk (n:Nat) (v:α) (t:aI (aI (aI (Option α)))) (c:aI (aI (aI (Option α)))→R):T.zS n v t c=c (T.z8 n v t):=by
 simp only [T.zS,T.z8,aI.z7]
theorem T.Wl (n:Nat) (v:α) (t:aI (aI (aI (aI (aI (Option α)))))) (c:aI (aI (aI (aI (aI (Option α)))))→R):T.zT n v t c=c (T.Aa n v t):=by
 simp only [T.zT,T.Aa,aI.z7]
theorem bx.wk {a b:Nat} (ha:a<8) (hb:b<8):bx.of a=bx.of b↔a=b:=⟨bx.FU ha hb,fun h=>by rw [h]⟩
theorem bx.md (k:Nat):Nat.mod k 8<8:=Nat.mod_lt _ (by decide)
theorem aI.Wm (i2 i1 i0 q6 o7 wm:bx) (x:α) (t:aI (aI (aI α))):aI.get i0 (aI.get i1 (aI.get i2 (aI.set q6 (aI.set o7 (aI.set wm x (aI.get o7 (aI.get q6 t))) (aI.get q6 t)) t)))=
  if i2=q6∧i1=o7∧i0=wm then x else aI.get i0 (aI.get i1 (aI.get i2 t)):=by
 simp only [aI.fJ]
 by_cases h2:i2=q6<;>by_cases h1:i1=o7<;>by_cases h0:i0=wm<;>simp [h2,h1,h0,aI.fJ]
theorem T.Wn (n m:Nat) (hn:n<512) (hm:m<512) (v:α) (t:aI (aI (aI (Option α)))):T.xP n (T.z8 m v t)=if n=m then some v else T.xP n t:=by
 unfold T.xP T.z8 T.zS
 simp only [aI.z7,aI.Wm]
 refine ite_cond_congr (propext ?_)
 rw [bx.wk (by show n / 64<8;omega) (by show m / 64<8;omega),bx.wk (bx.md _) (bx.md _),bx.wk (bx.md _) (bx.md _)]
 show (n / 64=m / 64∧n / 8 % 8=m / 8 % 8∧n % 8=m % 8)↔n=m
 constructor
 · intro h;omega
 · intro h;rw [h];exact ⟨rfl,rfl,rfl⟩
theorem T.Wo (n m:Nat) (hn:n<32768) (hm:m<32768) (v:α) (t:aI (aI (aI (aI (aI (Option α)))))):T.uT n (T.Aa m v t)=if n=m then some v else T.uT n t:=by
 unfold T.uT T.Aa T.zT
 simp only [aI.z7]
 have key:∀(i4 i3 i2 i1 i0 wo xW q6 o7 wm:bx) (x:Option α),aI.get i0 (aI.get i1 (aI.get i2 (aI.get i3 (aI.get i4 (aI.set wo (aI.set xW (aI.set q6 (aI.set o7 (aI.set wm x (aI.get o7 (aI.get q6 (aI.get xW (aI.get wo t))))) (aI.get q6 (aI.get xW (aI.get wo t)))) (aI.get xW (aI.get wo t))) (aI.get wo t)) t)))))=
   if i4=wo∧i3=xW∧i2=q6∧i1=o7∧i0=wm then x else aI.get i0 (aI.get i1 (aI.get i2 (aI.get i3 (aI.get i4 t)))):=by
  intro i4 i3 i2 i1 i0 wo xW q6 o7 wm x
  rw [aI.fJ i4]
  by_cases cy:i4=wo
  · subst cy
    rw [if_pos rfl,aI.fJ i3]
    by_cases bj:i3=xW
    · subst bj
      rw [if_pos rfl,aI.fJ i2]
      by_cases h2:i2=q6
      · subst h2
        rw [if_pos rfl,aI.fJ i1]
        by_cases h1:i1=o7
        · subst h1
          rw [if_pos rfl,aI.fJ i0]
          by_cases h0:i0=wm
          · subst h0;simp
          · simp [h0]
        · simp [h1]
      · simp [h2]
    · simp [bj]
  · simp [cy]
 rw [key]
 refine ite_cond_congr (propext ?_)
 rw [bx.wk (by show n / 4096<8;omega) (by show m / 4096<8;omega),bx.wk (bx.md _) (bx.md _),bx.wk (bx.md _) (bx.md _),bx.wk (bx.md _) (bx.md _),bx.wk (bx.md _) (bx.md _)]
 show (n / 4096=m / 4096∧n / 512 % 8=m / 512 % 8∧n / 64 % 8=m / 64 % 8∧n / 8 % 8=m / 8 % 8∧n % 8=m % 8)↔n=m
 constructor
 · intro h;omega
 · intro h;rw [h];exact ⟨rfl,rfl,rfl,rfl,rfl⟩
theorem T.blt_eq (a b:Nat):a.blt b=decide (a<b):=by
 unfold Nat.blt;rw [Bool.eq_iff_iff];simp [Nat.lt_iff_add_one_le]
noncomputable def T.ty (t:T α):aI (aI (aI (aI (aI (Option α))))):=match t.y with|some y=>y|none=>T.gY
theorem T.Wp (n:Nat) (t:T α):T.FI n t.y=T.uT n t.ty:=by
 unfold T.FI T.ty
 cases t.y with
 |none=>simp [T.uT,T.gY,aI.JU]
 |some y=>rfl
theorem T.get_eq (n:Nat) (t:T α):T.get n t=if n<512 then T.xP n t.x else if n<32768 then T.uT n t.ty else B.get n t.z:=by
 unfold T.get
 rw [force_eq]
 show (Bool.rec (Bool.rec (B.get n t.z) (T.FI n t.y) (n.blt 32768)) (T.xP n t.x) (n.blt 512):Option α)=_
 rw [T.blt_eq,T.blt_eq,T.Wp]
 by_cases h1:n<512
 · simp [h1]
 · by_cases h2:n<32768<;>simp [h1,h2]
theorem T.JV (n:Nat) (v:α) (t:T α) (c:T α→R):T.dF n v t c=c (if n<512 then ⟨T.z8 n v t.x,t.y,t.z⟩ else if n<32768 then ⟨t.x,some (T.Aa n v t.ty),t.z⟩ else ⟨t.x,t.y,B.set n v t.z⟩):=by
 unfold T.dF
 rw [force_eq]
 show (Bool.rec (Bool.rec (B.dF n v t.z fun z=>c ⟨t.x,t.y,z⟩) (T.zT n v (Option.rec T.gY (fun y=>y) t.y) fun y=>c ⟨t.x,some y,t.z⟩) (n.blt 32768)) (T.zS n v t.x fun x=>c ⟨x,t.y,t.z⟩) (n.blt 512):R)=_
 have hy:(Option.rec T.gY (fun y=>y) t.y:aI (aI (aI (aI (aI (Option α))))))=t.ty:=by unfold T.ty;cases t.y<;>rfl
 rw [hy]
 rw [T.blt_eq,T.blt_eq]
 by_cases h1:n<512
 · simp [h1,T.Wk]
 · by_cases h2:n<32768
   · simp [h1,h2,T.Wl]
   · simp [h1,h2,B.iY]
@[simp] theorem T.iY (n:Nat) (v:α) (t:T α) (c:T α→R):T.dF n v t c=c (T.set n v t):=by
  unfold T.set;rw [T.JV,T.JV]
theorem T.FV (n:Nat) (v:α) (t:T α):T.set n v t=if n<512 then ⟨T.z8 n v t.x,t.y,t.z⟩ else if n<32768 then ⟨t.x,some (T.Aa n v t.ty),t.z⟩ else ⟨t.x,t.y,B.set n v t.z⟩:=by
 unfold T.set;rw [T.JV]
theorem T.OB (x:aI (aI (aI (Option α)))) (t:T α) (z:B α):T.ty ⟨x,t.y,z⟩=t.ty:=rfl
theorem T.Wq (x:aI (aI (aI (Option α)))) (y:aI (aI (aI (aI (aI (Option α)))))) (z:B α):T.ty ⟨x,some y,z⟩=y:=rfl
theorem T.fJ {n m:Nat} (_hn:0≤n) (_hm:0≤m) (v:α) (t:T α):T.get n (T.set m v t)=if n=m then some v else T.get n t:=by
 rw [T.get_eq,T.get_eq,T.FV]
 by_cases h1:m<512
 · rw [if_pos h1]
   by_cases h2:n<512
   · rw [if_pos h2,if_pos h2,T.Wn n m h2 h1]
   · simp only [if_neg h2,T.OB];rw [if_neg (show ¬n=m by omega)]
 · rw [if_neg h1]
   by_cases bj:m<32768
   · rw [if_pos bj]
     by_cases h2:n<512
     · rw [if_pos h2,if_pos h2,if_neg (by omega)]
     · rw [if_neg h2,if_neg h2]
       by_cases cy:n<32768
       · simp only [if_pos cy,T.Wq];rw [T.Wo n m cy bj]
       · simp only [if_neg cy];rw [if_neg (show ¬n=m by omega)]
   · rw [if_neg bj]
     by_cases h2:n<512
     · rw [if_pos h2,if_pos h2,if_neg (by omega)]
     · rw [if_neg h2,if_neg h2]
       by_cases cy:n<32768
       · simp only [if_pos cy,T.OB];rw [if_neg (by omega)]
       · rw [if_neg cy,if_neg cy,B.fJ (Nat.zero_le _) (Nat.zero_le _)]
theorem T.Ab (n:Nat) (v:α) (t:T α):T.get n (T.set n v t)=some v:=by
 rw [T.fJ (Nat.zero_le _) (Nat.zero_le _),if_pos rfl]
@[simp] theorem T.wj (n:Nat):T.get n (T.e:T α)=none:=by
  rw [T.get_eq];simp [T.e,T.ty,T.gY,T.xP,T.uT,aI.JU,B.wj]
end
@[simp] theorem nE {α R:Type} (l:List α) (f:List α→R):hU l f=f l:=by
  induction l generalizing f with
  |nil=>rfl
  |cons a l bt=>exact bt _
@[simp] theorem V.force_eq {R:Type} (v:V) (f:V→R):v.force f=f v:=by cases v<;>rfl
def Row.set (j:bx) (v:V) (r:Row):Row:=match j with
 | .d0=>{r with a:=v}| .d1=>{r with b:=v}| .d2=>{r with c:=v}| .d3=>{r with d:=v}
 | .d4=>{r with e:=v}| .d5=>{r with f:=v}| .d6=>{r with g:=v}| .d7=>{r with h:=v}
def Env.set (i j:bx) (v:V) (r:Env):Env:=match i with
 | .d0=>{r with a:=r.a.set j v}| .d1=>{r with b:=r.b.set j v}| .d2=>{r with c:=r.c.set j v}| .d3=>{r with d:=r.d.set j v}
 | .d4=>{r with e:=r.e.set j v}| .d5=>{r with f:=r.f.set j v}| .d6=>{r with g:=r.g.set j v}| .d7=>{r with h:=r.h.set j v}
@[simp] theorem Row.iY (j:bx) (v:V) (k:Row→bn) (r:Row):Row.dF j v k r=k (r.set j v):=by cases j<;>rfl
@[simp] theorem Env.iY (i j:bx) (v:V) (k:Env→bn) (r:Env):Env.dF i j v k r=k (Env.set i j v r):=by
  cases i<;>simp [Env.dF,Env.kC,Env.s1,Env.s2,Env.gb,Env.jo,Env.kD,Env.tj,Env.zR,Env.set]
theorem Env.fJ (i j cS hc:bx) (v:V) (r:Env):Env.get cS hc (Env.set i j v r)=if cS=i∧hc=j then v else Env.get cS hc r:=by
 cases i<;>cases cS<;>(try rfl)<;>cases j<;>cases hc<;>rfl
@[simp] theorem Env.get_nil (i j:bx):Env.get i j Env.nil= .bot:=by cases i<;>cases j<;>rfl
theorem Wr (n:Nat) (v:V) (l:List V):nC (n+1) (v::l)=v::nC n l:=rfl
@[simp] theorem FW (n:Nat) (l:List V):nC n l=l.take n:=by
  induction n generalizing l with
  |zero=>exact List.take_zero.symm▸rfl
  |succ n bt=>cases l with
   |nil=>rfl
   |cons a l=>rw [Wr,bt,List.take_succ_cons]
theorem Ws (n:Nat) (v:V) (l:List V):ix (n+1) (v::l)=ix n l:=rfl
@[simp] theorem tt (n:Nat) (l:List V):ix n l=l.drop n:=by
  induction n generalizing l with
  |zero=>rfl
  |succ n bt=>cases l with
   |nil=>rfl
   |cons a l=>rw [Ws,bt,List.drop_succ_cons]
theorem Wt (a b:List V) (x:V):gd (x::a) b=x::gd a b:=rfl
@[simp] theorem pZ (a b:List V):gd a b=a++b:=by
  induction a with
  |nil=>rfl
  |cons x a bt=>rw [Wt,bt,List.cons_append]
theorem Wu (a:List V) (x:V):cZ (x::a)=cZ a+1:=rfl
@[simp] theorem me (l:List V):cZ l=l.length:=by
  induction l with
  |nil=>rfl
  |cons x a bt=>rw [Wu,bt,List.length_cons]
theorem Wv (vs l:List V):hX 0 vs l=gd vs (ix (cZ vs) l):=rfl
theorem Ww (n:Nat) (vs l:List V) (x:V):hX (n+1) vs (x::l)=x::hX n vs l:=rfl
theorem JW (n:Nat) (vs l:List V) (h:n+vs.length≤l.length):hX n vs l=l.take n++vs++l.drop (n+vs.length):=by
 induction n generalizing l with
 |zero=>rw [Wv];simp
 |succ n bt=>cases l with
  |nil=>simp at h
  |cons a l=>
   rw [Ww,bt l (by simp at h;omega),show n+1+vs.length=n+vs.length+1 by omega]
   simp
@[simp] theorem CA (l:List V):aX l=l.head? :=by cases l<;>rfl
theorem Wx (l:List V) (d:Nat):mN l d=(l[d]?).getD .bot:=by
 induction l generalizing d with
 |nil=>cases d<;>rfl
 |cons a l bt=>cases d with
  |zero=>rfl
  |succ d=>exact (bt d).trans (by simp)
theorem Wy (a:A) (l:List A) (ev:dM):h8 (a::l) ev=ev a::h8 l ev:=rfl
@[simp] theorem aif (l:List A) (ev:dM):h8 l ev=l.map ev:=by
  induction l with
  |nil=>rfl
  |cons a l bt=>rw [Wy,bt,List.map_cons]
theorem Wz (n:Nat) (l:List V):rep (n+1) l=gd l (rep n l):=rfl
theorem OC (n:Nat) (l:List V):rep n l=(List.replicate n l).flatten:=by
 induction n with
 |zero=>rfl
 |succ n bt=>rw [Wz,bt];simp [List.replicate_succ]
theorem jr (a b:Nat):a.beq b=decide (a=b):=by
 rw [Bool.eq_iff_iff];simp
theorem fa (a b:Nat):a.ble b=decide (a≤b):=by
 rw [Bool.eq_iff_iff];simp
theorem gG (a b:Nat):a.blt b=decide (a<b):=by
 rw [Bool.eq_iff_iff];simp [Nat.blt];omega
@[simp] theorem uY (k:IntKind) (n:Nat):iX k n= .int k (.ofNat n):=by cases n<;>rfl
@[simp] theorem aih (k:IntKind) (n:Nat):FK k n= .int k (.negSucc n):=by cases n<;>rfl
@[simp] theorem aii (k:IntKind) (n:Int):Cp k n= .int k n:=by cases n<;>simp [Cp]
theorem FX (k:IntKind) (lim:Nat) (aC:k.signed=false) (au:(2 ^ k.bits:Int)=lim) (n:Int):Cq k lim n= .int k (k.wrap n):=by
 cases n with
 |ofNat m=>
  show (Bool.rec (qY k (.ofNat m)) (iX k m) (m.blt lim):V)=_
  cases h:m.blt lim with
  |false=>simp [qY]
  |true=>
   have aB:m<lim:=by rw [gG] at h;simpa using h
   have:k.wrap (m:Int)=m:=by
    unfold IntKind.wrap
    rw [au]
    simp only [aC,Bool.false_and,Bool.false_eq_true,if_false]
    exact Int.emod_eq_of_lt (by omega) (by omega)
   simp [this]
 |negSucc m=>show qY k _=_;simp [qY]
theorem FY (k:IntKind) (lim:Nat) (aC:k.signed=true) (au:(2 ^ (k.bits - 1):Int)=lim) (hb:(2 ^ k.bits:Int)=2 * lim) (n:Int):Cr k lim n= .int k (k.wrap n):=by
 cases n with
 |ofNat m=>
  show (Bool.rec (qY k (.ofNat m)) (iX k m) (m.blt lim):V)=_
  cases h:m.blt lim with
  |false=>simp [qY]
  |true=>
   have aB:m<lim:=by rw [gG] at h;simpa using h
   have:k.wrap (m:Int)=m:=by
    unfold IntKind.wrap
    rw [au,hb]
    have hm:(m:Int) % (2 * lim)=m:=Int.emod_eq_of_lt (by omega) (by omega)
    simp only [hm,aC,Bool.true_and,decide_eq_true_eq]
    rw [if_neg (by omega)]
   simp [this]
 |negSucc m=>
  show (Bool.rec (qY k (.negSucc m)) (FK k m) (m.blt lim):V)=_
  cases h:m.blt lim with
  |false=>simp [qY]
  |true=>
   have aB:m<lim:=by rw [gG] at h;simpa using h
   have:k.wrap (Int.negSucc m)=Int.negSucc m:=by
    unfold IntKind.wrap
    rw [au,hb]
    have hm:(Int.negSucc m) % (2 * lim)=2 * lim - (m+1):=by
     rw [Int.negSucc_eq]
     have:(-((m:Int)+1)) % (2 * lim)=(-((m:Int)+1)+2 * lim) % (2 * lim):=by simp
     rw [this]
     rw [Int.emod_eq_of_lt (by omega) (by omega)];omega
    simp only [hm,aC,Bool.true_and,decide_eq_true_eq]
    rw [if_pos (by omega),Int.negSucc_eq];omega
   simp [this]
@[simp] theorem tu (k:IntKind) (n:Int):kI k n= .int k (k.wrap n):=by
  cases k
  · exact FY .i8 128 rfl (by decide) (by decide) n
  · exact FY .i16 32768 rfl (by decide) (by decide) n
  · exact FY .i32 2147483648 rfl (by decide) (by decide) n
  · exact FY .i64 9223372036854775808 rfl (by decide) (by decide) n
  · exact FX .u8 256 rfl (by decide) n
  · exact FX .u16 65536 rfl (by decide) n
  · exact FX .u32 4294967296 rfl (by decide) n
  · exact FX .u64 18446744073709551616 rfl (by decide) n
@[simp] theorem Ac (a b:Int):o3 a b=decide (a=b):=by
  cases a with
  |ofNat a=>cases b with
   |ofNat b=>show a.beq b=_;rw [jr];congr 1;simp;omega
   |negSucc b=>rfl
  |negSucc a=>cases b with
   |ofNat b=>rfl
   |negSucc b=>show a.beq b=_;rw [jr];simp
@[simp] theorem Ad (a b:Int):mO a b=decide (a<b):=by
  cases a with
  |ofNat a=>cases b with
   |ofNat b=>show a.blt b=_;rw [gG];simp
   |negSucc b=>show false=_;symm;rw [decide_eq_false_iff_not];have:=Int.negSucc_lt_zero b;simp;omega
  |negSucc a=>cases b with
   |ofNat b=>show true=_;symm;rw [decide_eq_true_eq];have:=Int.negSucc_lt_zero a;simp;omega
   |negSucc b=>show b.blt a=_;rw [gG];simp [Int.negSucc_eq]
@[simp] theorem WA (a b:Int):FL a b=a+b:=by cases a<;>cases b<;>rfl
@[simp] theorem OD (a b:Int):zX a b=a * b:=by cases a<;>cases b<;>rfl
@[simp] theorem OE (a b:Int):Cs a b=a - b:=by
  cases a with
  |ofNat a=>cases b with
   |ofNat b=>
    show (Bool.rec (Int.sub (.ofNat a) (.ofNat b)) (.ofNat (Nat.sub a b)) (b.ble a):Int)=_
    cases h:b.ble a with
    |false=>rfl
    |true=>
     have aB:b≤a:=by simpa [fa] using h
     show (Int.ofNat (a - b))=(a:Int) - b
     simp;omega
   |negSucc b=>rfl
  |negSucc a=>cases b<;>rfl
@[simp] theorem uZ (b:Bool):oq b= !b:=by cases b<;>rfl
@[simp] theorem xX (a b:IntKind):ot a b=decide (a=b):=by cases a<;>cases b<;>rfl
@[simp] theorem aij (m n:Nat):o5 m n=min m n:=by
  unfold o5
  cases h:m.ble n with
  |false=>have:¬m≤n:=by simpa [fa] using h
          show n=_;omega
  |true=>have:m≤n:=by simpa [fa] using h
         show m=_;omega
end Go.Eng
namespace Go.Eng
noncomputable section
structure fR where
 c:Nat
 off:Nat
 n:Nat
 r:Nat
 cap:Nat
 c7:Nat
 kE:Nat
abbrev bb:=Nat→Option fR
def bb.le (ι bk:bb):Prop:=∀b B,ι b=some B→bk b=some B
theorem bb.le.refl (ι:bb):ι.le ι:=fun _ _ h=>h
theorem bb.le.trans {a b c:bb} (h:a.le b) (aB:b.le c):a.le c:=fun _ _ e=>aB _ _ (h _ _ e)
def enc:List UInt8→Nat
 |[]=>0
 |b::l=>b.toNat+256 * enc l
def FZ (n x:Nat) (s:ByteArray):Prop:=s.data.toList.length=n∧enc s.data.toList=x
def Ae (B:fR) (o n:Nat) (cap:Option Nat) (a:Addr) (c:Nat):Prop:=
 match cap with
 |some k=>c=k∧a=⟨B.c,B.off+o,none⟩∧n≤k
 |none=>c=B.cap - o / B.r∧o % B.r=0∧0<B.r∧n≤c∧(a=⟨B.c,B.off+o,none⟩∨c=0)
mutual
def bL (ι:bb):V→Value→Prop
 | .bot,_=>True
 | .bool b,v=>v= .bool b
 | .int k n,v=>v= .int k n
 | .str n x,v=>∃s,v= .string s∧FZ n x s
 | .oj,v=>v= .pointer none
 | .ptr b o,v=>∃B,ι b=some B∧v= .pointer (some ⟨B.c,B.off+o,none⟩)
 | .U,v=>v= .slice none 0 0
 | .av b o n cap,v=>∃B a c,ι b=some B∧v= .slice (some a) n c∧Ae B o n cap a c
 | .k9,v=>v= .map none
 | .map b,v=>∃B,ι b=some B∧v= .map (some B.c)
 | .fn f l m,v=>∃xs ys,v= .func (.func f) xs ys∧cE ι l xs.toList∧cE ι m ys.toList
 | .om,v=>v= .nilFunc
 | .e8 t x,v=>∃y,v= .iface t y∧bL ι x y
 | .kj,v=>v= .nilIface
 | .agg l,v=>∃cs,v= .agg cs∧cE ι l cs.toList∧∀x∈cs.toList,x.oneCell'=true
 | .dD l,v=>∃cs,v= .tuple cs∧cE ι l cs.toList
def cE (ι:bb):List V→List Value→Prop
 |[],l=>l=[]
 |a::m,l=>∃x xs,l=x::xs∧bL ι a x∧cE ι m xs
end
mutual
theorem bL.mono {ι bk:bb} (h:ι.le bk):∀(v:V) (x:Value),bL ι v x→bL bk v x
 | .bot,_,_=>by simp [bL]
 | .bool b,v,e=>by simpa [bL] using e
 | .int k n,v,e=>by simpa [bL] using e
 | .str n x,v,e=>by simpa [bL] using e
 | .oj,v,e=>by simpa [bL] using e
 | .ptr b o,v,e=>by
   simp only [bL] at e ⊢;obtain ⟨B,bW,e⟩:=e;exact ⟨B,h _ _ bW,e⟩
 | .U,v,e=>by simpa [bL] using e
 | .av b o n cap,v,e=>by
   simp only [bL] at e ⊢;obtain ⟨B,a,c,bW,e⟩:=e;exact ⟨B,a,c,h _ _ bW,e⟩
 | .k9,v,e=>by simpa [bL] using e
 | .map b,v,e=>by
   simp only [bL] at e ⊢;obtain ⟨B,bW,e⟩:=e;exact ⟨B,h _ _ bW,e⟩
 | .fn f l m,v,e=>by
   simp only [bL] at e ⊢;obtain ⟨xs,ys,e,h1,h2⟩:=e;exact ⟨xs,ys,e,cE.mono h l _ h1,cE.mono h m _ h2⟩
 | .om,v,e=>by simpa [bL] using e
 | .e8 t x,v,e=>by
   simp only [bL] at e ⊢;obtain ⟨y,e,h1⟩:=e;exact ⟨y,e,bL.mono h x _ h1⟩
 | .kj,v,e=>by simpa [bL] using e
 | .agg l,v,e=>by
   simp only [bL] at e ⊢;obtain ⟨cs,e,h1,h2⟩:=e;exact ⟨cs,e,cE.mono h l _ h1,h2⟩
 | .dD l,v,e=>by
   simp only [bL] at e ⊢;obtain ⟨cs,e,h1⟩:=e;exact ⟨cs,e,cE.mono h l _ h1⟩
theorem cE.mono {ι bk:bb} (h:ι.le bk):∀(l:List V) (m:List Value),cE ι l m→cE bk l m
 |[],m,e=>by simpa [cE] using e
 |a::l,m,e=>by
  simp only [cE] at e ⊢;obtain ⟨x,xs,e,h1,h2⟩:=e;exact ⟨x,xs,e,bL.mono h a x h1,cE.mono h l xs h2⟩
end
theorem cE.length {ι:bb}:∀{l:List V} {m:List Value},cE ι l m→m.length=l.length
 |[],m,e=>by simp [cE] at e;simp [e]
 |a::l,m,e=>by
  simp only [cE] at e;obtain ⟨x,xs,rfl,h1,h2⟩:=e;simp [h2.length]
theorem cE.get {ι:bb}:∀{l:List V} {m:List Value},cE ι l m→∀{j:Nat} {v:V},l[j]? =some v→∃x,m[j]? =some x∧bL ι v x
 |[],m,e,j,v,h=>by simp at h
 |a::l,m,e,j,v,h=>by
  simp only [cE] at e;obtain ⟨x,xs,rfl,h1,h2⟩:=e
  cases j with
  |zero=>simp at h;subst h;exact ⟨x,by simp,h1⟩
  |succ j=>simp at h;obtain ⟨y,hy,aE⟩:=h2.get h;exact ⟨y,by simpa using hy,aE⟩
theorem cE.of {ι:bb}:∀{l:List V} {m:List Value},m.length=l.length→(∀(j:Nat) (v:V) (x:Value),l[j]? =some v→m[j]? =some x→bL ι v x)→cE ι l m
 |[],m,au,_=>by simp at au;simp [cE,au]
 |a::l,[],au,_=>by simp at au
 |a::l,x::m,au,h=>by
  simp only [cE]
  exact ⟨x,m,rfl,h 0 a x (by simp) (by simp),cE.of (by simpa using au) (fun j v y h1 h2=>h (j+1) v y (by simpa using h1) (by simpa using h2))⟩
theorem cE.append {ι:bb} {l aP:List V} {m kk:List Value} (h:cE ι l m) (aB:cE ι aP kk):cE ι (l++aP) (m++kk):=by
 induction l generalizing m with
 |nil=>simp [cE] at h;subst h;simpa using aB
 |cons a l bt=>
  simp only [cE] at h;obtain ⟨x,xs,rfl,h1,h2⟩:=h
  simp only [List.cons_append,cE];exact ⟨x,xs++kk,rfl,h1,bt h2⟩
def cellOf:Obj→Nat→Option V
 | .box row,j=>row[j]?
 | .cells r _ _ size rows,j=>if j<size then (T.get (j / r) rows).bind (·[j % r]?) else none
 |_,_=>none
def ow:Obj→Nat
 | .box row=>row.length
 | .cells _ _ _ size _=>size
 |_=>0
def Obj.isCells:Obj→Bool
 | .box _=>true
 | .cells .. =>true
 |_=>false
def q7 (r size:Nat) (rows:T (List V)):Prop:=
 0<r∧0≤size∧∀i row,0≤i→T.get i rows=some row→row.length=r∧(i+1) * r≤size
def xY (ι:bb):List qW→List MapEntry→Prop
 |[],l=>l=[]
 |e::m,l=>∃x xs,l=x::xs∧bL ι e.key x.key∧bL ι e.val x.val∧x.born=e.born∧xY ι m xs
theorem xY.mono {ι bk:bb} (h:ι.le bk):∀(l:List qW) (m:List MapEntry),xY ι l m→xY bk l m
 |[],m,e=>by simpa [xY] using e
 |a::l,m,e=>by
  simp only [xY] at e ⊢;obtain ⟨x,xs,e,h1,h2,bj,cy⟩:=e;exact ⟨x,xs,e,h1.mono h,h2.mono h,bj,cy.mono h⟩
def q8 (n:Nat) (fr:Nat×Nat):Prop:=fr.2≤fr.1∨n≤fr.1
def JX (B:fR):Obj→Nat→Prop
 | .cells r c7 kE size rows,n=>B.r=r∧B.c7=c7∧B.kE=kE∧n=B.off+B.cap * r∧q7 r size rows
 |_,_=>True
def CB:Obj→Bool
 | .box _=>true
 |_=>false
def o8 (B:fR) (o:Obj) (n:Nat) (fr:Nat×Nat):Prop:=if CB o then ∀k,B.off≤k→k<B.off+ow o→¬(fr.1≤k∧k<fr.2) else q8 n fr
theorem q8.b {B:fR} {o:Obj} {n:Nat} {fr:Nat×Nat} (h:q8 n fr) (hn:B.off+ow o≤n):o8 B o n fr:=by
 unfold o8
 split
 · intro k h1 h2 bj
   rcases h with h|h<;>omega
 · exact h
theorem o8.at_ {B:fR} {o:Obj} {n:Nat} {fr:Nat×Nat} (h:o8 B o n fr) {k:Nat} (h1:B.off≤k) (h2:k<B.off+ow o) (bj:k<n):¬(fr.1≤k∧k<fr.2):=by
 unfold o8 at h
 split at h
 · exact h k h1 h2
 · rcases h with h|h<;>omega
theorem q8.cells {B:fR} {r f a s n:Nat} {rows:T (List V)} {fr:Nat×Nat} (h:q8 n fr):o8 B (.cells r f a s rows) n fr:=h
theorem o8.ok {B:fR} {o:Obj} {n:Nat} {fr:Nat×Nat} (h:o8 B o n fr) (hb:CB o=false):q8 n fr:=by
 unfold o8 at h
 rw [hb] at h;exact h
theorem o8.WB {B:fR} {o fk:Obj} {n:Nat} {fr:Nat×Nat} (h:o8 B o n fr) (hb:CB fk=CB o) (aC:ow fk=ow o):o8 B fk n fr:=by
 unfold o8 at h ⊢
 rw [hb,aC];exact h
def Af (ι:bb) (B:fR) (o:Obj) (w:World):Prop:=
 ∃cs el fr,w.heap[B.c]? =some (.cells cs el fr)∧o8 B o cs.size fr∧B.n=ow o∧B.off+ow o≤cs.size∧JX B o cs.size∧
  ∀j v,cellOf o j=some v→∃x,cs[B.off+j]? =some x∧x.oneCell'=true∧bL ι v x
def nF (ι:bb) (B:fR):Obj→World→Prop
 | .box row,w=>Af ι B (.box row) w
 | .cells r c7 kE size rows,w=>Af ι B (.cells r c7 kE size rows) w
 | .dead,_=>True
 | .map es clock,w=>∃sg,w.heap[B.c]? =some (.map sg clock)∧xY ι es sg.toList
def Obj.iz:Obj→Bool
 | .box _=>true
 | .map .. =>true
 |_=>false
structure Good (ι:bb) (h:ag) (w:World):Prop where
 obj:∀b B o,ι b=some B→T.get b h.t=some o→b<h.next→nF ι B o w
 lb:∀b B,ι b=some B→B.c<w.heap.size
 same:∀b B bT bc,ι b=some B→ι bT=some bc→b<h.next→bT<h.next→8≤bT→B.c=bc.c→b≠bT→B.c7=bc.c7∧B.off+bc.kE=bc.off+B.kE
 c7:∀b B,ι b=some B→b<h.next→match T.get B.c7 h.bJ with
  |none=>B.c7=b
  |some F=>b∈F.mem
 last:∀b B F o,ι b=some B→b<h.next→T.get B.c7 h.bJ=some F→T.get b h.t=some o→o.isCells=true→B.kE+B.n≤F.last
 iz:∀b B o,ι b=some B→T.get b h.t=some o→b<h.next→o.iz=true→T.get B.c7 h.bJ=none
 mem:∀f F b,T.get f h.bJ=some F→b∈F.mem→b<h.next
 lim:8≤h.next
 lQ:∀b,0≤b→T.get b h.t≠none→b<h.next
 small:∀b,ι b≠none→0≤b
 u0:∀f,0≤f→T.get f h.bJ≠none→f<h.next
 o9:∀b B,ι b=some B→b<h.next→B.c7<h.next
structure si (ι:bb) (h:ag) (w w':World):Prop where
 wq:∀c,c<w.heap.size→(∀b B,ι b=some B→8≤b→b<h.next→B.c≠c)→w'.heap[c]? =w.heap[c]?
 size:w.heap.size≤w'.heap.size
 tape:w'.tape=w.tape
 os:w'.os=w.os
 out:w'.output=w.output
theorem si.refl (ι:bb) (h:ag) (w:World):si ι h w w:=⟨fun _ _ _=>rfl,Nat.le_refl _,rfl,rfl,rfl⟩
def Ext (h aB:ag) (ι bk:bb):Prop:=ι.le bk∧h.next≤aB.next∧∀b,ι b=none→bk b≠none→h.next≤b∧b<aB.next
theorem Ext.refl (h:ag) (ι:bb):Ext h h ι ι:=⟨bb.le.refl _,Nat.le_refl _,fun _ a b=>absurd a b⟩
theorem Ext.trans {h h1 h2:ag} {ι mS ox:bb} (a:Ext h h1 ι mS) (b:Ext h1 h2 mS ox):Ext h h2 ι ox:=by
 refine ⟨a.1.trans b.1,Nat.le_trans a.2.1 b.2.1,fun x hx hy=> ?_⟩
 cases OG:mS x with
 |none=>have:=b.2.2 x OG hy;exact ⟨Nat.le_trans a.2.1 this.1,this.2⟩
 |some B=>have:=a.2.2 x hx (by simp [OG]);exact ⟨this.1,Nat.lt_of_lt_of_le this.2 b.2.1⟩
theorem nF.mono {ι bk:bb} (h:ι.le bk) {B:fR} {o:Obj} {w:World} (e:nF ι B o w):nF bk B o w:=by
 cases o with
 |box row=>
  obtain ⟨cs,el,fr,h1,h2,bj,cy,gh,lf⟩:=e
  exact ⟨cs,el,fr,h1,h2,bj,cy,gh,fun j v aV=>let ⟨x,a,b,c⟩:=lf j v aV;⟨x,a,b,c.mono h⟩⟩
 |cells r f a n t=>
  obtain ⟨cs,el,fr,h1,h2,bj,cy,gh,lf⟩:=e
  exact ⟨cs,el,fr,h1,h2,bj,cy,gh,fun j v aV=>let ⟨x,a,b,c⟩:=lf j v aV;⟨x,a,b,c.mono h⟩⟩
 |dead=>trivial
 |map es c=>obtain ⟨sg,h1,h2⟩:=e;exact ⟨sg,h1,h2.mono h⟩
theorem nF.world {ι:bb} {B:fR} {o:Obj} {w w':World} (e:nF ι B o w) (h:w'.heap[B.c]? =w.heap[B.c]?):nF ι B o w':=by
 cases o with
 |box row=>obtain ⟨cs,el,fr,h1,h2⟩:=e;exact ⟨cs,el,fr,h.trans h1,h2⟩
 |cells r f a n t=>obtain ⟨cs,el,fr,h1,h2⟩:=e;exact ⟨cs,el,fr,h.trans h1,h2⟩
 |dead=>trivial
 |map es c=>obtain ⟨sg,h1,h2⟩:=e;exact ⟨sg,h.trans h1,h2⟩
theorem Good.world {ι:bb} {h:ag} {w w':World} (g:Good ι h w) (e:∀c,c<w.heap.size→w'.heap[c]? =w.heap[c]?) (aC:w.heap.size≤w'.heap.size):Good ι h w':=
 ⟨fun b B o a c d=>(g.obj b B o a c d).world (e _ (g.lb b B a)),fun b B a=>Nat.lt_of_lt_of_le (g.lb b B a) aC,g.same,g.c7,g.last,g.iz,g.mem,g.lim,g.lQ,g.small,g.u0,g.o9⟩
end
end Go.Eng
namespace Go.Eng
noncomputable section
theorem F0 {r q c x:Nat} (h:c<r) (hx:x=r * q+c):x / r=q∧x % r=c:=by
 subst hx
 have hr:0<r:=by omega
 rw [Nat.mul_add_div hr,Nat.div_eq_of_lt h,Nat.mul_add_mod,Nat.mod_eq_of_lt h];exact ⟨rfl,rfl⟩
theorem WC (t:T (List V)) (k i:Nat):lN t (k+1) i=match T.get i t with
  |none=>none
  |some row=>match lN t k (i+1) with
   |none=>none
   |some l=>some (gd row l):=by
 show (Option.rec none (fun row=>Option.rec none (fun l=>some (gd row l)) (lN t k (i+1))) (T.get i t):Option (List V))=_
 cases T.get i t with
 |none=>rfl
 |some row=>cases lN t k (i+1)<;>rfl
theorem WD (t:T (List V)) (i:Nat):lN t 0 i=some []:=rfl
theorem JY {r size:Nat} {rows:T (List V)} (hw:q7 r size rows):∀(k i:Nat) (l:List V),0≤i+k→lN rows k i=some l→
  l.length=k * r∧∀q c,q<k→c<r→l[q * r+c]? =(T.get (i+q) rows).bind (·[c]?)
 |0,i,l,_,h=>by
  have:l=[]:=by rw [WD] at h;simpa using h.symm
  subst this;exact ⟨by simp,fun q c bC _=>absurd bC (by omega)⟩
 |k+1,i,l,F1,h=>by
  rw [WC] at h
  cases hr:T.get i rows with
  |none=>simp [hr] at h
  |some row=>
   cases au:lN rows k (i+1) with
   |none=>simp [hr,au] at h
   |some aP=>
    simp only [hr,au,pZ,Option.some.injEq] at h
    subst h
    obtain ⟨h1,h2⟩:=JY hw k (i+1) aP (by omega) au
    have hlen:=(hw.2.2 i row (by omega) hr).1
    refine ⟨by simp [hlen,h1,Nat.add_mul];omega,fun q c bC ax=> ?_⟩
    cases q with
    |zero=>
     have:c<row.length:=by omega
     simp [hr,List.getElem?_append_left this]
    |succ q=>
     rw [List.getElem?_append_right (by rw [hlen,Nat.add_mul];omega)]
     have:=h2 q c (by omega) ax
     rw [hlen,show (q+1) * r+c - r=q * r+c by rw [Nat.add_mul];omega,this,show i+1+q=i+(q+1) by omega]
theorem WE {r size:Nat} {rows:T (List V)} (f a:Nat) (hw:q7 r size rows) {o n:Nat} {l:List V} (hn:o+n≤size) (h:cut r o n rows=some l):
  l.length=n∧∀j,j<n→cellOf (.cells r f a size rows) (o+j)=l[j]? :=by
 obtain ⟨hr,aC,dh⟩:=hw
 have hw:q7 r size rows:=⟨hr,aC,dh⟩
 have F2:=Nat.div_add_mod o r
 unfold cut at h
 have bC:o<size→0≤o / r:=fun _=>Nat.zero_le _
 have JZ:o.mod r=o % r:=rfl
 have hdiv:o.div r=o / r:=rfl
 rw [JZ,hdiv] at h
 simp only [jr,fa] at h
 by_cases c1:n=r∧o % r=0
 · obtain ⟨rfl,dj⟩:=c1
   simp only [decide_true,dj,Bool.and_self,cond_true] at h
   have hlen:=(dh _ l (bC (by omega)) h).1
   refine ⟨hlen,fun j aV=> ?_⟩
   obtain ⟨d1,d2⟩:=F0 (x:=o+j) (q:=o / n) aV (by omega)
   simp only [cellOf,d1,d2,h,Option.bind_some,if_pos (show o+j<size by omega)]
 · rw [show (decide (n=r)&&decide (o % r=0))=false by simpa using c1] at h
   simp only [cond_false] at h
   by_cases c2:o % r+n≤r
   · rw [show decide (Nat.add (o % r) n≤r)=true by simpa using c2] at h
     simp only [cond_true] at h
     by_cases wu:n=0
     · subst wu
       cases hg:T.get (o / r) rows with
       |none=>simp [hg] at h
       |some row=>simp [hg] at h;subst h;exact ⟨rfl,fun j aV=>absurd aV (by omega)⟩
     cases hg:T.get (o / r) rows with
     |none=>simp [hg] at h
     |some row=>
      simp only [hg,FW,tt,Option.some.injEq] at h
      subst h
      have hlen:=(dh _ row (bC (by omega)) hg).1
      refine ⟨by simp [hlen];omega,fun j aV=> ?_⟩
      obtain ⟨d1,d2⟩:=F0 (x:=o+j) (r:=r) (q:=o / r) (c:=o % r+j) (by omega) (by omega)
      simp only [cellOf,d1,d2,hg,Option.bind_some,if_pos (show o+j<size by omega)]
      rw [List.getElem?_take_of_lt aV,List.getElem?_drop]
   · rw [show decide (Nat.add (o % r) n≤r)=false by simpa using c2] at h
     simp only [cond_false] at h
     by_cases cI:o % r=0∧n % r=0
     · obtain ⟨cI,dv⟩:=cI
       have CC:n.mod r=n % r:=rfl
       have p2:n.div r=n / r:=rfl
       rw [CC,p2] at h
       simp only [cI,dv,decide_true,Bool.and_self,cond_true] at h
       have WG:=Nat.div_add_mod n r
       have u1:0≤o / r+n / r:=Nat.zero_le _
       obtain ⟨h1,h2⟩:=JY hw _ _ _ u1 h
       refine ⟨by rw [h1,Nat.mul_comm];omega,fun j aV=> ?_⟩
       have CD:=Nat.div_add_mod j r
       have nG:=Nat.mod_lt j hr
       have WH:j / r<n / r:=by
        apply Nat.div_lt_of_lt_mul;omega
       obtain ⟨d1,d2⟩:=F0 (x:=o+j) (r:=r) (q:=o / r+j / r) (c:=j % r) nG (by rw [Nat.mul_add];omega)
       have:=h2 (j / r) (j % r) WH nG
       rw [show j / r * r+j % r=j by rw [Nat.mul_comm];exact CD] at this
       simp only [cellOf,d1,d2,if_pos (show o+j<size by omega),this]
     · have CC:n.mod r=n % r:=rfl
       rw [CC,show (decide (o % r=0)&&decide (n % r=0))=false by simpa using cI] at h
       simp at h
def F3:Obj→Prop
 | .cells r _ _ size rows=>q7 r size rows
 |_=>True
theorem WI {h:ag} {b o n:Nat} {l:List V} (au:h.load b o n=some l):
  (n=0∧l=[])∨∃aO,T.get b h.t=some aO∧aO.isCells=true∧o+n≤ow aO∧(F3 aO→l.length=n∧∀j,j<n→cellOf aO (o+j)=l[j]?):=by
 unfold ag.load at au
 rw [jr] at au
 by_cases hn:n=0
 · left;simp [hn] at au;exact ⟨hn,au⟩
 · right
   simp only [hn,decide_false,cond_false] at au
   cases hg:T.get b h.t with
   |none=>simp [ag.obj,hg,Obj.any] at au
   |some aO=>
    refine ⟨aO,rfl, ?_⟩
    cases aO with
    |dead=>simp [ag.obj,hg,Obj.any] at au
    |map es c=>simp [ag.obj,hg,Obj.any] at au
    |box row=>
     simp only [ag.obj,hg,Obj.any,me,fa,FW,tt] at au
     have hle:o+n≤row.length:=by
      by_cases ax:o+n≤row.length
      · exact ax
      · simp [ax] at au
     simp [hle] at au
     subst au
     refine ⟨rfl,hle,fun _=>⟨by simp;omega,fun j aV=> ?_⟩⟩
     rw [List.getElem?_take_of_lt aV,List.getElem?_drop];rfl
    |cells r f a size rows=>
     simp only [ag.obj,hg,Obj.any,fa] at au
     have hle:o+n≤size:=by
      by_cases ax:o+n≤size
      · exact ax
      · simp [ax] at au
     simp [hle] at au
     exact ⟨rfl,hle,fun hw=>WE f a hw hle au⟩
theorem nF.cells {ι:bb} {B:fR} {aO:Obj} {w:World} (h:nF ι B aO w) (ax:aO.isCells=true):Af ι B aO w:=by
 cases aO<;>first|exact h|simp [Obj.isCells] at ax
theorem Af.wf {ι:bb} {B:fR} {aO:Obj} {w:World} (h:Af ι B aO w):F3 aO:=by
 obtain ⟨cs,el,fr,h1,h2,bj,cy,gh,lf⟩:=h
 cases aO with
 |cells r f a n t=>exact gh.2.2.2.2
 |_=>trivial
theorem Ag {ι:bb} {h:ag} {w:World} (g:Good ι h w) {b:Nat} {B:fR} (bW:ι b=some B) {o n:Nat} {l:List V} (au:h.load b o n=some l):
  ∃xs:List Value,xs.length=n∧cE ι l xs∧(∀x∈xs,x.oneCell'=true)∧∀j x,xs[j]? =some x→w.cell? ⟨B.c,B.off+o+j,none⟩=some x:=by
 rcases WI au with ⟨rfl,rfl⟩|⟨aO,bq,ax,hle,hw⟩
 · exact ⟨[],rfl,rfl,by simp,by simp⟩
 · have hb:=g.lQ b (g.small b (by simp [bW])) (by simp [bq])
   have hr:=(g.obj b B aO bW bq hb).cells ax
   have u2:=hr.wf
   obtain ⟨hlen,hcell⟩:=hw u2
   obtain ⟨cs,el,fr,h1,h2,bj,cy,gh,lf⟩:=hr
   refine ⟨(cs.toList.drop (B.off+o)).take n,by simp;omega,cE.of (by simp [hlen];omega) ?_, ?_, ?_⟩
   · intro j v x aE hx
     have aV:j<n:=by
      have:=List.getElem?_eq_some_iff.1 aE;obtain ⟨h,_⟩:=this;omega
     rw [List.getElem?_take_of_lt aV,List.getElem?_drop] at hx
     obtain ⟨gR,a1,a2,a3⟩:=lf (o+j) v ((hcell j aV).trans aE)
     have:cs[B.off+(o+j)]? =some x:=by rw [←hx,show B.off+(o+j)=B.off+o+j by omega];simp
     rw [this] at a1;cases a1;exact a3
   · intro x hx
     obtain ⟨j,hx⟩:=List.mem_iff_getElem?.1 hx
     have aV:=(List.getElem?_eq_some_iff.1 hx).1
     have mT:j<n:=by simp at aV;omega
     rw [List.getElem?_take_of_lt mT,List.getElem?_drop] at hx
     have aE:=hcell j mT
     cases OH:l[j]? with
     |none=>have:=List.getElem?_eq_none_iff.1 OH;omega
     |some v=>
      obtain ⟨gR,a1,a2,a3⟩:=lf (o+j) v (aE.trans OH)
      have:cs[B.off+(o+j)]? =some x:=by rw [←hx,show B.off+(o+j)=B.off+o+j by omega];simp
      rw [this] at a1;cases a1;exact a2
   · intro j x hx
     have mT:j<n:=by
      have:=(List.getElem?_eq_some_iff.1 hx).1;simp at this;omega
     rw [List.getElem?_take_of_lt mT,List.getElem?_drop] at hx
     simp only [World.cell?,h1,Option.isSome_none,Bool.false_eq_true,if_false]
     simpa using hx
theorem WJ {h:ag} {b o:Nat} {v:V} (au:h.eZ b o=some v):
  ∃aO,T.get b h.t=some aO∧aO.isCells=true∧(F3 aO→cellOf aO o=some v):=by
 unfold ag.eZ at au
 cases hg:T.get b h.t with
 |none=>simp [ag.obj,hg,we] at au
 |some aO=>
  refine ⟨aO,rfl, ?_⟩
  cases aO with
  |dead=>simp [ag.obj,hg,we] at au
  |map es c=>simp [ag.obj,hg,we] at au
  |box row=>
   simp only [ag.obj,hg,we,tt,CA,List.head?_drop] at au
   exact ⟨rfl,fun _=>au⟩
  |cells r f a size rows=>
   simp only [ag.obj,hg,we,gG] at au
   have hle:o<size:=by
    by_cases ax:o<size
    · exact ax
    · simp [ax] at au
   simp only [hle,decide_true] at au
   refine ⟨rfl,fun hw=> ?_⟩
   simp only [cellOf,if_pos hle]
   unfold kH at au
   have aT:o.div r=o / r:=rfl
   have bu:o.mod r=o % r:=rfl
   rw [aT,bu] at au
   cases hr:T.get (o / r) rows with
   |none=>simp [hr] at au
   |some row=>simp only [hr,tt,CA,List.head?_drop] at au;simpa using au
theorem OI {ι:bb} {h:ag} {w:World} (g:Good ι h w) {b:Nat} {B:fR} (bW:ι b=some B) {o:Nat} {v:V} (au:h.eZ b o=some v):
  ∃x,bL ι v x∧x.oneCell'=true∧w.cell? ⟨B.c,B.off+o,none⟩=some x:=by
 obtain ⟨aO,bq,ax,hw⟩:=WJ au
 have hb:=g.lQ b (g.small b (by simp [bW])) (by simp [bq])
 have hr:=(g.obj b B aO bW bq hb).cells ax
 have u2:=hr.wf
 obtain ⟨cs,el,fr,h1,h2,bj,cy,gh,lf⟩:=hr
 obtain ⟨x,a1,a2,a3⟩:=lf o v (hw u2)
 exact ⟨x,a3,a2,by simp only [World.cell?,h1,Option.isSome_none,Bool.false_eq_true,if_false];exact a1⟩
theorem CF {g:Nat}:∀(vs:List Value) (o:Nat) (w:World) (k:Nat),k≠g→(w.setCells g o vs).heap[k]? =w.heap[k]?
 |[],_,_,_,_=>rfl
 |v::r,o,w,k,hk=>by
  rw [World.setCells,CF r (o+1) _ k hk]
  simp only [World.setCell];rw [Array.getElem?_modify];simp [Ne.symm hk]
theorem CG (g:Nat):∀(vs:List Value) (o:Nat) (w:World),(w.setCells g o vs).os=w.os∧(w.setCells g o vs).tape=w.tape∧(w.setCells g o vs).output=w.output∧(w.setCells g o vs).heap.size=w.heap.size
 |[],_,_=>⟨rfl,rfl,rfl,rfl⟩
 |v::r,o,w=>by
  obtain ⟨a,b,c,d⟩:=CG g r (o+1) (w.setCell ⟨g,o,none⟩ v)
  rw [World.setCells]
  exact ⟨a,b,c,d.trans (by simp [World.setCell])⟩
theorem CH {g:Nat} {el:TypeId} {fr:Nat×Nat}:∀(vs:List Value) (o:Nat) (w:World) (cs:Array Value),w.heap[g]? =some (.cells cs el fr)→o+vs.length≤cs.size→
  ∃mU,(w.setCells g o vs).heap[g]? =some (.cells mU el fr)∧mU.size=cs.size∧∀k,mU[k]? =if o≤k∧k<o+vs.length then vs[k - o]? else cs[k]?
 |[],o,w,cs,h,_=>⟨cs,h,rfl,fun k=>by rw [if_neg (by simp)]⟩
 |v::r,o,w,cs,h,hn=>by
  have h1:(w.setCell ⟨g,o,none⟩ v).heap[g]? =some (.cells (cs.setIfInBounds o v) el fr):=by
   simp only [World.setCell];rw [Array.getElem?_modify];simp [h]
  obtain ⟨mU,a,b,c⟩:=CH r (o+1) _ _ h1 (by simp at hn ⊢;omega)
  refine ⟨mU,by rw [World.setCells];exact a,b.trans (by simp),fun k=> ?_⟩
  rw [c]
  by_cases hk:o+1≤k∧k<o+1+r.length
  · rw [if_pos hk,if_pos (by simp;omega),show k - o=k - (o+1)+1 by omega];simp
  · rw [if_neg hk]
    by_cases wv:k=o
    · subst wv
      rw [if_pos (by simp)]
      have:k<cs.size:=by simp at hn;omega
      rw [Array.getElem?_setIfInBounds];simp [this]
    · rw [if_neg (by simp;omega),Array.getElem?_setIfInBounds_ne (by omega)]
end
end Go.Eng
namespace Go.Eng
noncomputable section
def tv (r:Nat) (rows:T (List V)) (j:Nat):Option V:=(T.get (j / r) rows).bind (·[j % r]?)
def e4 (r:Nat):Nat→Nat→List V→T (List V)→T (List V)
 |0,_,_,t=>t
 |k+1,i,vs,t=>e4 r k (i+1) (vs.drop r) (T.set i (vs.take r) t)
theorem WK {R:Type} (r k i:Nat) (vs:List V) (t:T (List V)) (c:T (List V)→R):
  gQ r (k+1) i vs t c=hU (nC r vs) fun row=>T.dF i row t fun t=>gQ r k (i+1) (ix r vs) t c:=rfl
@[simp] theorem iI {R:Type} (r k i:Nat) (vs:List V) (t:T (List V)) (c:T (List V)→R):gQ r k i vs t c=c (e4 r k i vs t):=by
  induction k generalizing i vs t with
  |zero=>rfl
  |succ k bt=>rw [WK];simp only [nE,T.iY,FW,tt,e4];exact bt _ _ _
theorem q9 (r:Nat):∀(k i:Nat) (vs:List V) (t:T (List V)) (q:Nat),0≤i+k→0≤q→
  T.get q (e4 r k i vs t)=if i≤q∧q<i+k then some ((vs.drop ((q - i) * r)).take r) else T.get q t
 |0,i,vs,t,q,_,_=>by rw [if_neg (by omega)];rfl
 |k+1,i,vs,t,q,hk,bC=>by
  rw [e4,q9 r k (i+1) _ _ q (by omega) bC]
  by_cases h:i+1≤q∧q<i+1+k
  · rw [if_pos h,if_pos (by omega),List.drop_drop,show q - i=q - (i+1)+1 by omega,Nat.add_mul,Nat.one_mul,Nat.add_comm]
  · rw [if_neg h,T.fJ bC (by omega)]
    by_cases h2:q=i
    · subst h2;simp
    · rw [if_neg h2,if_neg (by omega)]
theorem J0 {r k i:Nat} (hr:0<r) (vs:List V) (aE:vs.length=k * r) (t:T (List V)) (hk:0≤i+k) (j:Nat) (aV:0≤j):
  tv r (e4 r k i vs t) j=if i * r≤j∧j<(i+k) * r then vs[j - i * r]? else tv r t j:=by
 have bC:0≤j / r:=Nat.zero_le _
 have F2:=Nat.div_add_mod j r
 have sj:=Nat.mod_lt j hr
 unfold tv
 rw [q9 r k i vs t _ hk bC]
 by_cases h:i≤j / r∧j / r<i+k
 · have h1:i * r≤j:=by have:=Nat.mul_le_mul_left r h.1;rw [Nat.mul_comm];omega
   have h2:j<(i+k) * r:=by
    have:=Nat.mul_le_mul_left r (show j / r+1≤i+k by omega)
    rw [Nat.mul_add] at this;rw [Nat.mul_comm];omega
   rw [if_pos h,if_pos ⟨h1,h2⟩]
   simp only [Option.bind_some]
   rw [List.getElem?_take_of_lt sj,List.getElem?_drop]
   congr 1
   have:r * (j / r)=r * i+r * (j / r - i):=by rw [←Nat.mul_add];congr 1;omega
   rw [Nat.mul_comm (j / r - i) r,Nat.mul_comm i r];omega
 · rw [if_neg h,if_neg]
   rintro ⟨h1,h2⟩
   apply h
   constructor
   · exact (Nat.le_div_iff_mul_le hr).2 h1
   · exact Nat.div_lt_of_lt_mul (by rw [Nat.mul_comm];exact h2)
def wx (r o n:Nat) (vs:List V) (rows:T (List V)):Option (T (List V)):=over none r o n vs rows some
theorem OJ {R:Type} (d:R) (r o n:Nat) (vs:List V) (rows:T (List V)) (k:T (List V)→R):
  over d r o n vs rows k=match wx r o n vs rows with|none=>d|some t=>k t:=by
 unfold wx over
 cases (n.beq r&&(o.mod r).beq 0) with
 |true=>simp
 |false=>
  simp only [cond_false]
  cases ((o.mod r).add n).ble r with
  |true=>
   simp only [cond_true]
   cases T.get (o.div r) rows<;>simp
  |false=>
   simp only [cond_false]
   cases ((o.mod r).beq 0&&(n.mod r).beq 0)<;>simp
theorem OL {r o n size:Nat} {vs:List V} {rows rows':T (List V)} (hw:q7 r size rows) (aE:vs.length=n) (hn:o+n≤size) (wu:0<n) (h:wx r o n vs rows=some rows'):
  q7 r size rows'∧∀j,j<size→tv r rows' j=if o≤j∧j<o+n then vs[j - o]? else tv r rows j:=by
 obtain ⟨hr,aC,dh⟩:=hw
 have F2:=Nat.div_add_mod o r
 have sj:=Nat.mod_lt o hr
 have J1:0≤o / r:=Nat.zero_le _
 have JZ:o.mod r=o % r:=rfl
 have hdiv:o.div r=o / r:=rfl
 unfold wx over at h
 rw [JZ,hdiv] at h
 simp only [jr,fa] at h
 have one:∀row:List V,row.length=r→(∀c,c<r→row[c]? =if o % r≤c∧c<o % r+n then vs[c - o % r]? else (T.get (o / r) rows).bind (·[c]?))→o % r+n≤r→
   q7 r size (T.set (o / r) row rows)∧∀j,j<size→tv r (T.set (o / r) row rows) j=if o≤j∧j<o+n then vs[j - o]? else tv r rows j:=by
  intro row hlen J2 hle
  have aik:(o / r+1) * r≤size∨¬(o / r+1) * r≤size:=by omega
  refine ⟨⟨hr,aC,fun i x aq hx=> ?_⟩,fun j aV=> ?_⟩
  · rw [T.fJ aq J1] at hx
    by_cases he:i=o / r
    · rw [if_pos he] at hx;cases hx
      refine ⟨hlen, ?_⟩
      subst he
      by_cases F4:n=r
      · have:o % r=0:=by omega
        rw [Nat.add_mul,Nat.one_mul,Nat.mul_comm];omega
      ·
       cases hg:T.get (o / r) rows with
       |some y=>exact (dh _ y aq hg).2
       |none=>
        exfalso
        by_cases h0:o % r=0
        · have J3:row[n]? =none:=by rw [J2 n (by omega),if_neg (by omega),hg];rfl
          rw [List.getElem?_eq_none_iff] at J3;omega
        · have J3:row[0]? =none:=by rw [J2 0 hr,if_neg (by omega),hg];rfl
          rw [List.getElem?_eq_none_iff] at J3;omega
    · rw [if_neg he] at hx;exact dh i x aq hx
  · have bC:0≤j / r:=Nat.zero_le _
    have OM:=Nat.div_add_mod j r
    have nH:=Nat.mod_lt j hr
    unfold tv
    rw [T.fJ bC J1]
    by_cases he:j / r=o / r
    · rw [if_pos he]
      simp only [Option.bind_some]
      rw [J2 _ nH,he]
      have ail:r * (j / r)=r * (o / r):=by rw [he]
      by_cases ax:o≤j∧j<o+n
      · rw [if_pos ax,if_pos (by omega)];congr 1;omega
      · rw [if_neg ax,if_neg (by omega)]
    · rw [if_neg he,if_neg]
      rintro ⟨h1,h2⟩
      apply he
      have:r * (o / r)≤j∧j<r * (o / r)+r:=by omega
      exact Nat.div_eq_of_lt_le (by rw [Nat.mul_comm];omega) (by rw [Nat.mul_comm,Nat.mul_add];omega)
 by_cases c1:n=r∧o % r=0
 · obtain ⟨rfl,dj⟩:=c1
   simp only [decide_true,dj,Bool.and_self,cond_true,nE,T.iY,Option.some.injEq] at h
   subst h
   exact one vs aE (fun c ax=>by rw [if_pos (by omega),dj,Nat.sub_zero]) (by omega)
 · rw [show (decide (n=r)&&decide (o % r=0))=false by simpa using c1] at h
   simp only [cond_false] at h
   by_cases c2:o % r+n≤r
   · rw [show decide (Nat.add (o % r) n≤r)=true by simpa using c2] at h
     simp only [cond_true] at h
     cases hg:T.get (o / r) rows with
     |none=>simp [hg] at h
     |some row=>
      obtain ⟨hlen,J4⟩:=dh _ row J1 hg
      simp only [hg,nE,T.iY,Option.some.injEq] at h
      subst h
      have oy:=JW (o % r) vs row (by omega)
      refine one _ (by rw [oy];simp;omega) (fun c ax=> ?_) c2
      rw [oy]
      by_cases h1:c<o % r
      · rw [if_neg (by omega),List.append_assoc,List.getElem?_append_left (by simp;omega),List.getElem?_take_of_lt h1,hg];rfl
      · by_cases h2:c<o % r+n
        · rw [if_pos (by omega),List.append_assoc,List.getElem?_append_right (by simp;omega),List.getElem?_append_left (by simp;omega)]
          congr 1;simp;omega
        · rw [if_neg (by omega),List.getElem?_append_right (by simp;omega),List.getElem?_drop]
          rw [hg,Option.bind_some];congr 1;simp;omega
   · rw [show decide (Nat.add (o % r) n≤r)=false by simpa using c2] at h
     simp only [cond_false] at h
     have CC:n.mod r=n % r:=rfl
     have p2:n.div r=n / r:=rfl
     rw [CC,p2] at h
     by_cases cI:o % r=0∧n % r=0
     · obtain ⟨cI,dv⟩:=cI
       simp only [cI,dv,decide_true,Bool.and_self,cond_true,iI,Option.some.injEq] at h
       subst h
       have WG:=Nat.div_add_mod n r
       have u1:0≤o / r+n / r:=Nat.zero_le _
       have hlen:vs.length=n / r * r:=by rw [Nat.mul_comm];omega
       have aT:o / r * r=o:=by rw [Nat.mul_comm];omega
       have bu:(o / r+n / r) * r=o+n:=by rw [Nat.mul_comm,Nat.mul_add];omega
       refine ⟨⟨hr,aC,fun i x aq hx=> ?_⟩,fun j aV=> ?_⟩
       · rw [q9 r _ _ _ _ _ u1 aq] at hx
         by_cases ax:o / r≤i∧i<o / r+n / r
         · rw [if_pos ax] at hx
           cases hx
           have bj:(i - o / r+1) * r≤n / r * r:=Nat.mul_le_mul_right r (by omega)
           rw [Nat.add_mul,Nat.one_mul] at bj
           refine ⟨by simp;omega, ?_⟩
           have cy:(i+1) * r≤(o / r+n / r) * r:=Nat.mul_le_mul_right r (by omega)
           omega
         · rw [if_neg ax] at hx;exact dh i x aq hx
       · rw [J0 hr vs hlen rows u1 j (by omega),aT,bu]
     · rw [show (decide (o % r=0)&&decide (n % r=0))=false by simpa using cI] at h
       simp at h
end
end Go.Eng
namespace Go.Eng
noncomputable section
def u3 (bH aq m:Nat) (h:ag):ag:=tm bH aq m h id
@[simp] theorem sk {R:Type} (h:ag) (b:Nat) (o:Obj) (k:ag→R):h.kG b o k=k ⟨T.set b o h.t,h.next,h.bJ,h.ds,h.bI⟩:=by simp [ag.kG]
theorem WL {R:Type} (bH aq m:Nat) (h:ag) (k:ag→R):tm bH aq m h k=k (u3 bH aq m h):=by
 unfold u3 tm Obj.cells?
 cases h.obj m with
 |none=>rfl
 |some aO=>cases aO with
  |cells r f a n t=>dsimp only;cases (a.blt aq&&bH.blt (Nat.add a n))<;>simp
  |_=>rfl
def lg (bH aq but:Nat):List Nat→ag→ag
 |[],h=>h
 |m::l,h=>lg bH aq but l (if m=but then h else u3 bH aq m h)
theorem ON {R:Type} (bH aq but m:Nat) (l:List Nat) (h:ag) (k:ag→R):
  tn bH aq but (m::l) h k=Bool.rec (tm bH aq m h fun h=>tn bH aq but l h k) (tn bH aq but l h k) (m.beq but):=rfl
theorem OO {R:Type} (bH aq but:Nat) (l:List Nat) (h:ag) (k:ag→R):tn bH aq but l h k=k (lg bH aq but l h):=by
 induction l generalizing h with
 |nil=>rfl
 |cons m l bt=>
  rw [ON,jr,lg]
  by_cases e:m=but
  · simp only [e,decide_true,if_true];exact bt _
  · simp only [e,decide_false,if_false,WL];exact bt _
structure mV (h aB:ag):Prop where
 next:aB.next=h.next
 bJ:aB.bJ=h.bJ
 ds:aB.ds=h.ds
 bI:aB.bI=h.bI
 at_:∀b,0≤b→T.get b aB.t=T.get b h.t∨(T.get b aB.t=some .dead∧T.get b h.t≠none)
theorem mV.refl (h:ag):mV h h:=⟨rfl,rfl,rfl,rfl,fun _ _=> .inl rfl⟩
theorem mV.trans {a b c:ag} (x:mV a b) (y:mV b c):mV a c:=
 ⟨y.next.trans x.next,y.bJ.trans x.bJ,y.ds.trans x.ds,y.bI.trans x.bI,fun i aq=>by
   rcases y.at_ i aq with h|⟨h,hn⟩
   · rw [h];exact x.at_ i aq
   · refine .inr ⟨h,fun e=>hn ?_⟩
     rcases x.at_ i aq with h2|⟨h2,bj⟩
     · rw [h2,e]
     · exact absurd e bj⟩
theorem WM (bH aq m:Nat) (h:ag) (hm:0≤m):mV h (u3 bH aq m h)∧
  (∀r f a n t,T.get m h.t=some (.cells r f a n t)→a<aq→bH<a+n→T.get m (u3 bH aq m h).t=some .dead):=by
 unfold u3 tm Obj.cells? ag.obj
 cases hg:T.get m h.t with
 |none=>exact ⟨mV.refl h,fun r f a n t e=>by cases e⟩
 |some aO=>
  cases aO with
  |cells r f a n t=>
   simp only
   cases hb:(a.blt aq&&bH.blt (Nat.add a n)) with
   |false=>
    refine ⟨mV.refl h,fun eT dG bp gf hY e h1 h2=> ?_⟩
    cases e
    have Ah:bH<Nat.add a n:=h2
    simp only [gG,Bool.and_eq_false_iff,decide_eq_false_iff_not] at hb
    rcases hb with hb|hb
    · exact absurd h1 hb
    · exact absurd Ah hb
   |true=>
    simp only [sk,id]
    refine ⟨⟨rfl,rfl,rfl,rfl,fun b eH=> ?_⟩,fun _ _ _ _ _ _ _ _=>T.Ab _ _ _⟩
    rw [T.fJ eH hm]
    by_cases e:b=m
    · right;subst e;simp [hg]
    · left;rw [if_neg e]
  |_=>exact ⟨mV.refl h,fun r f a n t e=>by cases e⟩
theorem Ai (bH aq but:Nat):∀(l:List Nat) (h:ag),(∀m∈l,0≤m)→mV h (lg bH aq but l h)∧
  (∀m,m∈l→m≠but→∀r f a n t,T.get m h.t=some (.cells r f a n t)→a<aq→bH<a+n→T.get m (lg bH aq but l h).t=some .dead)∧
  T.get but (lg bH aq but l h).t=T.get but h.t∨¬0≤but
 |[],h,_=> .inl ⟨mV.refl h,fun m hm=>by simp at hm,rfl⟩
 |m::l,h,au=>by
  by_cases F5:0≤but
  case neg=>exact .inr F5
  left
  rw [lg]
  by_cases e:m=but
  · rw [if_pos e]
    rcases Ai bH aq but l h (fun x hx=>au x (by simp [hx])) with ⟨h1,h2,bj⟩|cy
    · exact ⟨h1,fun x hx bO=>h2 x (by simp at hx;rcases hx with rfl|hx;exact absurd e bO;exact hx) bO,bj⟩
    · exact absurd F5 cy
  · rw [if_neg e]
    have hm:=au m (by simp)
    obtain ⟨cH,c6⟩:=WM bH aq m h hm
    rcases Ai bH aq but l (u3 bH aq m h) (fun x hx=>au x (by simp [hx])) with ⟨h1,h2,bj⟩|cy
    · refine ⟨cH.trans h1,fun x hx bO r f a n t hg ha hb=> ?_, ?_⟩
      · by_cases OP:x=m
        · subst OP
          have:=c6 r f a n t hg ha hb
          rcases h1.at_ x hm with gh|⟨gh,_⟩
          · rw [gh,this]
          · exact gh
        · have xZ:x∈l:=by simp at hx;rcases hx with hx|hx;exact absurd hx OP;exact hx
          have iJ:=au x (by simp [xZ])
          rcases cH.at_ x iJ with gh|⟨gh,_⟩
          · exact h2 x xZ bO r f a n t (by rw [gh,hg]) ha hb
          · rcases h1.at_ x iJ with lf|⟨lf,_⟩
            · rw [lf,gh]
            · exact lf
      · rw [bj]
        unfold u3 tm Obj.cells? ag.obj
        cases hg:T.get m h.t with
        |none=>rfl
        |some aO=>
         cases aO with
         |cells r f a n t=>
          simp only
          cases (a.blt aq&&bH.blt (Nat.add a n)) with
          |false=>rfl
          |true=>simp only [sk,id];rw [T.fJ F5 hm,if_neg (fun x=>e x.symm)]
         |_=>rfl
    · exact absurd F5 cy
def lR (h:ag) (f bH aq but:Nat):ag:=match T.get f h.bJ with|none=>h|some F=>lg bH aq but F.mem h
theorem OQ {R:Type} (h:ag) (f bH aq but:Nat) (k:ag→R):h.uU f bH aq but k=k (lR h f bH aq but):=by
 unfold ag.uU lR
 cases T.get f h.bJ with
 |none=>rfl
 |some F=>exact OO _ _ _ _ _ _
def oz (h:ag) (b o n:Nat) (vs:List V):Option ag:=
 if n=0 then some h else if b<8 then none else match T.get b h.t with
  |some (.box row)=>if o+n≤row.length then some ⟨T.set b (.box (hX o vs row)) h.t,h.next,h.bJ,h.ds,h.bI⟩ else none
  |some (.cells r f ap bo rows)=>if o+n≤bo then match wx r o n vs rows with
   |none=>none
   |some rows=>some ⟨T.set b (.cells r f ap bo rows) (lR h f (ap+o) (ap+o+n) b).t,h.next,h.bJ,h.ds,h.bI⟩ else none
  |_=>none
theorem J5 (h:ag) (f bH aq but:Nat) (hm:∀F m,T.get f h.bJ=some F→m∈F.mem→0≤m) (hb:0≤but):mV h (lR h f bH aq but)∧
  (∀F m,T.get f h.bJ=some F→m∈F.mem→m≠but→∀r dG a n t,T.get m h.t=some (.cells r dG a n t)→a<aq→bH<a+n→T.get m (lR h f bH aq but).t=some .dead):=by
 cases hf:T.get f h.bJ with
 |none=>
  have hk:lR h f bH aq but=h:=by unfold lR;rw [hf]
  rw [hk];exact ⟨mV.refl h,fun F m e=>by cases e⟩
 |some F=>
  have hk:lR h f bH aq but=lg bH aq but F.mem h:=by unfold lR;rw [hf]
  rcases Ai bH aq but F.mem h (fun m p3=>hm F m hf p3) with ⟨h1,h2,_⟩|cy
  · refine ⟨hk▸h1,fun F' m e p3 bO r dG a n t hg ha eH=> ?_⟩
    cases e
    have:=h2 m p3 bO r dG a n t hg ha eH
    rw [←hk] at this;exact this
  · exact absurd hb cy
theorem Aj {R:Type} (h:ag) (b o n:Nat) (vs:List V) (d:R) (k:ag→R)
  (hm:∀f F m,T.get f h.bJ=some F→m∈F.mem→0≤m) (hb:0≤b):
  h.ef b o n vs d k=match oz h b o n vs with|none=>d|some aB=>k aB:=by
 unfold ag.ef oz
 rw [jr]
 by_cases hn:n=0
 · simp [hn]
 · by_cases gw:b<8
   · simp [hn,gw,gG]
   simp only [hn,gw,gG,decide_false,cond_false,if_false,ag.obj]
   cases hg:T.get b h.t with
   |none=>rfl
   |some aO=>
    cases aO with
    |dead=>rfl
    |map es c=>rfl
    |box row=>
     show (bif (Nat.add o n).ble (cZ row) then _ else _)=_
     rw [fa,me]
     by_cases ax:o+n≤row.length
     · have:decide (Nat.add o n≤row.length)=true:=by simpa using ax
       rw [this];simp [ax]
     · have:decide (Nat.add o n≤row.length)=false:=by simpa using ax
       rw [this];simp [ax]
    |cells r f ap bo rows=>
     show (bif (Nat.add o n).ble bo then _ else _)=_
     rw [fa]
     by_cases ax:o+n≤bo
     · have:decide (Nat.add o n≤bo)=true:=by simpa using ax
       rw [this]
       show over d r o n vs rows (fun rows=>h.uU f (Nat.add ap o) (Nat.add (Nat.add ap o) n) b fun h=>h.kG b (.cells r f ap bo rows) k)=_
       rw [OJ]
       simp only [ax,if_true]
       cases wx r o n vs rows with
       |none=>rfl
       |some rows'=>
        simp only [OQ,sk]
        have:=(J5 h f (ap+o) (ap+o+n) b (hm f) hb).1
        show k ⟨_,(lR h f (ap+o) (ap+o+n) b).next,(lR h f (ap+o) (ap+o+n) b).bJ,(lR h f (ap+o) (ap+o+n) b).ds,(lR h f (ap+o) (ap+o+n) b).bI⟩=_
        rw [this.next,this.bJ,this.ds,this.bI];rfl
     · have:decide (Nat.add o n≤bo)=false:=by simpa using ax
       rw [this];simp [ax]
end
end Go.Eng
namespace Go.Eng
noncomputable section
theorem wy {r f a n j:Nat} {t:T (List V)}:cellOf (.cells r f a n t) j=if j<n then tv r t j else none:=rfl
theorem OR {o:Obj} (h:o.isCells=true):CB o=o.iz:=by
 cases o<;>first|rfl|cases h
theorem J6 {h aB:ag} {b o n:Nat} {vs:List V} (hn:n≠0) (aC:oz h b o n vs=some aB) (aE:vs.length=n) (hb:0≤b)
  (hm:∀f F m,T.get f h.bJ=some F→m∈F.mem→0≤m):
  ∃aO lh h1,T.get b h.t=some aO∧aO.isCells=true∧lh.isCells=true∧lh.iz=aO.iz∧mV h h1∧aB=⟨T.set b lh h1.t,h.next,h.bJ,h.ds,h.bI⟩∧o+n≤ow aO∧ow lh=ow aO∧
   (∀B m,JX B aO m→JX B lh m)∧
   (F3 aO→∀j,cellOf lh j=if o≤j∧j<o+n then vs[j - o]? else cellOf aO j)∧
   (aO.iz=true∨∃r f ap bo rows,aO= .cells r f ap bo rows∧∀F m,T.get f h.bJ=some F→m∈F.mem→m≠b→∀eT dG bp gf hY,T.get m h.t=some (.cells eT dG bp gf hY)→bp<ap+o+n→ap+o<bp+gf→T.get m h1.t=some .dead):=by
 unfold oz at aC
 by_cases gw:b<8
 · rw [if_neg hn,if_pos gw] at aC;cases aC
 rw [if_neg hn,if_neg gw] at aC
 cases hg:T.get b h.t with
 |none=>simp [hg] at aC
 |some aO=>
  cases aO with
  |dead=>simp [hg] at aC
  |map es c=>simp [hg] at aC
  |box row=>
   simp only [hg] at aC
   by_cases ax:o+n≤row.length
   · rw [if_pos ax] at aC
     cases aC
     have oy:=JW o vs row (by omega)
     refine ⟨.box row, .box (hX o vs row),h,rfl,rfl,rfl,rfl,mV.refl h,rfl,ax, ?_,fun _ _ _=>trivial,fun _ j=> ?_, .inl rfl⟩
     · rw [oy];simp [ow];omega
     · simp only [cellOf]
       rw [oy]
       by_cases h1:j<o
       · rw [if_neg (by omega),List.append_assoc,List.getElem?_append_left (by simp;omega),List.getElem?_take_of_lt h1]
       · by_cases h2:j<o+n
         · rw [if_pos (by omega),List.append_assoc,List.getElem?_append_right (by simp;omega),List.getElem?_append_left (by simp;omega)]
           congr 1;simp;omega
         · rw [if_neg (by omega),List.getElem?_append_right (by simp;omega),List.getElem?_drop]
           congr 1;simp;omega
   · rw [if_neg ax] at aC;cases aC
  |cells r f ap bo rows=>
   simp only [hg] at aC
   by_cases ax:o+n≤bo
   · rw [if_pos ax] at aC
     cases oy:wx r o n vs rows with
     |none=>simp [oy] at aC
     |some rows'=>
      simp only [oy,Option.some.injEq] at aC
      subst aC
      obtain ⟨cH,c6⟩:=J5 h f (ap+o) (ap+o+n) b (hm f) hb
      refine ⟨.cells r f ap bo rows, .cells r f ap bo rows',lR h f (ap+o) (ap+o+n) b,rfl,rfl,rfl,rfl,cH,rfl,ax,rfl, ?_, ?_, .inr ⟨r,f,ap,bo,rows,rfl, ?_⟩⟩
      · intro B m e5
        obtain ⟨a1,a2,a3,a4,a5⟩:=e5
        exact ⟨a1,a2,a3,a4,(OL a5 aE ax (by omega) oy).1⟩
      · intro hw j
        obtain ⟨fw,fl⟩:=OL hw aE ax (by omega) oy
        rw [wy,wy]
        by_cases aV:j<bo
        · rw [if_pos aV,if_pos aV,fl j aV]
        · rw [if_neg aV,if_neg aV,if_neg (by omega)]
      · intro F m cj sl bO eT dG bp gf hY WN ha eH
        exact c6 F m cj sl bO eT dG bp gf hY WN ha (by omega)
   · rw [if_neg ax] at aC;cases aC
theorem OS {h aB:ag} {b o n:Nat} {vs:List V} (hn:n≠0) (aC:oz h b o n vs=some aB):8≤b:=by
 unfold oz at aC
 by_cases gw:b<8
 · rw [if_neg hn,if_pos gw] at aC;cases aC
 · omega
theorem F6 {h aB:ag} {b o:Nat} {vs:List V} (aC:oz h b o 0 vs=some aB):aB=h:=by
 simp [oz] at aC;exact aC.symm
theorem Good.sm {ι:bb} {h:ag} {w:World} (g:Good ι h w):∀f F m,T.get f h.bJ=some F→m∈F.mem→0≤m:=
 fun _ _ _ _ _=>Nat.zero_le _
theorem CI {P:Program} {ι:bb} {h aB:ag} {w:World} (g:Good ι h w) {b:Nat} {B:fR} (bW:ι b=some B) {o n:Nat} {vs:List V} {xs:List Value}
  (aC:oz h b o n vs=some aB) (aE:vs.length=n) (hx:cE ι vs xs) (h1:∀x∈xs,x.oneCell'=true):
  ∃w',(storeCells ⟨B.c,B.off+o,none⟩ xs).run P w= .ok () w'∧Good ι aB w'∧si ι h w w'∧aB.next=h.next∧aB.bJ=h.bJ∧aB.ds=h.ds∧aB.bI=h.bI:=by
 by_cases hn:n=0
 · subst hn
   cases F6 aC
   have:xs=[]:=by have:=hx.length;rw [aE] at this;exact List.eq_nil_of_length_eq_zero this
   subst this
   exact ⟨w,rfl,g,si.refl _ _ _,rfl,rfl,rfl,rfl⟩
 have hlen:xs.length=n:=hx.length.trans aE
 have hb:=g.small b (by simp [bW])
 obtain ⟨aO,lh,jR,dP,jS,F7,F8,Ak,rfl,hle,ec,J7,hcell,hk⟩:=J6 hn aC aE hb g.sm
 have dA:=g.lQ b hb (by simp [dP])
 have hr:=(g.obj b B aO bW dP dA).cells jS
 have u2:=hr.wf
 obtain ⟨cs,el,fr,aT,bu,dH,gC,gY,kL⟩:=hr
 have dh:=CH xs (B.off+o) w cs aT (by omega)
 obtain ⟨mU,c1,c2,cI⟩:=dh
 have lS:=CG B.c xs (B.off+o) w
 have CJ:=CF (g:=B.c) xs (B.off+o) w
 refine ⟨w.setCells B.c (B.off+o) xs, ?_, ?_, ?_,rfl,rfl,rfl,rfl⟩
 · have:=run_storeCells_cells (P:=P) B.c (B.off+o) xs 0 w (fun j aV=> ?_) (fun j aV=> ?_) h1
   · simpa using this
   · simp only [World.cell?,aT,Option.isSome_none,Bool.false_eq_true,if_false]
     rw [Array.getElem?_eq_getElem (by omega)];rfl
   · have fB:=bu.at_ (k:=B.off+o+(0+j)) (by omega) (by omega) (by omega)
     simp only [World.frozen?,aT]
     simp;omega
 ·
  have WO:∀bT bc fk,ι bT=some bc→T.get bT (T.set b lh jR.t)=some fk→bT<h.next→nF ι bc fk (w.setCells B.c (B.off+o) xs):=by
   intro bT bc fk ei c0 u4
   have eH:=g.small bT (by simp [ei])
   rw [T.fJ eH hb] at c0
   by_cases mW:bT=b
   · subst mW
     rw [if_pos rfl] at c0
     cases c0
     rw [bW] at ei;cases ei
     have:Af ι B lh (w.setCells B.c (B.off+o) xs):=by
      refine ⟨mU,el,fr,c1,by rw [c2];exact bu.WB ((OR F7).trans (F8.trans (OR jS).symm)) ec,dH.trans ec.symm,by rw [ec,c2];exact gC,by rw [c2];exact J7 _ _ gY,fun j v aV=> ?_⟩
      rw [hcell u2 j] at aV
      rw [cI]
      by_cases ax:o≤j∧j<o+n
      · rw [if_pos ax] at aV
        obtain ⟨x,F9,WQ⟩:=hx.get aV
        refine ⟨x, ?_,h1 x (List.mem_of_getElem? F9),WQ⟩
        rw [if_pos (by omega),show B.off+j - (B.off+o)=j - o by omega];exact F9
      · rw [if_neg ax] at aV
        rw [if_neg (by omega)]
        exact kL j v aV
     cases lh<;>first|exact this|simp [Obj.isCells] at F7
   · rw [if_neg mW] at c0
     rcases Ak.at_ bT eH with ff|⟨ff,_⟩
     · rw [ff] at c0
       have CK:=g.obj bT bc fk ei c0 u4
       by_cases rb:bc.c=B.c
       ·
        obtain ⟨j6,CL⟩:=g.same bT bc b B ei bW u4 dA (OS hn aC) rb mW
        have f1:=g.c7 b B bW dA
        have f2:=g.c7 bT bc ei u4
        rcases hk with hk|⟨r,f,ap,bo,rows,rfl,hk⟩
        · have:=g.iz b B aO bW dP dA hk
          rw [this] at f1
          rw [j6,this] at f2
          exact absurd (f2.symm.trans f1) mW
        · obtain ⟨s1,s2,gb,jo,kD⟩:=gY
          cases cj:T.get B.c7 h.bJ with
          |none=>
           rw [cj] at f1;rw [j6,cj] at f2
           exact absurd (f2.symm.trans f1) mW
          |some F=>
           rw [j6,cj] at f2
           by_cases jT:fk.iz=true
           · have:=g.iz bT bc fk ei c0 u4 jT
             rw [j6,cj] at this;cases this
           · cases fk with
             |box row=>simp [Obj.iz] at jT
             |map es c=>simp [Obj.iz] at jT
             |dead=>trivial
             |cells eT dG bp gf hY=>
              have fB:¬(bp<ap+o+n∧ap+o<bp+gf):=by
               rintro ⟨p1,u5⟩
               have:=hk F bT (by rw [←s2];exact cj) f2 mW eT dG bp gf hY c0 p1 u5
               rw [ff,c0] at this;cases this
              obtain ⟨WR,WS,WT,d1,d2,d3,d4,d5,d6⟩:=CK
              rw [rb,aT] at d1;cases d1
              have aim:bc.kE=bp:=d5.2.2.1
              refine ⟨mU,el,fr,by rw [rb];exact c1,by rw [c2];exact d2,d3,by rw [c2];exact d4,by rw [c2];exact d5,fun j v aV=> ?_⟩
              have mT:j<gf:=by
               rw [wy] at aV
               by_cases b4:j<gf
               · exact b4
               · rw [if_neg b4] at aV;cases aV
              rw [cI,if_neg (by omega)]
              exact d6 j v aV
       · exact CK.world (CJ _ rb)
     · rw [ff] at c0;cases c0;trivial
  refine ⟨WO,fun bT bc ei=>by rw [lS.2.2.2];exact g.lb bT bc ei,g.same,g.c7, ?_, ?_,g.mem,g.lim, ?_,g.small,g.u0,g.o9⟩
  · intro bT bc F fk ei u4 cj c0 OT
    have eH:=g.small bT (by simp [ei])
    rw [show (⟨T.set b lh jR.t,h.next,h.bJ,h.ds,h.bI⟩:ag).t=T.set b lh jR.t from rfl,T.fJ eH hb] at c0
    by_cases mW:bT=b
    · subst mW
      exact g.last bT bc F aO ei u4 cj dP jS
    · rw [if_neg mW] at c0
      rcases Ak.at_ bT eH with ff|⟨ff,_⟩
      · rw [ff] at c0;exact g.last bT bc F fk ei u4 cj c0 OT
      · rw [ff] at c0;cases c0;simp [Obj.isCells] at OT
  · intro bT bc fk ei c0 u4 jT
    have eH:=g.small bT (by simp [ei])
    rw [show (⟨T.set b lh jR.t,h.next,h.bJ,h.ds,h.bI⟩:ag).t=T.set b lh jR.t from rfl,T.fJ eH hb] at c0
    by_cases mW:bT=b
    · subst mW
      rw [if_pos rfl] at c0;cases c0
      exact g.iz bT bc aO ei dP dA (F8▸jT)
    · rw [if_neg mW] at c0
      rcases Ak.at_ bT eH with ff|⟨ff,_⟩
      · rw [ff] at c0;exact g.iz bT bc fk ei c0 u4 jT
      · rw [ff] at c0;cases c0;simp [Obj.iz] at jT
  · intro bT eH bO
    rw [show (⟨T.set b lh jR.t,h.next,h.bJ,h.ds,h.bI⟩:ag).t=T.set b lh jR.t from rfl,T.fJ eH hb] at bO
    by_cases mW:bT=b
    · subst mW;exact dA
    · rw [if_neg mW] at bO
      rcases Ak.at_ bT eH with ff|⟨ff,CM⟩
      · rw [ff] at bO;exact g.lQ bT eH bO
      · exact g.lQ bT eH CM
 · refine ⟨fun c ax fB=>CJ c (fun e=>fB b B bW (OS hn aC) dA e.symm),by rw [lS.2.2.2];exact Nat.le_refl _,lS.2.1,lS.1,lS.2.2.1⟩
end
end Go.Eng
namespace Go.Eng
noncomputable section
def bb.put (ι:bb) (n:Nat) (B:fR):bb:=fun b=>if b=n then some B else ι b
theorem bb.Al {ι:bb} {n:Nat} {B:fR} (h:ι n=none):ι.le (ι.put n B):=by
 intro b bc hb
 unfold bb.put
 by_cases e:b=n
 · subst e;rw [h] at hb;cases hb
 · rw [if_neg e];exact hb
@[simp] theorem bb.hh (ι:bb) (n:Nat) (B:fR):ι.put n B n=some B:=by simp [bb.put]
theorem bb.re {ι:bb} {n b:Nat} {B:fR} (h:b≠n):ι.put n B b=ι b:=by simp [bb.put,h]
def ag.add (h:ag) (o:Obj):ag:=⟨T.set h.next o h.t,h.next+1,h.bJ,h.ds,h.bI⟩
@[simp] theorem oA {R:Type} (h:ag) (o:Obj) (k:ag→R):h.la o k=k (h.add o):=by simp [ag.la,ag.add]
theorem Ext.put {h aB:ag} {ι:bb} {B:fR} (hf:ι h.next=none) (hn:aB.next=h.next+1):Ext h aB ι (ι.put h.next B):=by
 refine ⟨bb.Al hf,by omega,fun b h1 h2=> ?_⟩
 by_cases e:b=h.next
 · omega
 · rw [bb.re e] at h2;exact absurd h1 h2
theorem WU {ι:bb} {h:ag} {w w':World} (g:Good ι h w) (hf:ι h.next=none) (au:0≤h.next) {o:Obj} {B:fR}
  (ax:B.c=w.heap.size) (j6:B.c7=h.next) (hw:∀c,c<w.heap.size→w'.heap[c]? =w.heap[c]?) (aC:w'.heap.size=w.heap.size+1)
  (bq:nF ι B o w'):Good (ι.put h.next B) (h.add o) w':=by
 have hle:=bb.Al (B:=B) hf
 have J8:T.get h.next h.bJ=none:=by
  cases e:T.get h.next h.bJ with
  |none=>rfl
  |some F=>have:=g.u0 h.next au (by simp [e]);omega
 have old:∀b bc,ι.put h.next B b=some bc→b≠h.next→ι b=some bc:=fun b bc hb bO=>by rwa [bb.re bO] at hb
 refine ⟨?_, ?_, ?_, ?_, ?_, ?_, ?_, ?_, ?_, ?_, ?_, ?_⟩
 · intro b bc fk hb c0 dA
   have eH:0≤b:=by have:b<h.next+1:=dA;omega
   rw [show (h.add o).t=T.set h.next o h.t from rfl,T.fJ eH au] at c0
   by_cases e:b=h.next
   · subst e
     rw [if_pos rfl] at c0;cases c0
     rw [bb.hh] at hb;cases hb
     exact bq.mono hle
   · rw [if_neg e] at c0
     have dW:=old b bc hb e
     have fO:b<h.next:=by have:b<h.next+1:=dA;omega
     exact ((g.obj b bc fk dW c0 fO).world (hw _ (g.lb b bc dW))).mono hle
 · intro b bc hb
   by_cases e:b=h.next
   · subst e;rw [bb.hh] at hb;cases hb;omega
   · have:=g.lb b bc (old b bc hb e);omega
 · intro b kM bT mf hb eH dA fO gw rb bO
   by_cases e:b=h.next
   · subst e
     rw [bb.hh] at hb;cases hb
     have:=g.lb bT mf (old bT mf eH (Ne.symm bO));omega
   · by_cases bN:bT=h.next
     · subst bN
       rw [bb.hh] at eH;cases eH
       have:=g.lb b kM (old b kM hb e);omega
     · exact g.same b kM bT mf (old b kM hb e) (old bT mf eH bN) (by have:b<h.next+1:=dA;omega) (by have:bT<h.next+1:=fO;omega) gw rb bO
 · intro b bc hb dA
   by_cases e:b=h.next
   · subst e;rw [bb.hh] at hb;cases hb
     show match T.get B.c7 h.bJ with|none=>_|some F=>_
     rw [j6,J8]
   · exact g.c7 b bc (old b bc hb e) (by have:b<h.next+1:=dA;omega)
 · intro b bc F fk hb dA cj c0 jS
   have dW:0≤b:=by have:b<h.next+1:=dA;omega
   rw [show (h.add o).t=T.set h.next o h.t from rfl,T.fJ dW au] at c0
   by_cases e:b=h.next
   · subst e;rw [bb.hh] at hb;cases hb
     rw [show (h.add o).bJ=h.bJ from rfl,j6,J8] at cj;cases cj
   · rw [if_neg e] at c0
     exact g.last b bc F fk (old b bc hb e) (by have:b<h.next+1:=dA;omega) cj c0 jS
 · intro b bc fk hb c0 dA jT
   have dW:0≤b:=by have:b<h.next+1:=dA;omega
   rw [show (h.add o).t=T.set h.next o h.t from rfl,T.fJ dW au] at c0
   by_cases e:b=h.next
   · subst e;rw [bb.hh] at hb;cases hb
     show T.get B.c7 h.bJ=none
     rw [j6,J8]
   · rw [if_neg e] at c0
     exact g.iz b bc fk (old b bc hb e) c0 (by have:b<h.next+1:=dA;omega) jT
 · intro f F b cj hb
   have:=g.mem f F b cj hb
   show b<h.next+1;omega
 · show 8≤h.next+1;have:=g.lim;omega
 · intro b dW bO
   show b<h.next+1
   rw [show (h.add o).t=T.set h.next o h.t from rfl,T.fJ dW au] at bO
   by_cases e:b=h.next
   · omega
   · rw [if_neg e] at bO
     have:=g.lQ b dW bO;omega
 · intro b bO
   by_cases e:b=h.next
   · omega
   · rw [bb.re e] at bO;exact g.small b bO
 · intro f nI bO
   have:=g.u0 f nI bO
   show f<h.next+1;omega
 · intro b bc hb dA
   show bc.c7<h.next+1
   by_cases e:b=h.next
   · subst e;rw [bb.hh] at hb;cases hb;omega
   · have:=g.o9 b bc (old b bc hb e) (by have:b<h.next+1:=dA;omega);omega
theorem si.push {ι:bb} {h:ag} {w w':World} (hw:∀c,c<w.heap.size→w'.heap[c]? =w.heap[c]?) (aC:w.heap.size≤w'.heap.size)
  (ht:w'.tape=w.tape) (bq:w'.os=w.os) (hu:w'.output=w.output):si ι h w w':=⟨fun c ax _=>hw c ax,aC,ht,bq,hu⟩
def js (h:ag) (b f ap bo e top:Nat):ag:=
 match T.get f h.bJ with
 |none=>let h1:ag:=if e<ap+bo then ⟨T.set b .dead h.t,h.next,h.bJ,h.ds,h.bI⟩ else h
        ⟨h1.t,h.next,T.set f ⟨top,[h.next,b]⟩ h.bJ,h.ds,h.bI⟩
 |some F=>let h1:=if F.last≤e then h else lg e (F.last+top) h.next F.mem h
          ⟨h1.t,h.next,T.set f ⟨top,h.next::F.mem⟩ h.bJ,h.ds,h.bI⟩
@[simp] theorem x0 {R:Type} (h:ag) (f top:Nat) (l:List Nat) (k:ag→R):mc h f top l k=k ⟨h.t,h.next,T.set f ⟨top,l⟩ h.bJ,h.ds,h.bI⟩:=by simp [mc]
theorem OU {R:Type} (h:ag) (b f ap bo e top:Nat) (k:ag→R) (hm:∀F m,T.get f h.bJ=some F→m∈F.mem→0≤m) (hn:0≤h.next):
  grown h b f ap bo e top k=k (js h b f ap bo e top):=by
 unfold grown js
 cases cj:T.get f h.bJ with
 |none=>
  show (Bool.rec (mc h f top [h.next,b] k) (h.kG b .dead fun h=>mc h f top [h.next,b] k) (e.blt (Nat.add ap bo)):R)=_
  rw [gG]
  by_cases c:e<ap+bo
  · have:decide (e<Nat.add ap bo)=true:=by simpa using c
    rw [this];simp [c]
  · have:decide (e<Nat.add ap bo)=false:=by simpa using c
    rw [this];simp [c]
 |some F=>
  show (Bool.rec (tn e (Nat.add (iw.last F) top) h.next (iw.mem F) h fun h=>mc h f top (h.next::iw.mem F) k) (mc h f top (h.next::iw.mem F) k) ((iw.last F).ble e):R)=_
  rw [fa]
  by_cases c:F.last≤e
  · have:decide (F.last≤e)=true:=by simpa using c
    rw [this];simp [c]
  · have:decide (F.last≤e)=false:=by simpa using c
    rw [this]
    simp only [OO,x0,c,if_false]
    rcases Ai e (F.last+top) h.next F.mem h (fun m p3=>hm F m cj p3) with ⟨h1,_⟩|cy
    · show k ⟨_,(lg e (F.last+top) h.next F.mem h).next,T.set f ⟨top,(lg e (F.last+top) h.next F.mem h).next::F.mem⟩ (lg e (F.last+top) h.next F.mem h).bJ,(lg e (F.last+top) h.next F.mem h).ds,(lg e (F.last+top) h.next F.mem h).bI⟩=_
      rw [h1.next,h1.bJ,h1.ds,h1.bI];rfl
    · exact absurd hn cy
end
end Go.Eng
namespace Go.Eng
noncomputable section
structure OV (ι:bb) (h hg:ag) (f e top:Nat):Prop where
 next:hg.next=h.next
 ds:hg.ds=h.ds
 bI:hg.bI=h.bI
 at_:∀i,0≤i→T.get i hg.t=T.get i h.t∨(T.get i hg.t=some .dead∧T.get i h.t≠none)
 bJ:∃l,hg.bJ=T.set f ⟨top,h.next::l⟩ h.bJ∧(∀x∈l,x<h.next)∧∀b B,ι b=some B→b<h.next→B.c7=f→b∈l
 OW:∀b B o,ι b=some B→b<h.next→B.c7=f→T.get b h.t=some o→o.iz=false
 upto:∀b B o,ι b=some B→b<h.next→B.c7=f→T.get b hg.t=some o→o.isCells=true→B.kE+B.n≤e
theorem J9 {ι:bb} {h:ag} {w:World} (g:Good ι h w) {b:Nat} {B:fR} (bW:ι b=some B) (dA:b<h.next) {r f ap bo:Nat} {rows:T (List V)}
  (dP:T.get b h.t=some (.cells r f ap bo rows)) (hn:0≤h.next) {e top:Nat} (Ka:0<top):OV ι h (js h b f ap bo e top) f e top:=by
 have hb:=g.small b (by simp [bW])
 have p4:=(g.obj b B _ bW dP dA).cells rfl
 obtain ⟨cs,el,fr,aT,bu,dH,gC,gY,kL⟩:=p4
 obtain ⟨s1,s2,gb,jo,kD⟩:=gY
 have j6:=g.c7 b B bW dA
 rw [s2] at j6
 unfold js
 cases cj:T.get f h.bJ with
 |none=>
  rw [cj] at j6
  have Kb:f=b:=j6
  have only:∀bT bc,ι bT=some bc→bT<h.next→bc.c7=f→bT=b:=fun bT bc ei fO lT=>by
   have:=g.c7 bT bc ei fO
   rw [lT,cj] at this
   omega
  have ff:∀i,0≤i→T.get i (if e<ap+bo then (⟨T.set b .dead h.t,h.next,h.bJ,h.ds,h.bI⟩:ag) else h).t=if e<ap+bo∧i=b then some .dead else T.get i h.t:=by
   intro i aq
   by_cases c:e<ap+bo
   · rw [if_pos c]
     show T.get i (T.set b .dead h.t)=_
     rw [T.fJ aq hb]
     by_cases tw:i=b
     · rw [if_pos tw,if_pos ⟨c,tw⟩]
     · rw [if_neg tw,if_neg (by simp [tw])]
   · rw [if_neg c,if_neg (by simp [c])]
  refine ⟨rfl,rfl,rfl,fun i aq=> ?_,⟨[b],rfl,by simpa using dA,fun bT bc ei fO lT=>by simp [only bT bc ei fO lT]⟩,fun bT bc o ei fO lT bq=>by
    have:=only bT bc ei fO lT;subst this;rw [dP] at bq;cases bq;rfl,fun bT bc o ei fO lT bq jS=> ?_⟩
  · show T.get i (if e<ap+bo then (⟨T.set b .dead h.t,h.next,h.bJ,h.ds,h.bI⟩:ag) else h).t=_∨_
    by_cases c:e<ap+bo∧i=b
    · right
      refine ⟨by rw [ff i aq,if_pos c], ?_⟩
      rw [c.2,dP];simp
    · left;rw [ff i aq,if_neg c]
  · have mW:=only bT bc ei fO lT
    subst mW
    rw [bW] at ei;cases ei
    have c0:T.get bT (if e<ap+bo then (⟨T.set bT .dead h.t,h.next,h.bJ,h.ds,h.bI⟩:ag) else h).t=some o:=bq
    rw [ff bT hb] at c0
    by_cases c:e<ap+bo
    · rw [if_pos ⟨c,rfl⟩] at c0;cases c0;simp [Obj.isCells] at jS
    · have:B.n=bo:=dH
      omega
 |some F=>
  rw [cj] at j6
  have sl:∀bT bc,ι bT=some bc→bT<h.next→bc.c7=f→bT∈F.mem:=fun bT bc ei fO lT=>by
   have:=g.c7 bT bc ei fO
   rw [lT,cj] at this;exact this
  have gH:∀bT bc o,ι bT=some bc→bT<h.next→bc.c7=f→T.get bT h.t=some o→o.iz=false:=fun bT bc o ei fO lT bq=>by
   cases jT:o.iz with
   |false=>rfl
   |true=>have:=g.iz bT bc o ei bq fO jT;rw [lT,cj] at this;cases this
  have hlt:∀m∈F.mem,0≤m:=fun m hm=>g.sm f F m cj hm
  rcases Ai e (F.last+top) h.next F.mem h hlt with ⟨cH,c6,_⟩|cy
  case inr=>exact absurd hn cy
  by_cases c:F.last≤e
  · simp only [c,if_true]
    refine ⟨rfl,rfl,rfl,fun i aq=> .inl rfl,⟨F.mem,rfl,fun x hx=>g.mem f F x cj hx,sl⟩,gH,fun bT bc o ei fO lT bq jS=> ?_⟩
    have:=g.last bT bc F o ei fO (by rw [lT];exact cj) bq jS
    omega
  · simp only [c,if_false]
    refine ⟨rfl,rfl,rfl,cH.at_,⟨F.mem,rfl,fun x hx=>g.mem f F x cj hx,sl⟩,gH,fun bT bc o ei fO lT bq jS=> ?_⟩
    have eH:=g.small bT (by simp [ei])
    rcases cH.at_ bT eH with ff|⟨ff,_⟩
    · have u6:T.get bT h.t=some o:=by rw [←ff];exact bq
      have au:=g.last bT bc F o ei fO (by rw [lT];exact cj) u6 jS
      cases o with
      |dead=>simp [Obj.isCells] at jS
      |map es c=>simp [Obj.isCells] at jS
      |box row=>
       have:=g.iz bT bc _ ei u6 fO rfl
       rw [lT,cj] at this;cases this
      |cells eT dG bp gf hY=>
       have WV:=(g.obj bT bc _ ei u6 fO).cells rfl
       obtain ⟨mU,CN,ain,d1,d2,d3,d4,d5,d6⟩:=WV
       have aio:bc.n=gf:=d3
       have aip:bc.kE=bp:=d5.2.2.1
       by_cases ax:bc.kE+bc.n≤e
       · exact ax
       · have:=c6 bT (sl bT bc ei fO lT) (by omega) eT dG bp gf hY u6 (by omega) (by omega)
         rw [this] at bq;cases bq
    · rw [ff] at bq;cases bq;simp [Obj.isCells] at jS
theorem OX {ι:bb} {h hg:ag} {w w':World} (g:Good ι h w) {f e top:Nat} (hk:OV ι h hg f e top) (hf:ι h.next=none) (au:0≤h.next) (nI:f<h.next)
  {o:Obj} {B:fR} (j6:B.c7=f) (gH:o.iz=false) (J4:B.kE+B.n=top) (het:e≤top)
  (Kc:∀bT bc fk,ι bT=some bc→T.get bT hg.t=some fk→bT<h.next→nF ι bc fk w') (bq:nF ι B o w')
  (lS:∀bT bc,ι bT=some bc→bT<h.next→bc.c=B.c→bc.c7=f∧bc.off+B.kE=B.off+bc.kE)
  (hin:B.c<w'.heap.size) (aC:w.heap.size≤w'.heap.size):Good (ι.put h.next B) (hg.add o) w':=by
 have hle:=bb.Al (B:=B) hf
 obtain ⟨l,WW,Kd,sl⟩:=hk.bJ
 have p5:=hk.next
 have old:∀b bc,ι.put h.next B b=some bc→b≠h.next→ι b=some bc:=fun b bc hb bO=>by rwa [bb.re bO] at hb
 have Ke:0≤f:=by omega
 have x2:∀x,0≤x→T.get x hg.bJ=if x=f then some ⟨top,h.next::l⟩ else T.get x h.bJ:=fun x hx=>by rw [WW,T.fJ hx Ke]
 have bP:∀b,b<(hg.add o).next→b<h.next+1:=fun b hb=>by have:b<hg.next+1:=hb;omega
 have Ga:∀x,0≤x→T.get x (hg.add o).t=if x=h.next then some o else T.get x hg.t:=fun x hx=>by
  show T.get x (T.set hg.next o hg.t)=_
  rw [p5,T.fJ hx au]
 have o9:∀b bc,ι b=some bc→b<h.next→0≤bc.c7:=fun b bc hb dA=>by have:=g.o9 b bc hb dA;omega
 refine ⟨?_, ?_, ?_, ?_, ?_, ?_, ?_, ?_, ?_, ?_, ?_, ?_⟩
 · intro b bc fk hb c0 dA
   have fO:=bP b dA
   rw [Ga b (by omega)] at c0
   by_cases e:b=h.next
   · subst e
     rw [if_pos rfl] at c0;cases c0
     rw [bb.hh] at hb;cases hb
     exact bq.mono hle
   · rw [if_neg e] at c0
     exact (Kc b bc fk (old b bc hb e) c0 (by omega)).mono hle
 · intro b bc hb
   by_cases e:b=h.next
   · subst e;rw [bb.hh] at hb;cases hb;exact hin
   · have:=g.lb b bc (old b bc hb e);omega
 · intro b kM bT mf hb eH dA fO gw rb bO
   have aiq:=bP b dA
   have CO:=bP bT fO
   by_cases e:b=h.next
   · subst e
     rw [bb.hh] at hb;cases hb
     obtain ⟨x1,b2⟩:=lS bT mf (old bT mf eH (Ne.symm bO)) (by omega) rb.symm
     exact ⟨j6.trans x1.symm,by omega⟩
   · by_cases bN:bT=h.next
     · subst bN
       rw [bb.hh] at eH;cases eH
       obtain ⟨x1,b2⟩:=lS b kM (old b kM hb e) (by omega) rb
       exact ⟨x1.trans j6.symm,by omega⟩
     · exact g.same b kM bT mf (old b kM hb e) (old bT mf eH bN) (by omega) (by omega) gw rb bO
 · intro b bc hb dA
   have fO:=bP b dA
   show match T.get bc.c7 hg.bJ with|none=>_|some F=>_
   by_cases e:b=h.next
   · subst e;rw [bb.hh] at hb;cases hb
     rw [j6,x2 f Ke,if_pos rfl];simp
   · have dW:=old b bc hb e
     rw [x2 _ (o9 b bc dW (by omega))]
     by_cases tx:bc.c7=f
     · rw [if_pos tx];simp;right;exact sl b bc dW (by omega) tx
     · rw [if_neg tx];exact g.c7 b bc dW (by omega)
 · intro b bc F fk hb dA cj c0 jS
   have fO:=bP b dA
   rw [Ga b (by omega)] at c0
   have mg:T.get bc.c7 hg.bJ=some F:=cj
   by_cases e:b=h.next
   · subst e;rw [bb.hh] at hb;cases hb
     rw [j6,x2 f Ke,if_pos rfl] at mg;cases mg
     show B.kE+B.n≤top;omega
   · rw [if_neg e] at c0
     have dW:=old b bc hb e
     rw [x2 _ (o9 b bc dW (by omega))] at mg
     by_cases tx:bc.c7=f
     · rw [if_pos tx] at mg;cases mg
       have:=hk.upto b bc fk dW (by omega) tx c0 jS
       show bc.kE+bc.n≤top;omega
     · rw [if_neg tx] at mg
       rcases hk.at_ b (by omega) with ff|⟨ff,_⟩
       · rw [ff] at c0;exact g.last b bc F fk dW (by omega) mg c0 jS
       · rw [ff] at c0;cases c0;simp [Obj.isCells] at jS
 · intro b bc fk hb c0 dA jT
   have fO:=bP b dA
   rw [Ga b (by omega)] at c0
   show T.get bc.c7 hg.bJ=none
   by_cases e:b=h.next
   · subst e;rw [if_pos rfl] at c0;cases c0;rw [gH] at jT;cases jT
   · rw [if_neg e] at c0
     have dW:=old b bc hb e
     rcases hk.at_ b (by omega) with ff|⟨ff,_⟩
     · rw [ff] at c0
       have hn:=g.iz b bc fk dW c0 (by omega) jT
       rw [x2 _ (o9 b bc dW (by omega))]
       by_cases tx:bc.c7=f
       · have:=hk.OW b bc fk dW (by omega) tx c0;rw [jT] at this;cases this
       · rw [if_neg tx];exact hn
     · rw [ff] at c0;cases c0;simp [Obj.iz] at jT
 · intro x F b cj hb
   show b<hg.next+1
   have mg:T.get x hg.bJ=some F:=cj
   rw [x2 _ (Nat.zero_le _)] at mg
   by_cases hi:x=f
   · rw [if_pos hi] at mg;cases mg
     simp at hb
     rcases hb with hb|hb
     · omega
     · have:=Kd b hb;omega
   · rw [if_neg hi] at mg
     have:=g.mem _ F b mg hb;omega
 · show 8≤hg.next+1;have:=g.lim;omega
 · intro b dW bO
   show b<hg.next+1
   rw [Ga b dW] at bO
   by_cases e:b=h.next
   · omega
   · rw [if_neg e] at bO
     rcases hk.at_ b dW with ff|⟨ff,CM⟩
     · rw [ff] at bO;have:=g.lQ b dW bO;omega
     · have:=g.lQ b dW CM;omega
 · intro b bO
   by_cases e:b=h.next
   · omega
   · rw [bb.re e] at bO;exact g.small b bO
 · intro x hx bO
   show x<hg.next+1
   have wz:T.get x hg.bJ≠none:=bO
   rw [x2 x hx] at wz
   by_cases hi:x=f
   · omega
   · rw [if_neg hi] at wz;have:=g.u0 x hx wz;omega
 · intro b bc hb dA
   have fO:=bP b dA
   show bc.c7<hg.next+1
   by_cases e:b=h.next
   · subst e;rw [bb.hh] at hb;cases hb;omega
   · have:=g.o9 b bc (old b bc hb e) (by omega);omega
end
end Go.Eng
namespace Go.Eng
noncomputable section
def kindOf (P:Program) (t:TypeId):Option IntKind:=match P.underlying t with|some (.int k)=>some k|_=>none
def mX (P:Program) (t:TypeId) (n:Nat):Bool:=match P.info? t with|some i=>i.size==n|none=>false
def Gb (P:Program) (t:TypeId) (n:Nat):Bool:=match P.info? t with|some i=>i.bytes==n|none=>false
def pb (P:Program) (t:TypeId) (b:Bool):Bool:=match P.underlying t with
 |some (.struct _)|some (.array ..)=>b
 |some _=> !b
 |none=>false
mutual
def iZ:V→Value→Bool
 | .bool b, .bool c=>b==c
 | .int k n, .int j m=>decide (k=j)&&decide (n=m)
 | .str n x, .string s=>decide (s.data.toList.length=n)&&decide (enc s.data.toList=x)
 | .oj, .pointer none=>true
 | .U, .slice none 0 0=>true
 | .k9, .map none=>true
 | .om, .nilFunc=>true
 | .kj, .nilIface=>true
 | .e8 t v, .iface u w=>decide (t=u)&&iZ v w
 | .agg l, .agg cs=>wA l cs.toList&&cs.toList.all (·.oneCell')
 | .dD l, .tuple cs=>wA l cs.toList
 |_,_=>false
def wA:List V→List Value→Bool
 |[],[]=>true
 |a::l,x::m=>iZ a x&&wA l m
 |_,_=>false
end
mutual
theorem Gc {ι:bb}:∀(v:V) (x:Value),iZ v x=true→bL ι v x
 | .bool b,x,h=>by cases x<;>simp [iZ] at h;simp [bL,h]
 | .int k n,x,h=>by cases x<;>simp [iZ] at h;simp [bL,h]
 | .str n a,x,h=>by cases x<;>simp [iZ] at h;rename_i s;exact ⟨s,rfl,by simpa using h.1,h.2⟩
 | .oj,x,h=>by
   cases x<;>first|(simp [iZ] at h;done)|skip
   rename_i a;cases a
   · rfl
   · simp [iZ] at h
 | .U,x,h=>by
   cases x<;>first|(simp [iZ] at h;done)|skip
   rename_i a n c
   cases a with
   |some a=>simp [iZ] at h
   |none=>cases n with
    |succ n=>simp [iZ] at h
    |zero=>cases c with
     |succ c=>simp [iZ] at h
     |zero=>rfl
 | .k9,x,h=>by
   cases x<;>first|(simp [iZ] at h;done)|skip
   rename_i a;cases a
   · rfl
   · simp [iZ] at h
 | .om,x,h=>by cases x<;>simp [iZ] at h;rfl
 | .kj,x,h=>by cases x<;>simp [iZ] at h;rfl
 | .e8 t v,x,h=>by
   cases x<;>simp [iZ] at h
   rename_i u w
   exact ⟨w,by simp [h.1],Gc v w h.2⟩
 | .agg l,x,h=>by
   cases x<;>simp only [iZ,Bool.and_eq_true,Bool.false_eq_true] at h
   rename_i cs
   exact ⟨cs,rfl,Gd l cs.toList h.1,fun x hx=>List.all_eq_true.1 h.2 x hx⟩
 | .dD l,x,h=>by
   cases x<;>simp [iZ] at h
   rename_i cs
   exact ⟨cs,rfl,Gd l cs.toList h⟩
 | .bot,x,h=>by cases x<;>simp [iZ] at h
 | .ptr _ _,x,h=>by cases x<;>simp [iZ] at h
 | .av _ _ _ _,x,h=>by cases x<;>simp [iZ] at h
 | .map _,x,h=>by cases x<;>simp [iZ] at h
 | .fn _ _ _,x,h=>by cases x<;>simp [iZ] at h
theorem Gd {ι:bb}:∀(l:List V) (m:List Value),wA l m=true→cE ι l m
 |[],[],_=>rfl
 |[],_::_,h=>by simp [wA] at h
 |_::_,[],h=>by simp [wA] at h
 |a::l,x::m,h=>by
  simp [wA] at h
  exact ⟨x,m,rfl,Gc a x h.1,Gd l m h.2⟩
end
def OY (P:Program) (t:TypeId) (z:V):Bool:=match P.info? t with
 |some i=>match i.zero with|some x=>iZ z x|none=>false
 |none=>false
def x3 (P:Program) (t:TypeId) (l:List V):Bool:=match P.info? t with
 |some i=>match i.zero with|some x=>wA l x.cells.toList&&x.cells.toList.all (·.oneCell')|none=>false
 |none=>false
abbrev jU:=Operand→A→Bool
def tz (bw:jU):List Operand→List A→Bool
 |[],[]=>true
 |x::l,a::m=>bw x a&&tz bw l m
 |_,_=>false
def sn (bw:jU):Option Operand→Option A→Bool
 |none,none=>true
 |some x,some a=>bw x a
 |_,_=>false
def Ge:Option Operand→Option Operand→Bool
 |some _,none=>false
 |_,_=>true
def x4 (P:Program) (bw:jU) (place:Nat→Option (Nat×Nat)):List (Nat×Operand)→List (Nat×Nat×A)→Bool
 |[],[]=>true
 |(i,x)::l,(off,n,a)::m=>decide (place i=some (off,n))&&(bw x a&&x4 P bw place l m)
 |_,_=>false
def WX (P:Program) (fs:Array Field) (i:Nat):Option (Nat×Nat):=match fs[i]? with
 |some f=>match P.info? f.type with|some t=>some (f.offset,t.size)|none=>none
 |none=>none
def Am:BinOp→Bool
 | .shl| .shr=>false
 |_=>true
def p6 (P:Program) (t:TypeId):c4→Bool
 | .int=>match P.underlying t with|some (.int _)=>true|_=>false
 | .str=>match P.underlying t with|some .string=>true|_=>false
 | .bool=>match P.underlying t with|some .bool=>true|_=>false
 |_=>false
def x5 (P:Program):List Field→List (Nat×c4)→Bool
 |[],[]=>true
 |f::fs,(off,q)::fm=>decide (f.name≠ "_")&&(decide (f.offset=off)&&(p6 P f.type q&&x5 P fs fm))
 |_,_=>false
def mh (P:Program) (t:TypeId):c4→Bool
 | .bool=>match P.underlying t with|some .bool=>true|_=>false
 | .ptr=>match P.underlying t with|some (.pointer e)=>(match P.info? e with|some i=>i.size !=0|none=>false)|_=>false
 | .e8=>match P.underlying t with|some (.interface _)=>true|_=>false
 | .av=>match P.underlying t with|some (.slice _)=>true|_=>false
 | .map=>match P.underlying t with|some (.map _ _)=>true|_=>false
 | .fn=>match P.underlying t with|some (.func ..)=>true|_=>false
 | .st fm=>match P.underlying t with|some (.struct fs)=> !P.stoodInHeld t&&(!P.eqGuardType P.depth t&&x5 P fs.toList fm)|_=>false
 |_=>false
def isConst:Operand→Bool
 | .const _=>true
 |_=>false
def Kf:c4→Bool
 | .e8=>false
 |_=>true
def dI (P:Program) (bw:jU) (o:Go.Op) (e:h7):Bool:=
 match e with
 | .dm a=>(match o with| .move x=>bw x a| .assign x=>bw x a|_=>false)
 | .pick c a b=>(match o with| .pick dT bp bT=>bw dT c&&(bw bp a&&bw bT b)|_=>false)
 | .alloc cs=>(match o with| .alloc t=>x3 P t cs|_=>false)
 | .box _ a=>(match o with| .box _ x=>bw x a|_=>false)
 | .build zero parts=>(match o with
   | .build t aQ=>x3 P t zero&&(match P.underlying t with|some (.struct fs)=>x4 P bw (WX P fs) aQ.toList parts&&fs.all (fun f=>(P.info? f.type).isSome)|_=>false)
   |_=>false)
 | .fA r n zero parts=>(match o with
   | .buildSlice t len aQ=>decide (len=n)&&(decide (0<r)&&(decide (len * r≤2 ^ 24)&&match P.underlying t with
     |some (.slice el)=>mX P el r&&(x3 P el zero&&(decide (zero.length=r)&&x4 P bw (fun i=>some (i * r,r)) aQ.toList parts))
     |_=>false))
   |_=>false)
 | .load a=>(match o with| .load t x=>pb P t false&&bw x a|_=>false)
 | .dd n a=>(match o with| .load t x=>pb P t true&&(mX P t n&&bw x a)|_=>false)
 | .pY a=>(match o with| .nilCheck x=>bw x a|_=>false)
 | .bin op a b=>(match o with| .binOp sq _ x y _=>decide (op=sq)&&(Am op&&(bw x a&&bw y b))|_=>false)
 | .fu op a b=>(match o with| .binOp sq _ x y _=>decide (op=sq)&&(Am op&&(bw x a&&bw y b))|_=>false)
 | .mb l a b=>(match o with| .binOp sq _ x y _=>decide (sq=if l then .shl else .shr)&&(bw x a&&bw y b)|_=>false)
 | .eq neg q a b=>(match o with| .binOp sq t x y _=>decide (sq=if neg then .neq else .eql)&&(mh P t q&&((isConst x||isConst y||Kf q)&&(bw x a&&bw y b)))|_=>false)
 | .neg a=>(match o with| .unOp .neg _ x=>bw x a|_=>false)
 | .not a=>(match o with| .unOp .not _ x=>bw x a|_=>false)
 | .conv k a=>(match o with| .convert s d x=>(match P.underlying s,P.underlying d with|some (.int _),some (.int An)=>decide (k=An)&&bw x a|_,_=>false)|_=>false)
 | .v8 a=>(match o with| .convert s d x=>(match P.underlying s,P.underlying d with|some .string,some (.slice el)=>(match P.underlying el with|some (.int .u8)=>bw x a|_=>false)|_,_=>false)|_=>false)
 | .sa a=>(match o with| .convert s d x=>(match P.underlying s,P.underlying d with|some (.slice el),some .string=>(match P.underlying el with|some (.int .u8)=>bw x a|_=>false)|_,_=>false)|_=>false)
 | .e8 t a=>(match o with| .makeInterface hY x=>decide (t=hY)&&(match P.underlying t with|some (.interface _)=>false|some _=>bw x a|none=>false)|_=>false)
 | .fn f l m=>(match o with| .makeFunc (.func dG) aP kk=>decide (f=dG)&&(tz bw aP.toList l&&tz bw kk.toList m)|_=>false)
 | .xQ=>false
 | .o1 r zero bytes l c=>(match o with
   | .makeSlice t aP dT=>decide (0<r)&&(bw aP l&&(bw dT c&&match P.underlying t with
     |some (.slice el)=>mX P el r&&(Gb P el bytes&&(x3 P el zero&&(decide (zero.length=r)&&decide (0<bytes))))
     |_=>false))
   |_=>false)
 | .o2 a bH aq=>(match o with| .slice t x wB nJ none=>(match P.underlying t with|some .string=>bw x a&&(sn bw wB bH&&sn bw nJ aq)|_=>false)|_=>false)
 | .kF r a bH aq mx=>(match o with
   | .slice t x wB nJ pc=>(match P.underlying t with
     |some (.slice el)=>mX P el r&&(bw x a&&(sn bw wB bH&&(sn bw nJ aq&&(sn bw pc mx&&Ge pc nJ))))
     |_=>false)
   |_=>false)
 | .wc n r a bH aq mx=>(match o with
   | .slice t x wB nJ pc=>(match P.underlying t with
     |some (.array gf el)=>decide (n=gf)&&(mX P el r&&(bw x a&&(sn bw wB bH&&(sn bw nJ aq&&(sn bw pc mx&&Ge pc nJ)))))
     |_=>false)
   |_=>false)
 | .b3 off a=>(match o with
   | .fieldAddr t x f=>(match P.underlying t with
     |some (.struct fs)=>(match fs[f]? with|some dQ=>decide (dQ.offset=off)&&((match P.info? dQ.type with|some i=>i.size !=0|none=>false)&&bw x a)|none=>false)
     |_=>false)
   |_=>false)
 | .field .. =>false
 | .bQ r a i=>(match o with| .indexAddr t x y=>(match P.underlying t with|some (.slice el)=>mX P el r&&(bw x a&&bw y i)|_=>false)|_=>false)
 | .tl n r a i=>(match o with| .indexAddr t x y=>(match P.underlying t with|some (.array gf el)=>decide (n=gf)&&(mX P el r&&(bw x a&&bw y i))|_=>false)|_=>false)
 | .lM a i=>(match o with| .index t x y=>(match P.underlying t with|some .string=>bw x a&&bw y i|_=>false)|_=>false)
 | .lookup .. =>false
 | .Cm .. =>false
 | .ext n a=>(match o with| .extract x gf=>decide (n=gf)&&bw x a|_=>false)
 | .len str a=>(match o with
   | .call {callee:= .builtin .len,args,argTypes}=>(match args.toList,argTypes[0]? with
     |[x],some t=>(match P.underlying t with|some .string=>str&&bw x a|some (.slice _)=> !str&&bw x a|_=>false)|_,_=>false)
   |_=>false)
 | .xR .. =>false
 | .cap _=>false
 | .Cn .. =>false
end
end Go.Eng
namespace Go.Eng
noncomputable section
section
variable {v:V} {r:bM} (hr:r≠.bad)
include hr
theorem rf {f:IntKind→Int→bM} (h:v.iy f=r):∃k n,v= .int k n∧f k n=r:=by
 cases v<;>first|exact ⟨_,_,rfl,h⟩|exact absurd h.symm hr
theorem Gf {f:Bool→bM} (h:v.JJ f=r):∃b,v= .bool b∧f b=r:=by
 cases v<;>first|exact ⟨_,rfl,h⟩|exact absurd h.symm hr
theorem tA {f:Nat→Nat→bM} (h:v.mR f=r):∃n x,v= .str n x∧f n x=r:=by
 cases v<;>first|exact ⟨_,_,rfl,h⟩|exact absurd h.symm hr
theorem wC {f:Nat→Nat→bM} (h:v.qZ f=r):∃b o,v= .ptr b o∧f b o=r:=by
 cases v<;>first|exact ⟨_,_,rfl,h⟩|exact absurd h.symm hr
theorem OZ {f:Nat→Nat→Nat→bM} (h:v.JK f=r):∃b o n c,v= .av b o n c∧f b o n=r:=by
 cases v<;>first|exact ⟨_,_,_,_,rfl,h⟩|exact absurd h.symm hr
theorem O0 {f:List V→bM} (h:v.Ox f=r):∃l,v= .dD l∧f l=r:=by
 cases v<;>first|exact ⟨_,rfl,h⟩|exact absurd h.symm hr
theorem WY {f:List V→bM} (h:v.Oy f=r):∃l,v= .agg l∧f l=r:=by
 cases v<;>first|exact ⟨_,rfl,h⟩|exact absurd h.symm hr
theorem O1 {f:Nat→bM} (h:v.FM f=r):(v= .U∧f 0=r)∨∃b o n c,v= .av b o n c∧f n=r:=by
 cases v<;>first|exact absurd h.symm hr|exact .inl ⟨rfl,h⟩|exact .inr ⟨_,_,_,_,rfl,h⟩
theorem Ao {f:Nat→bM} (h:v.zY f=r):∃k n,v= .int k (.ofNat n)∧f n=r:=by
 cases v with
 |int k n=>cases n with
  |ofNat n=>exact ⟨k,n,rfl,h⟩
  |negSucc n=>exact absurd h.symm hr
 |_=>exact absurd h.symm hr
theorem p7 {x:Option V} (h:bM.of x=r):∃y,x=some y∧r= .val y:=by
 cases x with
 |none=>exact absurd h.symm hr
 |some y=>exact ⟨y,rfl,h.symm⟩
theorem kN {α:Type} {x:Option α} {f:α→bM} (h:(Option.rec .bad f x:bM)=r):∃y,x=some y∧f y=r:=by
 cases x with
 |none=>exact absurd h.symm hr
 |some y=>exact ⟨y,rfl,h⟩
theorem p8 {x:Bool} {y:bM} (h:(Bool.rec .bad y x:bM)=r):x=true∧y=r:=by
 cases x with
 |false=>exact absurd h.symm hr
 |true=>exact ⟨rfl,h⟩
theorem p9 {x:Bool} {y:bM} (h:(bif x then y else .bad)=r):x=true∧y=r:=by
 cases x with
 |false=>exact absurd h.symm hr
 |true=>exact ⟨rfl,h⟩
end
theorem Kg {v:V} {n:Nat} (h:v.asNat=some n):∃k,v= .int k (.ofNat n):=by
 cases v with
 |int k m=>cases m with
  |ofNat m=>have:some m=some n:=h;cases this;exact ⟨k,rfl⟩
  |negSucc m=>cases h
 |_=>cases h
theorem WZ {v:V} {l:List V} (h:v.dY=some l):v= .agg l∨(l=[v]∧v≠.bot∧(∀l,v≠.agg l)∧∀l,v≠.dD l):=by
 cases v<;>first
  |(cases h;done)
  |(have:some _=some l:=h;cases this;exact .inl rfl)
  |(have:some _=some l:=h;cases this;exact .inr ⟨rfl,by simp,by simp,by simp⟩)
theorem Kh {ι:bb} {v:V} {x:Value} {l:List V} (h:v.dY=some l) (hr:bL ι v x):cE ι l x.cells.toList∧∀y∈x.cells.toList,y.oneCell'=true:=by
 rcases WZ h with rfl|⟨rfl,h0,h1,h2⟩
 · obtain ⟨cs,rfl,a,b⟩:=hr;exact ⟨a,b⟩
 · have hx:x.cells= #[x]∧x.oneCell'=true:=by
    cases v<;>first
     |exact absurd rfl h0
     |exact absurd rfl (h1 _)
     |exact absurd rfl (h2 _)
     |(have e:x=_:=hr;subst e;exact ⟨rfl,rfl⟩)
     |(obtain ⟨_,e,_⟩:=hr;subst e;exact ⟨rfl,rfl⟩)
     |(obtain ⟨_,_,e⟩:=hr;subst e;exact ⟨rfl,rfl⟩)
     |(obtain ⟨_,_,e,_⟩:=hr;subst e;exact ⟨rfl,rfl⟩)
     |(obtain ⟨_,_,_,_,e,_⟩:=hr;subst e;exact ⟨rfl,rfl⟩)
   rw [hx.1]
   exact ⟨⟨x,[],rfl,hr,rfl⟩,by simpa using hx.2⟩
section
variable {P:Program} (w:World)
theorem Ki {t:TypeId} (h:pb P t false=true):(isAgg t).run P w= .ok false w:=by
 unfold pb at h
 cases hu:P.underlying t with
 |none=>simp [hu] at h
 |some d=>cases d<;>simp [hu] at h<;>simp [isAgg,run_underlying hu,Result.andThen]
theorem W0 {t:TypeId} (h:pb P t true=true):(isAgg t).run P w= .ok true w:=by
 unfold pb at h
 cases hu:P.underlying t with
 |none=>simp [hu] at h
 |some d=>cases d<;>simp [hu] at h<;>simp [isAgg,run_underlying hu,Result.andThen]
theorem Aq {t:TypeId} {n:Nat} (h:mX P t n=true):(sizeOf t).run P w= .ok n w:=by
 unfold mX at h
 cases aq:P.info? t with
 |none=>simp [aq] at h
 |some i=>
  simp [aq] at h
  rw [run_sizeOf w aq];simp [Program.cellsOf,aq,h]
theorem O2 {t:TypeId} {a:Addr} {x:Value} (ht:pb P t false=true) (h:w.cell? a=some x):(loadVar t a).run P w= .ok x w:=by
 simp [loadVar,Ki w ht,Result.andThen,h]
theorem O3 {t:TypeId} {c o n:Nat} {xs:List Value} (ht:pb P t true=true) (aC:mX P t n=true) (au:xs.length=n)
  (h:∀j x,xs[j]? =some x→w.cell? ⟨c,o+j,none⟩=some x):(loadVar t ⟨c,o,none⟩).run P w= .ok (.agg xs.toArray) w:=by
 have:(loadCells ⟨c,o,none⟩ n).run P w= .ok xs.toArray w:=by
  rw [←au]
  exact run_loadCells_list w _ xs fun j v aE=>by
   rw [show (⟨c,o,none⟩:Addr).add j=⟨c,o+j,none⟩ by unfold Addr.add;split<;>simp_all]
   exact h j v aE
 simp [loadVar,W0 w ht,Aq w aC,Result.andThen,this]
end
end
end Go.Eng
namespace Go.Eng
theorem CP (i:Nat):2 ^ (8 * i)=256 ^ i:=by rw [Nat.pow_mul]
theorem Kj (l:List UInt8) (i:Nat):enc l / 256 ^ i=enc (l.drop i):=by
 induction i generalizing l with
 |zero=>simp
 |succ i bt=>
  cases l with
  |nil=>simp [enc]
  |cons b l=>
   have:=b.toNat_lt
   rw [Nat.pow_succ,Nat.mul_comm,←Nat.div_div_eq_div_mul]
   have:(enc (b::l)) / 256=enc l:=by simp only [enc];omega
   rw [this,bt];rfl
theorem W1 (l:List UInt8) (i:Nat):enc l % 256 ^ i=enc (l.take i):=by
 induction i generalizing l with
 |zero=>simp [enc];omega
 |succ i bt=>
  cases l with
  |nil=>simp [enc]
  |cons b l=>
   have hb:=b.toNat_lt
   simp only [List.take_succ_cons,enc,Nat.pow_succ]
   have aT:(b.toNat+256 * enc l) / 256=enc l:=by omega
   have bu:(b.toNat+256 * enc l) % 256=b.toNat:=by omega
   rw [Nat.mul_comm (256 ^ i) 256,←bt l,Nat.mod_mul,aT,bu]
theorem W2 (a b:List UInt8):enc (a++b)=enc a+256 ^ a.length * enc b:=by
 induction a with
 |nil=>simp [enc]
 |cons x a bt=>
  simp only [List.cons_append,enc,bt,List.length_cons,Nat.pow_succ]
  rw [Nat.mul_add,Nat.mul_comm (256 ^ a.length) 256,Nat.mul_assoc];omega
theorem O4:∀{a b:List UInt8},a.length=b.length→enc a=enc b→a=b
 |[],[],_,_=>rfl
 |[],_::_,h,_=>by simp at h
 |_::_,[],h,_=>by simp at h
 |x::a,y::b,h,e=>by
  have hx:=x.toNat_lt
  have hy:=y.toNat_lt
  simp only [enc] at e
  have h1:x.toNat=y.toNat:=by omega
  have h2:enc a=enc b:=by omega
  rw [O4 (by simpa using h) h2,UInt8.toNat_inj.1 h1]
theorem W3 (l:List UInt8) (i:Nat) (h:i<l.length):Co (enc l) i=(l[i]).toNat:=by
 show (enc l >>> (8 * i)) % 256=_
 rw [Nat.shiftRight_eq_div_pow,CP,Kj,List.drop_eq_getElem_cons h]
 have:=l[i].toNat_lt
 simp only [enc];omega
theorem O5 (l:List UInt8) (i n:Nat):FJ (enc l) i n=enc ((l.drop i).take n):=by
 show (enc l >>> (8 * i)) % 2 ^ (8 * n)=_
 rw [Nat.shiftRight_eq_div_pow,CP,CP,Kj,W1]
theorem W4 (a b:List UInt8):Ow a.length (enc a) (enc b)=enc (a++b):=by
 show enc a+enc b <<< (8 * a.length)=_
 rw [Nat.shiftLeft_eq,CP,W2,Nat.mul_comm]
theorem W5 (n x:Nat):gZ (n+1) x=x % 256::gZ n (x / 256):=rfl
theorem rh (l:List UInt8):gZ l.length (enc l)=l.map (·.toNat):=by
 induction l with
 |nil=>rfl
 |cons b l bt=>
  have:=b.toNat_lt
  rw [List.length_cons,W5]
  have h1:enc (b::l) % 256=b.toNat:=by simp only [enc];omega
  have h2:enc (b::l) / 256=enc l:=by simp only [enc];omega
  rw [h1,h2,bt];rfl
theorem W6 (a b:Nat) (x y:List Nat):qX (a::x) (b::y)=Bool.rec (Bool.rec false (qX x y) (a.beq b)) true (a.blt b):=rfl
theorem Ar:∀(a b:List UInt8),qX (a.map (·.toNat)) (b.map (·.toNat))=Op.bytesLess a b
 |[],[]=>rfl
 |[],_::_=>rfl
 |_::_,[]=>rfl
 |x::a,y::b=>by
  simp only [List.map_cons]
  rw [W6,gG,jr,Ar a b]
  simp only [Op.bytesLess]
  by_cases h1:x.toNat<y.toNat
  · have:x<y:=UInt8.lt_iff_toNat_lt.2 h1
    simp [h1,this]
  · have jR:¬x<y:=fun h=>h1 (UInt8.lt_iff_toNat_lt.1 h)
    by_cases h2:x=y
    · subst h2;simp
    · have:x.toNat≠y.toNat:=fun h=>h2 (UInt8.toNat_inj.1 h)
      simp [h1,jR,h2,this]
theorem Gg {n x m y:Nat} {s t:ByteArray} (h:FZ n x s) (aB:FZ m y t):mQ n x m y=decide (s=t):=by
 obtain ⟨rfl,rfl⟩:=h
 obtain ⟨rfl,rfl⟩:=aB
 unfold mQ
 rw [jr,jr]
 by_cases au:s.data.toList.length=t.data.toList.length
 · simp only [au,decide_true]
   by_cases he:enc s.data.toList=enc t.data.toList
   · have:=O4 au he
     have:s=t:=by cases s;cases t;congr;exact Array.ext' this
     simp [this]
   · have:s≠t:=fun e=>he (by rw [e])
     simp [he,this]
 · have:s≠t:=fun e=>au (by rw [e])
   simp only [au,decide_false,this]
end Go.Eng
namespace Go.Eng
noncomputable section
def hZ (P:Program) (ι:bb) (w:World) (bK:Operand→Value) (o:Oper) (v:V):Prop:=
 ∃v',(execOp bK o).run P w= .ok (.value v') w∧bL ι v v'
section
variable {P:Program} {ι:bb} {h:ag} {w:World} {bw:jU} {ev:dM} {bK:Operand→Value} {o:Oper} {v:V}
theorem W7 (bA:∀x a,bw x a=true→bL ι (ev a) (bK x)) {a:A} (hok:dI P bw o.op (.dm a)=true) (he:light (.dm a) ev h= .val v):hZ P ι w bK o v:=by
 have tB:ev a=v:=by injection he
 subst tB
 simp only [dI] at hok
 split at hok<;>rename_i hx
 · exact ⟨_,by simp [execOp,hx],bA _ _ hok⟩
 · exact ⟨_,by simp [execOp,hx],bA _ _ hok⟩
 · cases hok
theorem W8 (bA:∀x a,bw x a=true→bL ι (ev a) (bK x)) {c a b:A} (hok:dI P bw o.op (.pick c a b)=true) (he:light (.pick c a b) ev h= .val v):hZ P ι w bK o v:=by
 obtain ⟨t,ax,aE⟩:=Gf (by simp) he
 simp only [dI] at hok
 split at hok<;>rename_i hx
 · simp only [Bool.and_eq_true] at hok
   have h1:=bA _ _ hok.1
   rw [ax] at h1
   have h1:bK _= .bool t:=h1
   cases t with
   |true=>
    injection aE with aE;subst aE
    exact ⟨_,by simp [execOp,hx,h1,asBool,Result.andThen],bA _ _ hok.2.1⟩
   |false=>
    injection aE with aE;subst aE
    exact ⟨_,by simp [execOp,hx,h1,asBool,Result.andThen],bA _ _ hok.2.2⟩
 · cases hok
theorem W9 (g:Good ι h w) (bA:∀x a,bw x a=true→bL ι (ev a) (bK x)) {a:A} (hok:dI P bw o.op (.load a)=true) (he:light (.load a) ev h= .val v):hZ P ι w bK o v:=by
 obtain ⟨b,off,ax,aE⟩:=wC (by simp) he
 obtain ⟨y,hy,aE⟩:=p7 (by simp) aE
 cases aE
 simp only [dI] at hok
 split at hok<;>rename_i hx
 · simp only [Bool.and_eq_true] at hok
   have h1:=bA _ _ hok.2
   rw [ax] at h1
   obtain ⟨B,bW,h1⟩:=h1
   obtain ⟨x,aE,_,hcell⟩:=OI g bW hy
   exact ⟨x,by simp [execOp,hx,Instr.loadAt,Instr.sureAddr,h1,Result.andThen,O2 w hok.1 hcell],aE⟩
 · cases hok
theorem Xa (g:Good ι h w) (bA:∀x a,bw x a=true→bL ι (ev a) (bK x)) {n:Nat} {a:A} (hok:dI P bw o.op (.dd n a)=true) (he:light (.dd n a) ev h= .val v):hZ P ι w bK o v:=by
 obtain ⟨b,off,ax,aE⟩:=wC (by simp) he
 obtain ⟨l,au,aE⟩:=kN (by simp) aE
 rw [nE] at aE
 cases aE
 simp only [dI] at hok
 split at hok<;>rename_i hx
 · simp only [Bool.and_eq_true] at hok
   have h1:=bA _ _ hok.2.2
   rw [ax] at h1
   obtain ⟨B,bW,h1⟩:=h1
   obtain ⟨xs,hlen,aE,wD,hcell⟩:=Ag g bW au
   refine ⟨.agg xs.toArray,by simp [execOp,hx,Instr.loadAt,Instr.sureAddr,h1,Result.andThen,O3 w hok.1 hok.2.1 hlen hcell], ?_⟩
   exact ⟨xs.toArray,rfl,by simpa using aE,by simpa using wD⟩
 · cases hok
theorem Xb (bA:∀x a,bw x a=true→bL ι (ev a) (bK x)) {a:A} (hok:dI P bw o.op (.pY a)=true) (he:light (.pY a) ev h= .val v):hZ P ι w bK o v:=by
 obtain ⟨y,hy,aE⟩:=p7 (by simp) he
 cases aE
 simp only [dI] at hok
 split at hok<;>rename_i hx
 · have h1:=bA _ _ hok
   generalize ev a=cO at hy h1
   cases cO<;>first
    |(cases hy;done)
    |skip
   · cases hy
     obtain ⟨B,bW,h1⟩:=h1
     exact ⟨_,by simp [execOp,hx,h1],⟨B,bW,rfl⟩⟩
   · cases hy
     obtain ⟨xs,ys,h1,h2,bj⟩:=h1
     exact ⟨_,by simp [execOp,hx,h1],⟨xs,ys,rfl,h2,bj⟩⟩
   · cases hy
     obtain ⟨z,h1,h2⟩:=h1
     exact ⟨_,by simp [execOp,hx,h1],⟨z,rfl,h2⟩⟩
 · cases hok
theorem Kk {op:BinOp} {t:TypeId} {x y:Operand} {k j:IntKind} {a b:Int}:(eqGuard op t x y (.int k a) (.int j b)).run P w= .ok () w:=by
 unfold eqGuard
 split<;>simp [Result.andThen]
theorem Xc {op:BinOp} {t:TypeId} {x y:Operand} {a b:ByteArray}:(eqGuard op t x y (.string a) (.string b)).run P w= .ok () w:=by
 unfold eqGuard
 split<;>simp [Result.andThen]
theorem Xd (bA:∀x a,bw x a=true→bL ι (ev a) (bK x)) {t:Nat} {a:A} (hok:dI P bw o.op (.e8 t a)=true) (he:light (.e8 t a) ev h= .val v):hZ P ι w bK o v:=by
 have tB:V.e8 t (ev a)=v:=by injection he
 subst tB
 simp only [dI] at hok
 split at hok
 · rename_i hY x hx
   simp only [Bool.and_eq_true,decide_eq_true_eq] at hok
   obtain ⟨rfl,hok⟩:=hok
   cases hu:P.underlying t with
   |none=>simp [hu] at hok
   |some d=>
    have ax:bw x a=true:=by cases d<;>simp [hu] at hok<;>exact hok
    refine ⟨.iface t (bK x), ?_,⟨bK x,rfl,bA _ _ ax⟩⟩
    cases d<;>simp [hu] at hok<;>simp [execOp,hx,Instr.makeInterface,run_underlying hu,Result.andThen]
 · cases hok
theorem Gh (bA:∀x a,bw x a=true→bL ι (ev a) (bK x)):∀(l:List Operand) (m:List A),tz bw l m=true→cE ι (m.map ev) (l.map bK)
 |[],[],_=>rfl
 |[],_::_,h=>by simp [tz] at h
 |_::_,[],h=>by simp [tz] at h
 |x::l,a::m,h=>by
  simp [tz] at h
  exact ⟨_,_,rfl,bA x a h.1,Gh bA l m h.2⟩
theorem Xe (bA:∀x a,bw x a=true→bL ι (ev a) (bK x)) {f:Nat} {l m:List A} (hok:dI P bw o.op (.fn f l m)=true) (he:light (.fn f l m) ev h= .val v):hZ P ι w bK o v:=by
 have tB:V.fn f (h8 l ev) (h8 m ev)=v:=by injection he
 subst tB
 simp only [dI] at hok
 split at hok
 · rename_i dG aP kk hx
   simp only [Bool.and_eq_true,decide_eq_true_eq] at hok
   obtain ⟨rfl,h1,h2⟩:=hok
   refine ⟨.func (.func f) (aP.map bK) (kk.map bK),by simp [execOp,hx,Instr.makeFunc,Result.andThen],⟨_,_,rfl, ?_, ?_⟩⟩
   · simpa using Gh bA _ _ h1
   · simpa using Gh bA _ _ h2
 · cases hok
theorem Xf (bA:∀x a,bw x a=true→bL ι (ev a) (bK x)) {a:A} (hok:dI P bw o.op (.not a)=true) (he:light (.not a) ev h= .val v):hZ P ι w bK o v:=by
 obtain ⟨t,ax,aE⟩:=Gf (by simp) he
 cases aE
 simp only [dI] at hok
 split at hok<;>rename_i hx
 · have h1:=bA _ _ hok
   rw [ax] at h1
   have h1:bK _= .bool t:=h1
   exact ⟨.bool (!t),by simp [execOp,hx,Op.unary,h1,Result.andThen],by simp [bL]⟩
 · cases hok
theorem Xg (bA:∀x a,bw x a=true→bL ι (ev a) (bK x)) {a:A} (hok:dI P bw o.op (.neg a)=true) (he:light (.neg a) ev h= .val v):hZ P ι w bK o v:=by
 obtain ⟨k,n,ax,aE⟩:=rf (by simp) he
 cases aE
 simp only [dI] at hok
 split at hok<;>rename_i hx
 · have h1:=bA _ _ hok
   rw [ax] at h1
   have h1:bK _= .int k n:=h1
   refine ⟨.int k (k.wrap (0 - n)),by simp [execOp,hx,Op.unary,Op.intArith,h1,Result.andThen], ?_⟩
   rw [tu];simp only [bL];congr 2;show 0 - n= -n;omega
 · cases hok
theorem Xh (bA:∀x a,bw x a=true→bL ι (ev a) (bK x)) {k:IntKind} {a:A} (hok:dI P bw o.op (.conv k a)=true) (he:light (.conv k a) ev h= .val v):hZ P ι w bK o v:=by
 obtain ⟨j,n,ax,aE⟩:=rf (by simp) he
 cases aE
 simp only [dI] at hok
 split at hok<;>rename_i hx
 · split at hok
   · rename_i aC aX
     simp only [Bool.and_eq_true,decide_eq_true_eq] at hok
     obtain ⟨rfl,hok⟩:=hok
     have h1:=bA _ _ hok
     rw [ax] at h1
     have h1:bK _= .int j n:=h1
     refine ⟨.int k (k.wrap n),by simp [execOp,hx,convert,run_underlying aC,run_underlying aX,Conv.intToInt,h1,Result.andThen], ?_⟩
     rw [tu];rfl
   · cases hok
 · cases hok
theorem Xi (bA:∀x a,bw x a=true→bL ι (ev a) (bK x)) {n:Nat} {a:A} (hok:dI P bw o.op (.ext n a)=true) (he:light (.ext n a) ev h= .val v):hZ P ι w bK o v:=by
 obtain ⟨l,ax,aE⟩:=O0 (by simp) he
 obtain ⟨y,hy,aE⟩:=p7 (by simp) aE
 cases aE
 rw [CA,tt,List.head?_drop] at hy
 simp only [dI] at hok
 split at hok<;>rename_i hx
 · simp only [Bool.and_eq_true,decide_eq_true_eq] at hok
   obtain ⟨rfl,hok⟩:=hok
   have h1:=bA _ _ hok
   rw [ax] at h1
   obtain ⟨cs,h1,h2⟩:=h1
   obtain ⟨x,F9,aE⟩:=h2.get hy
   have Xj:cs[n]? =some x:=by simpa using F9
   exact ⟨x,by simp [execOp,hx,Instr.extract,h1,Xj,Result.andThen],aE⟩
 · cases hok
end
end
end Go.Eng
namespace Go.Eng
noncomputable section
section
variable {P:Program} {ι:bb} {h:ag} {w:World} {bw:jU} {ev:dM} {bK:Operand→Value} {o:Oper} {v:V}
theorem O6 (k:IntKind):(k.signed=true∧lO k=2 ^ (k.bits - 1))∨(k.signed=false∧lO k=2 ^ k.bits):=by cases k<;>decide
theorem O7 (k:IntKind):lO k≤2 ^ k.bits:=by cases k<;>decide
theorem Kl {k:IntKind} {n:Nat} (h:n<lO k):k.wrap (n:Int)=n:=by
 have h1:((n:Int) % 2 ^ k.bits)=n:=by
  have hb:n<2 ^ k.bits:=Nat.lt_of_lt_of_le h (O7 k)
  refine Int.emod_eq_of_lt (Int.natCast_nonneg _) ?_
  have:((n:Int))<((2 ^ k.bits:Nat):Int):=by exact_mod_cast hb
  simpa using this
 unfold IntKind.wrap
 simp only [h1]
 rcases O6 k with ⟨aC,au⟩|⟨aC,au⟩
 · have:((n:Int))<((2 ^ (k.bits - 1):Nat):Int):=by rw [←au];exact_mod_cast h
   have h2:¬((n:Int)≥2 ^ (k.bits - 1)):=by simpa using this
   simp [aC,h2]
 · simp [aC]
theorem Km (k:IntKind) {m n:Nat} (hm:m<lO k) (hn:n<lO k):
  (Op.intBits .and k m n).run P w= .ok (.int k (Nat.land m n:Nat)) w∧(Op.intBits .or k m n).run P w= .ok (.int k (Nat.lor m n:Nat)) w∧(Op.intBits .xor k m n).run P w= .ok (.int k (Nat.xor m n:Nat)) w:=by
 have hb:=O7 k
 have hp:∃p,lO k=2 ^ p:=by
  rcases O6 k with ⟨_,h⟩|⟨_,h⟩<;>exact ⟨_,h⟩
 obtain ⟨p,hp⟩:=hp
 have Kn:∀x:Nat,x<lO k→(BitVec.ofInt k.bits (x:Int)).toNat=x:=by
  intro x hx
  rw [BitVec.ofInt_natCast,BitVec.toNat_ofNat]
  exact Nat.mod_eq_of_lt (Nat.lt_of_lt_of_le hx hb)
 have p3:=Kn m hm
 have tC:=Kn n hn
 rw [hp] at hm hn
 have ha:m &&& n<lO k:=by rw [hp];exact Nat.lt_of_le_of_lt Nat.and_le_left hm
 have bq:m ||| n<lO k:=by rw [hp];exact Nat.or_lt_two_pow hm hn
 have hx:m ^^^ n<lO k:=by rw [hp];exact Nat.xor_lt_two_pow hm hn
 refine ⟨?_, ?_, ?_⟩
 · simp only [Op.intBits,BitVec.toNat_and,p3,tC];rw [Kl ha];rfl
 · simp only [Op.intBits,BitVec.toNat_or,p3,tC];rw [Kl bq];rfl
 · simp only [Op.intBits,BitVec.toNat_xor,p3,tC];rw [Kl hx];rfl
theorem Ko {f:Nat→Nat→Nat} {k:IntKind} {a b:Int} {y:V} (h:Ct f k a b=some y):∃m n:Nat,a=m∧b=n∧m<lO k∧n<lO k∧y= .int k (f m n:Nat):=by
 unfold Ct at h
 cases a with
 |negSucc a=>cases h
 |ofNat m=>cases b with
  |negSucc b=>cases h
  |ofNat n=>
   have h:(bif m.blt (lO k)&&n.blt (lO k) then some (iX k (f m n)) else none)=some y:=h
   rw [gG,gG] at h
   by_cases h1:m<lO k
   · by_cases h2:n<lO k
     · simp [h1,h2] at h;exact ⟨m,n,rfl,rfl,h1,h2,h.symm⟩
     · simp [h2] at h
   · simp [h1] at h
theorem Xk {op:BinOp} (bA:Am op=true) {t:TypeId} {k:IntKind} {a b:Int} {y:V} (h:wg op k a b=some y):∃x,(binOp op t (.int k a) (.int k b)).run P w= .ok x w∧bL ι y x:=by
 cases op<;>first|(simp [Am] at bA;done)|skip
 · have h:some (kI k (FL a b))=some y:=h
   cases h;exact ⟨.int k (k.wrap (a+b)),by simp [binOp,Op.intArith],by simp [bL]⟩
 · have h:some (kI k (Cs a b))=some y:=h
   cases h;exact ⟨.int k (k.wrap (a - b)),by simp [binOp,Op.intArith],by simp [bL]⟩
 · have h:some (kI k (zX a b))=some y:=h
   cases h;exact ⟨.int k (k.wrap (a * b)),by simp [binOp,Op.intArith],by simp [bL]⟩
 · have h:(Bool.rec (some (kI k (a.tdiv b))) none (o3 b 0):Option V)=some y:=h
   rw [Ac] at h
   by_cases hb:b=0
   · simp [hb] at h
   · simp only [hb,decide_false] at h;cases h;exact ⟨.int k (k.wrap (a.tdiv b)),by simp [binOp,Op.intDiv,hb],by simp [bL]⟩
 · have h:(Bool.rec (some (Cp k (a.tmod b))) none (o3 b 0):Option V)=some y:=h
   rw [Ac] at h
   by_cases hb:b=0
   · simp [hb] at h
   · simp only [hb,decide_false] at h;cases h;exact ⟨.int k (a.tmod b),by simp [binOp,Op.intDiv,hb],by simp [bL]⟩
 · obtain ⟨m,n,rfl,rfl,h1,h2,rfl⟩:=Ko h
   exact ⟨_,by simpa [binOp] using (Km (P:=P) (w:=w) k h1 h2).1,rfl⟩
 · obtain ⟨m,n,rfl,rfl,h1,h2,rfl⟩:=Ko h
   exact ⟨_,by simpa [binOp] using (Km (P:=P) (w:=w) k h1 h2).2.1,rfl⟩
 · obtain ⟨m,n,rfl,rfl,h1,h2,rfl⟩:=Ko h
   exact ⟨_,by simpa [binOp] using (Km (P:=P) (w:=w) k h1 h2).2.2,rfl⟩
 · cases h
 · have h:some (V.bool (o3 a b))=some y:=h
   cases h;exact ⟨.bool (a==b),by simp [binOp,Op.intCmp],by simp [bL];rfl⟩
 · have h:some (V.bool (oq (o3 a b)))=some y:=h
   cases h;exact ⟨.bool (a !=b),by simp [binOp,Op.intCmp],by simp [bL,bne];rfl⟩
 · have h:some (V.bool (mO a b))=some y:=h
   cases h;exact ⟨.bool (a<b),by simp [binOp,Op.intCmp],by simp [bL]⟩
 · have h:some (V.bool (oq (mO b a)))=some y:=h
   cases h;exact ⟨.bool (a≤b),by simp [binOp,Op.intCmp],by simp only [bL,uZ,Ad];congr 1;rw [Bool.eq_iff_iff];simp [Int.not_lt]⟩
 · have h:some (V.bool (mO b a))=some y:=h
   cases h;exact ⟨.bool (a>b),by simp [binOp,Op.intCmp],by simp [bL]⟩
 · have h:some (V.bool (oq (mO a b)))=some y:=h
   cases h;exact ⟨.bool (a≥b),by simp [binOp,Op.intCmp],by simp only [bL,uZ,Ad];congr 1;rw [Bool.eq_iff_iff];simp [Int.not_lt]⟩
theorem Xl (bA:∀x a,bw x a=true→bL ι (ev a) (bK x)) {op:BinOp} {a b:A} (hok:dI P bw o.op (.bin op a b)=true) (he:light (.bin op a b) ev h= .val v):hZ P ι w bK o v:=by
 obtain ⟨k,m,ax,aE⟩:=rf (by simp) he
 obtain ⟨j,n,aX,aE⟩:=rf (by simp) aE
 obtain ⟨hk,aE⟩:=p8 (by simp) aE
 obtain ⟨y,hy,aE⟩:=p7 (by simp) aE
 cases aE
 rw [xX,decide_eq_true_eq] at hk
 subst hk
 simp only [dI] at hok
 split at hok
 · rename_i sq t x qa _ hx
   simp only [Bool.and_eq_true,decide_eq_true_eq] at hok
   obtain ⟨rfl,h0,h1,h2⟩:=hok
   have h1:=bA _ _ h1
   rw [ax] at h1
   have h1:bK _= .int k m:=h1
   have h2:=bA _ _ h2
   rw [aX] at h2
   have h2:bK _= .int k n:=h2
   obtain ⟨z,hz,hr⟩:=Xk (P:=P) (w:=w) (ι:=ι) h0 (t:=t) hy
   exact ⟨z,by simp [execOp,hx,h1,h2,Kk,hz,Result.andThen],hr⟩
 · cases hok
theorem Xm (bA:∀x a,bw x a=true→bL ι (ev a) (bK x)) {l:Bool} {a b:A} (hok:dI P bw o.op (.mb l a b)=true) (he:light (.mb l a b) ev h= .val v):hZ P ι w bK o v:=by
 obtain ⟨k,m,ax,aE⟩:=rf (by simp) he
 obtain ⟨j,n,aX,aE⟩:=rf (by simp) aE
 obtain ⟨y,hy,aE⟩:=p7 (by simp) aE
 cases aE
 simp only [dI] at hok
 split at hok
 · rename_i sq t x qa _ hx
   simp only [Bool.and_eq_true,decide_eq_true_eq] at hok
   obtain ⟨rfl,h1,h2⟩:=hok
   have h1:=bA _ _ h1
   rw [ax] at h1
   have h1:bK _= .int k m:=h1
   have h2:=bA _ _ h2
   rw [aX] at h2
   have h2:bK _= .int j n:=h2
   cases l with
   |true=>
    have hy:Jz k m n=some v:=hy
    unfold Jz at hy
    cases n with
    |negSucc n=>cases hy
    |ofNat n=>
     have hy:(bif n.ble 64&&n.ble k.bits then some (kI k (zX m (.ofNat (Nat.pow 2 n)))) else none)=some v:=hy
     rw [fa,fa] at hy
     by_cases hb:n≤k.bits
     · by_cases dW:n≤64
       · simp only [hb,dW,decide_true,Bool.and_self,cond_true,tu,OD,Option.some.injEq] at hy
         subst hy
         refine ⟨.int k (k.wrap (m * 2 ^ n)), ?_, ?_⟩
         · have Kp:¬((n:Int)<0):=by omega
           simp [execOp,hx,h1,h2,Kk,binOp,Op.shift,Result.andThen]
           simp [Nat.min_eq_left hb,Kp]
         · simp only [bL];congr 3
       · simp [dW] at hy
     · simp [hb] at hy
   |false=>
    have hy:JA k m n=some v:=hy
    unfold JA at hy
    cases m with
    |negSucc m=>cases hy
    |ofNat m=>cases n with
     |negSucc n=>cases hy
     |ofNat n=>
      have hy:(bif n.ble 64&&n.ble k.bits then some (iX k (m.div (Nat.pow 2 n))) else none)=some v:=hy
      rw [fa,fa] at hy
      by_cases hb:n≤k.bits
      · by_cases dW:n≤64
        · simp only [hb,dW,decide_true,Bool.and_self,cond_true,uY,Option.some.injEq] at hy
          subst hy
          refine ⟨.int k ((m:Int).fdiv (2 ^ n)), ?_, ?_⟩
          · have Kp:¬((n:Int)<0):=by omega
            simp [execOp,hx,h1,h2,Kk,binOp,Op.shift,Result.andThen]
            simp [Nat.min_eq_left hb,Kp]
          · simp only [bL];congr 1
            show (m:Int).fdiv (2 ^ n)=((m / 2 ^ n:Nat):Int)
            rw [Int.fdiv_eq_ediv_of_nonneg _ (Int.pow_nonneg (by decide))];simp
        · simp [dW] at hy
      · simp [hb] at hy
 · cases hok
end
end
end Go.Eng
namespace Go.Eng
noncomputable section
section
variable {P:Program} {ι:bb} {h:ag} {w:World} {bw:jU} {ev:dM} {bK:Operand→Value} {o:Oper} {v:V}
@[simp] theorem CQ (n x:Nat):sc n x= .str n x:=by simp [sc]
theorem tD (c o n:Nat):(⟨c,o,none⟩:Addr).add n=⟨c,o+n,none⟩:=by unfold Addr.add;split<;>simp_all
theorem CR {ev:dM} {bK:Operand→Value} (bA:∀x a,bw x a=true→bL ι (ev a) (bK x)) {x:Operand} {a:A} {k:IntKind} {n:Int} (ax:bw x a=true) (he:ev a= .int k n):bK x= .int k n:=by
 have:=bA x a ax;rw [he] at this;exact this
theorem As {ev:dM} {bK:Operand→Value} (bA:∀x a,bw x a=true→bL ι (ev a) (bK x)) {x:Operand} {a:A} {n m:Nat} (ax:bw x a=true) (he:ev a= .str n m):∃s,bK x= .string s∧FZ n m s:=by
 have:=bA x a ax;rw [he] at this;exact this
theorem Gi {ev:dM} {bK:Operand→Value} (bA:∀x a,bw x a=true→bL ι (ev a) (bK x)) {x:Operand} {a:A} {n m:Nat} (ax:bw x a=true) (he:ev a= .ptr n m):∃B,ι n=some B∧bK x= .pointer (some ⟨B.c,B.off+m,none⟩):=by
 have:=bA x a ax;rw [he] at this;exact this
theorem O8 {ev:dM} {bK:Operand→Value} (bA:∀x a,bw x a=true→bL ι (ev a) (bK x)) {x:Operand} {a:A} {b m n:Nat} {cap:Option Nat} (ax:bw x a=true) (he:ev a= .av b m n cap):∃B y c,ι b=some B∧bK x= .slice (some y) n c∧Ae B m n cap y c:=by
 have:=bA x a ax;rw [he] at this;exact this
theorem wE {B:fR} {o n:Nat} {cap:Option Nat} {y:Addr} {c:Nat} (h:Ae B o n cap y c) (hn:0<n):y=⟨B.c,B.off+o,none⟩:=by
 cases cap with
 |some k=>exact h.2.1
 |none=>
  obtain ⟨h1,h2,bj,cy,gh⟩:=h
  cases gh with
  |inl gh=>exact gh
  |inr gh=>omega
theorem Xn (bA:∀x a,bw x a=true→bL ι (ev a) (bK x)) {off:Nat} {a:A} (hok:dI P bw o.op (.b3 off a)=true) (he:light (.b3 off a) ev h= .val v):hZ P ι w bK o v:=by
 obtain ⟨b,q,ax,aE⟩:=wC (by simp) he
 rw [force_eq] at aE
 cases aE
 simp only [dI] at hok
 split at hok
 · rename_i t x f hx
   split at hok
   · rename_i fs hu
     split at hok
     · rename_i dQ hf
       simp only [Bool.and_eq_true,decide_eq_true_eq] at hok
       obtain ⟨rfl,aC,h1⟩:=hok
       obtain ⟨B,bW,h1⟩:=Gi bA h1 ax
       cases aq:P.info? dQ.type with
       |none=>simp [aq] at aC
       |some i=>
        have aC:i.size≠0:=by simpa [aq] using aC
        have hz:P.cellsOf dQ.type=i.size:=by simp [Program.cellsOf,aq]
        have lT:fs[f]? =some dQ:=hf
        refine ⟨.pointer (some ⟨B.c,B.off+(q+dQ.offset),none⟩), ?_,⟨B,bW,rfl⟩⟩
        simp [execOp,hx,Instr.fieldAt,run_underlying hu,lT,Instr.sureAddr,h1,fieldPlace,run_sizeOf w aq,hz,aC,tD,Result.andThen,Nat.add_assoc]
     · cases hok
   · cases hok
 · cases hok
theorem Xo (bA:∀x a,bw x a=true→bL ι (ev a) (bK x)) {r:Nat} {a i:A} (hok:dI P bw o.op (.bQ r a i)=true) (he:light (.bQ r a i) ev h= .val v):hZ P ι w bK o v:=by
 obtain ⟨b,q,n,cap,ax,aE⟩:=OZ (by simp) he
 obtain ⟨k,j,aX,aE⟩:=Ao (by simp) aE
 obtain ⟨aV,aE⟩:=p8 (by simp) aE
 rw [force_eq] at aE
 cases aE
 rw [gG,decide_eq_true_eq] at aV
 simp only [dI] at hok
 split at hok
 · rename_i t x y hx
   split at hok
   · rename_i el hu
     simp only [Bool.and_eq_true,decide_eq_true_eq] at hok
     obtain ⟨aC,h1,h2⟩:=hok
     obtain ⟨B,z,c,bW,h1,hj⟩:=O8 bA h1 ax
     have h2:=CR bA h2 aX
     have hz:=wE hj (by omega)
     refine ⟨.pointer (some ⟨B.c,B.off+(q+j * r),none⟩), ?_,⟨B,bW,rfl⟩⟩
     simp [execOp,hx,Instr.indexAt,run_underlying hu,h1,h2,asIntOf,aV,Aq w aC,hz,tD,Result.andThen,Nat.add_assoc]
   · cases hok
 · cases hok
theorem Xp (bA:∀x a,bw x a=true→bL ι (ev a) (bK x)) {n r:Nat} {a i:A} (hok:dI P bw o.op (.tl n r a i)=true) (he:light (.tl n r a i) ev h= .val v):hZ P ι w bK o v:=by
 obtain ⟨b,q,ax,aE⟩:=wC (by simp) he
 obtain ⟨k,j,aX,aE⟩:=Ao (by simp) aE
 obtain ⟨aV,aE⟩:=p8 (by simp) aE
 rw [force_eq] at aE
 cases aE
 rw [gG,decide_eq_true_eq] at aV
 simp only [dI] at hok
 split at hok
 · rename_i t x y hx
   split at hok
   · rename_i el hu
     simp only [Bool.and_eq_true,decide_eq_true_eq] at hok
     obtain ⟨rfl,aC,h1,h2⟩:=hok
     obtain ⟨B,bW,h1⟩:=Gi bA h1 ax
     have h2:=CR bA h2 aX
     refine ⟨.pointer (some ⟨B.c,B.off+(q+j * r),none⟩), ?_,⟨B,bW,rfl⟩⟩
     simp [execOp,hx,Instr.indexAt,run_underlying hu,h1,h2,asIntOf,Instr.sureAddr,aV,Aq w aC,tD,Result.andThen,Nat.add_assoc]
   · cases hok
 · cases hok
theorem Xq (bA:∀x a,bw x a=true→bL ι (ev a) (bK x)) {off n:Nat} {tk:Bool} {a:A} (hok:dI P bw o.op (.field off n tk a)=true) (he:light (.field off n tk a) ev h= .val v):hZ P ι w bK o v:=(Bool.false_ne_true hok).elim
theorem Xr (bA:∀x a,bw x a=true→bL ι (ev a) (bK x)) {a i:A} (hok:dI P bw o.op (.lM a i)=true) (he:light (.lM a i) ev h= .val v):hZ P ι w bK o v:=by
 obtain ⟨n,m,ax,aE⟩:=tA (by simp) he
 obtain ⟨k,j,aX,aE⟩:=Ao (by simp) aE
 obtain ⟨aV,aE⟩:=p8 (by simp) aE
 cases aE
 rw [gG,decide_eq_true_eq] at aV
 simp only [dI] at hok
 split at hok
 · rename_i t x y hx
   split at hok
   · rename_i hu
     simp only [Bool.and_eq_true,decide_eq_true_eq] at hok
     obtain ⟨h1,h2⟩:=hok
     obtain ⟨s,h1,rfl,rfl⟩:=As bA h1 ax
     have h2:=CR bA h2 aX
     have Xt:j<s.size:=Nat.lt_of_lt_of_eq aV Array.length_toList
     obtain ⟨z,hg,hz⟩:∃z,s[j]? =some z∧z=s.data.toList[j]:=⟨s[j],getElem?_pos s j Xt,rfl⟩
     refine ⟨.int .u8 z.toNat, ?_, ?_⟩
     · have:(Instr.index t (.string s) (.int k (Int.ofNat j))).run P w= .ok (.int .u8 z.toNat) w:=by
        have e:(if 0≤Int.ofNat j then s[(Int.ofNat j).toNat]? else none)=some z:=by
         have h0:(0:Int)≤Int.ofNat j:=Int.natCast_nonneg j
         rw [if_pos h0];exact hg
        simp only [Instr.index,asIntOf,Sem.run_bind,Sem.run_pure,Result.andThen,run_underlying hu,e]
       simp only [execOp,hx,h1,h2,Sem.run_bind,this,Sem.run_pure,Result.andThen]
     · rw [uY,W3 _ _ aV,hz];rfl
   · cases hok
 · cases hok
theorem Xu (bA:∀x a,bw x a=true→bL ι (ev a) (bK x)) {str:Bool} {a:A} (hok:dI P bw o.op (.len str a)=true) (he:light (.len str a) ev h= .val v):hZ P ι w bK o v:=by
 simp only [dI] at hok
 split at hok
 · rename_i args argTypes hx
   split at hok
   · rename_i x t hargs Kq
     have aT:args= #[x]:=by cases args;simp at hargs;simp [hargs]
     subst aT
     cases str with
     |true=>
      obtain ⟨n,m,ax,aE⟩:=tA (by simp) he
      cases aE
      split at hok
      · rename_i hu
        obtain ⟨s,h1,rfl,rfl⟩:=As bA (by simpa using hok) ax
        refine ⟨goInt s.size,by simp [execOp,hx,resolve,invoke,builtin,Builtin.len_,Kq,run_underlying hu,h1,Result.andThen], ?_⟩
        rw [uY];rfl
      · simp at hok
      · cases hok
     |false=>
      split at hok
      · simp at hok
      · rename_i el hu
        have key:bw x a=true:=by simpa using hok
        rcases O1 (by simp) he with ⟨ax,aE⟩|⟨b,q,n,cap,ax,aE⟩
        · cases aE
          have h1:=bA _ _ key
          rw [ax] at h1
          have h1:bK x= .slice none 0 0:=h1
          exact ⟨goInt 0,by simp [execOp,hx,resolve,invoke,builtin,Builtin.len_,Kq,run_underlying hu,h1,Result.andThen],by rw [uY];rfl⟩
        · cases aE
          obtain ⟨B,z,c,bW,h1,hj⟩:=O8 bA key ax
          exact ⟨goInt n,by simp [execOp,hx,resolve,invoke,builtin,Builtin.len_,Kq,run_underlying hu,h1,Result.andThen],by rw [uY];rfl⟩
      · cases hok
   · cases hok
 · cases hok
end
end
end Go.Eng
namespace Go.Eng
noncomputable section
section
variable {P:Program} {ι:bb} {h:ag} {w:World} {bw:jU} {ev:dM} {bK:Operand→Value} {o:Oper} {v:V}
theorem Xv {op:BinOp} {t:TypeId} (bA:Am op=true) {s u:ByteArray} {y:V}
  (h:Cu op s.data.toList.length (enc s.data.toList) u.data.toList.length (enc u.data.toList)=some y):∃x,(binOp op t (.string s) (.string u)).run P w= .ok x w∧bL ι y x:=by
 have au:qX (gZ s.data.toList.length (enc s.data.toList)) (gZ u.data.toList.length (enc u.data.toList))=Op.bytesLess s.toList u.toList:=by
  rw [rh,rh,Ar,Go.Lib.toList_data,Go.Lib.toList_data]
 have tE:qX (gZ u.data.toList.length (enc u.data.toList)) (gZ s.data.toList.length (enc s.data.toList))=Op.bytesLess u.toList s.toList:=by
  rw [rh,rh,Ar,Go.Lib.toList_data,Go.Lib.toList_data]
 have he:mQ s.data.toList.length (enc s.data.toList) u.data.toList.length (enc u.data.toList)=(s.toList==u.toList):=by
  rw [Gg ⟨rfl,rfl⟩ ⟨rfl,rfl⟩,Go.Lib.toList_data,Go.Lib.toList_data]
  rw [Bool.eq_iff_iff]
  simp only [decide_eq_true_eq,beq_iff_eq]
  constructor
  · intro h;rw [h]
  · intro h;cases s;cases u;congr;exact Array.ext' h
 have O9:∀a b:List UInt8,(Op.bytesLess a b||a==b)= !Op.bytesLess b a:=by
  intro a
  induction a with
  |nil=>intro b;cases b<;>simp [Op.bytesLess]
  |cons x a bt=>
   intro b
   cases b with
   |nil=>simp [Op.bytesLess]
   |cons y b=>
    have:=bt b
    simp only [Op.bytesLess,List.cons_beq_cons]
    by_cases h1:x<y
    · have h2:¬y<x:=fun h=>by rw [UInt8.lt_iff_toNat_lt] at h h1;omega
      have bj:¬y=x:=fun h=>by subst h;rw [UInt8.lt_iff_toNat_lt] at h1;omega
      simp [h1,h2,bj]
    · by_cases h2:y<x
      · have bj:¬x=y:=fun h=>by subst h;exact h1 h2
        simp [h1,h2,bj]
      · have bj:x=y:=by
         rw [UInt8.lt_iff_toNat_lt] at h1 h2
         exact UInt8.toNat_inj.1 (by omega)
        subst bj
        simpa [h1] using this
 cases op<;>first|(simp [Am] at bA;done)|(cases h;done)|skip
 · have h:JC _ _ _ _=some y:=h
   unfold JC at h
   rw [gG] at h
   by_cases hb:s.data.toList.length+u.data.toList.length<4294967296
   · have eH:decide (Nat.add s.data.toList.length u.data.toList.length<4294967296)=true:=by simpa using hb
     rw [eH,cond_true,CQ,W4] at h
     cases h
     have ec:¬(((s.size+u.size:Nat):Int)>IntKind.i64.max):=by
      rw [Go.Lib.size_eq,Go.Lib.size_eq];simp only [IntKind.max,IntKind.signed,IntKind.bits];simp at hb ⊢;omega
     refine ⟨.string (s++u),by simp only [binOp,Op.stringOp,if_neg ec];rfl,s++u,rfl, ?_, ?_⟩
     · simp
     · simp
   · have eH:decide (Nat.add s.data.toList.length u.data.toList.length<4294967296)=false:=by simpa using hb
     rw [eH] at h;cases h
 · have h:JD _ _ _ _=some y:=h
   unfold JD at h;rw [he] at h;cases h
   exact ⟨_,rfl,rfl⟩
 · have h:JE _ _ _ _=some y:=h
   unfold JE at h;rw [he,uZ] at h;cases h
   exact ⟨_,rfl,rfl⟩
 · have h:JF _ _ _ _=some y:=h
   unfold JF at h;rw [au] at h;cases h
   exact ⟨_,rfl,rfl⟩
 · have h:JG _ _ _ _=some y:=h
   unfold JG at h;rw [tE,uZ,←O9] at h;cases h
   exact ⟨_,rfl,rfl⟩
 · have h:JH _ _ _ _=some y:=h
   unfold JH at h
   have e:Op.bytesLess u.toList s.toList= !(Op.bytesLess s.toList u.toList||s.toList==u.toList):=by rw [O9,Bool.not_not]
   rw [tE,e] at h;cases h
   exact ⟨_,rfl,rfl⟩
 · have h:JI _ _ _ _=some y:=h
   unfold JI at h;rw [au,uZ] at h;cases h
   exact ⟨_,rfl,rfl⟩
theorem Xw (bA:∀x a,bw x a=true→bL ι (ev a) (bK x)) {op:BinOp} {a b:A} (hok:dI P bw o.op (.fu op a b)=true) (he:light (.fu op a b) ev h= .val v):hZ P ι w bK o v:=by
 obtain ⟨n,m,ax,aE⟩:=tA (by simp) he
 obtain ⟨gf,kk,aX,aE⟩:=tA (by simp) aE
 obtain ⟨y,hy,aE⟩:=p7 (by simp) aE
 cases aE
 simp only [dI] at hok
 split at hok
 · rename_i sq t x qa _ hx
   simp only [Bool.and_eq_true,decide_eq_true_eq] at hok
   obtain ⟨rfl,h0,h1,h2⟩:=hok
   obtain ⟨s,h1,rfl,rfl⟩:=As bA h1 ax
   obtain ⟨u,h2,rfl,rfl⟩:=As bA h2 aX
   obtain ⟨z,hz,hr⟩:=Xv (P:=P) (w:=w) (ι:=ι) h0 (t:=t) hy
   exact ⟨z,by simp [execOp,hx,h1,h2,Xc,hz,Result.andThen],hr⟩
 · cases hok
theorem mY {t:TypeId} {x y:Value} {c:Bool} (h:∀d,(Op.equalIn (d+1) t x y).run P w= .ok c w):(Op.equal t x y).run P w= .ok c w:=h 9999
def wF (P:Program) (w:World) (t:TypeId) (q:c4) (c:Bool) (x y:Value):Prop:=
 (Op.equal t x y).run P w= .ok c w∧(∀op X Y,(isConst X||isConst Y||Kf q)=true→(eqGuard op t X Y x y).run P w= .ok () w)∧
     ∀u,binOp .eql u x y=(do pure (.bool (←Op.equal u x y)))∧binOp .neq u x y=(do pure (.bool (!(←Op.equal u x y))))
theorem mZ {op:BinOp} {t:TypeId} {X Y:Operand} {x y:Value} (h1:∀a,x≠.agg a) (h2:x= .nilIface→y= .nilIface→(isConst X||isConst Y)=true):
  (eqGuard op t X Y x y).run P w= .ok () w:=by
 cases x with
 |agg a=>exact absurd rfl (h1 a)
 |nilIface=>
  cases y with
  |nilIface=>
   have:=h2 rfl rfl
   cases X<;>cases Y<;>simp [isConst] at this<;>(unfold eqGuard;split<;>simp [Result.andThen])
  |_=>unfold eqGuard;split<;>simp [Result.andThen]
 |_=>unfold eqGuard;split<;>simp [Result.andThen]
theorem Xx {t:TypeId} {a b:Bool} (bC:mh P t .bool=true):wF P w t .bool (a==b) (.bool a) (.bool b):=by
 have hu:P.underlying t=some .bool:=by
  simp only [mh] at bC
  cases hu:P.underlying t with
  |none=>simp [hu] at bC
  |some d=>cases d<;>simp [hu] at bC ⊢
 exact ⟨mY fun d=>by simp [Op.equalIn,run_underlying hu,Result.andThen],fun op X Y _=>mZ (by simp) (by simp),fun u=>⟨rfl,rfl⟩⟩
theorem Xy {t:TypeId} {a b:V} {c:Bool} (bC:mh P t .ptr=true) (h:c4.eq .ptr a b=some c) {x y:Value} (hx:bL ι a x) (hy:bL ι b y):wF P w t .ptr c x y:=by
 obtain ⟨e,i,hu,aq,aC⟩:∃e i,P.underlying t=some (.pointer e)∧P.info? e=some i∧i.size≠0:=by
  simp only [mh] at bC
  cases hu:P.underlying t with
  |none=>simp [hu] at bC
  |some d=>
   cases d<;>simp [hu] at bC
   rename_i e
   cases aq:P.info? e with
   |none=>simp [aq] at bC
   |some i=>exact ⟨e,i,rfl,aq,by simpa [aq] using bC⟩
 have hz:P.cellsOf e≠0:=by simpa [Program.cellsOf,aq] using aC
 cases a<;>first|(cases b<;>cases h<;>done)|skip
 · cases b<;>cases h
   · cases hx;cases hy
     exact ⟨mY fun d=>by simp [Op.equalIn,run_underlying hu,Result.andThen],fun op X Y _=>mZ (by simp) (by simp),fun u=>⟨rfl,rfl⟩⟩
   · cases hx;obtain ⟨B,bW,rfl⟩:=hy
     exact ⟨mY fun d=>by simp [Op.equalIn,run_underlying hu,Result.andThen],fun op X Y _=>mZ (by simp) (by simp),fun u=>⟨rfl,rfl⟩⟩
 · cases b<;>first|(cases h;done)|skip
   · cases h;cases hy;obtain ⟨B,bW,rfl⟩:=hx
     exact ⟨mY fun d=>by simp [Op.equalIn,run_underlying hu,Result.andThen],fun op X Y _=>mZ (by simp) (by simp),fun u=>⟨rfl,rfl⟩⟩
   · rename_i fw CS fl Kr
     have h:(bif fw.beq fl then some (CS.beq Kr) else none)=some c:=h
     rw [jr,jr] at h
     by_cases hb:fw=fl
     · subst hb
       obtain ⟨B,bW,rfl⟩:=hx
       obtain ⟨bc,ei,rfl⟩:=hy
       rw [bW] at ei;cases ei
       simp only [decide_true,cond_true,Option.some.injEq] at h
       subst h
       refine ⟨?_,fun op X Y _=>mZ (by simp) (by simp),fun u=>⟨rfl,rfl⟩⟩
       refine mY fun d=> ?_
       simp [Op.equalIn,run_underlying hu,Result.andThen,run_sizeOf w aq,hz,sameAddr]
       rw [Bool.eq_iff_iff];simp
     · simp [hb] at h
theorem Xz {t:TypeId} {a b:V} {c:Bool} (bC:mh P t .av=true) (h:c4.eq .av a b=some c) {x y:Value} (hx:bL ι a x) (hy:bL ι b y):wF P w t .av c x y:=by
 obtain ⟨e,hu⟩:∃e,P.underlying t=some (.slice e):=by
  simp only [mh] at bC
  cases hu:P.underlying t with
  |none=>simp [hu] at bC
  |some d=>cases d<;>simp [hu] at bC ⊢
 cases a<;>first|(cases b<;>cases h<;>done)|skip
 · cases b<;>cases h
   · cases hx;cases hy
     exact ⟨mY fun d=>by simp [Op.equalIn,run_underlying hu,Result.andThen],fun op X Y _=>mZ (by simp) (by simp),fun u=>⟨rfl,rfl⟩⟩
   · cases hx;obtain ⟨B,_,_,bW,rfl,_⟩:=hy
     exact ⟨mY fun d=>by simp [Op.equalIn,run_underlying hu,Result.andThen],fun op X Y _=>mZ (by simp) (by simp),fun u=>⟨rfl,rfl⟩⟩
 · cases b<;>cases h
   cases hy;obtain ⟨B,_,_,bW,rfl,_⟩:=hx
   exact ⟨mY fun d=>by simp [Op.equalIn,run_underlying hu,Result.andThen],fun op X Y _=>mZ (by simp) (by simp),fun u=>⟨rfl,rfl⟩⟩
theorem XA {t:TypeId} {a b:V} {c:Bool} (bC:mh P t .map=true) (h:c4.eq .map a b=some c) {x y:Value} (hx:bL ι a x) (hy:bL ι b y):wF P w t .map c x y:=by
 obtain ⟨e,bN,hu⟩:∃e bN,P.underlying t=some (.map e bN):=by
  simp only [mh] at bC
  cases hu:P.underlying t with
  |none=>simp [hu] at bC
  |some d=>cases d<;>simp [hu] at bC ⊢
 cases a<;>first|(cases b<;>cases h<;>done)|skip
 · cases b<;>cases h
   · cases hx;cases hy
     exact ⟨mY fun d=>by simp [Op.equalIn,run_underlying hu,Result.andThen],fun op X Y _=>mZ (by simp) (by simp),fun u=>⟨rfl,rfl⟩⟩
   · cases hx;obtain ⟨B,bW,rfl⟩:=hy
     exact ⟨mY fun d=>by simp [Op.equalIn,run_underlying hu,Result.andThen],fun op X Y _=>mZ (by simp) (by simp),fun u=>⟨rfl,rfl⟩⟩
 · cases b<;>cases h
   cases hy;obtain ⟨B,bW,rfl⟩:=hx
   exact ⟨mY fun d=>by simp [Op.equalIn,run_underlying hu,Result.andThen],fun op X Y _=>mZ (by simp) (by simp),fun u=>⟨rfl,rfl⟩⟩
theorem XB {t:TypeId} {a b:V} {c:Bool} (bC:mh P t .fn=true) (h:c4.eq .fn a b=some c) {x y:Value} (hx:bL ι a x) (hy:bL ι b y):wF P w t .fn c x y:=by
 obtain ⟨e,bN,Pa,hu⟩:∃e bN Pa,P.underlying t=some (.func e bN Pa):=by
  simp only [mh] at bC
  cases hu:P.underlying t with
  |none=>simp [hu] at bC
  |some d=>cases d<;>simp [hu] at bC ⊢
 cases a<;>first|(cases b<;>cases h<;>done)|skip
 · cases b<;>cases h
   cases hy;obtain ⟨_,_,rfl,_⟩:=hx
   exact ⟨mY fun d=>by simp [Op.equalIn,run_underlying hu,Result.andThen],fun op X Y _=>mZ (by simp) (by simp),fun u=>⟨rfl,rfl⟩⟩
 · cases b<;>cases h
   · cases hx;obtain ⟨_,_,rfl,_⟩:=hy
     exact ⟨mY fun d=>by simp [Op.equalIn,run_underlying hu,Result.andThen],fun op X Y _=>mZ (by simp) (by simp),fun u=>⟨rfl,rfl⟩⟩
   · cases hx;cases hy
     exact ⟨mY fun d=>by simp [Op.equalIn,run_underlying hu,Result.andThen],fun op X Y _=>mZ (by simp) (by simp),fun u=>⟨rfl,rfl⟩⟩
theorem XC {t:TypeId} {a b:V} {c:Bool} (bC:mh P t .e8=true) (h:c4.eq .e8 a b=some c) {x y:Value} (hx:bL ι a x) (hy:bL ι b y):wF P w t .e8 c x y:=by
 obtain ⟨e,hu⟩:∃e,P.underlying t=some (.interface e):=by
  simp only [mh] at bC
  cases hu:P.underlying t with
  |none=>simp [hu] at bC
  |some d=>cases d<;>simp [hu] at bC ⊢
 cases a<;>first|(cases b<;>cases h<;>done)|skip
 · cases b<;>cases h
   cases hy;obtain ⟨_,rfl,_⟩:=hx
   exact ⟨mY fun d=>by simp [Op.equalIn,run_underlying hu,Result.andThen],fun op X Y _=>mZ (by simp) (by simp),fun u=>⟨rfl,rfl⟩⟩
 · cases b<;>cases h
   · cases hx;obtain ⟨_,rfl,_⟩:=hy
     exact ⟨mY fun d=>by simp [Op.equalIn,run_underlying hu,Result.andThen],fun op X Y _=>mZ (by simp) (by simp),fun u=>⟨rfl,rfl⟩⟩
   · cases hx;cases hy
     exact ⟨mY fun d=>by simp [Op.equalIn,run_underlying hu,Result.andThen],fun op X Y ax=>mZ (by simp) (fun _ _=>by simpa [Kf] using ax),fun u=>⟨rfl,rfl⟩⟩
theorem flat_agg {t:TypeId} {q:c4} (h:p6 P t q=true):pb P t false=true:=by
 unfold p6 at h
 unfold pb
 split at h<;>first|(cases h;done)|(split at h<;>first|(cases h;done)|(rename_i hu;rw [hu];rfl))
theorem XD {t:TypeId} {q:c4} {a b:V} {c:Bool} {x y:Value} (bC:p6 P t q=true) (h:q.eq a b=some c) (hx:bL ι a x) (hy:bL ι b y) (d:Nat):(Op.equalIn (d+1) t x y).run P w= .ok c w:=by
 cases q with
 |int=>
  obtain ⟨k,hu⟩:∃k,P.underlying t=some (.int k):=by
   simp only [p6] at bC
   cases hu:P.underlying t with
   |none=>simp [hu] at bC
   |some d=>cases d<;>simp [hu] at bC ⊢
  cases a<;>first|(cases b<;>cases h<;>done)|skip
  cases b<;>first|(cases h;done)|skip
  rename_i j a i b
  simp only [c4.eq] at h
  cases hk:ot j i with
  |false=>rw [hk] at h;cases h
  |true=>
   rw [hk] at h
   have CT:j=i:=by cases j<;>cases i<;>first|rfl|cases hk
   subst CT
   cases hx;cases hy
   simp only [cond_true,Ac,Option.some.injEq] at h
   rw [run_equalIn_int w d t j k a b hu,←h]
   congr 1
 |str=>
  have hu:P.underlying t=some .string:=by
   simp only [p6] at bC
   cases hu:P.underlying t with
   |none=>simp [hu] at bC
   |some d=>cases d<;>simp [hu] at bC ⊢
  cases a<;>first|(cases b<;>cases h<;>done)|skip
  cases b<;>first|(cases h;done)|skip
  simp only [c4.eq,Option.some.injEq] at h
  obtain ⟨s,rfl,aC⟩:=hx
  obtain ⟨u,rfl,x6⟩:=hy
  rw [run_equalIn_string w d t s u hu,←h,Gg aC x6]
  congr 1
  rw [Bool.eq_iff_iff]
  simp only [beq_iff_eq,decide_eq_true_eq]
  constructor
  · intro bj
    rw [ByteArray.toList_eq,ByteArray.toList_eq] at bj
    obtain ⟨⟨x⟩⟩:=s
    obtain ⟨⟨y⟩⟩:=u
    simp only at bj
    rw [bj]
  · intro e;rw [e]
 |bool=>
  have hu:P.underlying t=some .bool:=by
   simp only [p6] at bC
   cases hu:P.underlying t with
   |none=>simp [hu] at bC
   |some d=>cases d<;>simp [hu] at bC ⊢
  cases a<;>first|(cases b<;>cases h<;>done)|skip
  cases b<;>first|(cases h;done)|skip
  cases h;cases hx;cases hy
  exact run_equalIn_bool' w d t _ _ hu
 |ptr=>simp [p6] at bC
 |av=>simp [p6] at bC
 |map=>simp [p6] at bC
 |fn=>simp [p6] at bC
 |e8=>simp [p6] at bC
 |st fs=>simp [p6] at bC
theorem Pb {l m:List V} {cs ds:Array Value} (au:cE ι l cs.toList) (hm:cE ι m ds.toList) (d:Nat):∀{fs:List Field} {fm:List (Nat×c4)} {c:Bool},x5 P fs fm=true→c4.eqs fm l m=some c→(Op.eqFields (d+1) cs ds fs).run P w= .ok c w
 |[],[],c,_,h=>by
  simp only [c4.eqs,Option.some.injEq] at h
  subst h
  simp [Op.eqFields]
 |[],_::_,c,hf,_=>by simp [x5] at hf
 |_::_,[],c,hf,_=>by simp [x5] at hf
 |f::fs,(off,q)::fm,c,hf,h=>by
  simp only [x5,Bool.and_eq_true,decide_eq_true_eq] at hf
  obtain ⟨hn,rfl,bC,hf⟩:=hf
  simp only [c4.eqs,CA,tt,List.head?_drop] at h
  cases ha:l[f.offset]? with
  |none=>simp only [ha] at h;cases h
  |some a=>
   cases hb:m[f.offset]? with
   |none=>simp only [ha,hb] at h;cases h
   |some b=>
    simp only [ha,hb] at h
    obtain ⟨x,hx,rx⟩:=au.get ha
    obtain ⟨y,hy,XE⟩:=hm.get hb
    have iJ:cs[f.offset]? =some x:=by simpa using hx
    have XF:ds[f.offset]? =some y:=by simpa using hy
    have Pc:=flat_agg bC
    have Pf:(part f.type cs f.offset).run P w= .ok x w:=by simp [part,Ki w Pc,iJ,Result.andThen]
    have Pg:(part f.type ds f.offset).run P w= .ok y w:=by simp [part,Ki w Pc,XF,Result.andThen]
    cases ax:q.eq a b with
    |none=>simp only [ax] at h;cases h
    |some r=>
     simp only [ax] at h
     have hr:=XD (P:=P) (w:=w) (ι:=ι) bC ax rx XE d
     cases r with
     |true=>simp [Op.eqFields,hn,Pf,Pg,hr,Result.andThen,Pb au hm d hf h]
     |false=>
      simp only [Option.some.injEq] at h
      subst h
      simp [Op.eqFields,hn,Pf,Pg,hr,Result.andThen]
theorem XG {t:TypeId} {fm:List (Nat×c4)} {a b:V} {c:Bool} (bC:mh P t (.st fm)=true) (h:c4.eq (.st fm) a b=some c) {x y:Value} (hx:bL ι a x) (hy:bL ι b y):wF P w t (.st fm) c x y:=by
 obtain ⟨fs,hu,h1,h2,bj⟩:∃fs,P.underlying t=some (.struct fs)∧P.stoodInHeld t=false∧P.eqGuardType P.depth t=false∧x5 P fs.toList fm=true:=by
  simp only [mh] at bC
  cases hu:P.underlying t with
  |none=>simp [hu] at bC
  |some d=>
   cases d<;>simp [hu] at bC ⊢
   exact ⟨bC.1,bC.2.1,bC.2.2⟩
 cases a<;>first|(cases b<;>simp [c4.eq] at h<;>done)|skip
 cases b<;>first|(simp [c4.eq] at h;done)|skip
 simp only [c4.eq] at h
 obtain ⟨cs,rfl,au,_⟩:=hx
 obtain ⟨ds,rfl,hm,_⟩:=hy
 have pd:P.fieldsOf t=fs:=by unfold Program.fieldsOf;rw [hu]
 have e:(Op.equal t (.agg cs) (.agg ds)).run P w= .ok c w:=by
  show (Op.equalIn (9998+1+1) t (.agg cs) (.agg ds)).run P w= .ok c w
  rw [run_equalIn_struct w (9998+1) t cs ds (by rw [pd];exact hu) h1,pd]
  exact Pb au hm 9998 bj h
 exact ⟨e,fun op X Y _=>run_eqGuard_agg w op t X Y cs ds h2,fun u=>⟨rfl,rfl⟩⟩
theorem XH {t:TypeId} {q:c4} {a b:V} {c:Bool} (bC:mh P t q=true) (h:q.eq a b=some c) {x y:Value} (hx:bL ι a x) (hy:bL ι b y):wF P w t q c x y:=by
 cases q with
 |bool=>
  cases a<;>first|(cases b<;>cases h<;>done)|skip
  cases b<;>first|(cases h;done)|skip
  cases h;cases hx;cases hy
  exact Xx bC
 |ptr=>exact Xy bC h hx hy
 |av=>exact Xz bC h hx hy
 |map=>exact XA bC h hx hy
 |fn=>exact XB bC h hx hy
 |e8=>exact XC bC h hx hy
 |int=>simp [mh] at bC
 |str=>simp [mh] at bC
 |st fs=>exact XG bC h hx hy
theorem XI (bA:∀x a,bw x a=true→bL ι (ev a) (bK x)) {neg:Bool} {q:c4} {a b:A} (hok:dI P bw o.op (.eq neg q a b)=true) (he:light (.eq neg q a b) ev h= .val v):hZ P ι w bK o v:=by
 obtain ⟨c,ax,aE⟩:=kN (by simp) he
 cases aE
 simp only [dI] at hok
 split at hok
 · rename_i sq t x qa _ hx
   simp only [Bool.and_eq_true,decide_eq_true_eq] at hok
   obtain ⟨rfl,bC,hg,h1,h2⟩:=hok
   obtain ⟨aT,bu,dH⟩:=XH (P:=P) (w:=w) (ι:=ι) bC ax (bA _ _ h1) (bA _ _ h2)
   cases neg with
   |false=>exact ⟨.bool c,by simp [execOp,hx,bu .eql x qa hg,(dH t).1,aT,Result.andThen],by simp [bL]⟩
   |true=>exact ⟨.bool (!c),by simp [execOp,hx,bu .neq x qa hg,(dH t).2,aT,Result.andThen],by simp [bL]⟩
 · cases hok
end
end
end Go.Eng
namespace Go.Eng
noncomputable section
section
variable {P:Program} {ι:bb} {h:ag} {w:World} {bw:jU} {ev:dM} {bK:Operand→Value} {o:Oper} {v:V}
theorem Ph {r:bM} (hr:r≠.bad) {f:List qW→Nat→bM} {b:Nat} (he:Obj.map? .bad f (h.obj b)=r):∃es c,T.get b h.t=some (.map es c)∧f es c=r:=by
 unfold ag.obj at he
 cases hg:T.get b h.t with
 |none=>rw [hg] at he;exact absurd he.symm hr
 |some aO=>
  rw [hg] at he
  cases aO with
  |map es c=>exact ⟨es,c,rfl,he⟩
  |_=>exact absurd he.symm hr
theorem XJ (g:Good ι h w) (bA:∀x a,bw x a=true→bL ι (ev a) (bK x)) {q:c4} {zero:V} {ok:Bool} {m k:A} (hok:dI P bw o.op (.lookup q zero ok m k)=true) (he:light (.lookup q zero ok m k) ev h= .val v):hZ P ι w bK o v:=(Bool.false_ne_true hok).elim
theorem XK (bA:∀x a,bw x a=true→bL ι (ev a) (bK x)) {t:Nat} {zero:V} {ok:Bool} {a:A} (hok:dI P bw o.op (.Cm t zero ok a)=true) (he:light (.Cm t zero ok a) ev h= .val v):hZ P ι w bK o v:=(Bool.false_ne_true hok).elim
theorem XL (g:Good ι h w) (bA:∀x a,bw x a=true→bL ι (ev a) (bK x)) {a:A} (hok:dI P bw o.op (.xR a)=true) (he:light (.xR a) ev h= .val v):hZ P ι w bK o v:=(Bool.false_ne_true hok).elim
theorem XM (bA:∀x a,bw x a=true→bL ι (ev a) (bK x)) {mx:Bool} {a b:A} (hok:dI P bw o.op (.Cn mx a b)=true) (he:light (.Cn mx a b) ev h= .val v):hZ P ι w bK o v:=(Bool.false_ne_true hok).elim
end
end
end Go.Eng
namespace Go.Eng
noncomputable section
section
variable {P:Program} {ι:bb} {h:ag} {w:World} {bw:jU} {ev:dM} {bK:Operand→Value} {o:Oper} {v:V}
def bound (x:Option Value) (d n:Nat):Prop:=(x=none∧n=d)∨∃k,x=some (.int k (n:Int))
theorem ri (bA:∀x a,bw x a=true→bL ι (ev a) (bK x)) {x:Option Operand} {a:Option A} (ax:sn bw x a=true) {d n:Nat} (h:ek a ev d=some n):bound (x.map bK) d n:=by
 cases x with
 |none=>cases a with
  |none=>cases h;exact .inl ⟨rfl,rfl⟩
  |some a=>simp [sn] at ax
 |some x=>cases a with
  |none=>simp [sn] at ax
  |some a=>
   obtain ⟨k,hk⟩:=Kg (v:=ev a) h
   have:=bA x a ax
   rw [hk] at this
   exact .inr ⟨k,congrArg some this⟩
theorem Ks {s:Bool} {len cap i j m:Nat} {bH aq mx:Option Value} (hm:bound mx cap m) (b4:bound aq len j) (au:bound bH 0 i) (fB:aq=none→mx=none) (h1:m≤cap) (h2:j≤m) (bj:i≤j):
  (Instr.sliceBounds s len cap bH aq mx).run P w= .ok (i,j,m) w:=by
 rcases hm with ⟨rfl,rfl⟩|⟨air,rfl⟩
 · rcases b4 with ⟨rfl,rfl⟩|⟨XN,rfl⟩<;>rcases au with ⟨rfl,rfl⟩|⟨Kt,rfl⟩<;>simp [Instr.sliceBounds,run_sliceBound,Result.andThen,h1,h2,bj]
 · rcases b4 with ⟨rfl,rfl⟩|⟨XN,rfl⟩
   · cases fB rfl
   · rcases au with ⟨rfl,rfl⟩|⟨Kt,rfl⟩<;>simp [Instr.sliceBounds,run_sliceBound,Result.andThen,h1,h2,bj]
theorem Pj {t el:TypeId} {r:Nat} (hu:P.underlying t=some (.slice el)) (aC:mX P el r=true) {a:Option Addr} {len cap i j m:Nat} {bH aq mx:Option Value} (hm:bound mx cap m) (b4:bound aq len j) (au:bound bH 0 i) (fB:aq=none→mx=none) (h1:m≤cap) (h2:j≤m) (bj:i≤j):
  (Instr.sliceAt t (.slice a len cap) bH aq mx).run P w= .ok (.slice (if m=i then a else a.map (·.add (i * r))) (j - i) (m - i)) w:=by
 simp [Instr.sliceAt,run_underlying hu,Instr.slice,Ks hm b4 au fB h1 h2 bj,Aq w aC,Result.andThen]
theorem XO (bA:∀x a,bw x a=true→bL ι (ev a) (bK x)) {a:A} {bH aq:Option A} (hok:dI P bw o.op (.o2 a bH aq)=true) (he:light (.o2 a bH aq) ev h= .val v):hZ P ι w bK o v:=by
 obtain ⟨n,m,ax,aE⟩:=tA (by simp) he
 obtain ⟨j,aV,aE⟩:=kN (by simp) aE
 obtain ⟨i,nJ,aE⟩:=kN (by simp) aE
 obtain ⟨hb,aE⟩:=p8 (by simp) aE
 cases aE
 simp only [fa,Bool.and_eq_true,decide_eq_true_eq] at hb
 simp only [dI] at hok
 split at hok
 · rename_i t x wB Ku hx
   split at hok
   · rename_i hu
     simp only [Bool.and_eq_true] at hok
     obtain ⟨h1,h2,bj⟩:=hok
     obtain ⟨s,h1,rfl,rfl⟩:=As bA h1 ax
     have fl:=ri bA h2 nJ
     have u7:=ri bA bj aV
     rw [←Go.Lib.size_eq] at u7 hb
     rw [CQ]
     refine ⟨.string (s.extract i j), ?_,s.extract i j,rfl, ?_⟩
     · have sr:=Ks (P:=P) (w:=w) (s:=false) (len:=s.size) (cap:=s.size) (mx:=none) (.inl ⟨rfl,rfl⟩) u7 fl (fun _=>rfl) (Nat.le_refl _) hb.2 hb.1
       simp [execOp,hx,Instr.sliceAt,run_underlying hu,h1,Instr.slice,sr,Result.andThen]
     · refine ⟨?_, ?_⟩
       · rw [Go.Lib.extract_data];rw [Go.Lib.size_eq] at hb;simp only [List.length_take,List.length_drop]
         show min (j - i) _=j - i;omega
       · rw [Go.Lib.extract_data,O5];rfl
   · cases hok
 · cases hok
theorem Pk (b o i j m r:Nat):ou b o i j m r= .val (.av b (if m=i then o else if m - i=0 then o else o+i * r) (j - i) (some (m - i))):=by
 unfold ou uV
 simp only [force_eq,bM.val.injEq,V.av.injEq,true_and]
 refine ⟨?_,rfl,rfl⟩
 rw [jr]
 by_cases h:m - i=0
 · simp [h]
 · have:m≠i:=by omega
   simp [h,this]
theorem Gj {B:fR} {b o i j m r:Nat} (bW:ι b=some B) (h2:j≤m) (bj:i≤j):∃x,ou b o i j m r= .val x∧
  bL ι x (.slice (if m=i then some ⟨B.c,B.off+o,none⟩ else (some (⟨B.c,B.off+o,none⟩:Addr)).map (·.add (i * r))) (j - i) (m - i)):=by
 refine ⟨_,Pk .., ?_⟩
 by_cases h:m=i
 · rw [if_pos h,if_pos h]
   exact ⟨B,_,_,bW,rfl,rfl,rfl,by omega⟩
 · rw [if_neg h,if_neg h,if_neg (by omega)]
   refine ⟨B,_,_,bW,rfl,rfl, ?_,by omega⟩
   show Addr.add _ _=_
   rw [tD,Nat.add_assoc]
theorem XP (bA:∀x a,bw x a=true→bL ι (ev a) (bK x)) {n r:Nat} {a:A} {bH aq mx:Option A} (hok:dI P bw o.op (.wc n r a bH aq mx)=true) (he:light (.wc n r a bH aq mx) ev h= .val v):hZ P ι w bK o v:=by
 have he:(match (ev a).mM with
  |some (b,o)=>match ek aq ev n,ek bH ev 0,ek mx ev n with
   |some j,some i,some m=>bif i.ble j&&(j.ble m&&m.ble n) then ou b o i j m r else .bad
   |_,_,_=> .bad
  |none=> .bad)=bM.val v:=he
 obtain ⟨b,q,ax⟩:∃b q,ev a= .ptr b q:=by
  generalize ev a=cO at he
  cases cO<;>first|exact ⟨_,_,rfl⟩|cases he
 rw [ax] at he
 have he:(match ek aq ev n,ek bH ev 0,ek mx ev n with
   |some j,some i,some m=>bif i.ble j&&(j.ble m&&m.ble n) then ou b q i j m r else .bad
   |_,_,_=> .bad)=bM.val v:=he
 cases aT:ek aq ev n with
 |none=>simp [aT] at he
 |some j=>
  cases bu:ek bH ev 0 with
  |none=>simp [aT,bu] at he
  |some i=>
   cases dH:ek mx ev n with
   |none=>simp [aT,bu,dH] at he
   |some m=>
    simp only [aT,bu,dH] at he
    obtain ⟨hb,aE⟩:=p9 (by simp) he
    simp only [fa,Bool.and_eq_true,decide_eq_true_eq] at hb
    simp only [dI] at hok
    split at hok
    · rename_i t x wB Ku pc hx
      split at hok
      · rename_i gf el hu
        simp only [Bool.and_eq_true,decide_eq_true_eq] at hok
        obtain ⟨rfl,aC,h1,h2,bj,cy,gh⟩:=hok
        obtain ⟨B,bW,h1⟩:=Gi bA h1 ax
        have fl:=ri bA h2 bu
        have u7:=ri bA bj aT
        have Kv:=ri bA cy dH
        have fB:Ku.map bK=none→pc.map bK=none:=by
         cases Ku<;>cases pc<;>simp [Ge] at gh ⊢
        have sr:=Ks (P:=P) (w:=w) (s:=false) Kv u7 fl fB hb.2.2 hb.2.1 hb.1
        obtain ⟨gR,nK,lj⟩:=Gj (ι:=ι) (r:=r) (o:=q) bW hb.2.1 hb.1
        rw [nK] at aE
        injection aE with aE
        subst aE
        refine ⟨_, ?_,lj⟩
        simp [execOp,hx,Instr.sliceAt,run_underlying hu,h1,Instr.sureAddr,sr,Aq w aC,Result.andThen]
        split<;>rfl
      · cases hok
    · cases hok
theorem XQ (g:Good ι h w) (bA:∀x a,bw x a=true→bL ι (ev a) (bK x)) {r:Nat} {a:A} {bH aq mx:Option A} (hok:dI P bw o.op (.kF r a bH aq mx)=true) (he:light (.kF r a bH aq mx) ev h= .val v):hZ P ι w bK o v:=by
 simp only [dI] at hok
 split at hok
 · rename_i t x wB nJ pc hx
   split at hok
   · rename_i el hu
     simp only [Bool.and_eq_true] at hok
     obtain ⟨aC,h1,h2,bj,cy,gh⟩:=hok
     have h1:=bA _ _ h1
     have fB:nJ.map bK=none→pc.map bK=none:=by
      cases nJ<;>cases pc<;>simp [Ge] at gh ⊢
     have he:(match ev a with
      | .U=>match ek aq ev 0,ek bH ev 0,ek mx ev 0 with
        |some 0,some 0,some 0=> .val .U
        |_,_,_=> .bad
      | .av b o n cap=>match ek aq ev n,ek bH ev 0 with
        |some j,some i=>ov r b o n cap i j (Option.rec none (fun x=>some (ev x).asNat) mx) h
        |_,_=> .bad
      |_=> .bad)=bM.val v:=he
     generalize ax:ev a=cO at he h1
     cases cO<;>first|(cases he;done)|skip
     · simp only at he
       split at he
       · rename_i aT bu dH
         injection he with he
         subst he
         have h1:bK x= .slice none 0 0:=h1
         have:=Pj (P:=P) (w:=w) hu aC (a:=none) (ri bA cy dH) (ri bA bj aT) (ri bA h2 bu) fB (Nat.le_refl _) (Nat.le_refl _) (Nat.le_refl _)
         exact ⟨.slice none 0 0,by simp [execOp,hx,h1,this,Result.andThen],rfl⟩
       · cases he
     · rename_i b q n cap
       obtain ⟨B,y,c,bW,h1,hj⟩:=h1
       simp only at he
       cases aT:ek aq ev n with
       |none=>simp [aT] at he
       |some j=>
        cases bu:ek bH ev 0 with
        |none=>simp [aT,bu] at he
        |some i=>
         simp only [aT,bu] at he
         have fl:=ri bA h2 bu
         have u7:=ri bA bj aT
         have fin:∀(m:Nat) (gR:V),bound (pc.map bK) c m→m≤c→j≤m→i≤j→bL ι gR (.slice (if m=i then some y else (some y).map (·.add (i * r))) (j - i) (m - i))→gR=v→hZ P ι w bK o v:=by
          intro m gR Kv aZ bF cV hr aE
          subst aE
          have:=Pj (P:=P) (w:=w) hu aC (a:=some y) Kv u7 fl fB aZ bF cV
          exact ⟨_,by simp only [execOp,hx,h1,Sem.run_bind,this,Result.andThen];rfl,hr⟩
         have Pl:∀(a:A) (m:Nat),mx=some a→(ev a).asNat=some m→bound (pc.map bK) c m:=by
          intro a m hm hn
          refine ri bA cy (d:=c) ?_
          rw [hm];exact hn
         have Pm:mx=none→bound (pc.map bK) c c:=by
          intro hm
          refine ri bA cy (d:=c) ?_
          rw [hm];rfl
         cases cap with
         |some k=>
          obtain ⟨rfl,rfl,Gk⟩:=hj
          cases mx with
          |none=>
           have he:(bif i.ble j&&j.ble c then ou b q i j c r else .bad)=bM.val v:=he
           obtain ⟨hb,aE⟩:=p9 (by simp) he
           simp only [fa,Bool.and_eq_true,decide_eq_true_eq] at hb
           obtain ⟨gR,nK,lj⟩:=Gj (ι:=ι) (r:=r) (o:=q) bW hb.2 hb.1
           exact fin c gR (Pm rfl) (Nat.le_refl _) hb.2 hb.1 lj (by rw [nK] at aE;injection aE)
          |some bp=>
           cases dH:(ev bp).asNat with
           |none=>simp [dH,ov] at he
           |some m=>
            simp only [dH] at he
            have he:(bif i.ble j&&(j.ble m&&m.ble c) then ou b q i j m r else .bad)=bM.val v:=he
            obtain ⟨hb,aE⟩:=p9 (by simp) he
            simp only [fa,Bool.and_eq_true,decide_eq_true_eq] at hb
            obtain ⟨gR,nK,lj⟩:=Gj (ι:=ι) (r:=r) (o:=q) bW hb.2.1 hb.1
            exact fin m gR (Pl bp m rfl dH) hb.2.2 hb.2.1 hb.1 lj (by rw [nK] at aE;injection aE)
         |none=>
          have Kw:=hj
          obtain ⟨qb,lU,tF,CU,wG⟩:=Kw
          cases mx with
          |some bp=>
           cases dH:(ev bp).asNat with
           |none=>simp [dH,ov] at he
           |some m=>
            simp only [dH] at he
            have he:(bif Nat.blt 0 n&&(i.ble j&&(j.ble m&&m.ble n)) then ou b q i j m r else .bad)=bM.val v:=he
            obtain ⟨hb,aE⟩:=p9 (by simp) he
            simp only [fa,gG,Bool.and_eq_true,decide_eq_true_eq] at hb
            obtain ⟨j7,hM,dW,Kx⟩:=hb
            have hy:=wE hj j7
            subst hy
            obtain ⟨gR,nK,lj⟩:=Gj (ι:=ι) (r:=r) (o:=q) bW dW hM
            exact fin m gR (Pl bp m rfl dH) (by omega) dW hM lj (by rw [nK] at aE;injection aE)
          |none=>
           have he:(match h.obj b with
            |some (.cells eT _ _ bo _)=>bif eT.beq r&&(i.ble j&&(j.ble n||(Nat.add q (Nat.mul j r)).ble bo)) then uV b (Nat.add q (Nat.mul i r)) (Nat.sub j i) none else .bad
            |_=> .bad)=bM.val v:=he
           cases hg:h.obj b with
           |none=>simp [hg] at he
           |some aO=>
            cases aO with
            |cells eT c7 ap bo rows=>
             simp only [hg] at he
             obtain ⟨hb,aE⟩:=p9 (by simp) he
             simp only [fa,jr,Bool.and_eq_true,Bool.or_eq_true,decide_eq_true_eq] at hb
             obtain ⟨rfl,hM,dW⟩:=hb
             obtain ⟨cs,_,_,_,_,s1,s2,gb,_⟩:=g.obj b B _ bW hg (g.lQ b (g.small b (by simp [bW])) (by rw [show T.get b h.t=_ from hg];simp))
             obtain ⟨t1,t2,t3,t4,t5⟩:=gb
             subst t1
             have s2:B.off+bo≤cs.size:=s2
             have ec:bo≤B.cap * B.r:=by omega
             obtain ⟨d,aX⟩:∃d,q=d * B.r:=⟨q / B.r,by have:=Nat.div_add_mod q B.r;rw [lU,Nat.mul_comm] at this;omega⟩
             subst aX
             rw [Nat.mul_div_cancel _ tF] at qb
             have CV:j≤c:=by
              rcases dW with dW|dW
              · omega
              · have dW:d * B.r+j * B.r≤bo:=dW
                rw [←Nat.add_mul] at dW
                have:=Nat.le_of_mul_le_mul_right (Nat.le_trans dW ec) tF
                omega
             have aE:bM.val (.av b (d * B.r+i * B.r) (j - i) none)=bM.val v:=by simpa [uV] using aE
             injection aE with aE
             refine fin c _ (Pm rfl) (Nat.le_refl _) CV hM ?_ aE
             have aT:(d * B.r+i * B.r) / B.r=d+i:=by rw [←Nat.add_mul,Nat.mul_div_cancel _ tF]
             have bu:(d * B.r+i * B.r) % B.r=0:=by rw [←Nat.add_mul,Nat.mul_mod_left]
             by_cases Pn:c=i
             · rw [if_pos Pn]
               exact ⟨B,_,_,bW,rfl,by rw [aT];omega,bu,tF,by omega, .inr (by omega)⟩
             · rw [if_neg Pn]
               have hy:y=⟨B.c,B.off+d * B.r,none⟩:=by
                rcases wG with h|h
                · exact h
                · omega
               refine ⟨B,_,_,bW,rfl,by rw [aT];omega,bu,tF,by omega, .inl ?_⟩
               rw [hy]
               show Addr.add _ _=_
               rw [tD,Nat.add_assoc]
            |_=>simp [hg] at he
   · cases hok
 · cases hok
end
end
end Go.Eng
namespace Go.Eng
noncomputable section
section
variable {P:Program} {ι:bb} {h:ag} {w:World} {bw:jU} {ev:dM} {bK:Operand→Value} {o:Oper} {v:V}
theorem XR (a:V) (l:List V):bytesOf (a::l)=(match bytesOf l with
 |none=>none
 |some x=>match a.zV with|none=>none|some b=>if b<256 then some (x.1+1,b+256 * x.2) else none):=by
 show (Option.rec none (fun x=>Option.rec none (fun b=>bif b.blt 256 then some (Nat.succ x.1,Nat.add b (Nat.mul 256 x.2)) else none) a.zV) (bytesOf l):Option (Nat×Nat))=_
 cases bytesOf l with
 |none=>rfl
 |some x=>
  cases a.zV with
  |none=>rfl
  |some b=>
   show (bif b.blt 256 then _ else _)=_
   rw [gG]
   by_cases hb:b<256<;>simp [hb]
theorem XS {a:V} {b:Nat} (h:a.zV=some b):a= .int .u8 (.ofNat b):=by
 cases a<;>first|(cases h;done)|skip
 rename_i k n
 cases k<;>first|(cases h;done)|skip
 cases n with
 |ofNat n=>have h:some n=some b:=h;cases h;rfl
 |negSucc n=>cases h
theorem Po:∀(l:List V) (xs:List Value) (p:Nat×Nat),bytesOf l=some p→cE ι l xs→∃bs:List UInt8,xs=(bs.map fun b=>(b.toNat:Int)).map (Value.int .u8)∧p=(bs.length,enc bs)
 |[],xs,p,h,hr=>by
  cases h;cases hr;exact ⟨[],rfl,rfl⟩
 |a::l,xs,p,h,hr=>by
  obtain ⟨x,xs,rfl,h1,h2⟩:=hr
  rw [XR] at h
  cases hp:bytesOf l with
  |none=>simp [hp] at h
  |some q=>
   cases ha:a.zV with
   |none=>simp [hp,ha] at h
   |some b=>
    simp only [hp,ha] at h
    by_cases hb:b<256
    · rw [if_pos hb] at h
      cases h
      obtain ⟨bs,rfl,rfl⟩:=Po l xs q hp h2
      have:=XS ha
      subst this
      have h1:x= .int .u8 (Int.ofNat b):=h1
      subst h1
      have e:(UInt8.ofNat b).toNat=b:=by simp;omega
      refine ⟨UInt8.ofNat b::bs, ?_, ?_⟩
      · simp only [List.map_cons,e];rfl
      · simp only [List.length_cons,enc,e]
    · rw [if_neg hb] at h;cases h
theorem foldl_push:∀(bs:List UInt8) (s:ByteArray),(((bs.map fun b=>(b.toNat:Int))).foldl (fun r n=>r.push (UInt8.ofNat n.toNat)) s).data.toList=s.data.toList++bs
 |[],s=>by simp
 |b::bs,s=>by
  simp only [List.map_cons,List.foldl_cons]
  rw [foldl_push bs]
  have:UInt8.ofNat ((b.toNat:Int)).toNat=b:=by simp
  rw [this]
  simp [ByteArray.push]
theorem XT (g:Good ι h w) (bA:∀x a,bw x a=true→bL ι (ev a) (bK x)) {a:A} (hok:dI P bw o.op (.sa a)=true) (he:light (.sa a) ev h= .val v):hZ P ι w bK o v:=by
 simp only [dI] at hok
 split at hok
 · rename_i s d x hx
   split at hok
   · rename_i el aC aX
     split at hok
     · rename_i tG
       have h1:=bA _ _ hok
       have he:(match ev a with
        | .U=> .val (.str 0 0)
        | .av b o n _=>Option.rec .bad (fun l=>Option.rec .bad (fun x=> .val (sc x.1 x.2)) (bytesOf l)) (h.load b o n)
        |_=> .bad)=bM.val v:=he
       generalize ax:ev a=cO at he h1
       cases cO<;>first|(cases he;done)|skip
       · injection he with he
         subst he
         have h1:bK x= .slice none 0 0:=h1
         exact ⟨.string .empty,by simp [execOp,hx,h1,run_convert_bytes_string w s d el none 0 0 aC tG aX,Conv.bytesToString,Result.andThen], .empty,rfl,rfl,rfl⟩
       · rename_i b q n cap
         obtain ⟨B,y,c,bW,h1,hj⟩:=h1
         simp only at he
         obtain ⟨l,au,aE⟩:=kN (by simp) he
         obtain ⟨p,hp,aE⟩:=kN (by simp) aE
         rw [CQ] at aE
         injection aE with aE
         subst aE
         obtain ⟨xs,hlen,CW,wD,hcell⟩:=Ag g bW au
         obtain ⟨bs,rfl,rfl⟩:=Po l xs p hp CW
         have jt:(loadCells y n).run P w= .ok ((bs.map fun b=>(b.toNat:Int)).map (Value.int .u8)).toArray w:=by
          by_cases hn:n=0
          · subst hn
            have:bs=[]:=by simpa using hlen
            subst this
            exact run_loadCells_list w y [] (fun j v aE=>by simp at aE)
          · have hy:=wE hj (by omega)
            subst hy
            rw [←hlen]
            exact run_loadCells_list w _ _ fun j v aE=>by
             rw [tD]
             exact hcell j v aE
         refine ⟨_,by simp only [execOp,hx,h1,Sem.run_bind,run_convert_bytes_string w s d el (some y) n c aC tG aX,run_bytesToString w y n c _ jt,Result.andThen];rfl,_,rfl, ?_, ?_⟩
         · rw [foldl_push];simp
         · rw [foldl_push];simp
     · cases hok
   · cases hok
 · cases hok
theorem XU (p:Nat×Nat×A) (aQ:List (Nat×Nat×A)) (cs:List V):fill (p::aQ) ev cs=(match (ev p.2.2).dY with
 |none=>none
 |some l=>if l.length=p.2.1∧p.1+p.2.1≤cs.length then fill aQ ev (hX p.1 l cs) else none):=by
 show (Option.rec none (fun l=>bif (cZ l).beq p.2.1&&(Nat.add p.1 p.2.1).ble (cZ cs) then fill aQ ev (hX p.1 l cs) else none) (ev p.2.2).dY:Option (List V))=_
 cases (ev p.2.2).dY with
 |none=>rfl
 |some l=>
  show (bif _ then _ else _)=_
  rw [jr,fa,me,me]
  by_cases h1:l.length=p.2.1
  · by_cases h2:p.1+p.2.1≤cs.length
    · simp [h1,h2]
    · simp [h2]
  · simp [h1]
theorem Ky (bA:∀x a,bw x a=true→bL ι (ev a) (bK x)) {place place':Nat→Option (Nat×Nat)} (pe:∀i p,place i=some p→place' i=some p):
  ∀(parts:List (Nat×Operand)) (aQ:List (Nat×Nat×A)) (cs l:List V) (ms:Array Value),x4 P bw place parts aQ=true→cE ι cs ms.toList→(∀x∈ms.toList,x.oneCell'=true)→fill aQ ev cs=some l→
   ∃wH,Instr.fill place' ms (parts.map fun p=>(p.1,bK p.2))=some wH∧cE ι l wH.toList∧(∀x∈wH.toList,x.oneCell'=true)∧wH.size=ms.size
 |[],aQ,cs,l,ms,hp,hr,h1,hf=>by
  cases aQ with
  |nil=>cases hf;exact ⟨ms,rfl,hr,h1,rfl⟩
  |cons p aQ=>simp [x4] at hp
 |(i,x)::parts,[],cs,l,ms,hp,hr,h1,hf=>by simp [x4] at hp
 |(i,x)::parts,(off,n,a)::aQ,cs,l,ms,hp,hr,h1,hf=>by
  simp only [x4,Bool.and_eq_true,decide_eq_true_eq] at hp
  obtain ⟨XV,ax,hp⟩:=hp
  rw [XU] at hf
  cases wI:(ev a).dY with
  |none=>simp [wI] at hf
  |some k=>
   simp only [wI] at hf
   by_cases qc:k.length=n∧off+n≤cs.length
   · rw [if_pos qc] at hf
     obtain ⟨jG,nK⟩:=Kh wI (bA x a ax)
     have ec:(bK x).cells.size=n:=by have:=jG.length;simp at this;omega
     have er:ms.size=cs.length:=by have:=hr.length;simpa using this
     obtain ⟨f1,f2⟩:=Go.Great.foldl_set off (bK x).cells.toList 0 ms
     have Pp:(bK x).cells.zipIdx.foldl (fun cs (x:Value×Nat)=>cs.setIfInBounds (off+x.2) x.1) ms=((bK x).cells.toList.zipIdx 0).foldl (fun cs (x:Value×Nat)=>cs.setIfInBounds (off+x.2) x.1) ms:=by
      rw [←Array.foldl_toList,Array.toList_zipIdx]
     generalize ais:((bK x).cells.toList.zipIdx 0).foldl (fun cs (x:Value×Nat)=>cs.setIfInBounds (off+x.2) x.1) ms=wH at f1 f2 Pp
     have jH:Instr.fill place' ms (((i,x)::parts).map fun p=>(p.1,bK p.2))=Instr.fill place' wH (parts.map fun p=>(p.1,bK p.2)):=by
      simp only [List.map_cons,Instr.fill,pe _ _ XV]
      rw [if_neg (by simp only [Bool.or_eq_true,decide_eq_true_eq,ec];omega),Pp]
     have na:∀j,wH[j]? =if off≤j∧j<off+n then (bK x).cells[j - off]? else ms[j]? :=by
      intro j
      rw [f2 j]
      simp only [Nat.add_zero,Array.length_toList,ec,Array.getElem?_toList]
      by_cases aV:off≤j∧j<off+n
      · rw [if_pos (by omega),if_pos aV]
      · rw [if_neg (by omega),if_neg aV]
     have oy:=JW off k cs (by omega)
     have XW:∀j,(hX off k cs)[j]? =if off≤j∧j<off+n then k[j - off]? else cs[j]? :=by
      intro j
      rw [oy]
      by_cases c1:j<off
      · rw [if_neg (by omega),List.append_assoc,List.getElem?_append_left (by simp;omega),List.getElem?_take_of_lt c1]
      · by_cases c2:j<off+n
        · rw [if_pos (by omega),List.append_assoc,List.getElem?_append_right (by simp;omega),List.getElem?_append_left (by simp;omega)]
          congr 1;simp;omega
        · rw [if_neg (by omega),List.getElem?_append_right (by simp;omega),List.getElem?_drop]
          congr 1;simp;omega
     have hlen:(hX off k cs).length=cs.length:=by rw [oy];simp;omega
     obtain ⟨m2,r1,gl,lk,wJ⟩:=Ky bA pe parts aQ (hX off k cs) l wH hp
      (cE.of (by rw [hlen,Array.length_toList,f1];exact er) fun j u y hu hy=>by
        rw [Array.getElem?_toList,na] at hy
        rw [XW] at hu
        by_cases aV:off≤j∧j<off+n
        · rw [if_pos aV] at hy hu
          obtain ⟨z,hz,Gl⟩:=jG.get hu
          rw [Array.getElem?_toList,hy] at hz
          cases hz;exact Gl
        · rw [if_neg aV] at hy hu
          obtain ⟨z,hz,Gl⟩:=hr.get hu
          rw [Array.getElem?_toList,hy] at hz
          cases hz;exact Gl)
      (fun y hy=>by
        obtain ⟨j,aV⟩:=List.mem_iff_getElem?.1 hy
        rw [Array.getElem?_toList,na] at aV
        by_cases ax:off≤j∧j<off+n
        · rw [if_pos ax] at aV
          exact nK y (by rw [←Array.getElem?_toList] at aV;exact List.mem_of_getElem? aV)
        · rw [if_neg ax] at aV
          exact h1 y (by rw [←Array.getElem?_toList] at aV;exact List.mem_of_getElem? aV)) hf
     exact ⟨m2,by rw [jH];exact r1,gl,lk,by rw [wJ,f1]⟩
   · rw [if_neg qc] at hf;cases hf
theorem CX {t:TypeId} {z:List V} (hz:x3 P t z=true):∃x,(zeroValue t).run P w= .ok x w∧cE ι z x.cells.toList∧(∀y∈x.cells.toList,y.oneCell'=true)∧∃i,P.info? t=some i∧i.zero=some x:=by
 unfold x3 at hz
 cases aq:P.info? t with
 |none=>simp [aq] at hz
 |some i=>
  cases hx:i.zero with
  |none=>simp [aq,hx] at hz
  |some x=>
   simp only [aq,hx,Bool.and_eq_true] at hz
   exact ⟨x,by simp [zeroValue,run_typeInfo w aq,hx,Result.andThen],Gd z _ hz.1,fun y hy=>List.all_eq_true.1 hz.2 y hy,i,rfl,hx⟩
theorem XX {fs:List Field} (h:∀f∈fs,(P.info? f.type).isSome=true):∃places,fs.mapM (fun f=>(P.info? f.type).map fun i=>(f.offset,i.size))=some places∧
  ∀i:Nat,places[i]? =match (fs[i]? :Option Field) with|some f=>(match P.info? f.type with|some t=>some (f.offset,t.size)|none=>none)|none=>none:=by
 induction fs with
 |nil=>exact ⟨[],rfl,fun i=>by simp⟩
 |cons f fs bt=>
  obtain ⟨pl,h1,h2⟩:=bt fun g hg=>h g (by simp [hg])
  have hf:=h f (by simp)
  obtain ⟨i,aq⟩:=Option.isSome_iff_exists.1 hf
  refine ⟨(f.offset,i.size)::pl,by simp [List.mapM_cons,aq,h1],fun j=> ?_⟩
  cases j with
  |zero=>simp [aq]
  |succ j=>simpa using h2 j
theorem XY (bA:∀x a,bw x a=true→bL ι (ev a) (bK x)) {zero:List V} {aQ:List (Nat×Nat×A)} (hok:dI P bw o.op (.build zero aQ)=true) (he:light (.build zero aQ) ev h= .val v):hZ P ι w bK o v:=by
 obtain ⟨l,au,aE⟩:=kN (by simp) he
 rw [nE] at aE
 cases aE
 simp only [dI] at hok
 split at hok
 · rename_i t parts hx
   simp only [Bool.and_eq_true] at hok
   obtain ⟨hz,hok⟩:=hok
   obtain ⟨z,Gm,mj,tH,it,XZ,X0⟩:=CX (P:=P) (w:=w) (ι:=ι) hz
   split at hok
   · rename_i fs hu
     simp only [Bool.and_eq_true] at hok
     obtain ⟨hp,oB⟩:=hok
     obtain ⟨pl,pe,X1⟩:=XX (P:=P) (fs:=fs.toList) (fun f hf=>by
      rw [Array.all_eq_true_iff_forall_mem] at oB
      exact oB f (by simpa using hf))
     obtain ⟨ms,r1,gl,lk,_⟩:=Ky (P:=P) (ev:=ev) bA (place':=fun i=>pl.toArray[i]?) (fun i p aq=>by
       show pl.toArray[i]? =some p
       rw [List.getElem?_toArray,X1 i,Array.getElem?_toList]
       exact aq) parts.toList aQ zero l z.cells hp mj tH au
     refine ⟨.agg ms, ?_,ms,rfl,gl,lk⟩
     have hb:P.built t (parts.map fun (i,x)=>(i,bK x)).toList=some ms:=by
      simp only [Program.built,XZ,hu,X0,pe]
      rw [Array.toList_map]
      exact r1
     simp [execOp,hx,run_build w t _ _ hb,Result.andThen]
   · cases hok
 · cases hok
end
end
end Go.Eng
namespace Go.Eng
noncomputable section
theorem Pq {r k:Nat} (hr:0<r) (vs:List V) (aE:vs.length=k * r) (hk:0≤k):q7 r (k * r) (e4 r k 0 vs T.e):=by
 refine ⟨hr,Nat.zero_le _,fun i row aq hg=> ?_⟩
 rw [q9 r k 0 vs T.e i (by omega) aq] at hg
 by_cases ax:0≤i∧i<0+k
 · rw [if_pos ax] at hg
   cases hg
   have h2:(i+1) * r≤k * r:=Nat.mul_le_mul_right r (by omega)
   refine ⟨?_,h2⟩
   simp only [Nat.sub_zero,List.length_take,List.length_drop,aE]
   rw [Nat.add_mul] at h2;omega
 · rw [if_neg ax,T.wj] at hg;cases hg
theorem Pr {r k c7 ap:Nat} (hr:0<r) (vs:List V) (aE:vs.length=k * r) (hk:0≤k) (j:Nat):cellOf (.cells r c7 ap (k * r) (e4 r k 0 vs T.e)) j=vs[j]? :=by
 rw [wy]
 by_cases aV:j<k * r
 · rw [if_pos aV,J0 hr vs aE T.e (by omega) j (Nat.zero_le _),if_pos (by rw [Nat.zero_mul,Nat.zero_add];exact ⟨Nat.zero_le _,aV⟩)]
   simp
 · rw [if_neg aV];symm;rw [List.getElem?_eq_none_iff];omega
theorem X2 {r f a n:Nat} {t:T (List V)} (h:fv (.cells r f a n t)=true):0<r∧0≤n:=by
 have h:(Nat.blt 0 r)=true:=h
 rw [gG] at h
 exact ⟨by simpa using h,Nat.zero_le _⟩
theorem Au {r f a k:Nat} {t:T (List V)} (h:fv (.cells r f a (k * r) t)=true):0<r∧0≤k:=by
 exact ⟨(X2 h).1,Nat.zero_le _⟩
theorem Ps (n:Nat) (l:List V):rep (n+1) l=l++rep n l:=by show gd l (rep n l)=_;rw [pZ]
theorem CY (n:Nat) (l:List V):(rep n l).length=n * l.length:=by
 induction n with
 |zero=>simp;rfl
 |succ n bt=>rw [Ps,List.length_append,bt,Nat.add_mul];omega
theorem Kz (l:List V):∀(n j:Nat),j<n * l.length→(rep n l)[j]? =l[j % l.length]?
 |0,j,h=>by simp at h
 |n+1,j,h=>by
  rw [Ps]
  by_cases aV:j<l.length
  · rw [List.getElem?_append_left aV,Nat.mod_eq_of_lt aV]
  · rw [List.getElem?_append_right (by omega),Kz l n (j - l.length) (by rw [Nat.add_mul] at h;omega),←Nat.mod_eq_sub_mod (by omega)]
theorem Pt {z:Array Value} {n r:Nat} (hz:z.size=r) (hr:0<r):∀j x,(madeCells z n)[j]? =some x→z[j % r]? =some x∧j<n:=by
 intro j x h
 unfold madeCells at h
 rw [Array.getElem?_map,hz] at h
 by_cases aV:j<n
 · rw [Array.getElem?_range,if_pos aV] at h
   simp only [Option.map_some,Option.some.injEq] at h
   have hm:=Nat.mod_lt j hr
   rw [getElem!_pos z (j % r) (by omega)] at h
   exact ⟨by rw [←h];exact Array.getElem?_eq_getElem _,aV⟩
 · rw [Array.getElem?_eq_none (by simpa using aV)] at h;simp at h
structure su (ι:bb) (b:Nat) (w w':World) (B:fR) (aO:Obj):Prop where
 c:B.c=w.heap.size
 c7:B.c7=b
 old:∀c,c<w.heap.size→w'.heap[c]? =w.heap[c]?
 size:w'.heap.size=w.heap.size+1
 tape:w'.tape=w.tape
 os:w'.os=w.os
 out:w'.output=w.output
 rel:nF ι B aO w'
def x7 (P:Program) (ι:bb) (b:Nat) (w:World) (bK:Operand→Value) (o:Oper) (aO:Obj) (v:V):Prop:=
 ∃v' w' B,(execOp bK o).run P w= .ok (.value v') w'∧su ι b w w' B aO∧bL (ι.put b B) v v'
theorem su.frame {ι:bb} {b:Nat} {w w':World} {B:fR} {aO:Obj} (n:su ι b w w' B aO) (h:ag):si ι h w w':=si.push n.old (by have:=n.size;omega) n.tape n.os n.out
theorem su.gm {ι:bb} {h:ag} {w w':World} {B:fR} {aO:Obj} (n:su ι h.next w w' B aO) (g:Good ι h w) (hf:ι h.next=none) (au:0≤h.next):Good (ι.put h.next B) (h.add aO) w':=
 WU g hf au n.c n.c7 n.old n.size n.rel
section
variable {P:Program} {ι:bb} {h:ag} {w:World} {bw:jU} {ev:dM} {bK:Operand→Value} {o:Oper} {aO:Obj} {v:V}
theorem Gn (w:World) (o:Go.Obj):∀c,c<w.heap.size→(w.alloc o).heap[c]? =w.heap[c]? :=by
 intro c ax;show (w.heap.push o)[c]? =_;rw [Array.getElem?_push,if_neg (by omega)]
theorem Av (w:World) (o:Go.Obj):(w.alloc o).heap[w.heap.size]? =some o:=by
 show (w.heap.push o)[w.heap.size]? =_;rw [Array.getElem?_push,if_pos rfl]
theorem Pu (b:Nat) {row:List V} {cs:Array Value} {el:TypeId} (hr:cE ι row cs.toList) (h1:∀x∈cs.toList,x.oneCell'=true):
  ∃B,su ι b w (w.alloc (.cells cs el)) B (.box row)∧bL (ι.put b B) (.ptr b 0) (.pointer (some ⟨w.heap.size,0,none⟩)):=by
 have hlen:cs.size=row.length:=by simpa using hr.length
 refine ⟨⟨w.heap.size,0,row.length,0,0,b,0⟩,⟨rfl,rfl,Gn w _,by simp,rfl,rfl,rfl, ?_⟩,⟨_,bb.hh ..,rfl⟩⟩
 refine ⟨cs,el,(0,0),Av w _,q8.b (.inl (Nat.le_refl _)) (by simp [ow,hlen]),rfl,by simp [ow,hlen],trivial,fun j v aV=> ?_⟩
 obtain ⟨x,hx,aE⟩:=hr.get aV
 refine ⟨x, ?_,h1 x (List.mem_of_getElem? hx),aE⟩
 rw [←Array.getElem?_toList];simpa using hx
theorem Gp (b:Nat) {r k cap:Nat} (gn:0<r) (hk:0≤k) (oC:k≤cap) {vs:List V} {cs more:List Value} {el:TypeId} {w':World} {fr:Nat×Nat}
  (aE:vs.length=k * r) (hr:cE ι vs cs) (h1:∀x∈cs,x.oneCell'=true) (ec:cs.length+more.length=cap * r)
  (nb:w'.heap[w.heap.size]? =some (.cells (cs++more).toArray el fr)) (CZ:q8 (cap * r) fr):
  nF ι ⟨w.heap.size,0,k * r,r,cap,b,0⟩ (.cells r b 0 (k * r) (e4 r k 0 vs T.e)) w':=by
 have wI:cs.length=k * r:=hr.length.trans aE
 refine ⟨(cs++more).toArray,el,fr,nb,q8.cells (by simpa [ec] using CZ),rfl, ?_,⟨rfl,rfl,rfl,by simp [ec],Pq gn vs aE hk⟩,fun j v aV=> ?_⟩
 · simp [ow,wI]
 · rw [Pr gn vs aE hk] at aV
   obtain ⟨x,hx,aE⟩:=hr.get aV
   refine ⟨x, ?_,h1 x (List.mem_of_getElem? hx),aE⟩
   have:j<cs.length:=(List.getElem?_eq_some_iff.1 hx).1
   simp [List.getElem?_append_left this,hx]
theorem X3 {cs:List V} (hok:dI P bw o.op (.alloc cs)=true) (he:light (.alloc cs) ev h= .new aO v):x7 P ι h.next w bK o aO v:=by
 have he:force h.next (fun b=>bM.new (.box cs) (.ptr b 0))= .new aO v:=he
 rw [force_eq] at he
 cases he
 simp only [dI] at hok
 split at hok<;>rename_i hx
 · rename_i t
   obtain ⟨x,hz,hr,h1,_⟩:=CX (P:=P) (w:=w) (ι:=ι) hok
   obtain ⟨B,fw,fl⟩:=Pu h.next (w:=w) (el:=t) hr h1
   exact ⟨_,_,B,by simp [execOp,hx,Instr.alloc,hz,newVar,newRow,Result.andThen],fw,fl⟩
 · cases hok
theorem X4 (bA:∀x a,bw x a=true→bL ι (ev a) (bK x)) {n:Nat} {a:A} (hok:dI P bw o.op (.box n a)=true) (he:light (.box n a) ev h= .new aO v):x7 P ι h.next w bK o aO v:=by
 have he:force h.next (fun b=>(Option.rec .bad (fun l=>Bool.rec .bad (hU l fun l=> .new (.box l) (.ptr b 0)) ((cZ l).beq n)) (ev a).dY:bM))= .new aO v:=he
 rw [force_eq] at he
 obtain ⟨l,ax,he⟩:=kN (by simp) he
 obtain ⟨_,he⟩:=p8 (by simp) he
 rw [nE] at he
 cases he
 simp only [dI] at hok
 split at hok<;>rename_i hx
 · rename_i t x
   obtain ⟨hr,h1⟩:=Kh ax (bA _ _ hok)
   obtain ⟨B,fw,fl⟩:=Pu h.next (w:=w) (el:=t) hr h1
   exact ⟨_,_,B,by simp [execOp,hx,Instr.box,newVar,newRow,Result.andThen],fw,fl⟩
 · cases hok
theorem X5 (hok:dI P bw o.op .xQ=true) (he:light .xQ ev h= .new aO v):x7 P ι h.next w bK o aO v:=(Bool.false_ne_true hok).elim
theorem X6 (bA:∀x a,bw x a=true→bL ι (ev a) (bK x)) {r bytes:Nat} {zero:List V} {l c:A} (hok:dI P bw o.op (.o1 r zero bytes l c)=true) (he:light (.o1 r zero bytes l c) ev h= .new aO v) (ec:fv aO=true):x7 P ι h.next w bK o aO v:=by
 have he:(match (ev l).asNat,(ev c).asNat with
  |some n,some m=>force h.next fun b=>bif n.ble m&&(Nat.mul m bytes).ble 1099511627776 then gQ r m 0 (rep m zero) T.e fun t=> .new (.cells r b 0 (Nat.mul m r) t) (.av b 0 n (some m)) else .bad
  |_,_=> .bad)=bM.new aO v:=he
 cases aT:(ev l).asNat with
 |none=>simp [aT] at he
 |some n=>
  cases bu:(ev c).asNat with
  |none=>simp [aT,bu] at he
  |some m=>
   simp only [aT,bu,force_eq,iI] at he
   obtain ⟨hb,he⟩:=p9 (by simp) he
   simp only [fa,Bool.and_eq_true,decide_eq_true_eq] at hb
   cases he
   obtain ⟨Kt,Gq⟩:=Kg aT
   obtain ⟨X7,X8⟩:=Kg bu
   simp only [dI] at hok
   split at hok
   · rename_i t aP dT hx
     simp only [Bool.and_eq_true,decide_eq_true_eq] at hok
     obtain ⟨gn,h1,h2,hok⟩:=hok
     split at hok
     · rename_i el hu
       simp only [Bool.and_eq_true,decide_eq_true_eq] at hok
       obtain ⟨aC,KA,hz,pf,j7⟩:=hok
       have h1:=CR bA h1 Gq
       have h2:=CR bA h2 X8
       obtain ⟨z,Gm,mj,tH,i,aq,Gr⟩:=CX (P:=P) (w:=w) (ι:=ι) hz
       have x8:i.size=r:=by simpa [mX,aq] using aC
       have X9:i.bytes=bytes:=by simpa [Gb,aq] using KA
       obtain ⟨_,hm⟩:=Au (k:=m) ec
       have jt:=run_make (P:=P) w t el i z hu aq Gr Kt X7 (Int.ofNat n) (Int.ofNat m) (Int.natCast_nonneg _) (by have:=hb.1;simp;omega) (by
        have:=hb.2;rw [X9]
        have e:((bytes:Int) * Int.ofNat m)=((m * bytes:Nat):Int):=by simp [Int.mul_comm]
        rw [e];simp at this ⊢;omega) (by have bj:=Nat.le_mul_of_pos_right m j7;have cy:m * bytes≤1099511627776:=hb.2;simp;omega)
       have x9:z.cells.size=r:=by have:=mj.length;simpa [pf] using this
       refine ⟨_,_,⟨w.heap.size,0,m * r,r,m,h.next,0⟩,by simp only [execOp,hx,h1,h2,Sem.run_bind,jt,Result.andThen];rfl,⟨rfl,rfl,Gn w _,by simp,rfl,rfl,rfl, ?_⟩, ?_⟩
       · have er:(madeCells z.cells (m * r)).size=m * r:=size_madeCells _ _
         have na:=Pt (z:=z.cells) (n:=m * r) (r:=r) x9 gn
         refine Gp h.next (w:=w) gn hm (Nat.le_refl _) (cs:=(madeCells z.cells (m * r)).toList) (more:=[]) (el:=el) (fr:=(0,0)) (by rw [CY,pf]) ?_ ?_ (by simp [er]) ?_ (.inl (Nat.le_refl _))
         · refine cE.of (by rw [CY,pf];simpa using er) fun j u x x6 iJ=> ?_
           rw [Array.getElem?_toList] at iJ
           obtain ⟨g1,g2⟩:=na j x iJ
           rw [Kz zero m j (by rw [pf];exact g2),pf] at x6
           obtain ⟨b2,lj,KB⟩:=mj.get x6
           rw [Array.getElem?_toList,g1] at lj
           cases lj;exact KB
         · intro x iJ
           obtain ⟨j,aV⟩:=List.mem_iff_getElem?.1 iJ
           rw [Array.getElem?_toList] at aV
           obtain ⟨g1,g2⟩:=na j x aV
           exact tH x (List.mem_of_getElem? (by rw [Array.getElem?_toList];exact g1))
         · rw [Av];simp [x8]
       · refine ⟨_,_,_,bb.hh ..,rfl,rfl,rfl,hb.1⟩
     · cases hok
   · cases hok
end
end
end Go.Eng
namespace Go.Eng
noncomputable section
section
variable {P:Program} {ι:bb} {h:ag} {w:World} {bw:jU} {ev:dM} {bK:Operand→Value} {o:Oper} {aO:Obj} {v:V}
theorem Ya {w:World} {cs:Array Value} {el:TypeId} {c:Nat}:(w.alloc (.cells cs el)).freeze ⟨w.heap.size,c,none⟩ 1={w with heap:=w.heap.push (.cells cs el (c,c+1))}:=by
 unfold World.freeze World.alloc
 simp only [Nat.one_ne_zero,if_false]
 congr 1
 apply Array.ext_getElem?
 intro i
 rw [Array.getElem?_modify,Array.getElem?_push,Array.getElem?_push]
 by_cases h:i=w.heap.size
 · subst h;simp
 · rw [if_neg (fun e=>h e.symm),if_neg h,if_neg h]
theorem Yb {P:Program} {w:World} {Gs Gt el:TypeId} {s:ByteArray} {cap:Nat} (aC:P.underlying Gs=some .string) (aX:P.underlying Gt=some (.slice el)) (tG:P.underlying el=some (.int .u8))
 (oC:(Question.appendCap s.size 0 el).cut (w.tape w.drawn (.appendCap s.size 0 el))=cap) (Pv:s.size≤cap):
 (convert Gs Gt (.string s)).run P w= .ok (.slice (some ⟨w.heap.size,0,none⟩) s.size cap) {w with drawn:=w.drawn+1,heap:=w.heap.push (.cells ((s.data.map fun b=>Value.int .u8 b.toNat)++Array.replicate (cap - s.size) (.int .u8 0)) el (cap,cap+1))}:=by
 have ait:s.data.size=s.size:=rfl
 simp only [convert,Sem.run_bind,run_underlying aC,run_underlying aX,run_underlying tG,Result.andThen,Conv.stringToBytes,run_choose,oC]
 generalize er:(s.data.map fun b=>Value.int .u8 b.toNat)++Array.replicate (cap - s.size) (.int .u8 0)=cs
 have ec:cs.size=cap:=by rw [←er];simp only [Array.size_append,Array.size_map,Array.size_replicate];omega
 have Yc:(w.drew.alloc (.cells cs el)).shape? w.heap.size=some (el,cap):=by
  have:=Av w.drew (.cells cs el)
  have e:w.drew.heap.size=w.heap.size:=rfl
  rw [e] at this
  unfold World.shape?;rw [this];simp [ec]
 have hfz:=Ya (w:=w.drew) (cs:=cs) (el:=el) (c:=cap)
 have e:w.drew.heap.size=w.heap.size:=rfl
 rw [e] at hfz
 simp [Question.forced,Result.andThen,newRow,markStringish,er,Yc,hfz]
 exact ⟨rfl,rfl,rfl⟩
theorem Pw {z:Array Value} {zero:List V} {r m:Nat} (gn:0<r) (pf:zero.length=r) (mj:cE ι zero z.toList) (tH:∀x∈z.toList,x.oneCell'=true):
  cE ι (rep m zero) (madeCells z (m * r)).toList∧∀x∈(madeCells z (m * r)).toList,x.oneCell'=true:=by
 have x9:z.size=r:=by have:=mj.length;simpa [pf] using this
 have er:(madeCells z (m * r)).size=m * r:=size_madeCells _ _
 have na:=Pt (z:=z) (n:=m * r) (r:=r) x9 gn
 constructor
 · refine cE.of (by rw [CY,pf];simpa using er) fun j u x x6 iJ=> ?_
   rw [Array.getElem?_toList] at iJ
   obtain ⟨g1,g2⟩:=na j x iJ
   rw [Kz zero m j (by rw [pf];exact g2),pf] at x6
   obtain ⟨b2,lj,KB⟩:=mj.get x6
   rw [Array.getElem?_toList,g1] at lj
   cases lj;exact KB
 · intro x iJ
   obtain ⟨j,aV⟩:=List.mem_iff_getElem?.1 iJ
   rw [Array.getElem?_toList] at aV
   obtain ⟨g1,g2⟩:=na j x aV
   exact tH x (List.mem_of_getElem? (by rw [Array.getElem?_toList];exact g1))
theorem Yd (bA:∀x a,bw x a=true→bL ι (ev a) (bK x)) {r n:Nat} {zero:List V} {aQ:List (Nat×Nat×A)} (hok:dI P bw o.op (.fA r n zero aQ)=true) (he:light (.fA r n zero aQ) ev h= .new aO v) (ec:fv aO=true):x7 P ι h.next w bK o aO v:=by
 have he:force h.next (fun b=>(Option.rec .bad (fun l=>gQ r n 0 l T.e fun t=> .new (.cells r b 0 (Nat.mul n r) t) (.av b 0 n (some n))) (fill aQ ev (rep n zero)):bM))= .new aO v:=he
 rw [force_eq] at he
 obtain ⟨l,rj,he⟩:=kN (by simp) he
 rw [iI] at he
 cases he
 simp only [dI] at hok
 split at hok
 · rename_i t len parts hx
   simp only [Bool.and_eq_true,decide_eq_true_eq] at hok
   obtain ⟨rfl,gn,aiu,hok⟩:=hok
   split at hok
   · rename_i el hu
     simp only [Bool.and_eq_true,decide_eq_true_eq] at hok
     obtain ⟨aC,hz,pf,hp⟩:=hok
     obtain ⟨z,Gm,mj,tH,i,aq,Gr⟩:=CX (P:=P) (w:=w) (ι:=ι) hz
     have x8:i.size=r:=by simpa [mX,aq] using aC
     obtain ⟨m1,m2⟩:=Pw (m:=len) gn pf mj tH
     obtain ⟨ms,r1,gl,lk,wJ⟩:=Ky (P:=P) (ev:=ev) bA (place':=fun i=>some (i * r,r)) (fun i p h=>h) parts.toList aQ (rep len zero) l _ hp m1 m2 rj
     rw [size_madeCells] at wJ
     obtain ⟨_,hm⟩:=Au (k:=len) ec
     have Kd:l.length=len * r:=by have:=gl.length;simp at this;omega
     have jt:(Instr.buildSlice t len (parts.map fun (i,x)=>(i,bK x))).run P w= .ok (.slice (some ⟨w.heap.size,0,none⟩) len len) (w.alloc (.cells ms el)):=by
      have Ye:(parts.map fun (i,x)=>(i,bK x)).toList=parts.toList.map fun p=>(p.1,bK p.2):=by rw [Array.toList_map]
      by_cases h0:len * i.size=0
      · have Gu:len=0:=by
         rw [x8] at h0
         rcases Nat.mul_eq_zero.1 h0 with h|h
         · exact h
         · omega
        subst Gu
        have ja:(madeCells z.cells (0 * r))= #[]:=by simp [madeCells]
        rw [ja] at r1
        have aT:(Array.map (fun x:Nat=>(#[]:Array Value)[x % (#[]:Array Value).size]!) (Array.range (0 * r)))= #[]:=by simp
        simp only [Instr.buildSlice,Sem.run_bind,run_underlying hu,Result.andThen,run_sizeOf w aq]
        simp [Program.cellsOf,aq,x8,Array.range_zero',r1,newRow]
      · exact run_buildSlice w t el len _ ms i z hu aq Gr (by rw [x8];omega) h0 (by rw [Ye,x8];exact r1)
     refine ⟨_,_,⟨w.heap.size,0,len * r,r,len,h.next,0⟩,by simp only [execOp,hx,Sem.run_bind,jt,Result.andThen];rfl,⟨rfl,rfl,Gn w _,by simp,rfl,rfl,rfl, ?_⟩, ?_⟩
     · exact Gp h.next (w:=w) gn hm (Nat.le_refl _) (cs:=ms.toList) (more:=[]) (el:=el) (fr:=(0,0)) Kd gl lk (by simp [wJ]) (by rw [Av];simp) (.inl (Nat.le_refl _))
     · exact ⟨_,_,_,bb.hh ..,rfl,rfl,rfl,Nat.le_refl _⟩
   · cases hok
 · cases hok
theorem Px (l:List UInt8):cE ι (nD (l.map (·.toNat))) (l.map fun b=>Value.int .u8 b.toNat):=by
 induction l with
 |nil=>rfl
 |cons b l bt=>
  refine ⟨_,_,rfl, ?_,bt⟩
  rw [uY];rfl
theorem Yf (bA:∀x a,bw x a=true→bL ι (ev a) (bK x)) {a:A} (hok:dI P bw o.op (.v8 a)=true) (he:light (.v8 a) ev h= .new aO v) (ec:fv aO=true):x7 P ι h.next w bK o aO v:=by
 have he:force h.next (fun b=>(Option.rec .bad (fun x=>gQ 1 x.1 0 (nD (gZ x.1 x.2)) T.e fun t=> .new (.cells 1 b 0 x.1 t) (.av b 0 x.1 none)) (ev a).r9:bM))= .new aO v:=he
 rw [force_eq] at he
 obtain ⟨p,hp,he⟩:=kN (by simp) he
 obtain ⟨n,x⟩:=p
 have ax:ev a= .str n x:=by
  generalize ev a=cO at hp
  cases cO<;>first|(cases hp;done)|skip
  cases hp;rfl
 rw [iI] at he
 cases he
 simp only [dI] at hok
 split at hok
 · rename_i Gs Gt aiv hx
   split at hok
   · rename_i el aC aX
     split at hok
     · rename_i tG
       obtain ⟨s,h1,rfl,rfl⟩:=As bA hok ax
       rw [rh] at *
       have p4:=Px (ι:=ι) s.data.toList
       have ml:s.data.toList.length=s.data.toList.length * 1:=(Nat.mul_one _).symm
       have Yg:fv (.cells 1 h.next 0 (s.data.toList.length * 1) (e4 1 s.data.toList.length 0 (nD (s.data.toList.map (·.toNat))) T.e))=true:=by rw [←ml];exact ec
       obtain ⟨_,hm⟩:=Au Yg
       have Yh:(nD (s.data.toList.map (·.toNat))).length=s.data.toList.length * 1:=by
        have:=p4.length;simp at this;simp [this]
       generalize oC:(Question.appendCap s.size 0 el).cut (w.tape w.drawn (.appendCap s.size 0 el))=cap
       have Pv:s.size≤cap:=by rw [←oC];simp [Question.cut]
       have Yi:=Go.Lib.size_eq s
       let cs:Array Value:=(s.data.map fun b=>Value.int .u8 b.toNat)++Array.replicate (cap - s.size) (.int .u8 0)
       have aiw:cs.size=cap:=by simp only [cs,Array.size_append,Array.size_map,Array.size_replicate];have:s.data.size=s.size:=rfl;omega
       let w1:World:={w with drawn:=w.drawn+1,heap:=w.heap.push (.cells cs el (cap,cap+1))}
       have jt:(convert Gs Gt (.string s)).run P w= .ok (.slice (some ⟨w.heap.size,0,none⟩) s.size cap) w1:=by
        exact Yb aC aX tG oC Pv
       have hold:∀c,c<w.heap.size→w1.heap[c]? =w.heap[c]? :=by
        intro c ax;show (w.heap.push _)[c]? =_;rw [Array.getElem?_push,if_neg (by omega)]
       have nb:w1.heap[w.heap.size]? =some (.cells cs el (cap,cap+1)):=by
        show (w.heap.push _)[w.heap.size]? =_;rw [Array.getElem?_push,if_pos rfl]
       have KC:w1.heap.size=w.heap.size+1:=by show (w.heap.push _).size=_;simp
       have Py:=Gp h.next (w:=w) (r:=1) (k:=s.data.toList.length) (cap:=cap) (by decide) hm (by omega) (cs:=s.data.toList.map fun b=>Value.int .u8 b.toNat) (more:=List.replicate (cap - s.size) (.int .u8 0)) (el:=el) (fr:=(cap,cap+1)) (w':=w1)
        Yh p4 (fun x hx=>by obtain ⟨b,_,rfl⟩:=List.mem_map.1 hx;rfl) (by simp only [List.length_map,List.length_replicate];omega) (by rw [nb];congr 2;simp [cs,←Array.toList_inj]) (.inr (by omega))
       refine ⟨_,w1,_,by simp only [execOp,hx,h1,Sem.run_bind,jt,Result.andThen];rfl,⟨rfl,rfl,hold,KC,rfl,rfl,rfl,by rw [←ml] at Py;exact Py⟩, ?_⟩
       refine ⟨_,_,_,bb.hh ..,by rw [Yi], ?_⟩
       exact ⟨by simp,by simp,by simp,by omega, .inl rfl⟩
     · cases hok
   · cases hok
 · cases hok
end
end
end Go.Eng
