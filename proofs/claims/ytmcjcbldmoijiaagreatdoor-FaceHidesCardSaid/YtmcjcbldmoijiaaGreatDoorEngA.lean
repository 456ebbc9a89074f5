/- Part of a proof of a law: rules of an evaluator, contracts, plain laws. No condition of its own. -/
import Derived.Recover
import Derived.Laws.Sem
import Derived.Laws.Cells
import Derived.Laws.IdiomCopy
import Derived.Laws.Entries
import Derived.ChangeKeysEq
import Derived.Lib.Strings
import Derived.Laws.StructEq
import Derived.Laws.BytesString
import Derived.Laws.Slices
import Derived.Laws.Tables
import Derived.Great.FillDense
import Derived.Laws.MakeOwn
import Derived.Great.BuildSlice
set_option linter.unusedVariables false
set_option linter.unusedSimpArgs false
namespace Go.Eng
noncomputable section
structure aF (α:Type) where
 a:α
 b:α
 c:α
 d:α
 e:α
 f:α
 g:α
 h:α
inductive bp where
 |d0|d1|d2|d3|d4|d5|d6|d7
 deriving DecidableEq
def aF.g0 {α:Type} (r:aF α):α:=r.a
def aF.g1 {α:Type} (r:aF α):α:=r.b
def aF.g2 {α:Type} (r:aF α):α:=r.c
def aF.g3 {α:Type} (r:aF α):α:=r.d
def aF.g4 {α:Type} (r:aF α):α:=r.e
def aF.g5 {α:Type} (r:aF α):α:=r.f
def aF.g6 {α:Type} (r:aF α):α:=r.g
def aF.g7 {α:Type} (r:aF α):α:=r.h
def aF.get {α:Type} (i:bp):aF α→α:= @bp.rec (fun _=>aF α→α) aF.g0 aF.g1 aF.g2 aF.g3 aF.g4 aF.g5 aF.g6 aF.g7 i
def aF.jR {α:Type} (x:α) (r:aF α):aF α:=⟨x,r.b,r.c,r.d,r.e,r.f,r.g,r.h⟩
def aF.s1 {α:Type} (x:α) (r:aF α):aF α:=⟨r.a,x,r.c,r.d,r.e,r.f,r.g,r.h⟩
def aF.s2 {α:Type} (x:α) (r:aF α):aF α:=⟨r.a,r.b,x,r.d,r.e,r.f,r.g,r.h⟩
def aF.fw {α:Type} (x:α) (r:aF α):aF α:=⟨r.a,r.b,r.c,x,r.e,r.f,r.g,r.h⟩
def aF.iG {α:Type} (x:α) (r:aF α):aF α:=⟨r.a,r.b,r.c,r.d,x,r.f,r.g,r.h⟩
def aF.jS {α:Type} (x:α) (r:aF α):aF α:=⟨r.a,r.b,r.c,r.d,r.e,x,r.g,r.h⟩
def aF.sf {α:Type} (x:α) (r:aF α):aF α:=⟨r.a,r.b,r.c,r.d,r.e,r.f,x,r.h⟩
def aF.yF {α:Type} (x:α) (r:aF α):aF α:=⟨r.a,r.b,r.c,r.d,r.e,r.f,r.g,x⟩
def aF.set {α:Type} (i:bp):α→aF α→aF α:= @bp.rec (fun _=>α→aF α→aF α) aF.jR aF.s1 aF.s2 aF.fw aF.iG aF.jS aF.sf aF.yF i
def aF.m0 {α R:Type} (u:α→(α→R)→R) (r:aF α) (k:aF α→R):R:= @aF.rec α (fun _=>R) (fun a b c d e f g h=>u a (fun x=>k ⟨x,b,c,d,e,f,g,h⟩)) r
def aF.m1 {α R:Type} (u:α→(α→R)→R) (r:aF α) (k:aF α→R):R:= @aF.rec α (fun _=>R) (fun a b c d e f g h=>u b (fun x=>k ⟨a,x,c,d,e,f,g,h⟩)) r
def aF.m2 {α R:Type} (u:α→(α→R)→R) (r:aF α) (k:aF α→R):R:= @aF.rec α (fun _=>R) (fun a b c d e f g h=>u c (fun x=>k ⟨a,b,x,d,e,f,g,h⟩)) r
def aF.m3 {α R:Type} (u:α→(α→R)→R) (r:aF α) (k:aF α→R):R:= @aF.rec α (fun _=>R) (fun a b c d e f g h=>u d (fun x=>k ⟨a,b,c,x,e,f,g,h⟩)) r
def aF.m4 {α R:Type} (u:α→(α→R)→R) (r:aF α) (k:aF α→R):R:= @aF.rec α (fun _=>R) (fun a b c d e f g h=>u e (fun x=>k ⟨a,b,c,d,x,f,g,h⟩)) r
def aF.m5 {α R:Type} (u:α→(α→R)→R) (r:aF α) (k:aF α→R):R:= @aF.rec α (fun _=>R) (fun a b c d e f g h=>u f (fun x=>k ⟨a,b,c,d,e,x,g,h⟩)) r
def aF.m6 {α R:Type} (u:α→(α→R)→R) (r:aF α) (k:aF α→R):R:= @aF.rec α (fun _=>R) (fun a b c d e f g h=>u g (fun x=>k ⟨a,b,c,d,e,f,x,h⟩)) r
def aF.m7 {α R:Type} (u:α→(α→R)→R) (r:aF α) (k:aF α→R):R:= @aF.rec α (fun _=>R) (fun a b c d e f g h=>u h (fun x=>k ⟨a,b,c,d,e,f,g,x⟩)) r
def aF.oW {α R:Type} (i:bp):(α→(α→R)→R)→aF α→(aF α→R)→R:= @bp.rec (fun _=>(α→(α→R)→R)→aF α→(aF α→R)→R) aF.m0 aF.m1 aF.m2 aF.m3 aF.m4 aF.m5 aF.m6 aF.m7 i
def aF.all {α:Type} (x:α):aF α:=⟨x,x,x,x,x,x,x,x⟩
def bp.of (n:Nat):bp:=(Nat.rec bp.d0 (fun m1 _=>(Nat.rec bp.d1 (fun m2 _=>(Nat.rec bp.d2 (fun m3 _=>(Nat.rec bp.d3 (fun m4 _=>(Nat.rec bp.d4 (fun m5 _=>(Nat.rec bp.d5 (fun m6 _=>(Nat.rec bp.d6 (fun _ _=>bp.d7) m6)) m5)) m4)) m3)) m2)) m1)) n)
inductive B (α:Type) where
 |mt
 |dd (o:Option α) (a b c d e f g h:B α)
def B.get' {α:Type} (t:B α):Nat→Option α:= @B.rec α (fun _=>Nat→Option α) (fun _=>none)
 (fun o _ _ _ _ _ _ _ _ a b c d e f g h k=>Nat.rec o (fun m _=> @bp.rec (fun _=>Nat→Option α) a b c d e f g h (bp.of ((Nat.succ m).mod 8)) ((Nat.succ m).div 8)) k) t
def B.get {α:Type} (n:Nat) (t:B α):Option α:=B.get' t n
def B.Hy {α R:Type} (v:α) (t:B α):(B α→R)→R:= @B.rec α (fun _=>(B α→R)→R) (fun k=>k (.dd (some v) .mt .mt .mt .mt .mt .mt .mt .mt))
 (fun _ a b c d e f g h _ _ _ _ _ _ _ _ k=>k (.dd (some v) a b c d e f g h)) t
abbrev B.hI (α R:Type):=B α→(B α→R)→R
def B.m0 {α R:Type} (u:B.hI α R) (t:B α):(B α→R)→R:= @B.rec α (fun _=>(B α→R)→R) (fun k=>u .mt fun x=>k (.dd none x .mt .mt .mt .mt .mt .mt .mt)) (fun o a b c d e f g h _ _ _ _ _ _ _ _ k=>u a fun x=>k (.dd o x b c d e f g h)) t
def B.m1 {α R:Type} (u:B.hI α R) (t:B α):(B α→R)→R:= @B.rec α (fun _=>(B α→R)→R) (fun k=>u .mt fun x=>k (.dd none .mt x .mt .mt .mt .mt .mt .mt)) (fun o a b c d e f g h _ _ _ _ _ _ _ _ k=>u b fun x=>k (.dd o a x c d e f g h)) t
def B.m2 {α R:Type} (u:B.hI α R) (t:B α):(B α→R)→R:= @B.rec α (fun _=>(B α→R)→R) (fun k=>u .mt fun x=>k (.dd none .mt .mt x .mt .mt .mt .mt .mt)) (fun o a b c d e f g h _ _ _ _ _ _ _ _ k=>u c fun x=>k (.dd o a b x d e f g h)) t
def B.m3 {α R:Type} (u:B.hI α R) (t:B α):(B α→R)→R:= @B.rec α (fun _=>(B α→R)→R) (fun k=>u .mt fun x=>k (.dd none .mt .mt .mt x .mt .mt .mt .mt)) (fun o a b c d e f g h _ _ _ _ _ _ _ _ k=>u d fun x=>k (.dd o a b c x e f g h)) t
def B.m4 {α R:Type} (u:B.hI α R) (t:B α):(B α→R)→R:= @B.rec α (fun _=>(B α→R)→R) (fun k=>u .mt fun x=>k (.dd none .mt .mt .mt .mt x .mt .mt .mt)) (fun o a b c d e f g h _ _ _ _ _ _ _ _ k=>u e fun x=>k (.dd o a b c d x f g h)) t
def B.m5 {α R:Type} (u:B.hI α R) (t:B α):(B α→R)→R:= @B.rec α (fun _=>(B α→R)→R) (fun k=>u .mt fun x=>k (.dd none .mt .mt .mt .mt .mt x .mt .mt)) (fun o a b c d e f g h _ _ _ _ _ _ _ _ k=>u f fun x=>k (.dd o a b c d e x g h)) t
def B.m6 {α R:Type} (u:B.hI α R) (t:B α):(B α→R)→R:= @B.rec α (fun _=>(B α→R)→R) (fun k=>u .mt fun x=>k (.dd none .mt .mt .mt .mt .mt .mt x .mt)) (fun o a b c d e f g h _ _ _ _ _ _ _ _ k=>u g fun x=>k (.dd o a b c d e f x h)) t
def B.m7 {α R:Type} (u:B.hI α R) (t:B α):(B α→R)→R:= @B.rec α (fun _=>(B α→R)→R) (fun k=>u .mt fun x=>k (.dd none .mt .mt .mt .mt .mt .mt .mt x)) (fun o a b c d e f g h _ _ _ _ _ _ _ _ k=>u h fun x=>k (.dd o a b c d e f g x)) t
def B.oW {α R:Type} (i:bp):B.hI α R→B.hI α R:= @bp.rec (fun _=>B.hI α R→B.hI α R) B.m0 B.m1 B.m2 B.m3 B.m4 B.m5 B.m6 B.m7 i
def B.Hz {α R:Type} (v:α) (n:Nat):Nat→B.hI α R:= @Nat.rec (fun _=>Nat→B.hI α R) (fun _=>B.Hy v)
 (fun _ bm k=> @Nat.rec (fun _=>B.hI α R) (B.Hy v) (fun m _=>B.oW (bp.of ((Nat.succ m).mod 8)) (bm ((Nat.succ m).div 8))) k) n
def B.dg {α R:Type} (n:Nat) (v:α) (t:B α) (c:B α→R):R:=B.Hz v n n t c
def B.set {α:Type} (n:Nat) (v:α) (t:B α):B α:=B.dg n v t fun t=>t
def force {R:Type} (n:Nat) (f:Nat→R):R:=Nat.rec (f 0) (fun m _=>f (Nat.succ m)) n
structure T (α:Type) where
 x:aF (aF (aF (Option α)))
 y:Option (aF (aF (aF (aF (aF (Option α))))))
 z:B α
def T.e {α:Type}:T α:=⟨aF.all (aF.all (aF.all none)),none, .mt⟩
def T.wG {α:Type} (n:Nat) (t:aF (aF (aF (Option α)))):Option α:=aF.get (bp.of (n.mod 8)) (aF.get (bp.of ((n.div 8).mod 8)) (aF.get (bp.of (n.div 64)) t))
def T.tD {α:Type} (n:Nat) (t:aF (aF (aF (aF (aF (Option α)))))):Option α:=
 aF.get (bp.of (n.mod 8)) (aF.get (bp.of ((n.div 8).mod 8)) (aF.get (bp.of ((n.div 64).mod 8)) (aF.get (bp.of ((n.div 512).mod 8)) (aF.get (bp.of (n.div 4096)) t))))
def T.gx {α:Type}:aF (aF (aF (aF (aF (Option α))))):=aF.all (aF.all (aF.all (aF.all (aF.all none))))
def T.DR {α:Type} (n:Nat) (y:Option (aF (aF (aF (aF (aF (Option α))))))):Option α:=Option.rec none (fun y=>T.tD n y) y
def T.get {α:Type} (n:Nat) (t:T α):Option α:=force n fun n=> @T.rec α (fun _=>Option α) (fun x y z=>Bool.rec (Bool.rec (B.get n z) (T.DR n y) (n.blt 32768)) (T.wG n x) (n.blt 512)) t
def T.yG {α R:Type} (n:Nat) (v:α) (t:aF (aF (aF (Option α)))) (c:aF (aF (aF (Option α)))→R):R:=
 aF.oW (bp.of (n.div 64)) (aF.oW (bp.of ((n.div 8).mod 8)) (aF.oW (bp.of (n.mod 8)) (fun _ c=>c (some v)))) t c
def T.yH {α R:Type} (n:Nat) (v:α) (t:aF (aF (aF (aF (aF (Option α)))))) (c:aF (aF (aF (aF (aF (Option α)))))→R):R:=
 aF.oW (bp.of (n.div 4096)) (aF.oW (bp.of ((n.div 512).mod 8)) (aF.oW (bp.of ((n.div 64).mod 8)) (aF.oW (bp.of ((n.div 8).mod 8)) (aF.oW (bp.of (n.mod 8)) (fun _ c=>c (some v)))))) t c
def T.dg {α R:Type} (n:Nat) (v:α) (t:T α) (c:T α→R):R:=force n fun n=> @T.rec α (fun _=>R)
 (fun x y z=>Bool.rec (Bool.rec (B.dg n v z fun z=>c ⟨x,y,z⟩) (T.yH n v (Option.rec T.gx (fun y=>y) y) fun y=>c ⟨x,some y,z⟩) (n.blt 32768)) (T.yG n v x fun x=>c ⟨x,y,z⟩) (n.blt 512)) t
def T.set {α:Type} (n:Nat) (v:α) (t:T α):T α:=T.dg n v t fun t=>t
def gK {α R:Type} (l:List α):(List α→R)→R:= @List.rec α (fun _=>(List α→R)→R) (fun k=>k []) (fun v _ bm k=>bm fun l=>k (v::l)) l
inductive V where
 |bot
 |bool (b:Bool)
 |int (k:IntKind) (n:Int)
 |str (n x:Nat)
 |nr
 |ptr (b o:Nat)
 |U
 |au (b o len:Nat) (cap:Option Nat)
 |kp
 |map (b:Nat)
 |fn (f:Nat) (first captured:List V)
 |nt
 |ez (t:Nat) (v:V)
 |jG
 |agg (l:List V)
 |dh (l:List V)
 deriving Inhabited
def un:V:= .dh []
def V.asInt (v:V):Option (IntKind×Int):= @V.rec (fun _=>Option (IntKind×Int)) (fun _=>Unit)
 (none) (fun _=>none) (fun cZ x1=>some (cZ,x1)) (fun _ _=>none) (none) (fun _ _=>none) (none) (fun _ _ _ _=>none) (none) (fun _=>none) (fun _ _ _ _ _=>none) (none) (fun _ _ _=>none) (none) (fun _ _=>none) (fun _ _=>none)
 () (fun _ _ _ _=>()) v
def V.asBool (v:V):Option Bool:= @V.rec (fun _=>Option Bool) (fun _=>Unit)
 (none) (fun cZ=>some cZ) (fun _ _=>none) (fun _ _=>none) (none) (fun _ _=>none) (none) (fun _ _ _ _=>none) (none) (fun _=>none) (fun _ _ _ _ _=>none) (none) (fun _ _ _=>none) (none) (fun _ _=>none) (fun _ _=>none)
 () (fun _ _ _ _=>()) v
def V.q4 (v:V):Option (Nat×Nat):= @V.rec (fun _=>Option (Nat×Nat)) (fun _=>Unit)
 (none) (fun _=>none) (fun _ _=>none) (fun cZ x1=>some (cZ,x1)) (none) (fun _ _=>none) (none) (fun _ _ _ _=>none) (none) (fun _=>none) (fun _ _ _ _ _=>none) (none) (fun _ _ _=>none) (none) (fun _ _=>none) (fun _ _=>none)
 () (fun _ _ _ _=>()) v
def V.lo (v:V):Option (Nat×Nat):= @V.rec (fun _=>Option (Nat×Nat)) (fun _=>Unit)
 (none) (fun _=>none) (fun _ _=>none) (fun _ _=>none) (none) (fun cZ x1=>some (cZ,x1)) (none) (fun _ _ _ _=>none) (none) (fun _=>none) (fun _ _ _ _ _=>none) (none) (fun _ _ _=>none) (none) (fun _ _=>none) (fun _ _=>none)
 () (fun _ _ _ _=>()) v
def V.yI (v:V):Option (Nat×List V×List V):= @V.rec (fun _=>Option (Nat×List V×List V)) (fun _=>Unit)
 (none) (fun _=>none) (fun _ _=>none) (fun _ _=>none) (none) (fun _ _=>none) (none) (fun _ _ _ _=>none) (none) (fun _=>none) (fun cZ x1 bR _ _=>some (cZ,x1,bR)) (none) (fun _ _ _=>none) (none) (fun _ _=>none) (fun _ _=>none)
 () (fun _ _ _ _=>()) v
def V.asNat (v:V):Option Nat:= @V.rec (fun _=>Option Nat) (fun _=>Unit)
 (none) (fun _=>none) (fun cZ x1=>Int.rec (fun n=>some n) (fun _=>none) x1) (fun _ _=>none) (none) (fun _ _=>none) (none) (fun _ _ _ _=>none) (none) (fun _=>none) (fun _ _ _ _ _=>none) (none) (fun _ _ _=>none) (none) (fun _ _=>none) (fun _ _=>none)
 () (fun _ _ _ _=>()) v
def V.yJ (v:V):Option Nat:= @V.rec (fun _=>Option Nat) (fun _=>Unit)
 (none) (fun _=>none) (fun cZ x1=> @IntKind.rec (fun _=>Option Nat) none none none none (Int.rec (fun n=>some n) (fun _=>none) x1) none none none cZ) (fun _ _=>none) (none) (fun _ _=>none) (none) (fun _ _ _ _=>none) (none) (fun _=>none) (fun _ _ _ _ _=>none) (none) (fun _ _ _=>none) (none) (fun _ _=>none) (fun _ _=>none)
 () (fun _ _ _ _=>()) v
def V.dq (v:V):Bool→Option Bool:= @V.rec (fun _=>Bool→Option Bool) (fun _=>Unit)
 (fun _=>none) (fun cZ=>fun b=>some (b==cZ)) (fun _ _=>fun _=>none) (fun _ _=>fun _=>none) (fun _=>none) (fun _ _=>fun _=>none) (fun _=>none) (fun _ _ _ _=>fun _=>none) (fun _=>none) (fun _=>fun _=>none) (fun _ _ _ _ _=>fun _=>none) (fun _=>none) (fun _ _ _=>fun _=>none) (fun _=>none) (fun _ _=>fun _=>none) (fun cZ _=>fun _=>some false)
 () (fun _ _ _ _=>()) v
def V.dA (v:V):Option (List V):= @V.rec (fun _=>Option (List V)) (fun _=>Unit)
 (none) (fun cZ=>some [.bool cZ]) (fun cZ x1=>some [.int cZ x1]) (fun cZ x1=>some [.str cZ x1]) (some [.nr]) (fun cZ x1=>some [.ptr cZ x1]) (some [.U]) (fun cZ x1 bR bW=>some [.au cZ x1 bR bW]) (some [.kp]) (fun cZ=>some [.map cZ]) (fun cZ x1 bR _ _=>some [.fn cZ x1 bR]) (some [.nt]) (fun cZ x1 _=>some [.ez cZ x1]) (some [.jG]) (fun cZ _=>some cZ) (fun cZ _=>none)
 () (fun _ _ _ _=>()) v
def V.Ts (v:V):Option V:= @V.rec (fun _=>Option V) (fun _=>Unit)
 (none) (fun _=>none) (fun _ _=>none) (fun _ _=>none) (none) (fun cZ x1=>some (.ptr cZ x1)) (none) (fun _ _ _ _=>none) (none) (fun _=>none) (fun cZ x1 bR _ _=>some (.fn cZ x1 bR)) (none) (fun cZ x1 _=>some (.ez cZ x1)) (none) (fun _ _=>none) (fun _ _=>none)
 () (fun _ _ _ _=>()) v
def V.force {R:Type} (v:V):(V→R)→R:= @V.rec (fun _=>(V→R)→R) (fun _=>Unit)
 (fun k=>k (.bot)) (fun cZ k=>k (.bool cZ)) (fun cZ x1 k=>k (.int cZ x1)) (fun cZ x1 k=>k (.str cZ x1)) (fun k=>k (.nr)) (fun cZ x1 k=>k (.ptr cZ x1)) (fun k=>k (.U)) (fun cZ x1 bR bW k=>k (.au cZ x1 bR bW)) (fun k=>k (.kp)) (fun cZ k=>k (.map cZ)) (fun cZ x1 bR _ _ k=>k (.fn cZ x1 bR)) (fun k=>k (.nt)) (fun cZ x1 _ k=>k (.ez cZ x1)) (fun k=>k (.jG)) (fun cZ _ k=>k (.agg cZ)) (fun cZ _ k=>k (.dh cZ))
 () (fun _ _ _ _=>()) v
structure oX where
 key:V
 val:V
 born:Nat
inductive Obj where
 |box (row:List V)
 |cells (r cO jT size:Nat) (rows:T (List V))
 |dead
 |map (es:List oX) (clock:Nat)
structure gV where
 last:Nat
 mem:List Nat
inductive HA where
 |none
 |some (v:V)
 |recovered
structure ae where
 t:T Obj
 next:Nat
 bA:T gV
 ds:List (V×List V)
 bO:HA
def ae.empty:ae:=⟨T.e,8,T.e,[], .none⟩
inductive A where
 |l (d:Nat)
 |t (i j:bp)
 |c (v:V)
structure Row where
 a:V
 b:V
 c:V
 d:V
 e:V
 f:V
 g:V
 h:V
structure Env where
 a:Row
 b:Row
 c:Row
 d:Row
 e:Row
 f:Row
 g:Row
 h:Row
def Row.g0 (r:Row):V:=r.a
def Row.g1 (r:Row):V:=r.b
def Row.g2 (r:Row):V:=r.c
def Row.g3 (r:Row):V:=r.d
def Row.g4 (r:Row):V:=r.e
def Row.g5 (r:Row):V:=r.f
def Row.g6 (r:Row):V:=r.g
def Row.g7 (r:Row):V:=r.h
def Env.g0 (r:Env):Row:=r.a
def Env.g1 (r:Env):Row:=r.b
def Env.g2 (r:Env):Row:=r.c
def Env.g3 (r:Env):Row:=r.d
def Env.g4 (r:Env):Row:=r.e
def Env.g5 (r:Env):Row:=r.f
def Env.g6 (r:Env):Row:=r.g
def Env.g7 (r:Env):Row:=r.h
def Row.get (i:bp):Row→V:= @bp.rec (fun _=>Row→V) Row.g0 Row.g1 Row.g2 Row.g3 Row.g4 Row.g5 Row.g6 Row.g7 i
def Env.row (i:bp):Env→Row:= @bp.rec (fun _=>Env→Row) Env.g0 Env.g1 Env.g2 Env.g3 Env.g4 Env.g5 Env.g6 Env.g7 i
def Env.get (i j:bp) (env:Env):V:=Row.get j (Env.row i env)
def Row.nil:Row:=⟨.bot, .bot, .bot, .bot, .bot, .bot, .bot, .bot⟩
def Env.nil:Env:=⟨Row.nil,Row.nil,Row.nil,Row.nil,Row.nil,Row.nil,Row.nil,Row.nil⟩
def lZ (l:List V):Nat→V:= @List.rec V (fun _=>Nat→V) (fun _=>V.bot) (fun v _ bm d=>Nat.rec v (fun d _=>bm d) d) l
def A.ev (a:A):List V→Env→V:= @A.rec (fun _=>List V→Env→V) (fun d vs _=>lZ vs d) (fun i j _ env=>Env.get i j env) (fun v _ _=>v) a
inductive cK where
 |int|str|bool|ptr|au|map|fn|ez
 |st (fs:List (Nat×cK))
inductive hh where
 |cV (x:A)
 |pick (c a b:A)
 |alloc (cs:List V)
 |box (n:Nat) (x:A)
 |build (zero:List V) (parts:List (Nat×Nat×A))
 |eS (r n:Nat) (zero:List V) (parts:List (Nat×Nat×A))
 |load (x:A)
 |da (n:Nat) (x:A)
 |oY (x:A)
 |bin (op:BinOp) (x y:A)
 |e8 (op:BinOp) (x y:A)
 |lp (left:Bool) (x y:A)
 |eq (neg:Bool) (q:cK) (x y:A)
 |neg (x:A)
 |not (x:A)
 |conv (k:IntKind) (x:A)
 |uZ (x:A)
 |q5 (x:A)
 |ez (t:Nat) (x:A)
 |fn (f:Nat) (first captured:List A)
 |wH
 |n2 (r:Nat) (zero:List V) (bytes:Nat) (l c:A)
 |n3 (x:A) (br ag:Option A)
 |jU (r:Nat) (x:A) (br ag mx:Option A)
 |u0 (n r:Nat) (x:A) (br ag mx:Option A)
 |bK (off:Nat) (x:A)
 |field (off n:Nat) (sg:Bool) (x:A)
 |bY (r:Nat) (x i:A)
 |si (len r:Nat) (x i:A)
 |kT (x i:A)
 |lookup (q:cK) (zero:V) (ok:Bool) (m k:A)
 |AX (t:Nat) (zero:V) (ok:Bool) (x:A)
 |ext (n:Nat) (x:A)
 |len (str:Bool) (x:A)
 |wI (x:A)
 |cap (x:A)
 |AY (mx:Bool) (x y:A)
inductive nu where
 |store (n:Nat) (a x:A)
 |yK (q:cK) (m k v:A)
 |call (f:Nat) (as_:List A)
 |q6 (f:A) (as_:List A)
 |append (r bytes:Nat) (s x:A)
 |copy (r:Nat) (d s:A)
 |clear (zero:List V) (x:A)
 |recover
 |defer (f:A) (as_:List A)
 |panic (x:A)
inductive Op where
 |L (op:hh)
 |H (op:nu)
inductive eA where
 |p (op:Op)
 |s (i j:bp) (op:Op)
 |g (g:A) (b:Bool) (op:Op)
 |gs (g:A) (b:Bool) (i j:bp) (op:Op)
structure ea where
 o:eA
 cn:List Nat
inductive C where
 |skip
 |ret
 |exit (id:Nat)
 |seq (a b:C)
 |cond (x:A) (a b:C)
 |block (id:Nat) (a:C)
 |loop (a:C)
 |ad (h3:Nat) (ops:List eA)
 |draw (perm:List Nat) (ops:List ea)
 |stuck
inductive aB where
 |tmp (i j:bp)
 |cell (i j:bp) (n:Option Nat)
structure cd where
 jh:Nat
 cL:List Nat
 results:List aB
 body:C
def AZ (x i:Nat):Nat:=(x.shiftRight (Nat.mul 8 i)).mod 256
def DT (x l n:Nat):Nat:=(x.shiftRight (Nat.mul 8 l)).mod (Nat.pow 2 (Nat.mul 8 n))
def Mq (n x y:Nat):Nat:=Nat.add x (y.shiftLeft (Nat.mul 8 n))
def gy (n:Nat):Nat→List Nat:=Nat.rec (fun _=>[]) (fun _ bm x=>x.mod 256::bm (x.div 256)) n
def pZ (a:List Nat):List Nat→Bool:= @List.rec Nat (fun _=>List Nat→Bool) (fun l=>List.rec false (fun _ _ _=>true) l)
 (fun a _ bm l=>List.rec false (fun b l _=>Bool.rec (Bool.rec false (bm l) (a.beq b)) true (a.blt b)) l) a
def mD (n:Nat):List V→List V:=Nat.rec (fun _=>[]) (fun _ bm l=>List.rec [] (fun v l _=>v::bm l) l) n
def hJ (n:Nat):List V→List V:=Nat.rec (fun l=>l) (fun _ bm l=>List.rec [] (fun _ l _=>bm l) l) n
def fx (a b:List V):List V:=List.rec b (fun v _ bm=>v::bm) a
def cI (l:List V):Nat:=List.rec 0 (fun _ _ n=>Nat.succ n) l
def gL (n:Nat):List V→List V→List V:=Nat.rec (fun vs l=>fx vs (hJ (cI vs) l)) (fun _ bm vs l=>List.rec [] (fun v l _=>v::bm vs l) l) n
def gl {R:Type} (r:Nat) (k:Nat):Nat→List V→T (List V)→(T (List V)→R)→R:=
 @Nat.rec (fun _=>Nat→List V→T (List V)→(T (List V)→R)→R) (fun _ _ t c=>c t)
   (fun _ bm i vs t c=>gK (mD r vs) fun row=>T.dg i row t fun t=>bm (Nat.succ i) (hJ r vs) t c) k
def kU (t:T (List V)) (k:Nat):Nat→Option (List V):=
 Nat.rec (fun _=>some []) (fun _ bm i=>Option.rec none (fun row=>Option.rec none (fun l=>some (fx row l)) (bm (Nat.succ i))) (T.get i t)) k
def ae.jw {R:Type} (h:ae) (b:Nat) (o:Obj) (k:ae→R):R:=T.dg b o h.t fun t=>k ⟨t,h.next,h.bA,h.ds,h.bO⟩
def ae.kq {R:Type} (h:ae) (o:Obj) (k:ae→R):R:=force h.next fun n=>T.dg n o h.t fun t=>k ⟨t,Nat.succ n,h.bA,h.ds,h.bO⟩
def ae.obj (h:ae) (b:Nat):Option Obj:=T.get b h.t
def Obj.cells? {R:Type} (d:R) (f:Nat→Nat→Nat→Nat→T (List V)→R) (o:Option Obj):R:=
 Option.rec d (fun o=>Obj.rec (fun _=>d) f d (fun _ _=>d) o) o
def Obj.any {R:Type} (d:R) (g:List V→R) (f:Nat→Nat→Nat→Nat→T (List V)→R) (o:Option Obj):R:=
 Option.rec d (fun o=>Obj.rec g f d (fun _ _=>d) o) o
def Obj.map? {R:Type} (d:R) (f:List oX→Nat→R) (o:Option Obj):R:=
 Option.rec d (fun o=>Obj.rec (fun _=>d) (fun _ _ _ _ _=>d) d f o) o
def sj {R:Type} (br ag:Nat) (m:Nat) (h:ae) (k:ae→R):R:=
 Obj.cells? (k h) (fun _ _ ap n _=>Bool.rec (k h) (h.jw m .dead k) (ap.blt ag&&br.blt (Nat.add ap n))) (h.obj m)
def sk {R:Type} (br ag:Nat) (but:Nat) (l:List Nat):ae→(ae→R)→R:=
 @List.rec Nat (fun _=>ae→(ae→R)→R) (fun h k=>k h) (fun m _ bm h k=>Bool.rec (sj br ag m h fun h=>bm h k) (bm h k) (m.beq but)) l
def ae.q7 {R:Type} (h:ae) (f:Nat) (br ag:Nat) (but:Nat) (k:ae→R):R:=
 Option.rec (k h) (fun x=>sk br ag but (gV.mem x) h k) (T.get f h.bA)
def over {R:Type} (d:R) (r o n:Nat) (vs:List V) (rows:T (List V)) (k:T (List V)→R):R:=
 bif n.beq r&&(o.mod r).beq 0 then gK vs fun row=>T.dg (o.div r) row rows k else
 bif (Nat.add (o.mod r) n).ble r then
  Option.rec d (fun row=>gK (gL (o.mod r) vs row) fun row=>T.dg (o.div r) row rows k) (T.get (o.div r) rows)
 else bif (o.mod r).beq 0&&(n.mod r).beq 0 then gl r (n.div r) (o.div r) vs rows k else d
def ae.dB {R:Type} (h:ae) (b o n:Nat) (vs:List V) (d:R) (k:ae→R):R:=
 bif n.beq 0 then k h else bif b.blt 8 then d else Obj.any d (fun row=>bif (Nat.add o n).ble (cI row) then gK (gL o vs row) fun row=>h.jw b (.box row) k else d) (fun r f ap bk rows=>
  bif (Nat.add o n).ble bk then over d r o n vs rows fun rows=>h.q7 f (Nat.add ap o) (Nat.add (Nat.add ap o) n) b fun h=>h.jw b (.cells r f ap bk rows) k
  else d) (h.obj b)
def cut (r o n:Nat) (rows:T (List V)):Option (List V):=
 bif n.beq r&&(o.mod r).beq 0 then T.get (o.div r) rows else
 bif (Nat.add (o.mod r) n).ble r then Option.rec none (fun row=>some (mD n (hJ (o.mod r) row))) (T.get (o.div r) rows)
 else bif (o.mod r).beq 0&&(n.mod r).beq 0 then kU rows (n.div r) (o.div r) else none
def ae.load (h:ae) (b o n:Nat):Option (List V):=
 bif n.beq 0 then some [] else Obj.any none (fun row=>bif (Nat.add o n).ble (cI row) then some (mD n (hJ o row)) else none) (fun r _ _ bk rows=>bif (Nat.add o n).ble bk then cut r o n rows else none) (h.obj b)
def aQ (l:List V):Option V:=List.rec none (fun v _ _=>some v) l
def sl (r o:Nat) (rows:T (List V)):Option V:=Option.rec none (fun row=>aQ (hJ (o.mod r) row)) (T.get (o.div r) rows)
def u1 (o:Nat):Option Obj→Option V:=fun x=>Option.rec none (fun x=> @Obj.rec (fun _=>Nat→Option V) (fun row o=>aQ (hJ o row)) (fun r _ _ bk rows o=>Bool.rec none (sl r o rows) (o.blt bk)) (fun _=>none) (fun _ _ _=>none) x o) x
def ae.eb (h:ae) (b o:Nat):Option V:=u1 o (h.obj b)
def ir (k:IntKind) (n:Nat):V:=Nat.rec (.int k (.ofNat 0)) (fun m _=> .int k (.ofNat (Nat.succ m))) n
def DU (k:IntKind) (n:Nat):V:=Nat.rec (.int k (.negSucc 0)) (fun m _=> .int k (.negSucc (Nat.succ m))) n
def A0 (k:IntKind) (n:Int):V:=Int.rec (fun m=>ir k m) (fun m=>DU k m) n
def p2 (k:IntKind) (n:Int):V:=A0 k (k.wrap n)
def A1 (k:IntKind) (lim:Nat) (n:Int):V:=Int.rec (fun m=>Bool.rec (p2 k (.ofNat m)) (ir k m) (m.blt lim)) (fun m=>p2 k (.negSucc m)) n
def A2 (k:IntKind) (lim:Nat) (n:Int):V:=Int.rec (fun m=>Bool.rec (p2 k (.ofNat m)) (ir k m) (m.blt lim)) (fun m=>Bool.rec (p2 k (.negSucc m)) (DU k m) (m.blt lim)) n
def jV (k:IntKind):Int→V:= @IntKind.rec (fun _=>Int→V) (A2 .i8 128) (A2 .i16 32768) (A2 .i32 2147483648) (A2 .i64 9223372036854775808)
 (A1 .u8 256) (A1 .u16 65536) (A1 .u32 4294967296) (A1 .u64 18446744073709551616) k
def n4 (a:Int):Int→Bool:= @Int.rec (fun _=>Int→Bool) (fun a b=>Int.rec (fun b=>a.beq b) (fun _=>false) b) (fun a b=>Int.rec (fun _=>false) (fun b=>a.beq b) b) a
def l0 (a:Int):Int→Bool:= @Int.rec (fun _=>Int→Bool) (fun a b=>Int.rec (fun b=>a.blt b) (fun _=>false) b) (fun a b=>Int.rec (fun _=>true) (fun b=>b.blt a) b) a
def DV (a:Int):Int→Int:= @Int.rec (fun _=>Int→Int) (fun a b=>Int.rec (fun b=> .ofNat (Nat.add a b)) (fun b=>Int.add (.ofNat a) (.negSucc b)) b) (fun a b=>Int.add (.negSucc a) b) a
def A3 (a:Int):Int→Int:= @Int.rec (fun _=>Int→Int) (fun a b=>Int.rec (fun b=>Bool.rec (Int.sub (.ofNat a) (.ofNat b)) (.ofNat (Nat.sub a b)) (b.ble a)) (fun b=>Int.sub (.ofNat a) (.negSucc b)) b) (fun a b=>Int.sub (.negSucc a) b) a
def yL (a:Int):Int→Int:= @Int.rec (fun _=>Int→Int) (fun a b=>Int.rec (fun b=> .ofNat (Nat.mul a b)) (fun b=>Int.mul (.ofNat a) (.negSucc b)) b) (fun a b=>Int.mul (.negSucc a) b) a
def nv (b:Bool):Bool:=Bool.rec true false b
def nw (k:IntKind):IntKind→Bool:= @IntKind.rec (fun _=>IntKind→Bool)
 (fun j=>IntKind.rec true false false false false false false false j) (fun j=>IntKind.rec false true false false false false false false j)
 (fun j=>IntKind.rec false false true false false false false false j) (fun j=>IntKind.rec false false false true false false false false j)
 (fun j=>IntKind.rec false false false false true false false false j) (fun j=>IntKind.rec false false false false false true false false j)
 (fun j=>IntKind.rec false false false false false false true false j) (fun j=>IntKind.rec false false false false false false false true j) k
def kV (k:IntKind):Nat:=IntKind.rec 128 32768 2147483648 9223372036854775808 256 65536 4294967296 18446744073709551616 k
abbrev l1:=IntKind→Int→Int→Option V
def Tt:l1:=fun k a b=>some (jV k (DV a b))
def Tv:l1:=fun k a b=>some (jV k (A3 a b))
def Tw:l1:=fun k a b=>some (jV k (yL a b))
def Tx:l1:=fun k a b=>Bool.rec (some (jV k (a.tdiv b))) none (n4 b 0)
def Ty:l1:=fun k a b=>Bool.rec (some (A0 k (a.tmod b))) none (n4 b 0)
def A4 (f:Nat→Nat→Nat):l1:=fun k a b=>Int.rec (fun m=>Int.rec (fun n=>bif m.blt (kV k)&&n.blt (kV k) then some (ir k (f m n)) else none) (fun _=>none) b) (fun _=>none) a
def HB:l1:=fun k a b=>Int.rec (fun n=>bif n.ble 64&&n.ble k.bits then some (jV k (yL a (.ofNat (Nat.pow 2 n)))) else none) (fun _=>none) b
def HC:l1:=fun k a b=>Int.rec (fun m=>Int.rec (fun n=>bif n.ble 64&&n.ble k.bits then some (ir k (m.div (Nat.pow 2 n))) else none) (fun _=>none) b) (fun _=>none) a
def HD:l1:=fun _ _ _=>none
def Tz:l1:=fun _ a b=>some (.bool (n4 a b))
def TA:l1:=fun _ a b=>some (.bool (nv (n4 a b)))
def TB:l1:=fun _ a b=>some (.bool (l0 a b))
def TC:l1:=fun _ a b=>some (.bool (nv (l0 b a)))
def TD:l1:=fun _ a b=>some (.bool (l0 b a))
def TE:l1:=fun _ a b=>some (.bool (nv (l0 a b)))
def u2 (op:BinOp):l1:= @BinOp.rec (fun _=>l1) Tt Tv Tw Tx Ty (A4 Nat.land) (A4 Nat.lor) (A4 Nat.xor) HD HD HD Tz TA TB TC TD TE op
def q8 (n x:Nat):V:=force n fun n=>force x fun x=> .str n x
abbrev sm:=Nat→Nat→Nat→Nat→Option V
def HE:sm:=fun n x m y=>bif (Nat.add n m).blt 4294967296 then some (q8 (Nat.add n m) (Mq n x y)) else none
def l2 (n x m y:Nat):Bool:=Bool.rec false (x.beq y) (n.beq m)
def HF:sm:=fun n x m y=>some (.bool (l2 n x m y))
def HG:sm:=fun n x m y=>some (.bool (nv (l2 n x m y)))
def HH:sm:=fun n x m y=>some (.bool (pZ (gy n x) (gy m y)))
def HI:sm:=fun n x m y=>some (.bool (nv (pZ (gy m y) (gy n x))))
def HJ:sm:=fun n x m y=>some (.bool (pZ (gy m y) (gy n x)))
def HK:sm:=fun n x m y=>some (.bool (nv (pZ (gy n x) (gy m y))))
def sn:sm:=fun _ _ _ _=>none
def A5 (op:BinOp):sm:= @BinOp.rec (fun _=>sm) HE sn sn sn sn sn sn sn sn sn sn HF HG HH HI HJ HK op
mutual
def cK.eq:cK→V→V→Option Bool
 | .int, .int j a, .int k b=>bif nw j k then some (n4 a b) else none
 | .str, .str n x, .str m y=>some (l2 n x m y)
 | .bool, .bool a, .bool b=>some (a==b)
 | .ptr, .nr, .nr=>some true
 | .ptr, .nr, .ptr _ _=>some false
 | .ptr, .ptr _ _, .nr=>some false
 | .ptr, .ptr a o, .ptr b q=>bif a.beq b then some (o.beq q) else none
 | .au, .U, .U=>some true
 | .au, .U, .au .. =>some false
 | .au, .au .., .U=>some false
 | .map, .kp, .kp=>some true
 | .map, .kp, .map _=>some false
 | .map, .map _, .kp=>some false
 | .fn, .nt, .nt=>some true
 | .fn, .nt, .fn .. =>some false
 | .fn, .fn .., .nt=>some false
 | .ez, .jG, .jG=>some true
 | .ez, .jG, .ez .. =>some false
 | .ez, .ez .., .jG=>some false
 | .st fs, .agg a, .agg b=>cK.eqs fs a b
 |_,_,_=>none
def cK.eqs:List (Nat×cK)→List V→List V→Option Bool
 |[],_,_=>some true
 |(off,q)::fs,a,b=>
  match aQ (hJ off a),aQ (hJ off b) with
  |some x,some y=>match cK.eq q x y with
   |some true=>cK.eqs fs a b
   |some false=>some false
   |none=>none
  |_,_=>none
end
def eqStr (k:V) (e:V):Option Bool:=Option.rec none (fun a=>Option.rec none (fun b=>some (l2 a.1 a.2 b.1 b.2)) e.q4) k.q4
def TF (k:V) (e:V):Option Bool:=Option.rec none (fun a=>Option.rec none (fun b=>Bool.rec none (some (n4 a.2 b.2)) (nw a.1 b.1)) e.asInt) k.asInt
def u3 (q:cK):V→V→Option Bool:=match q with| .str=>eqStr| .int=>TF|_=>fun _ _=>none
def find (q:V→V→Option Bool) (k:V) (l:List oX):Option (Option oX):=
 List.rec (some none) (fun e _ bm=>Option.rec none (fun b=>Bool.rec bm (some (some e)) b) (q k e.key)) l
def wJ (q:V→V→Option Bool) (k v:V) (clock:Nat) (l:List oX):Option (List oX×Nat):=
 List.rec (some ([⟨k,v,clock⟩],Nat.succ clock))
  (fun e l bm=>Option.rec none (fun b=>Bool.rec (Option.rec none (fun x=>some (e::x.1,x.2)) bm) (some (⟨k,v,e.born⟩::l,clock)) b) (q k e.key)) l
inductive bE where
 |val (v:V)
 |new (o:Obj) (v:V)
 |bad
def V.hS (v:V):(IntKind→Int→bE)→bE:= @V.rec (fun _=>(IntKind→Int→bE)→bE) (fun _=>Unit)
 (fun _=> .bad) (fun _ _=> .bad) (fun cZ x1 f=>f cZ x1) (fun _ _ _=> .bad) (fun _=> .bad) (fun _ _ _=> .bad) (fun _=> .bad) (fun _ _ _ _ _=> .bad) (fun _=> .bad) (fun _ _=> .bad) (fun _ _ _ _ _ _=> .bad) (fun _=> .bad) (fun _ _ _ _=> .bad) (fun _=> .bad) (fun _ _ _=> .bad) (fun _ _ _=> .bad)
 () (fun _ _ _ _=>()) v
def V.HL (v:V):(Bool→bE)→bE:= @V.rec (fun _=>(Bool→bE)→bE) (fun _=>Unit)
 (fun _=> .bad) (fun cZ f=>f cZ) (fun _ _ _=> .bad) (fun _ _ _=> .bad) (fun _=> .bad) (fun _ _ _=> .bad) (fun _=> .bad) (fun _ _ _ _ _=> .bad) (fun _=> .bad) (fun _ _=> .bad) (fun _ _ _ _ _ _=> .bad) (fun _=> .bad) (fun _ _ _ _=> .bad) (fun _=> .bad) (fun _ _ _=> .bad) (fun _ _ _=> .bad)
 () (fun _ _ _ _=>()) v
def V.l3 (v:V):(Nat→Nat→bE)→bE:= @V.rec (fun _=>(Nat→Nat→bE)→bE) (fun _=>Unit)
 (fun _=> .bad) (fun _ _=> .bad) (fun _ _ _=> .bad) (fun cZ x1 f=>f cZ x1) (fun _=> .bad) (fun _ _ _=> .bad) (fun _=> .bad) (fun _ _ _ _ _=> .bad) (fun _=> .bad) (fun _ _=> .bad) (fun _ _ _ _ _ _=> .bad) (fun _=> .bad) (fun _ _ _ _=> .bad) (fun _=> .bad) (fun _ _ _=> .bad) (fun _ _ _=> .bad)
 () (fun _ _ _ _=>()) v
def V.p3 (v:V):(Nat→Nat→bE)→bE:= @V.rec (fun _=>(Nat→Nat→bE)→bE) (fun _=>Unit)
 (fun _=> .bad) (fun _ _=> .bad) (fun _ _ _=> .bad) (fun _ _ _=> .bad) (fun _=> .bad) (fun cZ x1 f=>f cZ x1) (fun _=> .bad) (fun _ _ _ _ _=> .bad) (fun _=> .bad) (fun _ _=> .bad) (fun _ _ _ _ _ _=> .bad) (fun _=> .bad) (fun _ _ _ _=> .bad) (fun _=> .bad) (fun _ _ _=> .bad) (fun _ _ _=> .bad)
 () (fun _ _ _ _=>()) v
def V.HM (v:V):(Nat→Nat→Nat→bE)→bE:= @V.rec (fun _=>(Nat→Nat→Nat→bE)→bE) (fun _=>Unit)
 (fun _=> .bad) (fun _ _=> .bad) (fun _ _ _=> .bad) (fun _ _ _=> .bad) (fun _=> .bad) (fun _ _ _=> .bad) (fun _=> .bad) (fun cZ x1 bR bW f=>f cZ x1 bR) (fun _=> .bad) (fun _ _=> .bad) (fun _ _ _ _ _ _=> .bad) (fun _=> .bad) (fun _ _ _ _=> .bad) (fun _=> .bad) (fun _ _ _=> .bad) (fun _ _ _=> .bad)
 () (fun _ _ _ _=>()) v
def V.yM (v:V):(Nat→bE)→bE:= @V.rec (fun _=>(Nat→bE)→bE) (fun _=>Unit)
 (fun _=> .bad) (fun _ _=> .bad) (fun cZ x1 f=>Int.rec f (fun _=> .bad) x1) (fun _ _ _=> .bad) (fun _=> .bad) (fun _ _ _=> .bad) (fun _=> .bad) (fun _ _ _ _ _=> .bad) (fun _=> .bad) (fun _ _=> .bad) (fun _ _ _ _ _ _=> .bad) (fun _=> .bad) (fun _ _ _ _=> .bad) (fun _=> .bad) (fun _ _ _=> .bad) (fun _ _ _=> .bad)
 () (fun _ _ _ _=>()) v
def V.Mr (v:V):(List V→bE)→bE:= @V.rec (fun _=>(List V→bE)→bE) (fun _=>Unit)
 (fun _=> .bad) (fun _ _=> .bad) (fun _ _ _=> .bad) (fun _ _ _=> .bad) (fun _=> .bad) (fun _ _ _=> .bad) (fun _=> .bad) (fun _ _ _ _ _=> .bad) (fun _=> .bad) (fun _ _=> .bad) (fun _ _ _ _ _ _=> .bad) (fun _=> .bad) (fun _ _ _ _=> .bad) (fun _=> .bad) (fun _ _ _=> .bad) (fun cZ _ f=>f cZ)
 () (fun _ _ _ _=>()) v
def V.Ms (v:V):(List V→bE)→bE:= @V.rec (fun _=>(List V→bE)→bE) (fun _=>Unit)
 (fun _=> .bad) (fun _ _=> .bad) (fun _ _ _=> .bad) (fun _ _ _=> .bad) (fun _=> .bad) (fun _ _ _=> .bad) (fun _=> .bad) (fun _ _ _ _ _=> .bad) (fun _=> .bad) (fun _ _=> .bad) (fun _ _ _ _ _ _=> .bad) (fun _=> .bad) (fun _ _ _ _=> .bad) (fun _=> .bad) (fun cZ _ f=>f cZ) (fun _ _ _=> .bad)
 () (fun _ _ _ _=>()) v
def V.DW (v:V):(Nat→bE)→bE:= @V.rec (fun _=>(Nat→bE)→bE) (fun _=>Unit)
 (fun _=> .bad) (fun _ _=> .bad) (fun _ _ _=> .bad) (fun _ _ _=> .bad) (fun _=> .bad) (fun _ _ _=> .bad) (fun f=>f 0) (fun cZ x1 bR bW f=>f bR) (fun _=> .bad) (fun _ _=> .bad) (fun _ _ _ _ _ _=> .bad) (fun _=> .bad) (fun _ _ _ _=> .bad) (fun _=> .bad) (fun _ _ _=> .bad) (fun _ _ _=> .bad)
 () (fun _ _ _ _=>()) v
abbrev dr:=A→V
abbrev L:=dr→ae→bE
def bE.of (v:Option V):bE:=Option.rec .bad (fun v=> .val v) v
def fill (aO:List (Nat×Nat×A)):dr→List V→Option (List V):=
 @List.rec (Nat×Nat×A) (fun _=>dr→List V→Option (List V)) (fun _ cs=>some cs)
   (fun p _ bm ev cs=>Option.rec none (fun l=>bif (cI l).beq p.2.1&&(Nat.add p.1 p.2.1).ble (cI cs) then bm ev (gL p.1 l cs) else none) (ev p.2.2).dA) aO
def hi (l:List A):dr→List V:= @List.rec A (fun _=>dr→List V) (fun _=>[]) (fun a _ bm ev=>ev a::bm ev) l
def dM (x:Option A) (ev:dr) (d:Nat):Option Nat:=Option.rec (some d) (fun x=>(ev x).asNat) x
def bytesOf (l:List V):Option (Nat×Nat):=
 List.rec (some (0,0)) (fun v _ bm=>Option.rec none (fun x=>Option.rec none (fun b=>bif b.blt 256 then some (Nat.succ x.1,Nat.add b (Nat.mul 256 x.2)) else none) v.yJ) bm) l
def mE (l:List Nat):List V:=List.rec [] (fun b _ bm=>ir .u8 b::bm) l
def eT (o:Obj):Bool:=Obj.rec (fun _=>true) (fun r _ _ n _=>Nat.blt 0 r) true (fun _ _=>true) o
def rep (n:Nat) (l:List V):List V:=Nat.rec [] (fun _ bm=>fx l bm) n
def TG (x:A):L:=fun ev _=> .val (ev x)
def TH (c a b:A):L:=fun ev _=>(ev c).HL fun t=>Bool.rec (.val (ev b)) (.val (ev a)) t
def TI (cs:List V):L:=fun _ h=>force h.next fun b=> .new (.box cs) (.ptr b 0)
def TJ (n:Nat) (x:A):L:=fun ev h=>force h.next fun b=>Option.rec .bad (fun l=>Bool.rec .bad (gK l fun l=> .new (.box l) (.ptr b 0)) ((cI l).beq n)) (ev x).dA
def TK (zero:List V) (aO:List (Nat×Nat×A)):L:=fun ev _=>Option.rec .bad (fun l=>gK l fun l=> .val (.agg l)) (fill aO ev zero)
def TL (r n:Nat) (zero:List V) (aO:List (Nat×Nat×A)):L:=fun ev h=>force h.next fun b=>
 Option.rec .bad (fun l=>gl r n 0 l T.e fun t=> .new (.cells r b 0 (Nat.mul n r) t) (.au b 0 n (some n))) (fill aO ev (rep n zero))
def TM (x:A):L:=fun ev h=>(ev x).p3 fun b o=> .of (h.eb b o)
def TN (n:Nat) (x:A):L:=fun ev h=>(ev x).p3 fun b o=>Option.rec .bad (fun l=>gK l fun l=> .val (.agg l)) (h.load b o n)
def TP (x:A):L:=fun ev _=> .of (ev x).Ts
def q9 (op:BinOp) (k:IntKind) (a:Int) (j:IntKind) (b:Int):bE:=Bool.rec .bad (.of (u2 op k a b)) (nw k j)
def TQ (op:BinOp) (x y:A):L:=fun ev _=>(ev x).hS fun k a=>(ev y).hS fun j b=>q9 op k a j b
def TR (left:Bool) (x y:A):L:=fun ev _=>(ev x).hS fun k a=>(ev y).hS fun _ b=> .of (Bool.rec (HC k a b) (HB k a b) left)
def TS (op:BinOp) (x y:A):L:=fun ev _=>(ev x).l3 fun n a=>(ev y).l3 fun m b=> .of (A5 op n a m b)
def TT (neg:Bool) (q:cK) (x y:A):L:=fun ev _=>Option.rec .bad (fun b=> .val (.bool (b !=neg))) (q.eq (ev x) (ev y))
def TU (x:A):L:=fun ev _=>(ev x).hS fun k a=> .val (jV k (Int.neg a))
def TV (x:A):L:=fun ev _=>(ev x).HL fun b=> .val (.bool (nv b))
def TW (kd:IntKind) (x:A):L:=fun ev _=>(ev x).hS fun _ a=> .val (jV kd a)
def TX (x:A):L:=fun ev h=>force h.next fun b=>Option.rec .bad (fun x=>gl 1 x.1 0 (mE (gy x.1 x.2)) T.e fun t=> .new (.cells 1 b 0 x.1 t) (.au b 0 x.1 none)) (ev x).q4
def DX (x:A):L:=fun ev h=>match ev x with
 | .U=> .val (.str 0 0)
 | .au b o n _=>Option.rec .bad (fun l=>Option.rec .bad (fun x=> .val (q8 x.1 x.2)) (bytesOf l)) (h.load b o n)
 |_=> .bad
def TY (t:Nat) (x:A):L:=fun ev _=> .val (.ez t (ev x))
def T0 (f:Nat) (a b:List A):L:=fun ev _=> .val (.fn f (hi a ev) (hi b ev))
def T1:L:=fun _ h=>force h.next fun b=> .new (.map [] 0) (.map b)
def HN (r:Nat) (zero:List V) (bytes:Nat) (l c:A):L:=fun ev h=>match (ev l).asNat,(ev c).asNat with
 |some n,some m=>force h.next fun b=>bif n.ble m&&(Nat.mul m bytes).ble 1099511627776 then gl r m 0 (rep m zero) T.e fun t=> .new (.cells r b 0 (Nat.mul m r) t) (.au b 0 n (some m)) else .bad
 |_,_=> .bad
def HO (n a:Nat) (ag br:Option Nat):bE:=
 Option.rec .bad (fun j=>Option.rec .bad (fun i=>Bool.rec .bad (.val (q8 (Nat.sub j i) (DT a i (Nat.sub j i)))) (i.ble j&&j.ble n)) br) ag
def T2 (x:A) (br ag:Option A):L:=fun ev _=>(ev x).l3 fun n a=>HO n a (dM ag ev n) (dM br ev 0)
def tE (b o n:Nat) (cap:Option Nat):bE:=force o fun o=>force n fun n=> .val (.au b o n cap)
def nx (b o i j m r:Nat):bE:=force (Nat.sub m i) fun c=>tE b (bif c.beq 0 then o else Nat.add o (Nat.mul i r)) (Nat.sub j i) (some c)
def ny (r b o n:Nat) (cap:Option Nat) (i j:Nat) (mx:Option (Option Nat)) (h:ae):bE:=
 match cap,mx with
 |some c,none=>bif i.ble j&&j.ble c then nx b o i j c r else .bad
 |some c,some (some m)=>bif i.ble j&&(j.ble m&&m.ble c) then nx b o i j m r else .bad
 |none,some (some m)=>bif Nat.blt 0 n&&(i.ble j&&(j.ble m&&m.ble n)) then nx b o i j m r else .bad
 |none,none=>
  match h.obj b with
  |some (.cells dt _ _ bk _)=>bif dt.beq r&&(i.ble j&&(j.ble n||(Nat.add o (Nat.mul j r)).ble bk)) then tE b (Nat.add o (Nat.mul i r)) (Nat.sub j i) none else .bad
  |_=> .bad
 |_,_=> .bad
def DY (r:Nat) (x:A) (br ag mx:Option A):L:=fun ev h=>match ev x with
 | .U=>match dM ag ev 0,dM br ev 0,dM mx ev 0 with
   |some 0,some 0,some 0=> .val .U
   |_,_,_=> .bad
 | .au b o n cap=>match dM ag ev n,dM br ev 0 with
   |some j,some i=>ny r b o n cap i j (Option.rec none (fun x=>some (ev x).asNat) mx) h
   |_,_=> .bad
 |_=> .bad
def T3 (n r:Nat) (x:A) (br ag mx:Option A):L:=fun ev _=>match (ev x).lo with
 |some (b,o)=>match dM ag ev n,dM br ev 0,dM mx ev n with
  |some j,some i,some m=>bif i.ble j&&(j.ble m&&m.ble n) then nx b o i j m r else .bad
  |_,_,_=> .bad
 |none=> .bad
def T4 (off:Nat) (x:A):L:=fun ev _=>(ev x).p3 fun b o=>force (Nat.add o off) fun o=> .val (.ptr b o)
def T5 (off n:Nat) (sg:Bool) (x:A):L:=fun ev _=>(ev x).Ms fun l=>
 Bool.rec (.of (aQ (hJ off l))) (Bool.rec .bad (gK (mD n (hJ off l)) fun l=> .val (.agg l)) ((Nat.add off n).ble (cI l))) sg
def HP (r:Nat) (b o n j:Nat):bE:=Bool.rec .bad (force (Nat.add o (Nat.mul j r)) fun o=> .val (.ptr b o)) (j.blt n)
def T6 (r:Nat) (x i:A):L:=fun ev _=>(ev x).HM fun b o n=>(ev i).yM fun j=>HP r b o n j
def T7 (len r:Nat) (x i:A):L:=fun ev _=>(ev x).p3 fun b o=>(ev i).yM fun j=>HP r b o len j
def T8 (x i:A):L:=fun ev _=>(ev x).l3 fun n a=>(ev i).yM fun j=>Bool.rec .bad (.val (ir .u8 (AZ a j))) (j.blt n)
def yN (ok:Bool) (v:V) (b:Bool):V:=Bool.rec v (.dh [v, .bool b]) ok
def Mt (q:cK) (zero:V) (ok:Bool) (x:V) (es:List oX):bE:=
 Option.rec .bad (fun r=>Option.rec (.val (yN ok zero false)) (fun e=> .val (yN ok e.val true)) r) (find (u3 q) x es)
def DZ (q:cK) (zero:V) (ok:Bool) (m x:A):L:=fun ev h=>match ev m with
 | .kp=> .val (yN ok zero false)
 | .map b=>Obj.map? .bad (fun es _=>Mt q zero ok (ev x) es) (h.obj b)
 |_=> .bad
def T9 (t:Nat) (zero:V) (ok:Bool) (x:A):L:=fun ev _=>match ev x with
 | .ez u v=>bif u.beq t then .val (yN ok v true) else bif ok then .val (.dh [zero, .bool false]) else .bad
 | .jG=>bif ok then .val (.dh [zero, .bool false]) else .bad
 |_=> .bad
def Ua (n:Nat) (x:A):L:=fun ev _=>(ev x).Mr fun l=> .of (aQ (hJ n l))
def Ub (str:Bool) (x:A):L:=fun ev _=>Bool.rec ((ev x).DW fun n=> .val (ir .i64 n)) ((ev x).l3 fun n _=> .val (ir .i64 n)) str
def D0 (x:A):L:=fun ev h=>match ev x with
 | .kp=> .val (.int .i64 (.ofNat 0))
 | .map b=>Obj.map? .bad (fun es _=> .val (ir .i64 es.length)) (h.obj b)
 |_=> .bad
def Uc (x:A):L:=fun ev _=>match ev x with
 | .U=> .val (.int .i64 (.ofNat 0))
 | .au _ _ _ (some c)=> .val (ir .i64 c)
 |_=> .bad
def Ud (mx:Bool) (x y:A):L:=fun ev _=>match (ev x).asInt,(ev y).asInt with
 |some (kd,a),some (yO,b)=>bif nw kd yO then .val (.int kd (bif mx then (bif l0 a b then b else a) else (bif l0 b a then b else a))) else .bad
 |_,_=> .bad
def light (o:hh):L:= @hh.rec (fun _=>L) TG TH TI TJ TK TL TM TN TP TQ TS TR TT TU TV TW TX DX TY T0 T1 HN
 T2 DY T3 T4 T5 T6 T7 T8 DZ T9 Ua Ub D0 Uc Ud o
inductive a7 where
 |ok (v:V) (h:ae)
 |c8 (v:V) (h:ae)
 |bad
abbrev et:=Nat→List V→HA→ae→a7×HA
abbrev p4:=et→dr→ae→a7
def mk (h:ae) (o:Obj) (v:V):a7:=Bool.rec .bad (h.kq o fun h=> .ok v h) (eT o)
def Ue (n:Nat) (a x:A):p4:=fun _ ev h=>Option.rec .bad (fun p=>Option.rec .bad (fun l=>Bool.rec .bad (h.dB p.1 p.2 n l .bad fun h=> .ok un h) ((cI l).beq n)) (ev x).dA) (ev a).lo
def Uf (q:cK) (m x v:A):p4:=fun _ ev h=>match ev m with
 | .map b=>bif b.blt 8 then .bad else Obj.map? .bad (fun es c=>Option.rec .bad (fun y=>gK y.1 fun l=>force y.2 fun c=>h.jw b (.map l c) fun h=> .ok un h) ((ev x).force fun x=>(ev v).force fun v=>wJ (u3 q) x v c es)) (h.obj b)
 |_=> .bad
def back (_:ae) (ax:ae):ae:=ax
def rb (h:ae) (r:a7):a7:=a7.rec (fun v ax=> .ok v (back h ax)) (fun v ax=> .c8 v (back h ax)) .bad r
def Ug (f:Nat) (as_:List A):p4:=fun call ev h=>rb h (call f (hi as_ ev) .none h).1
def Uh (x:A) (as_:List A):p4:=fun call ev h=>Option.rec .bad (fun x=>rb h (call x.1 (fx x.2.1 (fx (hi as_ ev) x.2.2)) .none h).1) (ev x).yI
def lq {R:Type} (h:ae) (f top:Nat) (l:List Nat) (k:ae→R):R:=force top fun top=>T.dg f ⟨top,l⟩ h.bA fun t=>k ⟨h.t,h.next,t,h.ds,h.bO⟩
def grown {R:Type} (h:ae) (b f ap bk e top:Nat) (k:ae→R):R:=
 Option.rec (Bool.rec (lq h f top [h.next,b] k) (h.jw b .dead fun h=>lq h f top [h.next,b] k) (e.blt (Nat.add ap bk)))
  (fun x=>Bool.rec (sk e (Nat.add (gV.last x) top) h.next (gV.mem x) h fun h=>lq h f top (h.next::gV.mem x) k) (lq h f top (h.next::gV.mem x) k) ((gV.last x).ble e)) (T.get f h.bA)
def p5 (h:ae) (r bytes b o n:Nat) (cap:Option Nat) (new:List V) (m:Nat):a7:=
 force (Nat.add n m) fun n5=>force h.next fun eG=>bif (Nat.mul n5 bytes).ble 1099511627776&&Nat.ble 8 b then
  Option.rec
   (Obj.cells? .bad (fun dt f ap bk rows=>
     bif dt.beq r&&(o.mod r).beq 0 then
      bif (Nat.add o (Nat.mul n5 r)).ble bk then h.dB b (Nat.add o (Nat.mul n r)) (Nat.mul m r) new .bad fun h=> .ok (.au b o n5 none) h
      else bif (Nat.add o (Nat.mul n r)).ble bk then
       grown h b f ap bk (Nat.add (Nat.add ap o) (Nat.mul n r)) (Nat.add (Nat.add ap o) (Nat.mul n5 r)) fun h=>
        bif o.beq 0 then gl r m n new rows fun t=>mk h (.cells r f ap (Nat.mul n5 r) t) (.au eG 0 n5 none)
        else Option.rec .bad (fun old=>force (Nat.add ap o) fun ap=>gl r n5 0 (fx old new) T.e fun t=>mk h (.cells r f ap (Nat.mul n5 r) t) (.au eG 0 n5 none)) (kU rows n (o.div r))
      else .bad
     else .bad) (h.obj b))
   (fun c=>bif n5.ble c then h.dB b (Nat.add o (Nat.mul n r)) (Nat.mul m r) new .bad fun h=> .ok (.au b o n5 (some c)) h
     else Option.rec .bad (fun old=>gl r n5 0 (fx old new) T.e fun t=>mk h (.cells r eG 0 (Nat.mul n5 r) t) (.au eG 0 n5 none)) (h.load b o (Nat.mul n r)))
   cap
 else .bad
def fH (h:ae) (r bytes:Nat) (s:V) (new:List V) (m:Nat):a7:=
 match s with
 | .U=>bif m.beq 0 then .ok .U h else bif (Nat.mul m bytes).ble 1099511627776 then force h.next fun b=>gl r m 0 new T.e fun t=>mk h (.cells r b 0 (Nat.mul m r) t) (.au b 0 m none) else .bad
 | .au b o n cap=>bif m.beq 0 then .ok (.au b o n cap) h else p5 h r bytes b o n cap new m
 |_=> .bad
def hAppend (r bytes:Nat) (s x:A):p4:=fun _ ev h=>match ev x with
 | .U=>fH h r bytes (ev s) [] 0
 | .au b o m _=>Option.rec .bad (fun new=>fH h r bytes (ev s) new m) (h.load b o (Nat.mul m r))
 | .str m a=>bif r.beq 1 then fH h r bytes (ev s) (mE (gy m a)) m else .bad
 |_=> .bad
def n9 (m n:Nat):Nat:=Bool.rec n m (m.ble n)
def u4 (h:ae) (b o m r:Nat) (l:Option (List V)):a7:=
 Option.rec .bad (fun l=>h.dB b o (Nat.mul m r) l .bad fun h=> .ok (ir .i64 m) h) l
def Ui (r:Nat) (d s:A):p4:=fun _ ev h=>match ev d with
 | .U=>match ev s with
   | .U| .au .. | .str .. => .ok (.int .i64 (.ofNat 0)) h
   |_=> .bad
 | .au b o n _=>match ev s with
   | .U=> .ok (.int .i64 (.ofNat 0)) h
   | .au c q m _=>u4 h b o (n9 m n) r (h.load c q (Nat.mul (n9 m n) r))
   | .str m a=>u4 h b o (n9 m n) 1 (some (mD (n9 m n) (mE (gy m a))))
   |_=> .bad
 |_=> .bad
def HQ (zero:List V) (x:A):p4:=fun _ ev h=>match ev x with
 | .U=> .ok un h
 | .au b o n _=>h.dB b o (Nat.mul n (cI zero)) (rep n zero) .bad fun h=> .ok un h
 |_=> .bad
def Uj:p4:=fun _ _ h=>match h.bO with
 | .some v=> .ok v ⟨h.t,h.next,h.bA,h.ds, .recovered⟩
 |_=> .ok .jG h
def Uk (x:A) (as_:List A):p4:=fun _ ev h=>match ev x with
 | .fn f first cap=> .ok un ⟨h.t,h.next,h.bA,(.fn f first cap,hi as_ ev)::h.ds,h.bO⟩
 |_=> .bad
def Ul (x:A):p4:=fun _ ev h=>match ev x with
 | .ez t v=> .c8 (.ez t v) h
 |_=> .bad
def gM (o:nu):p4:= @nu.rec (fun _=>p4) Ue Uf Ug Uh hAppend Ui HQ Uj Uk Ul o
inductive X where
 |e1|ret|exit (id:Nat)|c8 (v:V)
inductive bj where
 |ok (x:X) (env:Env) (h:ae)
 |bad
def Row.jR (v:V) (k:Row→bj) (r:Row):bj:= @Row.rec (fun _=>bj) (fun a b c d e f g h=>k ⟨v,b,c,d,e,f,g,h⟩) r
def Row.s1 (v:V) (k:Row→bj) (r:Row):bj:= @Row.rec (fun _=>bj) (fun a b c d e f g h=>k ⟨a,v,c,d,e,f,g,h⟩) r
def Row.s2 (v:V) (k:Row→bj) (r:Row):bj:= @Row.rec (fun _=>bj) (fun a b c d e f g h=>k ⟨a,b,v,d,e,f,g,h⟩) r
def Row.fw (v:V) (k:Row→bj) (r:Row):bj:= @Row.rec (fun _=>bj) (fun a b c d e f g h=>k ⟨a,b,c,v,e,f,g,h⟩) r
def Row.iG (v:V) (k:Row→bj) (r:Row):bj:= @Row.rec (fun _=>bj) (fun a b c d e f g h=>k ⟨a,b,c,d,v,f,g,h⟩) r
def Row.jS (v:V) (k:Row→bj) (r:Row):bj:= @Row.rec (fun _=>bj) (fun a b c d e f g h=>k ⟨a,b,c,d,e,v,g,h⟩) r
def Row.sf (v:V) (k:Row→bj) (r:Row):bj:= @Row.rec (fun _=>bj) (fun a b c d e f g h=>k ⟨a,b,c,d,e,f,v,h⟩) r
def Row.yF (v:V) (k:Row→bj) (r:Row):bj:= @Row.rec (fun _=>bj) (fun a b c d e f g h=>k ⟨a,b,c,d,e,f,g,v⟩) r
def Row.dg (j:bp):V→(Row→bj)→Row→bj:= @bp.rec (fun _=>V→(Row→bj)→Row→bj) Row.jR Row.s1 Row.s2 Row.fw Row.iG Row.jS Row.sf Row.yF j
def Env.jR (j:bp) (v:V) (k:Env→bj) (r:Env):bj:= @Env.rec (fun _=>bj) (fun a b c d e f g h=>Row.dg j v (fun x=>k ⟨x,b,c,d,e,f,g,h⟩) a) r
def Env.s1 (j:bp) (v:V) (k:Env→bj) (r:Env):bj:= @Env.rec (fun _=>bj) (fun a b c d e f g h=>Row.dg j v (fun x=>k ⟨a,x,c,d,e,f,g,h⟩) b) r
def Env.s2 (j:bp) (v:V) (k:Env→bj) (r:Env):bj:= @Env.rec (fun _=>bj) (fun a b c d e f g h=>Row.dg j v (fun x=>k ⟨a,b,x,d,e,f,g,h⟩) c) r
def Env.fw (j:bp) (v:V) (k:Env→bj) (r:Env):bj:= @Env.rec (fun _=>bj) (fun a b c d e f g h=>Row.dg j v (fun x=>k ⟨a,b,c,x,e,f,g,h⟩) d) r
def Env.iG (j:bp) (v:V) (k:Env→bj) (r:Env):bj:= @Env.rec (fun _=>bj) (fun a b c d e f g h=>Row.dg j v (fun x=>k ⟨a,b,c,d,x,f,g,h⟩) e) r
def Env.jS (j:bp) (v:V) (k:Env→bj) (r:Env):bj:= @Env.rec (fun _=>bj) (fun a b c d e f g h=>Row.dg j v (fun x=>k ⟨a,b,c,d,e,x,g,h⟩) f) r
def Env.sf (j:bp) (v:V) (k:Env→bj) (r:Env):bj:= @Env.rec (fun _=>bj) (fun a b c d e f g h=>Row.dg j v (fun x=>k ⟨a,b,c,d,e,f,x,h⟩) g) r
def Env.yF (j:bp) (v:V) (k:Env→bj) (r:Env):bj:= @Env.rec (fun _=>bj) (fun a b c d e f g h=>Row.dg j v (fun x=>k ⟨a,b,c,d,e,f,g,x⟩) h) r
def Env.dg (i:bp):bp→V→(Env→bj)→Env→bj:= @bp.rec (fun _=>bp→V→(Env→bj)→Env→bj) Env.jR Env.s1 Env.s2 Env.fw Env.iG Env.jS Env.sf Env.yF i
abbrev K:=Env→ae→bj
abbrev tF:=V→ae→bj
def wK (k:tF) (h:ae) (o:Obj) (v:V):bj:=Bool.rec .bad (h.kq o fun h=>k v h) (eT o)
def bE.k (r:bE) (h:ae) (k:tF):bj:=bE.rec (fun v=>v.force fun v=>k v h) (fun o v=>wK k h o v) .bad r
def a7.k (r:a7) (env:Env) (k:tF):bj:=a7.rec (fun v h=>v.force fun v=>k v h) (fun v h=> .ok (.c8 v) env h) .bad r
def sq (o:Op):et→dr→Env→ae→tF→bj:= @Op.rec (fun _=>et→dr→Env→ae→tF→bj)
 (fun o _ ev _ h k=>(light o ev h).k h k) (fun o call ev env h k=>(gM o call ev h).k env k) o
abbrev oa:=et→List V→K
def tG (op:Op):oa→oa:=fun next call vs env h=>sq op call (fun a=>a.ev vs env) env h fun v h=>next call (v::vs) env h
def wL (i j:bp) (op:Op):oa→oa:=fun next call vs env h=>sq op call (fun a=>a.ev vs env) env h fun v h=>Env.dg i j v (fun env=>next call (v::vs) env h) env
def Um (g:A) (b:Bool) (op:Op):oa→oa:=fun next call vs env h=>Option.rec .bad (fun c=>Bool.rec (next call (un::vs) env h) (tG op next call vs env h) c) ((g.ev vs env).dq b)
def Un (g:A) (b:Bool) (i j:bp) (op:Op):oa→oa:=fun next call vs env h=>Option.rec .bad (fun c=>Bool.rec (Env.dg i j un (fun env=>next call (un::vs) env h) env) (wL i j op next call vs env h) c) ((g.ev vs env).dq b)
def Uo (o:eA):oa→oa:= @eA.rec (fun _=>oa→oa) tG wL Um Un o
def eH (l:List eA):oa:= @List.rec eA (fun _=>oa) (fun _ _ env h=> .ok .e1 env h) (fun o _ bm=>Uo o bm) l
mutual
def V.same:V→V→Bool
 | .bot, .bot=>true
 | .bool a, .bool b=>a==b
 | .int j a, .int k b=>nw j k&&n4 a b
 | .str n x, .str m y=>l2 n x m y
 | .nr, .nr=>true
 | .ptr a o, .ptr b q=>a.beq b&&o.beq q
 | .U, .U=>true
 | .au a o n c, .au b q m d=>a.beq b&&(o.beq q&&(n.beq m&&c==d))
 | .kp, .kp=>true
 | .map a, .map b=>a.beq b
 | .fn f a b, .fn g c d=>f.beq g&&(V.p6 a c&&V.p6 b d)
 | .nt, .nt=>true
 | .ez t v, .ez u w=>t.beq u&&V.same v w
 | .jG, .jG=>true
 | .agg a, .agg b=>V.p6 a b
 | .dh a, .dh b=>V.p6 a b
 |_,_=>false
def V.p6:List V→List V→Bool
 |[],[]=>true
 |a::l,b::m=>V.same a b&&V.p6 l m
 |_,_=>false
end
def HR:Option (List V)→Option (List V)→Bool
 |none,none=>true
 |some a,some b=>V.p6 a b
 |_,_=>false
def aF.same {α:Type} (p:α→α→Bool) (s t:aF α):Bool:=p s.a t.a&&(p s.b t.b&&(p s.c t.c&&(p s.d t.d&&(p s.e t.e&&(p s.f t.f&&(p s.g t.g&&p s.h t.h))))))
def B.empty {α:Type}:B α→Bool
 | .mt=>true
 | .dd .. =>false
def T.same (s t:T (List V)):Bool:=aF.same (aF.same (aF.same HR)) s.x t.x&&(s.y.isNone&&(t.y.isNone&&(s.z.empty&&t.z.empty)))
def Obj.same:Obj→Obj→Bool
 | .box a, .box b=>V.p6 a b
 | .cells r f a n t, .cells dt c5 bf fy gW=>r.beq dt&&(f.beq c5&&(a.beq bf&&(n.beq fy&&T.same t gW)))
 | .map [] c, .map [] d=>c.beq d
 |_,_=>false
inductive Log where
 |rd (f:ae→bE) (v:V)
 |kW (id:Nat) (aG:Obj)
 |no
def logAt (l:List Log):Nat→Log:= @List.rec Log (fun _=>Nat→Log) (fun _=> .no) (fun x _ bm d=>Nat.rec x (fun d _=>bm d) d) l
def A6 (f:ae→bE) (v:V) (h:ae):Bool:=bE.rec (fun w=>V.same v w) (fun _ _=>false) false (f h)
def still (h:ae) (x:Log):Bool:=match x with
 | .rd f v=>A6 f v h
 | .kW id aG=>(match T.get id h.t,T.get id h.bA with
   |some o,none=>Obj.same aG o
   |_,_=>false)
 | .no=>true
def jW (cn:List Nat) (h:ae) (e9:List Log):Bool:=
 List.rec true (fun d _ bm=>Bool.rec false bm (still h (logAt e9 d))) cn
abbrev D1:=et→List V→List Log→K
def bE.kd (r:bE) (f:ae→bE) (h:ae) (next:Log→V→ae→bj):bj:=
 bE.rec (fun v=>v.force fun v=>next (.rd f v) v h) (fun o v=>force h.next fun id=>wK (fun v h=>next (.kW id o) v h) h o v) .bad r
def jX (o:Op) (cn:List Nat) (call:et) (ev:dr) (e9:List Log) (env:Env) (h:ae) (next:Log→V→ae→bj):bj:=
 Op.rec (fun o=>(light o ev h).kd (light o ev) h next)
   (fun o=>(gM o call ev h).k env fun v ax=>Bool.rec .bad (next .no v ax) (jW cn ax e9)) o
def Up (o:eA) (cn:List Nat) (next:D1):D1:=fun call vs e9 env h=>match o with
 | .p op=>jX op cn call (fun a=>a.ev vs env) e9 env h fun l v h=>next call (v::vs) (l::e9) env h
 | .s i j op=>jX op cn call (fun a=>a.ev vs env) e9 env h fun l v h=>Env.dg i j v (fun env=>next call (v::vs) (l::e9) env h) env
 | .g g b op=>Option.rec .bad (fun c=>Bool.rec (next call (un::vs) (.no::e9) env h) (jX op cn call (fun a=>a.ev vs env) e9 env h fun l v h=>next call (v::vs) (l::e9) env h) c) ((g.ev vs env).dq b)
 | .gs g b i j op=>Option.rec .bad (fun c=>Bool.rec (Env.dg i j un (fun env=>next call (un::vs) (.no::e9) env h) env) (jX op cn call (fun a=>a.ev vs env) e9 env h fun l v h=>Env.dg i j v (fun env=>next call (v::vs) (l::e9) env h) env) c) ((g.ev vs env).dq b)
def eB (l:List ea):D1:= @List.rec ea (fun _=>D1) (fun _ _ _ env h=> .ok .e1 env h) (fun o _ bm=>Up o.o o.cn bm) l
abbrev re:=et→Nat→K
def HS (x:X):re:=fun _ _ env h=> .ok x env h
def Uq (a b:re):re:=fun call n env h=>bj.rec (fun x env h=>X.rec (b call n env h) (.ok .ret env h) (fun i=> .ok (.exit i) env h) (fun v=> .ok (.c8 v) env h) x) .bad (a call n env h)
def Ur (x:A) (a b:re):re:=fun call n env h=>Option.rec .bad (fun t=>Bool.rec (b call n env h) (a call n env h) t) (x.ev [] env).asBool
def Us (id:Nat) (a:re):re:=fun call n env h=>bj.rec (fun x env h=>X.rec (.ok .e1 env h) (.ok .ret env h) (fun i=> .ok (Bool.rec (.exit i) .e1 (i.beq id)) env h) (fun v=> .ok (.c8 v) env h) x) .bad (a call n env h)
def rounds (a:K) (n:Nat):K:= @Nat.rec (fun _=>K) (fun _ _=> .bad)
 (fun _ bm env h=>bj.rec (fun x env h=>X.rec (bm env h) (.ok .ret env h) (fun i=> .ok (.exit i) env h) (fun v=> .ok (.c8 v) env h) x) .bad (a env h)) n
def Ut (a:re):re:=fun call n=>rounds (a call n) n
def code (c:C):re:= @C.rec (fun _=>re) (HS .e1) (HS .ret) (fun i=>HS (.exit i)) (fun _ _ a b=>Uq a b) (fun x _ _ a b=>Ur x a b)
 (fun id _ a=>Us id a) (fun _ a=>Ut a) (fun _ l call _=>eH l call []) (fun _ l call _=>eB l call [] []) (fun _ _ _ _=> .bad) c
def sr (h:ae) (env:Env) (r:aB):Option V:=match r with
 | .tmp i j=>some (Env.get i j env)
 | .cell i j n=>match (Env.get i j env).lo with
   |some (b,o)=>match n with
    |some n=>match h.load b o n with|some cs=>some (.agg cs)|none=>none
    |none=>h.eb b o
   |none=>none
def results (env:Env) (h:ae) (l:List aB):Option (List V):=
 List.rec (some []) (fun r _ bm=>Option.rec none (fun v=>Option.rec none (fun vs=>some (v::vs)) bm) (sr h env r)) l
def one (l:List V):V:=match l with
 |[v]=>v
 |l=> .dh l
def fz (n:Nat):bp×bp:=(bp.of (n.div 8),bp.of (n.mod 8))
def args (l:List V):Nat→Env→(Env→bj)→bj:= @List.rec V (fun _=>Nat→Env→(Env→bj)→bj) (fun _ env k=>k env) (fun v _ bm i env k=>v.force fun v=>Env.dg (fz i).1 (fz i).2 v (fun env=>bm (Nat.succ i) env k) env) l
structure Ctx where
 cE:T cd
 wM:et→Nat→List V→ae→a7
def finish (rs:List aB) (env:Env) (h:ae):a7:=Option.rec .bad (fun vs=> .ok (one vs) h) (results env h rs)
def A7 (rs:List aB) (r:bj):a7:=
 bj.rec (fun x env h=>X.rec (finish rs env h) (finish rs env h) (fun _=> .bad) (fun v=> .c8 v h) x) .bad r
def D2:Nat:=4611686018427387904
def p7 (fn:cd) (R:Nat) (call:et) (as_:List V) (h:ae):a7:=
 Bool.rec .bad (A7 fn.results (args as_ 0 Env.nil fun env=>code fn.body call R env h)) ((cI as_).beq fn.jh)
def Uu (c:Ctx) (R:Nat) (call:et):et:=fun f as_ _ h=>
 (Option.rec (c.wM call f as_ h) (fun fn=>p7 fn R call as_ h) (T.get f c.cE), .none)
def cW (c:Ctx) (R n:Nat):et:= @Nat.rec (fun _=>et) (fun _ _ _ _=>(.bad, .none)) (fun _ p=>Uu c R p) n
def HT (c:Ctx) (n:Nat):et:=cW c D2 n
end
end Go.Eng
namespace Go.Eng
theorem bp.D3 {a b:Nat} (ha:a<8) (hb:b<8) (h:bp.of a=bp.of b):a=b:=by
 have Uv:a=0∨a=1∨a=2∨a=3∨a=4∨a=5∨a=6∨a=7:=by omega
 have ec:b=0∨b=1∨b=2∨b=3∨b=4∨b=5∨b=6∨b=7:=by omega
 rcases Uv with rfl|rfl|rfl|rfl|rfl|rfl|rfl|rfl<;>rcases ec with rfl|rfl|rfl|rfl|rfl|rfl|rfl|rfl<;>first|rfl|(exact absurd h (by decide))
section
variable {α R:Type}
def B.child (i:bp):B α→B α
 | .mt=> .mt
 | .dd _ a b c d bF f g h=>match i with| .d0=>a| .d1=>b| .d2=>c| .d3=>d| .d4=>bF| .d5=>f| .d6=>g| .d7=>h
def B.root:B α→Option α
 | .mt=>none
 | .dd o .. =>o
def B.A8 (i:bp) (x:B α):B α→B α
 | .mt=>match i with
   | .d0=> .dd none x .mt .mt .mt .mt .mt .mt .mt| .d1=> .dd none .mt x .mt .mt .mt .mt .mt .mt| .d2=> .dd none .mt .mt x .mt .mt .mt .mt .mt| .d3=> .dd none .mt .mt .mt x .mt .mt .mt .mt
   | .d4=> .dd none .mt .mt .mt .mt x .mt .mt .mt| .d5=> .dd none .mt .mt .mt .mt .mt x .mt .mt| .d6=> .dd none .mt .mt .mt .mt .mt .mt x .mt| .d7=> .dd none .mt .mt .mt .mt .mt .mt .mt x
 | .dd o a b c d bF f g h=>match i with
   | .d0=> .dd o x b c d bF f g h| .d1=> .dd o a x c d bF f g h| .d2=> .dd o a b x d bF f g h| .d3=> .dd o a b c x bF f g h
   | .d4=> .dd o a b c d x f g h| .d5=> .dd o a b c d bF x g h| .d6=> .dd o a b c d bF f x h| .d7=> .dd o a b c d bF f g x
def B.yP (v:α):B α→B α
 | .mt=> .dd (some v) .mt .mt .mt .mt .mt .mt .mt .mt
 | .dd _ a b c d bF f g h=> .dd (some v) a b c d bF f g h
theorem B.yQ (i:bp) (u:B.hI α R) (t:B α) (k:B α→R):B.oW i u t k=u (B.child i t) fun x=>k (B.A8 i x t):=by
 cases i<;>cases t<;>rfl
theorem B.Mu (v:α) (t:B α) (k:B α→R):B.Hy v t k=k (B.yP v t):=by cases t<;>rfl
def B.A9 (v:α):Nat→Nat→B α→B α
 |0,_,t=>B.yP v t
 |_+1,0,t=>B.yP v t
 |f+1,k+1,t=>B.A8 (bp.of ((k+1) % 8)) (B.A9 v f ((k+1) / 8) (B.child (bp.of ((k+1) % 8)) t)) t
theorem B.HU (v:α):∀(f k:Nat) (t:B α) (c:B α→R),B.Hz v f k t c=c (B.A9 v f k t)
 |0,k,t,c=>B.Mu v t c
 |f+1,0,t,c=>B.Mu v t c
 |f+1,k+1,t,c=>by
  show B.oW (bp.of ((k+1) % 8)) (B.Hz v f ((k+1) / 8)) t c=_
  rw [B.yQ,B.HU v f];rfl
theorem B.HV (t:B α):B.get 0 t=B.root t:=by cases t<;>rfl
theorem B.Ba (k:Nat) (t:B α):B.get (k+1) t=B.get ((k+1) / 8) (B.child (bp.of ((k+1) % 8)) t):=by
 cases t with
 |mt=>rfl
 |dd o a b c d bF f g h=>
  show (@bp.rec (fun _=>Nat→Option α) (B.get' a) (B.get' b) (B.get' c) (B.get' d) (B.get' bF) (B.get' f) (B.get' g) (B.get' h) (bp.of ((k+1) % 8)) ((k+1) / 8))=_
  generalize bp.of ((k+1) % 8)=i
  cases i<;>rfl
theorem B.Uw (i j:bp) (x t:B α):B.child i (B.A8 j x t)=if i=j then x else B.child i t:=by
 cases t<;>cases j<;>cases i<;>rfl
theorem B.Ux (j:bp) (x t:B α):B.root (B.A8 j x t)=B.root t:=by cases t<;>cases j<;>rfl
theorem B.Uy (v:α) (i:bp) (t:B α):B.child i (B.yP v t)=B.child i t:=by cases t<;>cases i<;>rfl
theorem B.Uz (v:α) (t:B α):B.root (B.yP v t)=some v:=by cases t<;>rfl
theorem B.UA (v:α):∀(f m:Nat) (t:B α) (n:Nat),m≤f→B.get n (B.A9 v f m t)=if n=m then some v else B.get n t:=by
 have base:∀(t:B α) (n:Nat),B.get n (B.yP v t)=if n=0 then some v else B.get n t:=by
  intro t n
  cases n with
  |zero=>rw [B.HV,B.Uz];rfl
  |succ n=>rw [B.Ba,B.Uy,B.Ba,if_neg (by omega)]
 intro f
 induction f with
 |zero=>intro m t n hm;obtain rfl:m=0:=by omega
        exact base t n
 |succ f bm=>
  intro m t n hm
  cases m with
  |zero=>exact base t n
  |succ m=>
   show B.get n (B.A8 (bp.of ((m+1) % 8)) (B.A9 v f ((m+1) / 8) (B.child (bp.of ((m+1) % 8)) t)) t)=_
   cases n with
   |zero=>rw [B.HV,B.Ux,B.HV,if_neg (by omega)]
   |succ n=>
    rw [B.Ba,B.Uw]
    by_cases h:bp.of ((n+1) % 8)=bp.of ((m+1) % 8)
    · have ax:=bp.D3 (Nat.mod_lt _ (by decide)) (Nat.mod_lt _ (by decide)) h
      rw [if_pos h,bm _ _ _ (by omega)]
      by_cases e:n=m
      · subst e;simp
      · rw [if_neg (by omega),if_neg (by omega),←h,←B.Ba]
    · rw [if_neg h,if_neg (fun e=>h (by rw [e])),←B.Ba]
theorem B.D4 (n:Nat) (v:α) (t:B α):B.set n v t=B.A9 v n n t:=B.HU v n n t _
theorem B.eU {n m:Nat} (_hn:0≤n) (_hm:0≤m) (v:α) (t:B α):B.get n (B.set m v t)=if n=m then some v else B.get n t:=by
 rw [B.D4,B.UA v m m t n (Nat.le_refl _)]
theorem B.u5 (n:Nat):B.get n (.mt:B α)=none:=rfl
theorem B.h4 (n:Nat) (v:α) (t:B α) (c:B α→R):B.dg n v t c=c (B.set n v t):=by
 rw [B.D4];exact B.HU v n n t c
end
@[simp] theorem force_eq {R:Type} (n:Nat) (f:Nat→R):force n f=f n:=by cases n<;>rfl
section
variable {α R:Type}
theorem aF.eU (i j:bp) (x:α) (r:aF α):aF.get i (aF.set j x r)=if i=j then x else aF.get i r:=by
 cases i<;>cases j<;>rfl
theorem aF.yQ (i:bp) (u:α→(α→R)→R) (r:aF α) (k:aF α→R):aF.oW i u r k=u (aF.get i r) fun x=>k (aF.set i x r):=by
 cases i<;>rfl
theorem aF.HW (i:bp) (x:α):aF.get i (aF.all x)=x:=by cases i<;>rfl
noncomputable def T.yR (n:Nat) (v:α) (t:aF (aF (aF (Option α)))):aF (aF (aF (Option α))):=T.yG n v t fun t=>t
noncomputable def T.yS (n:Nat) (v:α) (t:aF (aF (aF (aF (aF (Option α)))))):aF (aF (aF (aF (aF (Option α))))):=T.yH n v t fun t=>t
theorem T.UB (n:Nat) (v:α) (t:aF (aF (aF (Option α)))) (c:aF (aF (aF (Option α)))→R):T.yG n v t c=c (T.yR n v t):=by
 simp only [T.yG,T.yR,aF.yQ]
theorem T.UC (n:Nat) (v:α) (t:aF (aF (aF (aF (aF (Option α)))))) (c:aF (aF (aF (aF (aF (Option α)))))→R):T.yH n v t c=c (T.yS n v t):=by
 simp only [T.yH,T.yS,aF.yQ]
theorem bp.u6 {a b:Nat} (ha:a<8) (hb:b<8):bp.of a=bp.of b↔a=b:=⟨bp.D3 ha hb,fun h=>by rw [h]⟩
theorem bp.md (k:Nat):Nat.mod k 8<8:=Nat.mod_lt _ (by decide)
theorem aF.UD (i2 i1 i0 p8 ob u7:bp) (x:α) (t:aF (aF (aF α))):aF.get i0 (aF.get i1 (aF.get i2 (aF.set p8 (aF.set ob (aF.set u7 x (aF.get ob (aF.get p8 t))) (aF.get p8 t)) t)))=
  if i2=p8∧i1=ob∧i0=u7 then x else aF.get i0 (aF.get i1 (aF.get i2 t)):=by
 simp only [aF.eU]
 by_cases h2:i2=p8<;>by_cases h1:i1=ob<;>by_cases h0:i0=u7<;>simp [h2,h1,h0,aF.eU]
theorem T.UE (n m:Nat) (hn:n<512) (hm:m<512) (v:α) (t:aF (aF (aF (Option α)))):T.wG n (T.yR m v t)=if n=m then some v else T.wG n t:=by
 unfold T.wG T.yR T.yG
 simp only [aF.yQ,aF.UD]
 refine ite_cond_congr (propext ?_)
 rw [bp.u6 (by show n / 64<8;omega) (by show m / 64<8;omega),bp.u6 (bp.md _) (bp.md _),bp.u6 (bp.md _) (bp.md _)]
 show (n / 64=m / 64∧n / 8 % 8=m / 8 % 8∧n % 8=m % 8)↔n=m
 constructor
 · intro h;omega
 · intro h;rw [h];exact ⟨rfl,rfl,rfl⟩
theorem T.UF (n m:Nat) (hn:n<32768) (hm:m<32768) (v:α) (t:aF (aF (aF (aF (aF (Option α)))))):T.tD n (T.yS m v t)=if n=m then some v else T.tD n t:=by
 unfold T.tD T.yS T.yH
 simp only [aF.yQ]
 have key:∀(i4 i3 i2 i1 i0 u9 wN p8 ob u7:bp) (x:Option α),aF.get i0 (aF.get i1 (aF.get i2 (aF.get i3 (aF.get i4 (aF.set u9 (aF.set wN (aF.set p8 (aF.set ob (aF.set u7 x (aF.get ob (aF.get p8 (aF.get wN (aF.get u9 t))))) (aF.get p8 (aF.get wN (aF.get u9 t)))) (aF.get wN (aF.get u9 t))) (aF.get u9 t)) t)))))=
   if i4=u9∧i3=wN∧i2=p8∧i1=ob∧i0=u7 then x else aF.get i0 (aF.get i1 (aF.get i2 (aF.get i3 (aF.get i4 t)))):=by
  intro i4 i3 i2 i1 i0 u9 wN p8 ob u7 x
  rw [aF.eU i4]
  by_cases cc:i4=u9
  · subst cc
    rw [if_pos rfl,aF.eU i3]
    by_cases a6:i3=wN
    · subst a6
      rw [if_pos rfl,aF.eU i2]
      by_cases h2:i2=p8
      · subst h2
        rw [if_pos rfl,aF.eU i1]
        by_cases h1:i1=ob
        · subst h1
          rw [if_pos rfl,aF.eU i0]
          by_cases h0:i0=u7
          · subst h0;simp
          · simp [h0]
        · simp [h1]
      · simp [h2]
    · simp [a6]
  · simp [cc]
 rw [key]
 refine ite_cond_congr (propext ?_)
 rw [bp.u6 (by show n / 4096<8;omega) (by show m / 4096<8;omega),bp.u6 (bp.md _) (bp.md _),bp.u6 (bp.md _) (bp.md _),bp.u6 (bp.md _) (bp.md _),bp.u6 (bp.md _) (bp.md _)]
 show (n / 4096=m / 4096∧n / 512 % 8=m / 512 % 8∧n / 64 % 8=m / 64 % 8∧n / 8 % 8=m / 8 % 8∧n % 8=m % 8)↔n=m
 constructor
 · intro h;omega
 · intro h;rw [h];exact ⟨rfl,rfl,rfl,rfl,rfl⟩
theorem T.blt_eq (a b:Nat):a.blt b=decide (a<b):=by
 unfold Nat.blt;rw [Bool.eq_iff_iff];simp [Nat.lt_iff_add_one_le]
noncomputable def T.ty (t:T α):aF (aF (aF (aF (aF (Option α))))):=match t.y with|some y=>y|none=>T.gx
theorem T.UG (n:Nat) (t:T α):T.DR n t.y=T.tD n t.ty:=by
 unfold T.DR T.ty
 cases t.y with
 |none=>simp [T.tD,T.gx,aF.HW]
 |some y=>rfl
theorem T.get_eq (n:Nat) (t:T α):T.get n t=if n<512 then T.wG n t.x else if n<32768 then T.tD n t.ty else B.get n t.z:=by
 unfold T.get
 rw [force_eq]
 show (Bool.rec (Bool.rec (B.get n t.z) (T.DR n t.y) (n.blt 32768)) (T.wG n t.x) (n.blt 512):Option α)=_
 rw [T.blt_eq,T.blt_eq,T.UG]
 by_cases h1:n<512
 · simp [h1]
 · by_cases h2:n<32768<;>simp [h1,h2]
theorem T.HX (n:Nat) (v:α) (t:T α) (c:T α→R):T.dg n v t c=c (if n<512 then ⟨T.yR n v t.x,t.y,t.z⟩ else if n<32768 then ⟨t.x,some (T.yS n v t.ty),t.z⟩ else ⟨t.x,t.y,B.set n v t.z⟩):=by
 unfold T.dg
 rw [force_eq]
 show (Bool.rec (Bool.rec (B.dg n v t.z fun z=>c ⟨t.x,t.y,z⟩) (T.yH n v (Option.rec T.gx (fun y=>y) t.y) fun y=>c ⟨t.x,some y,t.z⟩) (n.blt 32768)) (T.yG n v t.x fun x=>c ⟨x,t.y,t.z⟩) (n.blt 512):R)=_
 have hy:(Option.rec T.gx (fun y=>y) t.y:aF (aF (aF (aF (aF (Option α))))))=t.ty:=by unfold T.ty;cases t.y<;>rfl
 rw [hy]
 rw [T.blt_eq,T.blt_eq]
 by_cases h1:n<512
 · simp [h1,T.UB]
 · by_cases h2:n<32768
   · simp [h1,h2,T.UC]
   · simp [h1,h2,B.h4]
@[simp] theorem T.h4 (n:Nat) (v:α) (t:T α) (c:T α→R):T.dg n v t c=c (T.set n v t):=by
  unfold T.set;rw [T.HX,T.HX]
theorem T.D4 (n:Nat) (v:α) (t:T α):T.set n v t=if n<512 then ⟨T.yR n v t.x,t.y,t.z⟩ else if n<32768 then ⟨t.x,some (T.yS n v t.ty),t.z⟩ else ⟨t.x,t.y,B.set n v t.z⟩:=by
 unfold T.set;rw [T.HX]
theorem T.Mv (x:aF (aF (aF (Option α)))) (t:T α) (z:B α):T.ty ⟨x,t.y,z⟩=t.ty:=rfl
theorem T.UH (x:aF (aF (aF (Option α)))) (y:aF (aF (aF (aF (aF (Option α)))))) (z:B α):T.ty ⟨x,some y,z⟩=y:=rfl
theorem T.eU {n m:Nat} (_hn:0≤n) (_hm:0≤m) (v:α) (t:T α):T.get n (T.set m v t)=if n=m then some v else T.get n t:=by
 rw [T.get_eq,T.get_eq,T.D4]
 by_cases h1:m<512
 · rw [if_pos h1]
   by_cases h2:n<512
   · rw [if_pos h2,if_pos h2,T.UE n m h2 h1]
   · simp only [if_neg h2,T.Mv];rw [if_neg (show ¬n=m by omega)]
 · rw [if_neg h1]
   by_cases a6:m<32768
   · rw [if_pos a6]
     by_cases h2:n<512
     · rw [if_pos h2,if_pos h2,if_neg (by omega)]
     · rw [if_neg h2,if_neg h2]
       by_cases cc:n<32768
       · simp only [if_pos cc,T.UH];rw [T.UF n m cc a6]
       · simp only [if_neg cc];rw [if_neg (show ¬n=m by omega)]
   · rw [if_neg a6]
     by_cases h2:n<512
     · rw [if_pos h2,if_pos h2,if_neg (by omega)]
     · rw [if_neg h2,if_neg h2]
       by_cases cc:n<32768
       · simp only [if_pos cc,T.Mv];rw [if_neg (by omega)]
       · rw [if_neg cc,if_neg cc,B.eU (Nat.zero_le _) (Nat.zero_le _)]
theorem T.yT (n:Nat) (v:α) (t:T α):T.get n (T.set n v t)=some v:=by
 rw [T.eU (Nat.zero_le _) (Nat.zero_le _),if_pos rfl]
@[simp] theorem T.u5 (n:Nat):T.get n (T.e:T α)=none:=by
  rw [T.get_eq];simp [T.e,T.ty,T.gx,T.wG,T.tD,aF.HW,B.u5]
end
@[simp] theorem l4 {α R:Type} (l:List α) (f:List α→R):gK l f=f l:=by
  induction l generalizing f with
  |nil=>rfl
  |cons a l bm=>exact bm _
@[simp] theorem V.force_eq {R:Type} (v:V) (f:V→R):v.force f=f v:=by cases v<;>rfl
def Row.set (j:bp) (v:V) (r:Row):Row:=match j with
 | .d0=>{r with a:=v}| .d1=>{r with b:=v}| .d2=>{r with c:=v}| .d3=>{r with d:=v}
 | .d4=>{r with e:=v}| .d5=>{r with f:=v}| .d6=>{r with g:=v}| .d7=>{r with h:=v}
def Env.set (i j:bp) (v:V) (r:Env):Env:=match i with
 | .d0=>{r with a:=r.a.set j v}| .d1=>{r with b:=r.b.set j v}| .d2=>{r with c:=r.c.set j v}| .d3=>{r with d:=r.d.set j v}
 | .d4=>{r with e:=r.e.set j v}| .d5=>{r with f:=r.f.set j v}| .d6=>{r with g:=r.g.set j v}| .d7=>{r with h:=r.h.set j v}
@[simp] theorem Row.h4 (j:bp) (v:V) (k:Row→bj) (r:Row):Row.dg j v k r=k (r.set j v):=by cases j<;>rfl
@[simp] theorem Env.h4 (i j:bp) (v:V) (k:Env→bj) (r:Env):Env.dg i j v k r=k (Env.set i j v r):=by
  cases i<;>simp [Env.dg,Env.jR,Env.s1,Env.s2,Env.fw,Env.iG,Env.jS,Env.sf,Env.yF,Env.set]
theorem Env.eU (i j cy gA:bp) (v:V) (r:Env):Env.get cy gA (Env.set i j v r)=if cy=i∧gA=j then v else Env.get cy gA r:=by
 cases i<;>cases cy<;>(try rfl)<;>cases j<;>cases gA<;>rfl
@[simp] theorem Env.get_nil (i j:bp):Env.get i j Env.nil= .bot:=by cases i<;>cases j<;>rfl
theorem UI (n:Nat) (v:V) (l:List V):mD (n+1) (v::l)=v::mD n l:=rfl
@[simp] theorem Bb (n:Nat) (l:List V):mD n l=l.take n:=by
  induction n generalizing l with
  |zero=>exact List.take_zero.symm▸rfl
  |succ n bm=>cases l with
   |nil=>rfl
   |cons a l=>rw [UI,bm,List.take_succ_cons]
theorem UJ (n:Nat) (v:V) (l:List V):hJ (n+1) (v::l)=hJ n l:=rfl
@[simp] theorem oZ (n:Nat) (l:List V):hJ n l=l.drop n:=by
  induction n generalizing l with
  |zero=>rfl
  |succ n bm=>cases l with
   |nil=>rfl
   |cons a l=>rw [UJ,bm,List.drop_succ_cons]
theorem UK (a b:List V) (x:V):fx (x::a) b=x::fx a b:=rfl
@[simp] theorem o0 (a b:List V):fx a b=a++b:=by
  induction a with
  |nil=>rfl
  |cons x a bm=>rw [UK,bm,List.cons_append]
theorem UL (a:List V) (x:V):cI (x::a)=cI a+1:=rfl
@[simp] theorem kX (l:List V):cI l=l.length:=by
  induction l with
  |nil=>rfl
  |cons x a bm=>rw [UL,bm,List.length_cons]
theorem UM (vs l:List V):gL 0 vs l=fx vs (hJ (cI vs) l):=rfl
theorem UN (n:Nat) (vs l:List V) (x:V):gL (n+1) vs (x::l)=x::gL n vs l:=rfl
theorem D5 (n:Nat) (vs l:List V) (h:n+vs.length≤l.length):gL n vs l=l.take n++vs++l.drop (n+vs.length):=by
 induction n generalizing l with
 |zero=>rw [UM];simp
 |succ n bm=>cases l with
  |nil=>simp at h
  |cons a l=>
   rw [UN,bm l (by simp at h;omega),show n+1+vs.length=n+vs.length+1 by omega]
   simp
@[simp] theorem wO (l:List V):aQ l=l.head? :=by cases l<;>rfl
theorem UO (l:List V) (d:Nat):lZ l d=(l[d]?).getD .bot:=by
 induction l generalizing d with
 |nil=>cases d<;>rfl
 |cons a l bm=>cases d with
  |zero=>rfl
  |succ d=>exact (bm d).trans (by simp)
theorem UP (a:A) (l:List A) (ev:dr):hi (a::l) ev=ev a::hi l ev:=rfl
@[simp] theorem agm (l:List A) (ev:dr):hi l ev=l.map ev:=by
  induction l with
  |nil=>rfl
  |cons a l bm=>rw [UP,bm,List.map_cons]
theorem UQ (n:Nat) (l:List V):rep (n+1) l=fx l (rep n l):=rfl
theorem Mw (n:Nat) (l:List V):rep n l=(List.replicate n l).flatten:=by
 induction n with
 |zero=>rfl
 |succ n bm=>rw [UQ,bm];simp [List.replicate_succ]
theorem h5 (a b:Nat):a.beq b=decide (a=b):=by
 rw [Bool.eq_iff_iff];simp
theorem ew (a b:Nat):a.ble b=decide (a≤b):=by
 rw [Bool.eq_iff_iff];simp
theorem fY (a b:Nat):a.blt b=decide (a<b):=by
 rw [Bool.eq_iff_iff];simp [Nat.blt];omega
@[simp] theorem tH (k:IntKind) (n:Nat):ir k n= .int k (.ofNat n):=by cases n<;>rfl
@[simp] theorem agn (k:IntKind) (n:Nat):DU k n= .int k (.negSucc n):=by cases n<;>rfl
@[simp] theorem ago (k:IntKind) (n:Int):A0 k n= .int k n:=by cases n<;>simp [A0]
theorem D6 (k:IntKind) (lim:Nat) (ay:k.signed=false) (ar:(2 ^ k.bits:Int)=lim) (n:Int):A1 k lim n= .int k (k.wrap n):=by
 cases n with
 |ofNat m=>
  show (Bool.rec (p2 k (.ofNat m)) (ir k m) (m.blt lim):V)=_
  cases h:m.blt lim with
  |false=>simp [p2]
  |true=>
   have ax:m<lim:=by rw [fY] at h;simpa using h
   have:k.wrap (m:Int)=m:=by
    unfold IntKind.wrap
    rw [ar]
    simp only [ay,Bool.false_and,Bool.false_eq_true,if_false]
    exact Int.emod_eq_of_lt (by omega) (by omega)
   simp [this]
 |negSucc m=>show p2 k _=_;simp [p2]
theorem D7 (k:IntKind) (lim:Nat) (ay:k.signed=true) (ar:(2 ^ (k.bits - 1):Int)=lim) (hb:(2 ^ k.bits:Int)=2 * lim) (n:Int):A2 k lim n= .int k (k.wrap n):=by
 cases n with
 |ofNat m=>
  show (Bool.rec (p2 k (.ofNat m)) (ir k m) (m.blt lim):V)=_
  cases h:m.blt lim with
  |false=>simp [p2]
  |true=>
   have ax:m<lim:=by rw [fY] at h;simpa using h
   have:k.wrap (m:Int)=m:=by
    unfold IntKind.wrap
    rw [ar,hb]
    have hm:(m:Int) % (2 * lim)=m:=Int.emod_eq_of_lt (by omega) (by omega)
    simp only [hm,ay,Bool.true_and,decide_eq_true_eq]
    rw [if_neg (by omega)]
   simp [this]
 |negSucc m=>
  show (Bool.rec (p2 k (.negSucc m)) (DU k m) (m.blt lim):V)=_
  cases h:m.blt lim with
  |false=>simp [p2]
  |true=>
   have ax:m<lim:=by rw [fY] at h;simpa using h
   have:k.wrap (Int.negSucc m)=Int.negSucc m:=by
    unfold IntKind.wrap
    rw [ar,hb]
    have hm:(Int.negSucc m) % (2 * lim)=2 * lim - (m+1):=by
     rw [Int.negSucc_eq]
     have:(-((m:Int)+1)) % (2 * lim)=(-((m:Int)+1)+2 * lim) % (2 * lim):=by simp
     rw [this]
     rw [Int.emod_eq_of_lt (by omega) (by omega)];omega
    simp only [hm,ay,Bool.true_and,decide_eq_true_eq]
    rw [if_pos (by omega),Int.negSucc_eq];omega
   simp [this]
@[simp] theorem su (k:IntKind) (n:Int):jV k n= .int k (k.wrap n):=by
  cases k
  · exact D7 .i8 128 rfl (by decide) (by decide) n
  · exact D7 .i16 32768 rfl (by decide) (by decide) n
  · exact D7 .i32 2147483648 rfl (by decide) (by decide) n
  · exact D7 .i64 9223372036854775808 rfl (by decide) (by decide) n
  · exact D6 .u8 256 rfl (by decide) n
  · exact D6 .u16 65536 rfl (by decide) n
  · exact D6 .u32 4294967296 rfl (by decide) n
  · exact D6 .u64 18446744073709551616 rfl (by decide) n
@[simp] theorem yU (a b:Int):n4 a b=decide (a=b):=by
  cases a with
  |ofNat a=>cases b with
   |ofNat b=>show a.beq b=_;rw [h5];congr 1;simp;omega
   |negSucc b=>rfl
  |negSucc a=>cases b with
   |ofNat b=>rfl
   |negSucc b=>show a.beq b=_;rw [h5];simp
@[simp] theorem yV (a b:Int):l0 a b=decide (a<b):=by
  cases a with
  |ofNat a=>cases b with
   |ofNat b=>show a.blt b=_;rw [fY];simp
   |negSucc b=>show false=_;symm;rw [decide_eq_false_iff_not];have:=Int.negSucc_lt_zero b;simp;omega
  |negSucc a=>cases b with
   |ofNat b=>show true=_;symm;rw [decide_eq_true_eq];have:=Int.negSucc_lt_zero a;simp;omega
   |negSucc b=>show b.blt a=_;rw [fY];simp [Int.negSucc_eq]
@[simp] theorem UR (a b:Int):DV a b=a+b:=by cases a<;>cases b<;>rfl
@[simp] theorem Mx (a b:Int):yL a b=a * b:=by cases a<;>cases b<;>rfl
@[simp] theorem My (a b:Int):A3 a b=a - b:=by
  cases a with
  |ofNat a=>cases b with
   |ofNat b=>
    show (Bool.rec (Int.sub (.ofNat a) (.ofNat b)) (.ofNat (Nat.sub a b)) (b.ble a):Int)=_
    cases h:b.ble a with
    |false=>rfl
    |true=>
     have ax:b≤a:=by simpa [ew] using h
     show (Int.ofNat (a - b))=(a:Int) - b
     simp;omega
   |negSucc b=>rfl
  |negSucc a=>cases b<;>rfl
@[simp] theorem tI (b:Bool):nv b= !b:=by cases b<;>rfl
@[simp] theorem wP (a b:IntKind):nw a b=decide (a=b):=by cases a<;>cases b<;>rfl
@[simp] theorem agp (m n:Nat):n9 m n=min m n:=by
  unfold n9
  cases h:m.ble n with
  |false=>have:¬m≤n:=by simpa [ew] using h
          show n=_;omega
  |true=>have:m≤n:=by simpa [ew] using h
         show m=_;omega
end Go.Eng
namespace Go.Eng
noncomputable section
structure fk where
 c:Nat
 off:Nat
 n:Nat
 r:Nat
 cap:Nat
 cO:Nat
 jT:Nat
abbrev aY:=Nat→Option fk
def aY.le (ι bc:aY):Prop:=∀b B,ι b=some B→bc b=some B
theorem aY.le.refl (ι:aY):ι.le ι:=fun _ _ h=>h
theorem aY.le.trans {a b c:aY} (h:a.le b) (ax:b.le c):a.le c:=fun _ _ e=>ax _ _ (h _ _ e)
def enc:List UInt8→Nat
 |[]=>0
 |b::l=>b.toNat+256 * enc l
def D8 (n x:Nat) (s:ByteArray):Prop:=s.data.toList.length=n∧enc s.data.toList=x
def yW (B:fk) (o n:Nat) (cap:Option Nat) (a:Addr) (c:Nat):Prop:=
 match cap with
 |some k=>c=k∧a=⟨B.c,B.off+o,none⟩∧n≤k
 |none=>c=B.cap - o / B.r∧o % B.r=0∧0<B.r∧n≤c∧(a=⟨B.c,B.off+o,none⟩∨c=0)
mutual
def bD (ι:aY):V→Value→Prop
 | .bot,_=>True
 | .bool b,v=>v= .bool b
 | .int k n,v=>v= .int k n
 | .str n x,v=>∃s,v= .string s∧D8 n x s
 | .nr,v=>v= .pointer none
 | .ptr b o,v=>∃B,ι b=some B∧v= .pointer (some ⟨B.c,B.off+o,none⟩)
 | .U,v=>v= .slice none 0 0
 | .au b o n cap,v=>∃B a c,ι b=some B∧v= .slice (some a) n c∧yW B o n cap a c
 | .kp,v=>v= .map none
 | .map b,v=>∃B,ι b=some B∧v= .map (some B.c)
 | .fn f l m,v=>∃xs ys,v= .func (.func f) xs ys∧ch ι l xs.toList∧ch ι m ys.toList
 | .nt,v=>v= .nilFunc
 | .ez t x,v=>∃y,v= .iface t y∧bD ι x y
 | .jG,v=>v= .nilIface
 | .agg l,v=>∃cs,v= .agg cs∧ch ι l cs.toList∧∀x∈cs.toList,x.oneCell'=true
 | .dh l,v=>∃cs,v= .tuple cs∧ch ι l cs.toList
def ch (ι:aY):List V→List Value→Prop
 |[],l=>l=[]
 |a::m,l=>∃x xs,l=x::xs∧bD ι a x∧ch ι m xs
end
mutual
theorem bD.mono {ι bc:aY} (h:ι.le bc):∀(v:V) (x:Value),bD ι v x→bD bc v x
 | .bot,_,_=>by simp [bD]
 | .bool b,v,e=>by simpa [bD] using e
 | .int k n,v,e=>by simpa [bD] using e
 | .str n x,v,e=>by simpa [bD] using e
 | .nr,v,e=>by simpa [bD] using e
 | .ptr b o,v,e=>by
   simp only [bD] at e ⊢;obtain ⟨B,bN,e⟩:=e;exact ⟨B,h _ _ bN,e⟩
 | .U,v,e=>by simpa [bD] using e
 | .au b o n cap,v,e=>by
   simp only [bD] at e ⊢;obtain ⟨B,a,c,bN,e⟩:=e;exact ⟨B,a,c,h _ _ bN,e⟩
 | .kp,v,e=>by simpa [bD] using e
 | .map b,v,e=>by
   simp only [bD] at e ⊢;obtain ⟨B,bN,e⟩:=e;exact ⟨B,h _ _ bN,e⟩
 | .fn f l m,v,e=>by
   simp only [bD] at e ⊢;obtain ⟨xs,ys,e,h1,h2⟩:=e;exact ⟨xs,ys,e,ch.mono h l _ h1,ch.mono h m _ h2⟩
 | .nt,v,e=>by simpa [bD] using e
 | .ez t x,v,e=>by
   simp only [bD] at e ⊢;obtain ⟨y,e,h1⟩:=e;exact ⟨y,e,bD.mono h x _ h1⟩
 | .jG,v,e=>by simpa [bD] using e
 | .agg l,v,e=>by
   simp only [bD] at e ⊢;obtain ⟨cs,e,h1,h2⟩:=e;exact ⟨cs,e,ch.mono h l _ h1,h2⟩
 | .dh l,v,e=>by
   simp only [bD] at e ⊢;obtain ⟨cs,e,h1⟩:=e;exact ⟨cs,e,ch.mono h l _ h1⟩
theorem ch.mono {ι bc:aY} (h:ι.le bc):∀(l:List V) (m:List Value),ch ι l m→ch bc l m
 |[],m,e=>by simpa [ch] using e
 |a::l,m,e=>by
  simp only [ch] at e ⊢;obtain ⟨x,xs,e,h1,h2⟩:=e;exact ⟨x,xs,e,bD.mono h a x h1,ch.mono h l xs h2⟩
end
theorem ch.length {ι:aY}:∀{l:List V} {m:List Value},ch ι l m→m.length=l.length
 |[],m,e=>by simp [ch] at e;simp [e]
 |a::l,m,e=>by
  simp only [ch] at e;obtain ⟨x,xs,rfl,h1,h2⟩:=e;simp [h2.length]
theorem ch.get {ι:aY}:∀{l:List V} {m:List Value},ch ι l m→∀{j:Nat} {v:V},l[j]? =some v→∃x,m[j]? =some x∧bD ι v x
 |[],m,e,j,v,h=>by simp at h
 |a::l,m,e,j,v,h=>by
  simp only [ch] at e;obtain ⟨x,xs,rfl,h1,h2⟩:=e
  cases j with
  |zero=>simp at h;subst h;exact ⟨x,by simp,h1⟩
  |succ j=>simp at h;obtain ⟨y,hy,aD⟩:=h2.get h;exact ⟨y,by simpa using hy,aD⟩
theorem ch.of {ι:aY}:∀{l:List V} {m:List Value},m.length=l.length→(∀(j:Nat) (v:V) (x:Value),l[j]? =some v→m[j]? =some x→bD ι v x)→ch ι l m
 |[],m,ar,_=>by simp at ar;simp [ch,ar]
 |a::l,[],ar,_=>by simp at ar
 |a::l,x::m,ar,h=>by
  simp only [ch]
  exact ⟨x,m,rfl,h 0 a x (by simp) (by simp),ch.of (by simpa using ar) (fun j v y h1 h2=>h (j+1) v y (by simpa using h1) (by simpa using h2))⟩
theorem ch.append {ι:aY} {l aI:List V} {m jH:List Value} (h:ch ι l m) (ax:ch ι aI jH):ch ι (l++aI) (m++jH):=by
 induction l generalizing m with
 |nil=>simp [ch] at h;subst h;simpa using ax
 |cons a l bm=>
  simp only [ch] at h;obtain ⟨x,xs,rfl,h1,h2⟩:=h
  simp only [List.cons_append,ch];exact ⟨x,xs++jH,rfl,h1,bm h2⟩
def cellOf:Obj→Nat→Option V
 | .box row,j=>row[j]?
 | .cells r _ _ size rows,j=>if j<size then (T.get (j / r) rows).bind (·[j % r]?) else none
 |_,_=>none
def nz:Obj→Nat
 | .box row=>row.length
 | .cells _ _ _ size _=>size
 |_=>0
def Obj.isCells:Obj→Bool
 | .box _=>true
 | .cells .. =>true
 |_=>false
def p9 (r size:Nat) (rows:T (List V)):Prop:=
 0<r∧0≤size∧∀i row,0≤i→T.get i rows=some row→row.length=r∧(i+1) * r≤size
def rf (ι:aY):List oX→List MapEntry→Prop
 |[],l=>l=[]
 |e::m,l=>∃x xs,l=x::xs∧bD ι e.key x.key∧bD ι e.val x.val∧x.born=e.born∧rf ι m xs
theorem rf.mono {ι bc:aY} (h:ι.le bc):∀(l:List oX) (m:List MapEntry),rf ι l m→rf bc l m
 |[],m,e=>by simpa [rf] using e
 |a::l,m,e=>by
  simp only [rf] at e ⊢;obtain ⟨x,xs,e,h1,h2,a6,cc⟩:=e;exact ⟨x,xs,e,h1.mono h,h2.mono h,a6,cc.mono h⟩
def qa (n:Nat) (fr:Nat×Nat):Prop:=fr.2≤fr.1∨n≤fr.1
def HY (B:fk):Obj→Nat→Prop
 | .cells r cO jT size rows,n=>B.r=r∧B.cO=cO∧B.jT=jT∧n=B.off+B.cap * r∧p9 r size rows
 |_,_=>True
def Bc:Obj→Bool
 | .box _=>true
 |_=>false
def oc (B:fk) (o:Obj) (n:Nat) (fr:Nat×Nat):Prop:=if Bc o then ∀k,B.off≤k→k<B.off+nz o→¬(fr.1≤k∧k<fr.2) else qa n fr
theorem qa.b {B:fk} {o:Obj} {n:Nat} {fr:Nat×Nat} (h:qa n fr) (hn:B.off+nz o≤n):oc B o n fr:=by
 unfold oc
 split
 · intro k h1 h2 a6
   rcases h with h|h<;>omega
 · exact h
theorem oc.at_ {B:fk} {o:Obj} {n:Nat} {fr:Nat×Nat} (h:oc B o n fr) {k:Nat} (h1:B.off≤k) (h2:k<B.off+nz o) (a6:k<n):¬(fr.1≤k∧k<fr.2):=by
 unfold oc at h
 split at h
 · exact h k h1 h2
 · rcases h with h|h<;>omega
theorem qa.cells {B:fk} {r f a s n:Nat} {rows:T (List V)} {fr:Nat×Nat} (h:qa n fr):oc B (.cells r f a s rows) n fr:=h
theorem oc.ok {B:fk} {o:Obj} {n:Nat} {fr:Nat×Nat} (h:oc B o n fr) (hb:Bc o=false):qa n fr:=by
 unfold oc at h
 rw [hb] at h;exact h
theorem oc.US {B:fk} {o eP:Obj} {n:Nat} {fr:Nat×Nat} (h:oc B o n fr) (hb:Bc eP=Bc o) (ay:nz eP=nz o):oc B eP n fr:=by
 unfold oc at h ⊢
 rw [hb,ay];exact h
def yX (ι:aY) (B:fk) (o:Obj) (w:World):Prop:=
 ∃cs el fr,w.heap[B.c]? =some (.cells cs el fr)∧oc B o cs.size fr∧B.n=nz o∧B.off+nz o≤cs.size∧HY B o cs.size∧
  ∀j v,cellOf o j=some v→∃x,cs[B.off+j]? =some x∧x.oneCell'=true∧bD ι v x
def mF (ι:aY) (B:fk):Obj→World→Prop
 | .box row,w=>yX ι B (.box row) w
 | .cells r cO jT size rows,w=>yX ι B (.cells r cO jT size rows) w
 | .dead,_=>True
 | .map es clock,w=>∃rh,w.heap[B.c]? =some (.map rh clock)∧rf ι es rh.toList
def Obj.hT:Obj→Bool
 | .box _=>true
 | .map .. =>true
 |_=>false
structure Good (ι:aY) (h:ae) (w:World):Prop where
 obj:∀b B o,ι b=some B→T.get b h.t=some o→b<h.next→mF ι B o w
 kr:∀b B,ι b=some B→B.c<w.heap.size
 same:∀b B bL aZ,ι b=some B→ι bL=some aZ→b<h.next→bL<h.next→8≤bL→B.c=aZ.c→b≠bL→B.cO=aZ.cO∧B.off+aZ.jT=aZ.off+B.jT
 cO:∀b B,ι b=some B→b<h.next→match T.get B.cO h.bA with
  |none=>B.cO=b
  |some F=>b∈F.mem
 last:∀b B F o,ι b=some B→b<h.next→T.get B.cO h.bA=some F→T.get b h.t=some o→o.isCells=true→B.jT+B.n≤F.last
 hT:∀b B o,ι b=some B→T.get b h.t=some o→b<h.next→o.hT=true→T.get B.cO h.bA=none
 mem:∀f F b,T.get f h.bA=some F→b∈F.mem→b<h.next
 lim:8≤h.next
 kY:∀b,0≤b→T.get b h.t≠none→b<h.next
 small:∀b,ι b≠none→0≤b
 tJ:∀f,0≤f→T.get f h.bA≠none→f<h.next
 od:∀b B,ι b=some B→b<h.next→B.cO<h.next
structure ri (ι:aY) (h:ae) (w w':World):Prop where
 va:∀c,c<w.heap.size→(∀b B,ι b=some B→8≤b→b<h.next→B.c≠c)→w'.heap[c]? =w.heap[c]?
 size:w.heap.size≤w'.heap.size
 tape:w'.tape=w.tape
 os:w'.os=w.os
 out:w'.output=w.output
theorem ri.refl (ι:aY) (h:ae) (w:World):ri ι h w w:=⟨fun _ _ _=>rfl,Nat.le_refl _,rfl,rfl,rfl⟩
def Ext (h ax:ae) (ι bc:aY):Prop:=ι.le bc∧h.next≤ax.next∧∀b,ι b=none→bc b≠none→h.next≤b∧b<ax.next
theorem Ext.refl (h:ae) (ι:aY):Ext h h ι ι:=⟨aY.le.refl _,Nat.le_refl _,fun _ a b=>absurd a b⟩
theorem Ext.trans {h h1 h2:ae} {ι l5 nA:aY} (a:Ext h h1 ι l5) (b:Ext h1 h2 l5 nA):Ext h h2 ι nA:=by
 refine ⟨a.1.trans b.1,Nat.le_trans a.2.1 b.2.1,fun x hx hy=> ?_⟩
 cases Mz:l5 x with
 |none=>have:=b.2.2 x Mz hy;exact ⟨Nat.le_trans a.2.1 this.1,this.2⟩
 |some B=>have:=a.2.2 x hx (by simp [Mz]);exact ⟨this.1,Nat.lt_of_lt_of_le this.2 b.2.1⟩
theorem mF.mono {ι bc:aY} (h:ι.le bc) {B:fk} {o:Obj} {w:World} (e:mF ι B o w):mF bc B o w:=by
 cases o with
 |box row=>
  obtain ⟨cs,el,fr,h1,h2,a6,cc,fA,kt⟩:=e
  exact ⟨cs,el,fr,h1,h2,a6,cc,fA,fun j v aR=>let ⟨x,a,b,c⟩:=kt j v aR;⟨x,a,b,c.mono h⟩⟩
 |cells r f a n t=>
  obtain ⟨cs,el,fr,h1,h2,a6,cc,fA,kt⟩:=e
  exact ⟨cs,el,fr,h1,h2,a6,cc,fA,fun j v aR=>let ⟨x,a,b,c⟩:=kt j v aR;⟨x,a,b,c.mono h⟩⟩
 |dead=>trivial
 |map es c=>obtain ⟨rh,h1,h2⟩:=e;exact ⟨rh,h1,h2.mono h⟩
theorem mF.world {ι:aY} {B:fk} {o:Obj} {w w':World} (e:mF ι B o w) (h:w'.heap[B.c]? =w.heap[B.c]?):mF ι B o w':=by
 cases o with
 |box row=>obtain ⟨cs,el,fr,h1,h2⟩:=e;exact ⟨cs,el,fr,h.trans h1,h2⟩
 |cells r f a n t=>obtain ⟨cs,el,fr,h1,h2⟩:=e;exact ⟨cs,el,fr,h.trans h1,h2⟩
 |dead=>trivial
 |map es c=>obtain ⟨rh,h1,h2⟩:=e;exact ⟨rh,h.trans h1,h2⟩
theorem Good.world {ι:aY} {h:ae} {w w':World} (g:Good ι h w) (e:∀c,c<w.heap.size→w'.heap[c]? =w.heap[c]?) (ay:w.heap.size≤w'.heap.size):Good ι h w':=
 ⟨fun b B o a c d=>(g.obj b B o a c d).world (e _ (g.kr b B a)),fun b B a=>Nat.lt_of_lt_of_le (g.kr b B a) ay,g.same,g.cO,g.last,g.hT,g.mem,g.lim,g.kY,g.small,g.tJ,g.od⟩
end
end Go.Eng
namespace Go.Eng
noncomputable section
theorem D9 {r q c x:Nat} (h:c<r) (hx:x=r * q+c):x / r=q∧x % r=c:=by
 subst hx
 have hr:0<r:=by omega
 rw [Nat.mul_add_div hr,Nat.div_eq_of_lt h,Nat.mul_add_mod,Nat.mod_eq_of_lt h];exact ⟨rfl,rfl⟩
theorem UT (t:T (List V)) (k i:Nat):kU t (k+1) i=match T.get i t with
  |none=>none
  |some row=>match kU t k (i+1) with
   |none=>none
   |some l=>some (fx row l):=by
 show (Option.rec none (fun row=>Option.rec none (fun l=>some (fx row l)) (kU t k (i+1))) (T.get i t):Option (List V))=_
 cases T.get i t with
 |none=>rfl
 |some row=>cases kU t k (i+1)<;>rfl
theorem UU (t:T (List V)) (i:Nat):kU t 0 i=some []:=rfl
theorem HZ {r size:Nat} {rows:T (List V)} (hw:p9 r size rows):∀(k i:Nat) (l:List V),0≤i+k→kU rows k i=some l→
  l.length=k * r∧∀q c,q<k→c<r→l[q * r+c]? =(T.get (i+q) rows).bind (·[c]?)
 |0,i,l,_,h=>by
  have:l=[]:=by rw [UU] at h;simpa using h.symm
  subst this;exact ⟨by simp,fun q c bB _=>absurd bB (by omega)⟩
 |k+1,i,l,MA,h=>by
  rw [UT] at h
  cases hr:T.get i rows with
  |none=>simp [hr] at h
  |some row=>
   cases ar:kU rows k (i+1) with
   |none=>simp [hr,ar] at h
   |some aI=>
    simp only [hr,ar,o0,Option.some.injEq] at h
    subst h
    obtain ⟨h1,h2⟩:=HZ hw k (i+1) aI (by omega) ar
    have hlen:=(hw.2.2 i row (by omega) hr).1
    refine ⟨by simp [hlen,h1,Nat.add_mul];omega,fun q c bB av=> ?_⟩
    cases q with
    |zero=>
     have:c<row.length:=by omega
     simp [hr,List.getElem?_append_left this]
    |succ q=>
     rw [List.getElem?_append_right (by rw [hlen,Nat.add_mul];omega)]
     have:=h2 q c (by omega) av
     rw [hlen,show (q+1) * r+c - r=q * r+c by rw [Nat.add_mul];omega,this,show i+1+q=i+(q+1) by omega]
theorem UW {r size:Nat} {rows:T (List V)} (f a:Nat) (hw:p9 r size rows) {o n:Nat} {l:List V} (hn:o+n≤size) (h:cut r o n rows=some l):
  l.length=n∧∀j,j<n→cellOf (.cells r f a size rows) (o+j)=l[j]? :=by
 obtain ⟨hr,ay,cF⟩:=hw
 have hw:p9 r size rows:=⟨hr,ay,cF⟩
 have Ea:=Nat.div_add_mod o r
 unfold cut at h
 have bB:o<size→0≤o / r:=fun _=>Nat.zero_le _
 have yY:o.mod r=o % r:=rfl
 have hdiv:o.div r=o / r:=rfl
 rw [yY,hdiv] at h
 simp only [h5,ew] at h
 by_cases c1:n=r∧o % r=0
 · obtain ⟨rfl,ed⟩:=c1
   simp only [decide_true,ed,Bool.and_self,cond_true] at h
   have hlen:=(cF _ l (bB (by omega)) h).1
   refine ⟨hlen,fun j aR=> ?_⟩
   obtain ⟨d1,d2⟩:=D9 (x:=o+j) (q:=o / n) aR (by omega)
   simp only [cellOf,d1,d2,h,Option.bind_some,if_pos (show o+j<size by omega)]
 · rw [show (decide (n=r)&&decide (o % r=0))=false by simpa using c1] at h
   simp only [cond_false] at h
   by_cases c2:o % r+n≤r
   · rw [show decide (Nat.add (o % r) n≤r)=true by simpa using c2] at h
     simp only [cond_true] at h
     by_cases vb:n=0
     · subst vb
       cases hg:T.get (o / r) rows with
       |none=>simp [hg] at h
       |some row=>simp [hg] at h;subst h;exact ⟨rfl,fun j aR=>absurd aR (by omega)⟩
     cases hg:T.get (o / r) rows with
     |none=>simp [hg] at h
     |some row=>
      simp only [hg,Bb,oZ,Option.some.injEq] at h
      subst h
      have hlen:=(cF _ row (bB (by omega)) hg).1
      refine ⟨by simp [hlen];omega,fun j aR=> ?_⟩
      obtain ⟨d1,d2⟩:=D9 (x:=o+j) (r:=r) (q:=o / r) (c:=o % r+j) (by omega) (by omega)
      simp only [cellOf,d1,d2,hg,Option.bind_some,if_pos (show o+j<size by omega)]
      rw [List.getElem?_take_of_lt aR,List.getElem?_drop]
   · rw [show decide (Nat.add (o % r) n≤r)=false by simpa using c2] at h
     simp only [cond_false] at h
     by_cases cG:o % r=0∧n % r=0
     · obtain ⟨cG,dm⟩:=cG
       have Bd:n.mod r=n % r:=rfl
       have vc:n.div r=n / r:=rfl
       rw [Bd,vc] at h
       simp only [cG,dm,decide_true,Bool.and_self,cond_true] at h
       have UX:=Nat.div_add_mod n r
       have wQ:0≤o / r+n / r:=Nat.zero_le _
       obtain ⟨h1,h2⟩:=HZ hw _ _ _ wQ h
       refine ⟨by rw [h1,Nat.mul_comm];omega,fun j aR=> ?_⟩
       have Be:=Nat.div_add_mod j r
       have mG:=Nat.mod_lt j hr
       have UY:j / r<n / r:=by
        apply Nat.div_lt_of_lt_mul;omega
       obtain ⟨d1,d2⟩:=D9 (x:=o+j) (r:=r) (q:=o / r+j / r) (c:=j % r) mG (by rw [Nat.mul_add];omega)
       have:=h2 (j / r) (j % r) UY mG
       rw [show j / r * r+j % r=j by rw [Nat.mul_comm];exact Be] at this
       simp only [cellOf,d1,d2,if_pos (show o+j<size by omega),this]
     · have Bd:n.mod r=n % r:=rfl
       rw [Bd,show (decide (o % r=0)&&decide (n % r=0))=false by simpa using cG] at h
       simp at h
def Eb:Obj→Prop
 | .cells r _ _ size rows=>p9 r size rows
 |_=>True
theorem UZ {h:ae} {b o n:Nat} {l:List V} (ar:h.load b o n=some l):
  (n=0∧l=[])∨∃aG,T.get b h.t=some aG∧aG.isCells=true∧o+n≤nz aG∧(Eb aG→l.length=n∧∀j,j<n→cellOf aG (o+j)=l[j]?):=by
 unfold ae.load at ar
 rw [h5] at ar
 by_cases hn:n=0
 · left;simp [hn] at ar;exact ⟨hn,ar⟩
 · right
   simp only [hn,decide_false,cond_false] at ar
   cases hg:T.get b h.t with
   |none=>simp [ae.obj,hg,Obj.any] at ar
   |some aG=>
    refine ⟨aG,rfl, ?_⟩
    cases aG with
    |dead=>simp [ae.obj,hg,Obj.any] at ar
    |map es c=>simp [ae.obj,hg,Obj.any] at ar
    |box row=>
     simp only [ae.obj,hg,Obj.any,kX,ew,Bb,oZ] at ar
     have hle:o+n≤row.length:=by
      by_cases av:o+n≤row.length
      · exact av
      · simp [av] at ar
     simp [hle] at ar
     subst ar
     refine ⟨rfl,hle,fun _=>⟨by simp;omega,fun j aR=> ?_⟩⟩
     rw [List.getElem?_take_of_lt aR,List.getElem?_drop];rfl
    |cells r f a size rows=>
     simp only [ae.obj,hg,Obj.any,ew] at ar
     have hle:o+n≤size:=by
      by_cases av:o+n≤size
      · exact av
      · simp [av] at ar
     simp [hle] at ar
     exact ⟨rfl,hle,fun hw=>UW f a hw hle ar⟩
theorem mF.cells {ι:aY} {B:fk} {aG:Obj} {w:World} (h:mF ι B aG w) (av:aG.isCells=true):yX ι B aG w:=by
 cases aG<;>first|exact h|simp [Obj.isCells] at av
theorem yX.wf {ι:aY} {B:fk} {aG:Obj} {w:World} (h:yX ι B aG w):Eb aG:=by
 obtain ⟨cs,el,fr,h1,h2,a6,cc,fA,kt⟩:=h
 cases aG with
 |cells r f a n t=>exact fA.2.2.2.2
 |_=>trivial
theorem yZ {ι:aY} {h:ae} {w:World} (g:Good ι h w) {b:Nat} {B:fk} (bN:ι b=some B) {o n:Nat} {l:List V} (ar:h.load b o n=some l):
  ∃xs:List Value,xs.length=n∧ch ι l xs∧(∀x∈xs,x.oneCell'=true)∧∀j x,xs[j]? =some x→w.cell? ⟨B.c,B.off+o+j,none⟩=some x:=by
 rcases UZ ar with ⟨rfl,rfl⟩|⟨aG,bd,av,hle,hw⟩
 · exact ⟨[],rfl,rfl,by simp,by simp⟩
 · have hb:=g.kY b (g.small b (by simp [bN])) (by simp [bd])
   have hr:=(g.obj b B aG bN bd hb).cells av
   have o1:=hr.wf
   obtain ⟨hlen,hcell⟩:=hw o1
   obtain ⟨cs,el,fr,h1,h2,a6,cc,fA,kt⟩:=hr
   refine ⟨(cs.toList.drop (B.off+o)).take n,by simp;omega,ch.of (by simp [hlen];omega) ?_, ?_, ?_⟩
   · intro j v x aD hx
     have aR:j<n:=by
      have:=List.getElem?_eq_some_iff.1 aD;obtain ⟨h,_⟩:=this;omega
     rw [List.getElem?_take_of_lt aR,List.getElem?_drop] at hx
     obtain ⟨fe,a1,a2,a3⟩:=kt (o+j) v ((hcell j aR).trans aD)
     have:cs[B.off+(o+j)]? =some x:=by rw [←hx,show B.off+(o+j)=B.off+o+j by omega];simp
     rw [this] at a1;cases a1;exact a3
   · intro x hx
     obtain ⟨j,hx⟩:=List.mem_iff_getElem?.1 hx
     have aR:=(List.getElem?_eq_some_iff.1 hx).1
     have l6:j<n:=by simp at aR;omega
     rw [List.getElem?_take_of_lt l6,List.getElem?_drop] at hx
     have aD:=hcell j l6
     cases MB:l[j]? with
     |none=>have:=List.getElem?_eq_none_iff.1 MB;omega
     |some v=>
      obtain ⟨fe,a1,a2,a3⟩:=kt (o+j) v (aD.trans MB)
      have:cs[B.off+(o+j)]? =some x:=by rw [←hx,show B.off+(o+j)=B.off+o+j by omega];simp
      rw [this] at a1;cases a1;exact a2
   · intro j x hx
     have l6:j<n:=by
      have:=(List.getElem?_eq_some_iff.1 hx).1;simp at this;omega
     rw [List.getElem?_take_of_lt l6,List.getElem?_drop] at hx
     simp only [World.cell?,h1,Option.isSome_none,Bool.false_eq_true,if_false]
     simpa using hx
theorem U0 {h:ae} {b o:Nat} {v:V} (ar:h.eb b o=some v):
  ∃aG,T.get b h.t=some aG∧aG.isCells=true∧(Eb aG→cellOf aG o=some v):=by
 unfold ae.eb at ar
 cases hg:T.get b h.t with
 |none=>simp [ae.obj,hg,u1] at ar
 |some aG=>
  refine ⟨aG,rfl, ?_⟩
  cases aG with
  |dead=>simp [ae.obj,hg,u1] at ar
  |map es c=>simp [ae.obj,hg,u1] at ar
  |box row=>
   simp only [ae.obj,hg,u1,oZ,wO,List.head?_drop] at ar
   exact ⟨rfl,fun _=>ar⟩
  |cells r f a size rows=>
   simp only [ae.obj,hg,u1,fY] at ar
   have hle:o<size:=by
    by_cases av:o<size
    · exact av
    · simp [av] at ar
   simp only [hle,decide_true] at ar
   refine ⟨rfl,fun hw=> ?_⟩
   simp only [cellOf,if_pos hle]
   unfold sl at ar
   have aS:o.div r=o / r:=rfl
   have bl:o.mod r=o % r:=rfl
   rw [aS,bl] at ar
   cases hr:T.get (o / r) rows with
   |none=>simp [hr] at ar
   |some row=>simp only [hr,oZ,wO,List.head?_drop] at ar;simpa using ar
theorem MC {ι:aY} {h:ae} {w:World} (g:Good ι h w) {b:Nat} {B:fk} (bN:ι b=some B) {o:Nat} {v:V} (ar:h.eb b o=some v):
  ∃x,bD ι v x∧x.oneCell'=true∧w.cell? ⟨B.c,B.off+o,none⟩=some x:=by
 obtain ⟨aG,bd,av,hw⟩:=U0 ar
 have hb:=g.kY b (g.small b (by simp [bN])) (by simp [bd])
 have hr:=(g.obj b B aG bN bd hb).cells av
 have o1:=hr.wf
 obtain ⟨cs,el,fr,h1,h2,a6,cc,fA,kt⟩:=hr
 obtain ⟨x,a1,a2,a3⟩:=kt o v (hw o1)
 exact ⟨x,a3,a2,by simp only [World.cell?,h1,Option.isSome_none,Bool.false_eq_true,if_false];exact a1⟩
theorem Bf {g:Nat}:∀(vs:List Value) (o:Nat) (w:World) (k:Nat),k≠g→(w.setCells g o vs).heap[k]? =w.heap[k]?
 |[],_,_,_,_=>rfl
 |v::r,o,w,k,hk=>by
  rw [World.setCells,Bf r (o+1) _ k hk]
  simp only [World.setCell];rw [Array.getElem?_modify];simp [Ne.symm hk]
theorem Bg (g:Nat):∀(vs:List Value) (o:Nat) (w:World),(w.setCells g o vs).os=w.os∧(w.setCells g o vs).tape=w.tape∧(w.setCells g o vs).output=w.output∧(w.setCells g o vs).heap.size=w.heap.size
 |[],_,_=>⟨rfl,rfl,rfl,rfl⟩
 |v::r,o,w=>by
  obtain ⟨a,b,c,d⟩:=Bg g r (o+1) (w.setCell ⟨g,o,none⟩ v)
  rw [World.setCells]
  exact ⟨a,b,c,d.trans (by simp [World.setCell])⟩
theorem Bh {g:Nat} {el:TypeId} {fr:Nat×Nat}:∀(vs:List Value) (o:Nat) (w:World) (cs:Array Value),w.heap[g]? =some (.cells cs el fr)→o+vs.length≤cs.size→
  ∃l7,(w.setCells g o vs).heap[g]? =some (.cells l7 el fr)∧l7.size=cs.size∧∀k,l7[k]? =if o≤k∧k<o+vs.length then vs[k - o]? else cs[k]?
 |[],o,w,cs,h,_=>⟨cs,h,rfl,fun k=>by rw [if_neg (by simp)]⟩
 |v::r,o,w,cs,h,hn=>by
  have h1:(w.setCell ⟨g,o,none⟩ v).heap[g]? =some (.cells (cs.setIfInBounds o v) el fr):=by
   simp only [World.setCell];rw [Array.getElem?_modify];simp [h]
  obtain ⟨l7,a,b,c⟩:=Bh r (o+1) _ _ h1 (by simp at hn ⊢;omega)
  refine ⟨l7,by rw [World.setCells];exact a,b.trans (by simp),fun k=> ?_⟩
  rw [c]
  by_cases hk:o+1≤k∧k<o+1+r.length
  · rw [if_pos hk,if_pos (by simp;omega),show k - o=k - (o+1)+1 by omega];simp
  · rw [if_neg hk]
    by_cases vd:k=o
    · subst vd
      rw [if_pos (by simp)]
      have:k<cs.size:=by simp at hn;omega
      rw [Array.getElem?_setIfInBounds];simp [this]
    · rw [if_neg (by simp;omega),Array.getElem?_setIfInBounds_ne (by omega)]
end
end Go.Eng
namespace Go.Eng
noncomputable section
def sv (r:Nat) (rows:T (List V)) (j:Nat):Option V:=(T.get (j / r) rows).bind (·[j % r]?)
def eC (r:Nat):Nat→Nat→List V→T (List V)→T (List V)
 |0,_,_,t=>t
 |k+1,i,vs,t=>eC r k (i+1) (vs.drop r) (T.set i (vs.take r) t)
theorem U1 {R:Type} (r k i:Nat) (vs:List V) (t:T (List V)) (c:T (List V)→R):
  gl r (k+1) i vs t c=gK (mD r vs) fun row=>T.dg i row t fun t=>gl r k (i+1) (hJ r vs) t c:=rfl
@[simp] theorem h6 {R:Type} (r k i:Nat) (vs:List V) (t:T (List V)) (c:T (List V)→R):gl r k i vs t c=c (eC r k i vs t):=by
  induction k generalizing i vs t with
  |zero=>rfl
  |succ k bm=>rw [U1];simp only [l4,T.h4,Bb,oZ,eC];exact bm _ _ _
theorem qb (r:Nat):∀(k i:Nat) (vs:List V) (t:T (List V)) (q:Nat),0≤i+k→0≤q→
  T.get q (eC r k i vs t)=if i≤q∧q<i+k then some ((vs.drop ((q - i) * r)).take r) else T.get q t
 |0,i,vs,t,q,_,_=>by rw [if_neg (by omega)];rfl
 |k+1,i,vs,t,q,hk,bB=>by
  rw [eC,qb r k (i+1) _ _ q (by omega) bB]
  by_cases h:i+1≤q∧q<i+1+k
  · rw [if_pos h,if_pos (by omega),List.drop_drop,show q - i=q - (i+1)+1 by omega,Nat.add_mul,Nat.one_mul,Nat.add_comm]
  · rw [if_neg h,T.eU bB (by omega)]
    by_cases h2:q=i
    · subst h2;simp
    · rw [if_neg h2,if_neg (by omega)]
theorem H0 {r k i:Nat} (hr:0<r) (vs:List V) (aD:vs.length=k * r) (t:T (List V)) (hk:0≤i+k) (j:Nat) (aR:0≤j):
  sv r (eC r k i vs t) j=if i * r≤j∧j<(i+k) * r then vs[j - i * r]? else sv r t j:=by
 have bB:0≤j / r:=Nat.zero_le _
 have Ea:=Nat.div_add_mod j r
 have rj:=Nat.mod_lt j hr
 unfold sv
 rw [qb r k i vs t _ hk bB]
 by_cases h:i≤j / r∧j / r<i+k
 · have h1:i * r≤j:=by have:=Nat.mul_le_mul_left r h.1;rw [Nat.mul_comm];omega
   have h2:j<(i+k) * r:=by
    have:=Nat.mul_le_mul_left r (show j / r+1≤i+k by omega)
    rw [Nat.mul_add] at this;rw [Nat.mul_comm];omega
   rw [if_pos h,if_pos ⟨h1,h2⟩]
   simp only [Option.bind_some]
   rw [List.getElem?_take_of_lt rj,List.getElem?_drop]
   congr 1
   have:r * (j / r)=r * i+r * (j / r - i):=by rw [←Nat.mul_add];congr 1;omega
   rw [Nat.mul_comm (j / r - i) r,Nat.mul_comm i r];omega
 · rw [if_neg h,if_neg]
   rintro ⟨h1,h2⟩
   apply h
   constructor
   · exact (Nat.le_div_iff_mul_le hr).2 h1
   · exact Nat.div_lt_of_lt_mul (by rw [Nat.mul_comm];exact h2)
def ve (r o n:Nat) (vs:List V) (rows:T (List V)):Option (T (List V)):=over none r o n vs rows some
theorem MD {R:Type} (d:R) (r o n:Nat) (vs:List V) (rows:T (List V)) (k:T (List V)→R):
  over d r o n vs rows k=match ve r o n vs rows with|none=>d|some t=>k t:=by
 unfold ve over
 cases (n.beq r&&(o.mod r).beq 0) with
 |true=>simp
 |false=>
  simp only [cond_false]
  cases ((o.mod r).add n).ble r with
  |true=>
   simp only [cond_true]
   cases T.get (o.div r) rows<;>simp
  |false=>
   simp only [cond_false]
   cases ((o.mod r).beq 0&&(n.mod r).beq 0)<;>simp
theorem ME {r o n size:Nat} {vs:List V} {rows rows':T (List V)} (hw:p9 r size rows) (aD:vs.length=n) (hn:o+n≤size) (vb:0<n) (h:ve r o n vs rows=some rows'):
  p9 r size rows'∧∀j,j<size→sv r rows' j=if o≤j∧j<o+n then vs[j - o]? else sv r rows j:=by
 obtain ⟨hr,ay,cF⟩:=hw
 have Ea:=Nat.div_add_mod o r
 have rj:=Nat.mod_lt o hr
 have H2:0≤o / r:=Nat.zero_le _
 have yY:o.mod r=o % r:=rfl
 have hdiv:o.div r=o / r:=rfl
 unfold ve over at h
 rw [yY,hdiv] at h
 simp only [h5,ew] at h
 have one:∀row:List V,row.length=r→(∀c,c<r→row[c]? =if o % r≤c∧c<o % r+n then vs[c - o % r]? else (T.get (o / r) rows).bind (·[c]?))→o % r+n≤r→
   p9 r size (T.set (o / r) row rows)∧∀j,j<size→sv r (T.set (o / r) row rows) j=if o≤j∧j<o+n then vs[j - o]? else sv r rows j:=by
  intro row hlen H3 hle
  have agq:(o / r+1) * r≤size∨¬(o / r+1) * r≤size:=by omega
  refine ⟨⟨hr,ay,fun i x ag hx=> ?_⟩,fun j aR=> ?_⟩
  · rw [T.eU ag H2] at hx
    by_cases he:i=o / r
    · rw [if_pos he] at hx;cases hx
      refine ⟨hlen, ?_⟩
      subst he
      by_cases Ec:n=r
      · have:o % r=0:=by omega
        rw [Nat.add_mul,Nat.one_mul,Nat.mul_comm];omega
      ·
       cases hg:T.get (o / r) rows with
       |some y=>exact (cF _ y ag hg).2
       |none=>
        exfalso
        by_cases h0:o % r=0
        · have H4:row[n]? =none:=by rw [H3 n (by omega),if_neg (by omega),hg];rfl
          rw [List.getElem?_eq_none_iff] at H4;omega
        · have H4:row[0]? =none:=by rw [H3 0 hr,if_neg (by omega),hg];rfl
          rw [List.getElem?_eq_none_iff] at H4;omega
    · rw [if_neg he] at hx;exact cF i x ag hx
  · have bB:0≤j / r:=Nat.zero_le _
    have MF:=Nat.div_add_mod j r
    have mH:=Nat.mod_lt j hr
    unfold sv
    rw [T.eU bB H2]
    by_cases he:j / r=o / r
    · rw [if_pos he]
      simp only [Option.bind_some]
      rw [H3 _ mH,he]
      have agr:r * (j / r)=r * (o / r):=by rw [he]
      by_cases av:o≤j∧j<o+n
      · rw [if_pos av,if_pos (by omega)];congr 1;omega
      · rw [if_neg av,if_neg (by omega)]
    · rw [if_neg he,if_neg]
      rintro ⟨h1,h2⟩
      apply he
      have:r * (o / r)≤j∧j<r * (o / r)+r:=by omega
      exact Nat.div_eq_of_lt_le (by rw [Nat.mul_comm];omega) (by rw [Nat.mul_comm,Nat.mul_add];omega)
 by_cases c1:n=r∧o % r=0
 · obtain ⟨rfl,ed⟩:=c1
   simp only [decide_true,ed,Bool.and_self,cond_true,l4,T.h4,Option.some.injEq] at h
   subst h
   exact one vs aD (fun c av=>by rw [if_pos (by omega),ed,Nat.sub_zero]) (by omega)
 · rw [show (decide (n=r)&&decide (o % r=0))=false by simpa using c1] at h
   simp only [cond_false] at h
   by_cases c2:o % r+n≤r
   · rw [show decide (Nat.add (o % r) n≤r)=true by simpa using c2] at h
     simp only [cond_true] at h
     cases hg:T.get (o / r) rows with
     |none=>simp [hg] at h
     |some row=>
      obtain ⟨hlen,H5⟩:=cF _ row H2 hg
      simp only [hg,l4,T.h4,Option.some.injEq] at h
      subst h
      have nB:=D5 (o % r) vs row (by omega)
      refine one _ (by rw [nB];simp;omega) (fun c av=> ?_) c2
      rw [nB]
      by_cases h1:c<o % r
      · rw [if_neg (by omega),List.append_assoc,List.getElem?_append_left (by simp;omega),List.getElem?_take_of_lt h1,hg];rfl
      · by_cases h2:c<o % r+n
        · rw [if_pos (by omega),List.append_assoc,List.getElem?_append_right (by simp;omega),List.getElem?_append_left (by simp;omega)]
          congr 1;simp;omega
        · rw [if_neg (by omega),List.getElem?_append_right (by simp;omega),List.getElem?_drop]
          rw [hg,Option.bind_some];congr 1;simp;omega
   · rw [show decide (Nat.add (o % r) n≤r)=false by simpa using c2] at h
     simp only [cond_false] at h
     have Bd:n.mod r=n % r:=rfl
     have vc:n.div r=n / r:=rfl
     rw [Bd,vc] at h
     by_cases cG:o % r=0∧n % r=0
     · obtain ⟨cG,dm⟩:=cG
       simp only [cG,dm,decide_true,Bool.and_self,cond_true,h6,Option.some.injEq] at h
       subst h
       have UX:=Nat.div_add_mod n r
       have wQ:0≤o / r+n / r:=Nat.zero_le _
       have hlen:vs.length=n / r * r:=by rw [Nat.mul_comm];omega
       have aS:o / r * r=o:=by rw [Nat.mul_comm];omega
       have bl:(o / r+n / r) * r=o+n:=by rw [Nat.mul_comm,Nat.mul_add];omega
       refine ⟨⟨hr,ay,fun i x ag hx=> ?_⟩,fun j aR=> ?_⟩
       · rw [qb r _ _ _ _ _ wQ ag] at hx
         by_cases av:o / r≤i∧i<o / r+n / r
         · rw [if_pos av] at hx
           cases hx
           have a6:(i - o / r+1) * r≤n / r * r:=Nat.mul_le_mul_right r (by omega)
           rw [Nat.add_mul,Nat.one_mul] at a6
           refine ⟨by simp;omega, ?_⟩
           have cc:(i+1) * r≤(o / r+n / r) * r:=Nat.mul_le_mul_right r (by omega)
           omega
         · rw [if_neg av] at hx;exact cF i x ag hx
       · rw [H0 hr vs hlen rows wQ j (by omega),aS,bl]
     · rw [show (decide (o % r=0)&&decide (n % r=0))=false by simpa using cG] at h
       simp at h
end
end Go.Eng
namespace Go.Eng
noncomputable section
def tK (br ag m:Nat) (h:ae):ae:=sj br ag m h id
@[simp] theorem qc {R:Type} (h:ae) (b:Nat) (o:Obj) (k:ae→R):h.jw b o k=k ⟨T.set b o h.t,h.next,h.bA,h.ds,h.bO⟩:=by simp [ae.jw]
theorem U2 {R:Type} (br ag m:Nat) (h:ae) (k:ae→R):sj br ag m h k=k (tK br ag m h):=by
 unfold tK sj Obj.cells?
 cases h.obj m with
 |none=>rfl
 |some aG=>cases aG with
  |cells r f a n t=>dsimp only;cases (a.blt ag&&br.blt (Nat.add a n))<;>simp
  |_=>rfl
def ku (br ag but:Nat):List Nat→ae→ae
 |[],h=>h
 |m::l,h=>ku br ag but l (if m=but then h else tK br ag m h)
theorem MG {R:Type} (br ag but m:Nat) (l:List Nat) (h:ae) (k:ae→R):
  sk br ag but (m::l) h k=Bool.rec (sj br ag m h fun h=>sk br ag but l h k) (sk br ag but l h k) (m.beq but):=rfl
theorem MH {R:Type} (br ag but:Nat) (l:List Nat) (h:ae) (k:ae→R):sk br ag but l h k=k (ku br ag but l h):=by
 induction l generalizing h with
 |nil=>rfl
 |cons m l bm=>
  rw [MG,h5,ku]
  by_cases e:m=but
  · simp only [e,decide_true,if_true];exact bm _
  · simp only [e,decide_false,if_false,U2];exact bm _
structure lr (h ax:ae):Prop where
 next:ax.next=h.next
 bA:ax.bA=h.bA
 ds:ax.ds=h.ds
 bO:ax.bO=h.bO
 at_:∀b,0≤b→T.get b ax.t=T.get b h.t∨(T.get b ax.t=some .dead∧T.get b h.t≠none)
theorem lr.refl (h:ae):lr h h:=⟨rfl,rfl,rfl,rfl,fun _ _=> .inl rfl⟩
theorem lr.trans {a b c:ae} (x:lr a b) (y:lr b c):lr a c:=
 ⟨y.next.trans x.next,y.bA.trans x.bA,y.ds.trans x.ds,y.bO.trans x.bO,fun i ag=>by
   rcases y.at_ i ag with h|⟨h,hn⟩
   · rw [h];exact x.at_ i ag
   · refine .inr ⟨h,fun e=>hn ?_⟩
     rcases x.at_ i ag with h2|⟨h2,a6⟩
     · rw [h2,e]
     · exact absurd e a6⟩
theorem U3 (br ag m:Nat) (h:ae) (hm:0≤m):lr h (tK br ag m h)∧
  (∀r f a n t,T.get m h.t=some (.cells r f a n t)→a<ag→br<a+n→T.get m (tK br ag m h).t=some .dead):=by
 unfold tK sj Obj.cells? ae.obj
 cases hg:T.get m h.t with
 |none=>exact ⟨lr.refl h,fun r f a n t e=>by cases e⟩
 |some aG=>
  cases aG with
  |cells r f a n t=>
   simp only
   cases hb:(a.blt ag&&br.blt (Nat.add a n)) with
   |false=>
    refine ⟨lr.refl h,fun dt c5 bf fy gW e h1 h2=> ?_⟩
    cases e
    have y0:br<Nat.add a n:=h2
    simp only [fY,Bool.and_eq_false_iff,decide_eq_false_iff_not] at hb
    rcases hb with hb|hb
    · exact absurd h1 hb
    · exact absurd y0 hb
   |true=>
    simp only [qc,id]
    refine ⟨⟨rfl,rfl,rfl,rfl,fun b ec=> ?_⟩,fun _ _ _ _ _ _ _ _=>T.yT _ _ _⟩
    rw [T.eU ec hm]
    by_cases e:b=m
    · right;subst e;simp [hg]
    · left;rw [if_neg e]
  |_=>exact ⟨lr.refl h,fun r f a n t e=>by cases e⟩
theorem y1 (br ag but:Nat):∀(l:List Nat) (h:ae),(∀m∈l,0≤m)→lr h (ku br ag but l h)∧
  (∀m,m∈l→m≠but→∀r f a n t,T.get m h.t=some (.cells r f a n t)→a<ag→br<a+n→T.get m (ku br ag but l h).t=some .dead)∧
  T.get but (ku br ag but l h).t=T.get but h.t∨¬0≤but
 |[],h,_=> .inl ⟨lr.refl h,fun m hm=>by simp at hm,rfl⟩
 |m::l,h,ar=>by
  by_cases Ed:0≤but
  case neg=>exact .inr Ed
  left
  rw [ku]
  by_cases e:m=but
  · rw [if_pos e]
    rcases y1 br ag but l h (fun x hx=>ar x (by simp [hx])) with ⟨h1,h2,a6⟩|cc
    · exact ⟨h1,fun x hx bG=>h2 x (by simp at hx;rcases hx with rfl|hx;exact absurd e bG;exact hx) bG,a6⟩
    · exact absurd Ed cc
  · rw [if_neg e]
    have hm:=ar m (by simp)
    obtain ⟨cu,cB⟩:=U3 br ag m h hm
    rcases y1 br ag but l (tK br ag m h) (fun x hx=>ar x (by simp [hx])) with ⟨h1,h2,a6⟩|cc
    · refine ⟨cu.trans h1,fun x hx bG r f a n t hg ha hb=> ?_, ?_⟩
      · by_cases MI:x=m
        · subst MI
          have:=cB r f a n t hg ha hb
          rcases h1.at_ x hm with fA|⟨fA,_⟩
          · rw [fA,this]
          · exact fA
        · have wR:x∈l:=by simp at hx;rcases hx with hx|hx;exact absurd hx MI;exact hx
          have h7:=ar x (by simp [wR])
          rcases cu.at_ x h7 with fA|⟨fA,_⟩
          · exact h2 x wR bG r f a n t (by rw [fA,hg]) ha hb
          · rcases h1.at_ x h7 with kt|⟨kt,_⟩
            · rw [kt,fA]
            · exact kt
      · rw [a6]
        unfold tK sj Obj.cells? ae.obj
        cases hg:T.get m h.t with
        |none=>rfl
        |some aG=>
         cases aG with
         |cells r f a n t=>
          simp only
          cases (a.blt ag&&br.blt (Nat.add a n)) with
          |false=>rfl
          |true=>simp only [qc,id];rw [T.eU Ed hm,if_neg (fun x=>e x.symm)]
         |_=>rfl
    · exact absurd Ed cc
def kv (h:ae) (f br ag but:Nat):ae:=match T.get f h.bA with|none=>h|some F=>ku br ag but F.mem h
theorem H6 {R:Type} (h:ae) (f br ag but:Nat) (k:ae→R):h.q7 f br ag but k=k (kv h f br ag but):=by
 unfold ae.q7 kv
 cases T.get f h.bA with
 |none=>rfl
 |some F=>exact MH _ _ _ _ _ _
def nC (h:ae) (b o n:Nat) (vs:List V):Option ae:=
 if n=0 then some h else if b<8 then none else match T.get b h.t with
  |some (.box row)=>if o+n≤row.length then some ⟨T.set b (.box (gL o vs row)) h.t,h.next,h.bA,h.ds,h.bO⟩ else none
  |some (.cells r f ap bk rows)=>if o+n≤bk then match ve r o n vs rows with
   |none=>none
   |some rows=>some ⟨T.set b (.cells r f ap bk rows) (kv h f (ap+o) (ap+o+n) b).t,h.next,h.bA,h.ds,h.bO⟩ else none
  |_=>none
theorem Ee (h:ae) (f br ag but:Nat) (hm:∀F m,T.get f h.bA=some F→m∈F.mem→0≤m) (hb:0≤but):lr h (kv h f br ag but)∧
  (∀F m,T.get f h.bA=some F→m∈F.mem→m≠but→∀r c5 a n t,T.get m h.t=some (.cells r c5 a n t)→a<ag→br<a+n→T.get m (kv h f br ag but).t=some .dead):=by
 cases hf:T.get f h.bA with
 |none=>
  have hk:kv h f br ag but=h:=by unfold kv;rw [hf]
  rw [hk];exact ⟨lr.refl h,fun F m e=>by cases e⟩
 |some F=>
  have hk:kv h f br ag but=ku br ag but F.mem h:=by unfold kv;rw [hf]
  rcases y1 br ag but F.mem h (fun m o2=>hm F m hf o2) with ⟨h1,h2,_⟩|cc
  · refine ⟨hk▸h1,fun F' m e o2 bG r c5 a n t hg ha ec=> ?_⟩
    cases e
    have:=h2 m o2 bG r c5 a n t hg ha ec
    rw [←hk] at this;exact this
  · exact absurd hb cc
theorem y2 {R:Type} (h:ae) (b o n:Nat) (vs:List V) (d:R) (k:ae→R)
  (hm:∀f F m,T.get f h.bA=some F→m∈F.mem→0≤m) (hb:0≤b):
  h.dB b o n vs d k=match nC h b o n vs with|none=>d|some ax=>k ax:=by
 unfold ae.dB nC
 rw [h5]
 by_cases hn:n=0
 · simp [hn]
 · by_cases fB:b<8
   · simp [hn,fB,fY]
   simp only [hn,fB,fY,decide_false,cond_false,if_false,ae.obj]
   cases hg:T.get b h.t with
   |none=>rfl
   |some aG=>
    cases aG with
    |dead=>rfl
    |map es c=>rfl
    |box row=>
     show (bif (Nat.add o n).ble (cI row) then _ else _)=_
     rw [ew,kX]
     by_cases av:o+n≤row.length
     · have:decide (Nat.add o n≤row.length)=true:=by simpa using av
       rw [this];simp [av]
     · have:decide (Nat.add o n≤row.length)=false:=by simpa using av
       rw [this];simp [av]
    |cells r f ap bk rows=>
     show (bif (Nat.add o n).ble bk then _ else _)=_
     rw [ew]
     by_cases av:o+n≤bk
     · have:decide (Nat.add o n≤bk)=true:=by simpa using av
       rw [this]
       show over d r o n vs rows (fun rows=>h.q7 f (Nat.add ap o) (Nat.add (Nat.add ap o) n) b fun h=>h.jw b (.cells r f ap bk rows) k)=_
       rw [MD]
       simp only [av,if_true]
       cases ve r o n vs rows with
       |none=>rfl
       |some rows'=>
        simp only [H6,qc]
        have:=(Ee h f (ap+o) (ap+o+n) b (hm f) hb).1
        show k ⟨_,(kv h f (ap+o) (ap+o+n) b).next,(kv h f (ap+o) (ap+o+n) b).bA,(kv h f (ap+o) (ap+o+n) b).ds,(kv h f (ap+o) (ap+o+n) b).bO⟩=_
        rw [this.next,this.bA,this.ds,this.bO];rfl
     · have:decide (Nat.add o n≤bk)=false:=by simpa using av
       rw [this];simp [av]
end
end Go.Eng
namespace Go.Eng
noncomputable section
theorem vf {r f a n j:Nat} {t:T (List V)}:cellOf (.cells r f a n t) j=if j<n then sv r t j else none:=rfl
theorem MJ {o:Obj} (h:o.isCells=true):Bc o=o.hT:=by
 cases o<;>first|rfl|cases h
theorem H7 {h ax:ae} {b o n:Nat} {vs:List V} (hn:n≠0) (ay:nC h b o n vs=some ax) (aD:vs.length=n) (hb:0≤b)
  (hm:∀f F m,T.get f h.bA=some F→m∈F.mem→0≤m):
  ∃aG kx h1,T.get b h.t=some aG∧aG.isCells=true∧kx.isCells=true∧kx.hT=aG.hT∧lr h h1∧ax=⟨T.set b kx h1.t,h.next,h.bA,h.ds,h.bO⟩∧o+n≤nz aG∧nz kx=nz aG∧
   (∀B m,HY B aG m→HY B kx m)∧
   (Eb aG→∀j,cellOf kx j=if o≤j∧j<o+n then vs[j - o]? else cellOf aG j)∧
   (aG.hT=true∨∃r f ap bk rows,aG= .cells r f ap bk rows∧∀F m,T.get f h.bA=some F→m∈F.mem→m≠b→∀dt c5 bf fy gW,T.get m h.t=some (.cells dt c5 bf fy gW)→bf<ap+o+n→ap+o<bf+fy→T.get m h1.t=some .dead):=by
 unfold nC at ay
 by_cases fB:b<8
 · rw [if_neg hn,if_pos fB] at ay;cases ay
 rw [if_neg hn,if_neg fB] at ay
 cases hg:T.get b h.t with
 |none=>simp [hg] at ay
 |some aG=>
  cases aG with
  |dead=>simp [hg] at ay
  |map es c=>simp [hg] at ay
  |box row=>
   simp only [hg] at ay
   by_cases av:o+n≤row.length
   · rw [if_pos av] at ay
     cases ay
     have nB:=D5 o vs row (by omega)
     refine ⟨.box row, .box (gL o vs row),h,rfl,rfl,rfl,rfl,lr.refl h,rfl,av, ?_,fun _ _ _=>trivial,fun _ j=> ?_, .inl rfl⟩
     · rw [nB];simp [nz];omega
     · simp only [cellOf]
       rw [nB]
       by_cases h1:j<o
       · rw [if_neg (by omega),List.append_assoc,List.getElem?_append_left (by simp;omega),List.getElem?_take_of_lt h1]
       · by_cases h2:j<o+n
         · rw [if_pos (by omega),List.append_assoc,List.getElem?_append_right (by simp;omega),List.getElem?_append_left (by simp;omega)]
           congr 1;simp;omega
         · rw [if_neg (by omega),List.getElem?_append_right (by simp;omega),List.getElem?_drop]
           congr 1;simp;omega
   · rw [if_neg av] at ay;cases ay
  |cells r f ap bk rows=>
   simp only [hg] at ay
   by_cases av:o+n≤bk
   · rw [if_pos av] at ay
     cases nB:ve r o n vs rows with
     |none=>simp [nB] at ay
     |some rows'=>
      simp only [nB,Option.some.injEq] at ay
      subst ay
      obtain ⟨cu,cB⟩:=Ee h f (ap+o) (ap+o+n) b (hm f) hb
      refine ⟨.cells r f ap bk rows, .cells r f ap bk rows',kv h f (ap+o) (ap+o+n) b,rfl,rfl,rfl,rfl,cu,rfl,av,rfl, ?_, ?_, .inr ⟨r,f,ap,bk,rows,rfl, ?_⟩⟩
      · intro B m eD
        obtain ⟨a1,a2,a3,a4,a5⟩:=eD
        exact ⟨a1,a2,a3,a4,(ME a5 aD av (by omega) nB).1⟩
      · intro hw j
        obtain ⟨ff,eQ⟩:=ME hw aD av (by omega) nB
        rw [vf,vf]
        by_cases aR:j<bk
        · rw [if_pos aR,if_pos aR,eQ j aR]
        · rw [if_neg aR,if_neg aR,if_neg (by omega)]
      · intro F m b1 o3 bG dt c5 bf fy gW U4 ha ec
        exact cB F m b1 o3 bG dt c5 bf fy gW U4 ha (by omega)
   · rw [if_neg av] at ay;cases ay
theorem MK {h ax:ae} {b o n:Nat} {vs:List V} (hn:n≠0) (ay:nC h b o n vs=some ax):8≤b:=by
 unfold nC at ay
 by_cases fB:b<8
 · rw [if_neg hn,if_pos fB] at ay;cases ay
 · omega
theorem Ef {h ax:ae} {b o:Nat} {vs:List V} (ay:nC h b o 0 vs=some ax):ax=h:=by
 simp [nC] at ay;exact ay.symm
theorem Good.rk {ι:aY} {h:ae} {w:World} (g:Good ι h w):∀f F m,T.get f h.bA=some F→m∈F.mem→0≤m:=
 fun _ _ _ _ _=>Nat.zero_le _
theorem Bi {P:Program} {ι:aY} {h ax:ae} {w:World} (g:Good ι h w) {b:Nat} {B:fk} (bN:ι b=some B) {o n:Nat} {vs:List V} {xs:List Value}
  (ay:nC h b o n vs=some ax) (aD:vs.length=n) (hx:ch ι vs xs) (h1:∀x∈xs,x.oneCell'=true):
  ∃w',(storeCells ⟨B.c,B.off+o,none⟩ xs).run P w= .ok () w'∧Good ι ax w'∧ri ι h w w'∧ax.next=h.next∧ax.bA=h.bA∧ax.ds=h.ds∧ax.bO=h.bO:=by
 by_cases hn:n=0
 · subst hn
   cases Ef ay
   have:xs=[]:=by have:=hx.length;rw [aD] at this;exact List.eq_nil_of_length_eq_zero this
   subst this
   exact ⟨w,rfl,g,ri.refl _ _ _,rfl,rfl,rfl,rfl⟩
 have hlen:xs.length=n:=hx.length.trans aD
 have hb:=g.small b (by simp [bN])
 obtain ⟨aG,kx,ji,dj,jj,Eg,Eh,y3,rfl,hle,dC,H8,hcell,hk⟩:=H7 hn ay aD hb g.rk
 have de:=g.kY b hb (by simp [dj])
 have hr:=(g.obj b B aG bN dj de).cells jj
 have o1:=hr.wf
 obtain ⟨cs,el,fr,aS,bl,df,fZ,gx,jY⟩:=hr
 have cF:=Bh xs (B.off+o) w cs aS (by omega)
 obtain ⟨l7,c1,c2,cG⟩:=cF
 have kZ:=Bg B.c xs (B.off+o) w
 have Bj:=Bf (g:=B.c) xs (B.off+o) w
 refine ⟨w.setCells B.c (B.off+o) xs, ?_, ?_, ?_,rfl,rfl,rfl,rfl⟩
 · have:=run_storeCells_cells (P:=P) B.c (B.off+o) xs 0 w (fun j aR=> ?_) (fun j aR=> ?_) h1
   · simpa using this
   · simp only [World.cell?,aS,Option.isSome_none,Bool.false_eq_true,if_false]
     rw [Array.getElem?_eq_getElem (by omega)];rfl
   · have e2:=bl.at_ (k:=B.off+o+(0+j)) (by omega) (by omega) (by omega)
     simp only [World.frozen?,aS]
     simp;omega
 ·
  have U5:∀bL aZ eP,ι bL=some aZ→T.get bL (T.set b kx ji.t)=some eP→bL<h.next→mF ι aZ eP (w.setCells B.c (B.off+o) xs):=by
   intro bL aZ eP dJ cJ tL
   have ec:=g.small bL (by simp [dJ])
   rw [T.eU ec hb] at cJ
   by_cases l8:bL=b
   · subst l8
     rw [if_pos rfl] at cJ
     cases cJ
     rw [bN] at dJ;cases dJ
     have:yX ι B kx (w.setCells B.c (B.off+o) xs):=by
      refine ⟨l7,el,fr,c1,by rw [c2];exact bl.US ((MJ Eg).trans (Eh.trans (MJ jj).symm)) dC,df.trans dC.symm,by rw [dC,c2];exact fZ,by rw [c2];exact H8 _ _ gx,fun j v aR=> ?_⟩
      rw [hcell o1 j] at aR
      rw [cG]
      by_cases av:o≤j∧j<o+n
      · rw [if_pos av] at aR
        obtain ⟨x,Ei,U6⟩:=hx.get aR
        refine ⟨x, ?_,h1 x (List.mem_of_getElem? Ei),U6⟩
        rw [if_pos (by omega),show B.off+j - (B.off+o)=j - o by omega];exact Ei
      · rw [if_neg av] at aR
        rw [if_neg (by omega)]
        exact jY j v aR
     cases kx<;>first|exact this|simp [Obj.isCells] at Eg
   · rw [if_neg l8] at cJ
     rcases y3.at_ bL ec with eL|⟨eL,_⟩
     · rw [eL] at cJ
       have Bk:=g.obj bL aZ eP dJ cJ tL
       by_cases qd:aZ.c=B.c
       ·
        obtain ⟨jx,Bl⟩:=g.same bL aZ b B dJ bN tL de (MK hn ay) qd l8
        have f1:=g.cO b B bN de
        have f2:=g.cO bL aZ dJ tL
        rcases hk with hk|⟨r,f,ap,bk,rows,rfl,hk⟩
        · have:=g.hT b B aG bN dj de hk
          rw [this] at f1
          rw [jx,this] at f2
          exact absurd (f2.symm.trans f1) l8
        · obtain ⟨s1,s2,fw,iG,jS⟩:=gx
          cases b1:T.get B.cO h.bA with
          |none=>
           rw [b1] at f1;rw [jx,b1] at f2
           exact absurd (f2.symm.trans f1) l8
          |some F=>
           rw [jx,b1] at f2
           by_cases jk:eP.hT=true
           · have:=g.hT bL aZ eP dJ cJ tL jk
             rw [jx,b1] at this;cases this
           · cases eP with
             |box row=>simp [Obj.hT] at jk
             |map es c=>simp [Obj.hT] at jk
             |dead=>trivial
             |cells dt c5 bf fy gW=>
              have e2:¬(bf<ap+o+n∧ap+o<bf+fy):=by
               rintro ⟨p1,tM⟩
               have:=hk F bL (by rw [←s2];exact b1) f2 l8 dt c5 bf fy gW cJ p1 tM
               rw [eL,cJ] at this;cases this
              obtain ⟨U7,U8,U9,d1,d2,d3,d4,d5,d6⟩:=Bk
              rw [qd,aS] at d1;cases d1
              have ags:aZ.jT=bf:=d5.2.2.1
              refine ⟨l7,el,fr,by rw [qd];exact c1,by rw [c2];exact d2,d3,by rw [c2];exact d4,by rw [c2];exact d5,fun j v aR=> ?_⟩
              have l6:j<fy:=by
               rw [vf] at aR
               by_cases bQ:j<fy
               · exact bQ
               · rw [if_neg bQ] at aR;cases aR
              rw [cG,if_neg (by omega)]
              exact d6 j v aR
       · exact Bk.world (Bj _ qd)
     · rw [eL] at cJ;cases cJ;trivial
  refine ⟨U5,fun bL aZ dJ=>by rw [kZ.2.2.2];exact g.kr bL aZ dJ,g.same,g.cO, ?_, ?_,g.mem,g.lim, ?_,g.small,g.tJ,g.od⟩
  · intro bL aZ F eP dJ tL b1 cJ ML
    have ec:=g.small bL (by simp [dJ])
    rw [show (⟨T.set b kx ji.t,h.next,h.bA,h.ds,h.bO⟩:ae).t=T.set b kx ji.t from rfl,T.eU ec hb] at cJ
    by_cases l8:bL=b
    · subst l8
      exact g.last bL aZ F aG dJ tL b1 dj jj
    · rw [if_neg l8] at cJ
      rcases y3.at_ bL ec with eL|⟨eL,_⟩
      · rw [eL] at cJ;exact g.last bL aZ F eP dJ tL b1 cJ ML
      · rw [eL] at cJ;cases cJ;simp [Obj.isCells] at ML
  · intro bL aZ eP dJ cJ tL jk
    have ec:=g.small bL (by simp [dJ])
    rw [show (⟨T.set b kx ji.t,h.next,h.bA,h.ds,h.bO⟩:ae).t=T.set b kx ji.t from rfl,T.eU ec hb] at cJ
    by_cases l8:bL=b
    · subst l8
      rw [if_pos rfl] at cJ;cases cJ
      exact g.hT bL aZ aG dJ dj de (Eh▸jk)
    · rw [if_neg l8] at cJ
      rcases y3.at_ bL ec with eL|⟨eL,_⟩
      · rw [eL] at cJ;exact g.hT bL aZ eP dJ cJ tL jk
      · rw [eL] at cJ;cases cJ;simp [Obj.hT] at jk
  · intro bL ec bG
    rw [show (⟨T.set b kx ji.t,h.next,h.bA,h.ds,h.bO⟩:ae).t=T.set b kx ji.t from rfl,T.eU ec hb] at bG
    by_cases l8:bL=b
    · subst l8;exact de
    · rw [if_neg l8] at bG
      rcases y3.at_ bL ec with eL|⟨eL,Bm⟩
      · rw [eL] at bG;exact g.kY bL ec bG
      · exact g.kY bL ec Bm
 · refine ⟨fun c av e2=>Bj c (fun e=>e2 b B bN (MK hn ay) de e.symm),by rw [kZ.2.2.2];exact Nat.le_refl _,kZ.2.1,kZ.1,kZ.2.2.1⟩
end
end Go.Eng
namespace Go.Eng
noncomputable section
def aY.put (ι:aY) (n:Nat) (B:fk):aY:=fun b=>if b=n then some B else ι b
theorem aY.y4 {ι:aY} {n:Nat} {B:fk} (h:ι n=none):ι.le (ι.put n B):=by
 intro b aZ hb
 unfold aY.put
 by_cases e:b=n
 · subst e;rw [h] at hb;cases hb
 · rw [if_neg e];exact hb
@[simp] theorem aY.gB (ι:aY) (n:Nat) (B:fk):ι.put n B n=some B:=by simp [aY.put]
theorem aY.qe {ι:aY} {n b:Nat} {B:fk} (h:b≠n):ι.put n B b=ι b:=by simp [aY.put,h]
def ae.add (h:ae) (o:Obj):ae:=⟨T.set h.next o h.t,h.next+1,h.bA,h.ds,h.bO⟩
@[simp] theorem nD {R:Type} (h:ae) (o:Obj) (k:ae→R):h.kq o k=k (h.add o):=by simp [ae.kq,ae.add]
theorem Ext.put {h ax:ae} {ι:aY} {B:fk} (hf:ι h.next=none) (hn:ax.next=h.next+1):Ext h ax ι (ι.put h.next B):=by
 refine ⟨aY.y4 hf,by omega,fun b h1 h2=> ?_⟩
 by_cases e:b=h.next
 · omega
 · rw [aY.qe e] at h2;exact absurd h1 h2
theorem Va {ι:aY} {h:ae} {w w':World} (g:Good ι h w) (hf:ι h.next=none) (ar:0≤h.next) {o:Obj} {B:fk}
  (av:B.c=w.heap.size) (jx:B.cO=h.next) (hw:∀c,c<w.heap.size→w'.heap[c]? =w.heap[c]?) (ay:w'.heap.size=w.heap.size+1)
  (bd:mF ι B o w'):Good (ι.put h.next B) (h.add o) w':=by
 have hle:=aY.y4 (B:=B) hf
 have H9:T.get h.next h.bA=none:=by
  cases e:T.get h.next h.bA with
  |none=>rfl
  |some F=>have:=g.tJ h.next ar (by simp [e]);omega
 have old:∀b aZ,ι.put h.next B b=some aZ→b≠h.next→ι b=some aZ:=fun b aZ hb bG=>by rwa [aY.qe bG] at hb
 refine ⟨?_, ?_, ?_, ?_, ?_, ?_, ?_, ?_, ?_, ?_, ?_, ?_⟩
 · intro b aZ eP hb cJ de
   have ec:0≤b:=by have:b<h.next+1:=de;omega
   rw [show (h.add o).t=T.set h.next o h.t from rfl,T.eU ec ar] at cJ
   by_cases e:b=h.next
   · subst e
     rw [if_pos rfl] at cJ;cases cJ
     rw [aY.gB] at hb;cases hb
     exact bd.mono hle
   · rw [if_neg e] at cJ
     have du:=old b aZ hb e
     have fg:b<h.next:=by have:b<h.next+1:=de;omega
     exact ((g.obj b aZ eP du cJ fg).world (hw _ (g.kr b aZ du))).mono hle
 · intro b aZ hb
   by_cases e:b=h.next
   · subst e;rw [aY.gB] at hb;cases hb;omega
   · have:=g.kr b aZ (old b aZ hb e);omega
 · intro b jZ bL lu hb ec de fg fB qd bG
   by_cases e:b=h.next
   · subst e
     rw [aY.gB] at hb;cases hb
     have:=g.kr bL lu (old bL lu ec (Ne.symm bG));omega
   · by_cases bF:bL=h.next
     · subst bF
       rw [aY.gB] at ec;cases ec
       have:=g.kr b jZ (old b jZ hb e);omega
     · exact g.same b jZ bL lu (old b jZ hb e) (old bL lu ec bF) (by have:b<h.next+1:=de;omega) (by have:bL<h.next+1:=fg;omega) fB qd bG
 · intro b aZ hb de
   by_cases e:b=h.next
   · subst e;rw [aY.gB] at hb;cases hb
     show match T.get B.cO h.bA with|none=>_|some F=>_
     rw [jx,H9]
   · exact g.cO b aZ (old b aZ hb e) (by have:b<h.next+1:=de;omega)
 · intro b aZ F eP hb de b1 cJ jj
   have du:0≤b:=by have:b<h.next+1:=de;omega
   rw [show (h.add o).t=T.set h.next o h.t from rfl,T.eU du ar] at cJ
   by_cases e:b=h.next
   · subst e;rw [aY.gB] at hb;cases hb
     rw [show (h.add o).bA=h.bA from rfl,jx,H9] at b1;cases b1
   · rw [if_neg e] at cJ
     exact g.last b aZ F eP (old b aZ hb e) (by have:b<h.next+1:=de;omega) b1 cJ jj
 · intro b aZ eP hb cJ de jk
   have du:0≤b:=by have:b<h.next+1:=de;omega
   rw [show (h.add o).t=T.set h.next o h.t from rfl,T.eU du ar] at cJ
   by_cases e:b=h.next
   · subst e;rw [aY.gB] at hb;cases hb
     show T.get B.cO h.bA=none
     rw [jx,H9]
   · rw [if_neg e] at cJ
     exact g.hT b aZ eP (old b aZ hb e) cJ (by have:b<h.next+1:=de;omega) jk
 · intro f F b b1 hb
   have:=g.mem f F b b1 hb
   show b<h.next+1;omega
 · show 8≤h.next+1;have:=g.lim;omega
 · intro b du bG
   show b<h.next+1
   rw [show (h.add o).t=T.set h.next o h.t from rfl,T.eU du ar] at bG
   by_cases e:b=h.next
   · omega
   · rw [if_neg e] at bG
     have:=g.kY b du bG;omega
 · intro b bG
   by_cases e:b=h.next
   · omega
   · rw [aY.qe e] at bG;exact g.small b bG
 · intro f mI bG
   have:=g.tJ f mI bG
   show f<h.next+1;omega
 · intro b aZ hb de
   show aZ.cO<h.next+1
   by_cases e:b=h.next
   · subst e;rw [aY.gB] at hb;cases hb;omega
   · have:=g.od b aZ (old b aZ hb e) (by have:b<h.next+1:=de;omega);omega
theorem ri.push {ι:aY} {h:ae} {w w':World} (hw:∀c,c<w.heap.size→w'.heap[c]? =w.heap[c]?) (ay:w.heap.size≤w'.heap.size)
  (ht:w'.tape=w.tape) (bd:w'.os=w.os) (hu:w'.output=w.output):ri ι h w w':=⟨fun c av _=>hw c av,ay,ht,bd,hu⟩
def iH (h:ae) (b f ap bk e top:Nat):ae:=
 match T.get f h.bA with
 |none=>let h1:ae:=if e<ap+bk then ⟨T.set b .dead h.t,h.next,h.bA,h.ds,h.bO⟩ else h
        ⟨h1.t,h.next,T.set f ⟨top,[h.next,b]⟩ h.bA,h.ds,h.bO⟩
 |some F=>let h1:=if F.last≤e then h else ku e (F.last+top) h.next F.mem h
          ⟨h1.t,h.next,T.set f ⟨top,h.next::F.mem⟩ h.bA,h.ds,h.bO⟩
@[simp] theorem wS {R:Type} (h:ae) (f top:Nat) (l:List Nat) (k:ae→R):lq h f top l k=k ⟨h.t,h.next,T.set f ⟨top,l⟩ h.bA,h.ds,h.bO⟩:=by simp [lq]
theorem MM {R:Type} (h:ae) (b f ap bk e top:Nat) (k:ae→R) (hm:∀F m,T.get f h.bA=some F→m∈F.mem→0≤m) (hn:0≤h.next):
  grown h b f ap bk e top k=k (iH h b f ap bk e top):=by
 unfold grown iH
 cases b1:T.get f h.bA with
 |none=>
  show (Bool.rec (lq h f top [h.next,b] k) (h.jw b .dead fun h=>lq h f top [h.next,b] k) (e.blt (Nat.add ap bk)):R)=_
  rw [fY]
  by_cases c:e<ap+bk
  · have:decide (e<Nat.add ap bk)=true:=by simpa using c
    rw [this];simp [c]
  · have:decide (e<Nat.add ap bk)=false:=by simpa using c
    rw [this];simp [c]
 |some F=>
  show (Bool.rec (sk e (Nat.add (gV.last F) top) h.next (gV.mem F) h fun h=>lq h f top (h.next::gV.mem F) k) (lq h f top (h.next::gV.mem F) k) ((gV.last F).ble e):R)=_
  rw [ew]
  by_cases c:F.last≤e
  · have:decide (F.last≤e)=true:=by simpa using c
    rw [this];simp [c]
  · have:decide (F.last≤e)=false:=by simpa using c
    rw [this]
    simp only [MH,wS,c,if_false]
    rcases y1 e (F.last+top) h.next F.mem h (fun m o2=>hm F m b1 o2) with ⟨h1,_⟩|cc
    · show k ⟨_,(ku e (F.last+top) h.next F.mem h).next,T.set f ⟨top,(ku e (F.last+top) h.next F.mem h).next::F.mem⟩ (ku e (F.last+top) h.next F.mem h).bA,(ku e (F.last+top) h.next F.mem h).ds,(ku e (F.last+top) h.next F.mem h).bO⟩=_
      rw [h1.next,h1.bA,h1.ds,h1.bO];rfl
    · exact absurd hn cc
end
end Go.Eng
namespace Go.Eng
noncomputable section
structure MN (ι:aY) (h hg:ae) (f e top:Nat):Prop where
 next:hg.next=h.next
 ds:hg.ds=h.ds
 bO:hg.bO=h.bO
 at_:∀i,0≤i→T.get i hg.t=T.get i h.t∨(T.get i hg.t=some .dead∧T.get i h.t≠none)
 bA:∃l,hg.bA=T.set f ⟨top,h.next::l⟩ h.bA∧(∀x∈l,x<h.next)∧∀b B,ι b=some B→b<h.next→B.cO=f→b∈l
 MO:∀b B o,ι b=some B→b<h.next→B.cO=f→T.get b h.t=some o→o.hT=false
 upto:∀b B o,ι b=some B→b<h.next→B.cO=f→T.get b hg.t=some o→o.isCells=true→B.jT+B.n≤e
theorem Ia {ι:aY} {h:ae} {w:World} (g:Good ι h w) {b:Nat} {B:fk} (bN:ι b=some B) (de:b<h.next) {r f ap bk:Nat} {rows:T (List V)}
  (dj:T.get b h.t=some (.cells r f ap bk rows)) (hn:0≤h.next) {e top:Nat} (Ib:0<top):MN ι h (iH h b f ap bk e top) f e top:=by
 have hb:=g.small b (by simp [bN])
 have o4:=(g.obj b B _ bN dj de).cells rfl
 obtain ⟨cs,el,fr,aS,bl,df,fZ,gx,jY⟩:=o4
 obtain ⟨s1,s2,fw,iG,jS⟩:=gx
 have jx:=g.cO b B bN de
 rw [s2] at jx
 unfold iH
 cases b1:T.get f h.bA with
 |none=>
  rw [b1] at jx
  have Ic:f=b:=jx
  have only:∀bL aZ,ι bL=some aZ→bL<h.next→aZ.cO=f→bL=b:=fun bL aZ dJ fg k0=>by
   have:=g.cO bL aZ dJ fg
   rw [k0,b1] at this
   omega
  have eL:∀i,0≤i→T.get i (if e<ap+bk then (⟨T.set b .dead h.t,h.next,h.bA,h.ds,h.bO⟩:ae) else h).t=if e<ap+bk∧i=b then some .dead else T.get i h.t:=by
   intro i ag
   by_cases c:e<ap+bk
   · rw [if_pos c]
     show T.get i (T.set b .dead h.t)=_
     rw [T.eU ag hb]
     by_cases sw:i=b
     · rw [if_pos sw,if_pos ⟨c,sw⟩]
     · rw [if_neg sw,if_neg (by simp [sw])]
   · rw [if_neg c,if_neg (by simp [c])]
  refine ⟨rfl,rfl,rfl,fun i ag=> ?_,⟨[b],rfl,by simpa using de,fun bL aZ dJ fg k0=>by simp [only bL aZ dJ fg k0]⟩,fun bL aZ o dJ fg k0 bd=>by
    have:=only bL aZ dJ fg k0;subst this;rw [dj] at bd;cases bd;rfl,fun bL aZ o dJ fg k0 bd jj=> ?_⟩
  · show T.get i (if e<ap+bk then (⟨T.set b .dead h.t,h.next,h.bA,h.ds,h.bO⟩:ae) else h).t=_∨_
    by_cases c:e<ap+bk∧i=b
    · right
      refine ⟨by rw [eL i ag,if_pos c], ?_⟩
      rw [c.2,dj];simp
    · left;rw [eL i ag,if_neg c]
  · have l8:=only bL aZ dJ fg k0
    subst l8
    rw [bN] at dJ;cases dJ
    have cJ:T.get bL (if e<ap+bk then (⟨T.set bL .dead h.t,h.next,h.bA,h.ds,h.bO⟩:ae) else h).t=some o:=bd
    rw [eL bL hb] at cJ
    by_cases c:e<ap+bk
    · rw [if_pos ⟨c,rfl⟩] at cJ;cases cJ;simp [Obj.isCells] at jj
    · have:B.n=bk:=df
      omega
 |some F=>
  rw [b1] at jx
  have o3:∀bL aZ,ι bL=some aZ→bL<h.next→aZ.cO=f→bL∈F.mem:=fun bL aZ dJ fg k0=>by
   have:=g.cO bL aZ dJ fg
   rw [k0,b1] at this;exact this
  have hj:∀bL aZ o,ι bL=some aZ→bL<h.next→aZ.cO=f→T.get bL h.t=some o→o.hT=false:=fun bL aZ o dJ fg k0 bd=>by
   cases jk:o.hT with
   |false=>rfl
   |true=>have:=g.hT bL aZ o dJ bd fg jk;rw [k0,b1] at this;cases this
  have hlt:∀m∈F.mem,0≤m:=fun m hm=>g.rk f F m b1 hm
  rcases y1 e (F.last+top) h.next F.mem h hlt with ⟨cu,cB,_⟩|cc
  case inr=>exact absurd hn cc
  by_cases c:F.last≤e
  · simp only [c,if_true]
    refine ⟨rfl,rfl,rfl,fun i ag=> .inl rfl,⟨F.mem,rfl,fun x hx=>g.mem f F x b1 hx,o3⟩,hj,fun bL aZ o dJ fg k0 bd jj=> ?_⟩
    have:=g.last bL aZ F o dJ fg (by rw [k0];exact b1) bd jj
    omega
  · simp only [c,if_false]
    refine ⟨rfl,rfl,rfl,cu.at_,⟨F.mem,rfl,fun x hx=>g.mem f F x b1 hx,o3⟩,hj,fun bL aZ o dJ fg k0 bd jj=> ?_⟩
    have ec:=g.small bL (by simp [dJ])
    rcases cu.at_ bL ec with eL|⟨eL,_⟩
    · have tN:T.get bL h.t=some o:=by rw [←eL];exact bd
      have ar:=g.last bL aZ F o dJ fg (by rw [k0];exact b1) tN jj
      cases o with
      |dead=>simp [Obj.isCells] at jj
      |map es c=>simp [Obj.isCells] at jj
      |box row=>
       have:=g.hT bL aZ _ dJ tN fg rfl
       rw [k0,b1] at this;cases this
      |cells dt c5 bf fy gW=>
       have Vb:=(g.obj bL aZ _ dJ tN fg).cells rfl
       obtain ⟨l7,Bn,agt,d1,d2,d3,d4,d5,d6⟩:=Vb
       have agu:aZ.n=fy:=d3
       have agv:aZ.jT=bf:=d5.2.2.1
       by_cases av:aZ.jT+aZ.n≤e
       · exact av
       · have:=cB bL (o3 bL aZ dJ fg k0) (by omega) dt c5 bf fy gW tN (by omega) (by omega)
         rw [this] at bd;cases bd
    · rw [eL] at bd;cases bd;simp [Obj.isCells] at jj
theorem MP {ι:aY} {h hg:ae} {w w':World} (g:Good ι h w) {f e top:Nat} (hk:MN ι h hg f e top) (hf:ι h.next=none) (ar:0≤h.next) (mI:f<h.next)
  {o:Obj} {B:fk} (jx:B.cO=f) (hj:o.hT=false) (H5:B.jT+B.n=top) (het:e≤top)
  (Ie:∀bL aZ eP,ι bL=some aZ→T.get bL hg.t=some eP→bL<h.next→mF ι aZ eP w') (bd:mF ι B o w')
  (kZ:∀bL aZ,ι bL=some aZ→bL<h.next→aZ.c=B.c→aZ.cO=f∧aZ.off+B.jT=B.off+aZ.jT)
  (hin:B.c<w'.heap.size) (ay:w.heap.size≤w'.heap.size):Good (ι.put h.next B) (hg.add o) w':=by
 have hle:=aY.y4 (B:=B) hf
 obtain ⟨l,Vc,Ig,o3⟩:=hk.bA
 have o5:=hk.next
 have old:∀b aZ,ι.put h.next B b=some aZ→b≠h.next→ι b=some aZ:=fun b aZ hb bG=>by rwa [aY.qe bG] at hb
 have Ih:0≤f:=by omega
 have wT:∀x,0≤x→T.get x hg.bA=if x=f then some ⟨top,h.next::l⟩ else T.get x h.bA:=fun x hx=>by rw [Vc,T.eU hx Ih]
 have bH:∀b,b<(hg.add o).next→b<h.next+1:=fun b hb=>by have:b<hg.next+1:=hb;omega
 have Ej:∀x,0≤x→T.get x (hg.add o).t=if x=h.next then some o else T.get x hg.t:=fun x hx=>by
  show T.get x (T.set hg.next o hg.t)=_
  rw [o5,T.eU hx ar]
 have od:∀b aZ,ι b=some aZ→b<h.next→0≤aZ.cO:=fun b aZ hb de=>by have:=g.od b aZ hb de;omega
 refine ⟨?_, ?_, ?_, ?_, ?_, ?_, ?_, ?_, ?_, ?_, ?_, ?_⟩
 · intro b aZ eP hb cJ de
   have fg:=bH b de
   rw [Ej b (by omega)] at cJ
   by_cases e:b=h.next
   · subst e
     rw [if_pos rfl] at cJ;cases cJ
     rw [aY.gB] at hb;cases hb
     exact bd.mono hle
   · rw [if_neg e] at cJ
     exact (Ie b aZ eP (old b aZ hb e) cJ (by omega)).mono hle
 · intro b aZ hb
   by_cases e:b=h.next
   · subst e;rw [aY.gB] at hb;cases hb;exact hin
   · have:=g.kr b aZ (old b aZ hb e);omega
 · intro b jZ bL lu hb ec de fg fB qd bG
   have agw:=bH b de
   have Bo:=bH bL fg
   by_cases e:b=h.next
   · subst e
     rw [aY.gB] at hb;cases hb
     obtain ⟨x1,bR⟩:=kZ bL lu (old bL lu ec (Ne.symm bG)) (by omega) qd.symm
     exact ⟨jx.trans x1.symm,by omega⟩
   · by_cases bF:bL=h.next
     · subst bF
       rw [aY.gB] at ec;cases ec
       obtain ⟨x1,bR⟩:=kZ b jZ (old b jZ hb e) (by omega) qd
       exact ⟨x1.trans jx.symm,by omega⟩
     · exact g.same b jZ bL lu (old b jZ hb e) (old bL lu ec bF) (by omega) (by omega) fB qd bG
 · intro b aZ hb de
   have fg:=bH b de
   show match T.get aZ.cO hg.bA with|none=>_|some F=>_
   by_cases e:b=h.next
   · subst e;rw [aY.gB] at hb;cases hb
     rw [jx,wT f Ih,if_pos rfl];simp
   · have du:=old b aZ hb e
     rw [wT _ (od b aZ du (by omega))]
     by_cases sx:aZ.cO=f
     · rw [if_pos sx];simp;right;exact o3 b aZ du (by omega) sx
     · rw [if_neg sx];exact g.cO b aZ du (by omega)
 · intro b aZ F eP hb de b1 cJ jj
   have fg:=bH b de
   rw [Ej b (by omega)] at cJ
   have lv:T.get aZ.cO hg.bA=some F:=b1
   by_cases e:b=h.next
   · subst e;rw [aY.gB] at hb;cases hb
     rw [jx,wT f Ih,if_pos rfl] at lv;cases lv
     show B.jT+B.n≤top;omega
   · rw [if_neg e] at cJ
     have du:=old b aZ hb e
     rw [wT _ (od b aZ du (by omega))] at lv
     by_cases sx:aZ.cO=f
     · rw [if_pos sx] at lv;cases lv
       have:=hk.upto b aZ eP du (by omega) sx cJ jj
       show aZ.jT+aZ.n≤top;omega
     · rw [if_neg sx] at lv
       rcases hk.at_ b (by omega) with eL|⟨eL,_⟩
       · rw [eL] at cJ;exact g.last b aZ F eP du (by omega) lv cJ jj
       · rw [eL] at cJ;cases cJ;simp [Obj.isCells] at jj
 · intro b aZ eP hb cJ de jk
   have fg:=bH b de
   rw [Ej b (by omega)] at cJ
   show T.get aZ.cO hg.bA=none
   by_cases e:b=h.next
   · subst e;rw [if_pos rfl] at cJ;cases cJ;rw [hj] at jk;cases jk
   · rw [if_neg e] at cJ
     have du:=old b aZ hb e
     rcases hk.at_ b (by omega) with eL|⟨eL,_⟩
     · rw [eL] at cJ
       have hn:=g.hT b aZ eP du cJ (by omega) jk
       rw [wT _ (od b aZ du (by omega))]
       by_cases sx:aZ.cO=f
       · have:=hk.MO b aZ eP du (by omega) sx cJ;rw [jk] at this;cases this
       · rw [if_neg sx];exact hn
     · rw [eL] at cJ;cases cJ;simp [Obj.hT] at jk
 · intro x F b b1 hb
   show b<hg.next+1
   have lv:T.get x hg.bA=some F:=b1
   rw [wT _ (Nat.zero_le _)] at lv
   by_cases gC:x=f
   · rw [if_pos gC] at lv;cases lv
     simp at hb
     rcases hb with hb|hb
     · omega
     · have:=Ig b hb;omega
   · rw [if_neg gC] at lv
     have:=g.mem _ F b lv hb;omega
 · show 8≤hg.next+1;have:=g.lim;omega
 · intro b du bG
   show b<hg.next+1
   rw [Ej b du] at bG
   by_cases e:b=h.next
   · omega
   · rw [if_neg e] at bG
     rcases hk.at_ b du with eL|⟨eL,Bm⟩
     · rw [eL] at bG;have:=g.kY b du bG;omega
     · have:=g.kY b du Bm;omega
 · intro b bG
   by_cases e:b=h.next
   · omega
   · rw [aY.qe e] at bG;exact g.small b bG
 · intro x hx bG
   show x<hg.next+1
   have vg:T.get x hg.bA≠none:=bG
   rw [wT x hx] at vg
   by_cases gC:x=f
   · omega
   · rw [if_neg gC] at vg;have:=g.tJ x hx vg;omega
 · intro b aZ hb de
   have fg:=bH b de
   show aZ.cO<hg.next+1
   by_cases e:b=h.next
   · subst e;rw [aY.gB] at hb;cases hb;omega
   · have:=g.od b aZ (old b aZ hb e) (by omega);omega
end
end Go.Eng
namespace Go.Eng
noncomputable section
def kindOf (P:Program) (t:TypeId):Option IntKind:=match P.underlying t with|some (.int k)=>some k|_=>none
def l9 (P:Program) (t:TypeId) (n:Nat):Bool:=match P.info? t with|some i=>i.size==n|none=>false
def Ek (P:Program) (t:TypeId) (n:Nat):Bool:=match P.info? t with|some i=>i.bytes==n|none=>false
def oe (P:Program) (t:TypeId) (b:Bool):Bool:=match P.underlying t with
 |some (.struct _)|some (.array ..)=>b
 |some _=> !b
 |none=>false
mutual
def iu:V→Value→Bool
 | .bool b, .bool c=>b==c
 | .int k n, .int j m=>decide (k=j)&&decide (n=m)
 | .str n x, .string s=>decide (s.data.toList.length=n)&&decide (enc s.data.toList=x)
 | .nr, .pointer none=>true
 | .U, .slice none 0 0=>true
 | .kp, .map none=>true
 | .nt, .nilFunc=>true
 | .jG, .nilIface=>true
 | .ez t v, .iface u w=>decide (t=u)&&iu v w
 | .agg l, .agg cs=>vh l cs.toList&&cs.toList.all (·.oneCell')
 | .dh l, .tuple cs=>vh l cs.toList
 |_,_=>false
def vh:List V→List Value→Bool
 |[],[]=>true
 |a::l,x::m=>iu a x&&vh l m
 |_,_=>false
end
mutual
theorem El {ι:aY}:∀(v:V) (x:Value),iu v x=true→bD ι v x
 | .bool b,x,h=>by cases x<;>simp [iu] at h;simp [bD,h]
 | .int k n,x,h=>by cases x<;>simp [iu] at h;simp [bD,h]
 | .str n a,x,h=>by cases x<;>simp [iu] at h;rename_i s;exact ⟨s,rfl,by simpa using h.1,h.2⟩
 | .nr,x,h=>by
   cases x<;>first|(simp [iu] at h;done)|skip
   rename_i a;cases a
   · rfl
   · simp [iu] at h
 | .U,x,h=>by
   cases x<;>first|(simp [iu] at h;done)|skip
   rename_i a n c
   cases a with
   |some a=>simp [iu] at h
   |none=>cases n with
    |succ n=>simp [iu] at h
    |zero=>cases c with
     |succ c=>simp [iu] at h
     |zero=>rfl
 | .kp,x,h=>by
   cases x<;>first|(simp [iu] at h;done)|skip
   rename_i a;cases a
   · rfl
   · simp [iu] at h
 | .nt,x,h=>by cases x<;>simp [iu] at h;rfl
 | .jG,x,h=>by cases x<;>simp [iu] at h;rfl
 | .ez t v,x,h=>by
   cases x<;>simp [iu] at h
   rename_i u w
   exact ⟨w,by simp [h.1],El v w h.2⟩
 | .agg l,x,h=>by
   cases x<;>simp only [iu,Bool.and_eq_true,Bool.false_eq_true] at h
   rename_i cs
   exact ⟨cs,rfl,Em l cs.toList h.1,fun x hx=>List.all_eq_true.1 h.2 x hx⟩
 | .dh l,x,h=>by
   cases x<;>simp [iu] at h
   rename_i cs
   exact ⟨cs,rfl,Em l cs.toList h⟩
 | .bot,x,h=>by cases x<;>simp [iu] at h
 | .ptr _ _,x,h=>by cases x<;>simp [iu] at h
 | .au _ _ _ _,x,h=>by cases x<;>simp [iu] at h
 | .map _,x,h=>by cases x<;>simp [iu] at h
 | .fn _ _ _,x,h=>by cases x<;>simp [iu] at h
theorem Em {ι:aY}:∀(l:List V) (m:List Value),vh l m=true→ch ι l m
 |[],[],_=>rfl
 |[],_::_,h=>by simp [vh] at h
 |_::_,[],h=>by simp [vh] at h
 |a::l,x::m,h=>by
  simp [vh] at h
  exact ⟨x,m,rfl,El a x h.1,Em l m h.2⟩
end
def MQ (P:Program) (t:TypeId) (z:V):Bool:=match P.info? t with
 |some i=>match i.zero with|some x=>iu z x|none=>false
 |none=>false
def wU (P:Program) (t:TypeId) (l:List V):Bool:=match P.info? t with
 |some i=>match i.zero with|some x=>vh l x.cells.toList&&x.cells.toList.all (·.oneCell')|none=>false
 |none=>false
abbrev jl:=Operand→A→Bool
def sy (bn:jl):List Operand→List A→Bool
 |[],[]=>true
 |x::l,a::m=>bn x a&&sy bn l m
 |_,_=>false
def rl (bn:jl):Option Operand→Option A→Bool
 |none,none=>true
 |some x,some a=>bn x a
 |_,_=>false
def En:Option Operand→Option Operand→Bool
 |some _,none=>false
 |_,_=>true
def wV (P:Program) (bn:jl) (place:Nat→Option (Nat×Nat)):List (Nat×Operand)→List (Nat×Nat×A)→Bool
 |[],[]=>true
 |(i,x)::l,(off,n,a)::m=>decide (place i=some (off,n))&&(bn x a&&wV P bn place l m)
 |_,_=>false
def Vd (P:Program) (fs:Array Field) (i:Nat):Option (Nat×Nat):=match fs[i]? with
 |some f=>match P.info? f.type with|some t=>some (f.offset,t.size)|none=>none
 |none=>none
def y5:BinOp→Bool
 | .shl| .shr=>false
 |_=>true
def o6 (P:Program) (t:TypeId):cK→Bool
 | .int=>match P.underlying t with|some (.int _)=>true|_=>false
 | .str=>match P.underlying t with|some .string=>true|_=>false
 | .bool=>match P.underlying t with|some .bool=>true|_=>false
 |_=>false
def wW (P:Program):List Field→List (Nat×cK)→Bool
 |[],[]=>true
 |f::fs,(off,q)::dP=>decide (f.name≠ "_")&&(decide (f.offset=off)&&(o6 P f.type q&&wW P fs dP))
 |_,_=>false
def lx (P:Program) (t:TypeId):cK→Bool
 | .bool=>match P.underlying t with|some .bool=>true|_=>false
 | .ptr=>match P.underlying t with|some (.pointer e)=>(match P.info? e with|some i=>i.size !=0|none=>false)|_=>false
 | .ez=>match P.underlying t with|some (.interface _)=>true|_=>false
 | .au=>match P.underlying t with|some (.slice _)=>true|_=>false
 | .map=>match P.underlying t with|some (.map _ _)=>true|_=>false
 | .fn=>match P.underlying t with|some (.func ..)=>true|_=>false
 | .st dP=>match P.underlying t with|some (.struct fs)=> !P.stoodInHeld t&&(!P.eqGuardType P.depth t&&wW P fs.toList dP)|_=>false
 |_=>false
def isConst:Operand→Bool
 | .const _=>true
 |_=>false
def Ii:cK→Bool
 | .ez=>false
 |_=>true
def dn (P:Program) (bn:jl) (o:Go.Op) (e:hh):Bool:=
 match e with
 | .cV a=>(match o with| .move x=>bn x a| .assign x=>bn x a|_=>false)
 | .pick c a b=>(match o with| .pick dw bf bL=>bn dw c&&(bn bf a&&bn bL b)|_=>false)
 | .alloc cs=>(match o with| .alloc t=>wU P t cs|_=>false)
 | .box _ a=>(match o with| .box _ x=>bn x a|_=>false)
 | .build zero parts=>(match o with
   | .build t aO=>wU P t zero&&(match P.underlying t with|some (.struct fs)=>wV P bn (Vd P fs) aO.toList parts&&fs.all (fun f=>(P.info? f.type).isSome)|_=>false)
   |_=>false)
 | .eS r n zero parts=>(match o with
   | .buildSlice t len aO=>decide (len=n)&&(decide (0<r)&&(decide (len * r≤2 ^ 24)&&match P.underlying t with
     |some (.slice el)=>l9 P el r&&(wU P el zero&&(decide (zero.length=r)&&wV P bn (fun i=>some (i * r,r)) aO.toList parts))
     |_=>false))
   |_=>false)
 | .load a=>(match o with| .load t x=>oe P t false&&bn x a|_=>false)
 | .da n a=>(match o with| .load t x=>oe P t true&&(l9 P t n&&bn x a)|_=>false)
 | .oY a=>(match o with| .nilCheck x=>bn x a|_=>false)
 | .bin op a b=>(match o with| .binOp rm _ x y _=>decide (op=rm)&&(y5 op&&(bn x a&&bn y b))|_=>false)
 | .e8 op a b=>(match o with| .binOp rm _ x y _=>decide (op=rm)&&(y5 op&&(bn x a&&bn y b))|_=>false)
 | .lp l a b=>(match o with| .binOp rm _ x y _=>decide (rm=if l then .shl else .shr)&&(bn x a&&bn y b)|_=>false)
 | .eq neg q a b=>(match o with| .binOp rm t x y _=>decide (rm=if neg then .neq else .eql)&&(lx P t q&&((isConst x||isConst y||Ii q)&&(bn x a&&bn y b)))|_=>false)
 | .neg a=>(match o with| .unOp .neg _ x=>bn x a|_=>false)
 | .not a=>(match o with| .unOp .not _ x=>bn x a|_=>false)
 | .conv k a=>(match o with| .convert s d x=>(match P.underlying s,P.underlying d with|some (.int _),some (.int y6)=>decide (k=y6)&&bn x a|_,_=>false)|_=>false)
 | .uZ a=>(match o with| .convert s d x=>(match P.underlying s,P.underlying d with|some .string,some (.slice el)=>(match P.underlying el with|some (.int .u8)=>bn x a|_=>false)|_,_=>false)|_=>false)
 | .q5 a=>(match o with| .convert s d x=>(match P.underlying s,P.underlying d with|some (.slice el),some .string=>(match P.underlying el with|some (.int .u8)=>bn x a|_=>false)|_,_=>false)|_=>false)
 | .ez t a=>(match o with| .makeInterface gW x=>decide (t=gW)&&(match P.underlying t with|some (.interface _)=>false|some _=>bn x a|none=>false)|_=>false)
 | .fn f l m=>(match o with| .makeFunc (.func c5) aI jH=>decide (f=c5)&&(sy bn aI.toList l&&sy bn jH.toList m)|_=>false)
 | .wH=>false
 | .n2 r zero bytes l c=>(match o with
   | .makeSlice t aI dw=>decide (0<r)&&(bn aI l&&(bn dw c&&match P.underlying t with
     |some (.slice el)=>l9 P el r&&(Ek P el bytes&&(wU P el zero&&(decide (zero.length=r)&&decide (0<bytes))))
     |_=>false))
   |_=>false)
 | .n3 a br ag=>(match o with| .slice t x vi mJ none=>(match P.underlying t with|some .string=>bn x a&&(rl bn vi br&&rl bn mJ ag)|_=>false)|_=>false)
 | .jU r a br ag mx=>(match o with
   | .slice t x vi mJ og=>(match P.underlying t with
     |some (.slice el)=>l9 P el r&&(bn x a&&(rl bn vi br&&(rl bn mJ ag&&(rl bn og mx&&En og mJ))))
     |_=>false)
   |_=>false)
 | .u0 n r a br ag mx=>(match o with
   | .slice t x vi mJ og=>(match P.underlying t with
     |some (.array fy el)=>decide (n=fy)&&(l9 P el r&&(bn x a&&(rl bn vi br&&(rl bn mJ ag&&(rl bn og mx&&En og mJ)))))
     |_=>false)
   |_=>false)
 | .bK off a=>(match o with
   | .fieldAddr t x f=>(match P.underlying t with
     |some (.struct fs)=>(match fs[f]? with|some dD=>decide (dD.offset=off)&&((match P.info? dD.type with|some i=>i.size !=0|none=>false)&&bn x a)|none=>false)
     |_=>false)
   |_=>false)
 | .field .. =>false
 | .bY r a i=>(match o with| .indexAddr t x y=>(match P.underlying t with|some (.slice el)=>l9 P el r&&(bn x a&&bn y i)|_=>false)|_=>false)
 | .si n r a i=>(match o with| .indexAddr t x y=>(match P.underlying t with|some (.array fy el)=>decide (n=fy)&&(l9 P el r&&(bn x a&&bn y i))|_=>false)|_=>false)
 | .kT a i=>(match o with| .index t x y=>(match P.underlying t with|some .string=>bn x a&&bn y i|_=>false)|_=>false)
 | .lookup .. =>false
 | .AX .. =>false
 | .ext n a=>(match o with| .extract x fy=>decide (n=fy)&&bn x a|_=>false)
 | .len str a=>(match o with
   | .call {callee:= .builtin .len,args,argTypes}=>(match args.toList,argTypes[0]? with
     |[x],some t=>(match P.underlying t with|some .string=>str&&bn x a|some (.slice _)=> !str&&bn x a|_=>false)|_,_=>false)
   |_=>false)
 | .wI .. =>false
 | .cap _=>false
 | .AY .. =>false
end
end Go.Eng
namespace Go.Eng
noncomputable section
section
variable {v:V} {r:bE} (hr:r≠.bad)
include hr
theorem qf {f:IntKind→Int→bE} (h:v.hS f=r):∃k n,v= .int k n∧f k n=r:=by
 cases v<;>first|exact ⟨_,_,rfl,h⟩|exact absurd h.symm hr
theorem Eo {f:Bool→bE} (h:v.HL f=r):∃b,v= .bool b∧f b=r:=by
 cases v<;>first|exact ⟨_,rfl,h⟩|exact absurd h.symm hr
theorem sz {f:Nat→Nat→bE} (h:v.l3 f=r):∃n x,v= .str n x∧f n x=r:=by
 cases v<;>first|exact ⟨_,_,rfl,h⟩|exact absurd h.symm hr
theorem vj {f:Nat→Nat→bE} (h:v.p3 f=r):∃b o,v= .ptr b o∧f b o=r:=by
 cases v<;>first|exact ⟨_,_,rfl,h⟩|exact absurd h.symm hr
theorem MR {f:Nat→Nat→Nat→bE} (h:v.HM f=r):∃b o n c,v= .au b o n c∧f b o n=r:=by
 cases v<;>first|exact ⟨_,_,_,_,rfl,h⟩|exact absurd h.symm hr
theorem MS {f:List V→bE} (h:v.Mr f=r):∃l,v= .dh l∧f l=r:=by
 cases v<;>first|exact ⟨_,rfl,h⟩|exact absurd h.symm hr
theorem Ve {f:List V→bE} (h:v.Ms f=r):∃l,v= .agg l∧f l=r:=by
 cases v<;>first|exact ⟨_,rfl,h⟩|exact absurd h.symm hr
theorem MT {f:Nat→bE} (h:v.DW f=r):(v= .U∧f 0=r)∨∃b o n c,v= .au b o n c∧f n=r:=by
 cases v<;>first|exact absurd h.symm hr|exact .inl ⟨rfl,h⟩|exact .inr ⟨_,_,_,_,rfl,h⟩
theorem y7 {f:Nat→bE} (h:v.yM f=r):∃k n,v= .int k (.ofNat n)∧f n=r:=by
 cases v with
 |int k n=>cases n with
  |ofNat n=>exact ⟨k,n,rfl,h⟩
  |negSucc n=>exact absurd h.symm hr
 |_=>exact absurd h.symm hr
theorem o7 {x:Option V} (h:bE.of x=r):∃y,x=some y∧r= .val y:=by
 cases x with
 |none=>exact absurd h.symm hr
 |some y=>exact ⟨y,rfl,h.symm⟩
theorem j0 {α:Type} {x:Option α} {f:α→bE} (h:(Option.rec .bad f x:bE)=r):∃y,x=some y∧f y=r:=by
 cases x with
 |none=>exact absurd h.symm hr
 |some y=>exact ⟨y,rfl,h⟩
theorem o8 {x:Bool} {y:bE} (h:(Bool.rec .bad y x:bE)=r):x=true∧y=r:=by
 cases x with
 |false=>exact absurd h.symm hr
 |true=>exact ⟨rfl,h⟩
theorem o9 {x:Bool} {y:bE} (h:(bif x then y else .bad)=r):x=true∧y=r:=by
 cases x with
 |false=>exact absurd h.symm hr
 |true=>exact ⟨rfl,h⟩
end
theorem Ij {v:V} {n:Nat} (h:v.asNat=some n):∃k,v= .int k (.ofNat n):=by
 cases v with
 |int k m=>cases m with
  |ofNat m=>have:some m=some n:=h;cases this;exact ⟨k,rfl⟩
  |negSucc m=>cases h
 |_=>cases h
theorem Vf {v:V} {l:List V} (h:v.dA=some l):v= .agg l∨(l=[v]∧v≠.bot∧(∀l,v≠.agg l)∧∀l,v≠.dh l):=by
 cases v<;>first
  |(cases h;done)
  |(have:some _=some l:=h;cases this;exact .inl rfl)
  |(have:some _=some l:=h;cases this;exact .inr ⟨rfl,by simp,by simp,by simp⟩)
theorem Ik {ι:aY} {v:V} {x:Value} {l:List V} (h:v.dA=some l) (hr:bD ι v x):ch ι l x.cells.toList∧∀y∈x.cells.toList,y.oneCell'=true:=by
 rcases Vf h with rfl|⟨rfl,h0,h1,h2⟩
 · obtain ⟨cs,rfl,a,b⟩:=hr;exact ⟨a,b⟩
 · have hx:x.cells= #[x]∧x.oneCell'=true:=by
    cases v<;>first
     |exact absurd rfl h0
     |exact absurd rfl (h1 _)
     |exact absurd rfl (h2 _)
     |(have e:x=_:=hr;subst e;exact ⟨rfl,rfl⟩)
     |(obtain ⟨_,e,_⟩:=hr;subst e;exact ⟨rfl,rfl⟩)
     |(obtain ⟨_,_,e⟩:=hr;subst e;exact ⟨rfl,rfl⟩)
     |(obtain ⟨_,_,e,_⟩:=hr;subst e;exact ⟨rfl,rfl⟩)
     |(obtain ⟨_,_,_,_,e,_⟩:=hr;subst e;exact ⟨rfl,rfl⟩)
   rw [hx.1]
   exact ⟨⟨x,[],rfl,hr,rfl⟩,by simpa using hx.2⟩
section
variable {P:Program} (w:World)
theorem Il {t:TypeId} (h:oe P t false=true):(isAgg t).run P w= .ok false w:=by
 unfold oe at h
 cases hu:P.underlying t with
 |none=>simp [hu] at h
 |some d=>cases d<;>simp [hu] at h<;>simp [isAgg,run_underlying hu,Result.andThen]
theorem Vg {t:TypeId} (h:oe P t true=true):(isAgg t).run P w= .ok true w:=by
 unfold oe at h
 cases hu:P.underlying t with
 |none=>simp [hu] at h
 |some d=>cases d<;>simp [hu] at h<;>simp [isAgg,run_underlying hu,Result.andThen]
theorem y8 {t:TypeId} {n:Nat} (h:l9 P t n=true):(sizeOf t).run P w= .ok n w:=by
 unfold l9 at h
 cases ag:P.info? t with
 |none=>simp [ag] at h
 |some i=>
  simp [ag] at h
  rw [run_sizeOf w ag];simp [Program.cellsOf,ag,h]
theorem MU {t:TypeId} {a:Addr} {x:Value} (ht:oe P t false=true) (h:w.cell? a=some x):(loadVar t a).run P w= .ok x w:=by
 simp [loadVar,Il w ht,Result.andThen,h]
theorem MV {t:TypeId} {c o n:Nat} {xs:List Value} (ht:oe P t true=true) (ay:l9 P t n=true) (ar:xs.length=n)
  (h:∀j x,xs[j]? =some x→w.cell? ⟨c,o+j,none⟩=some x):(loadVar t ⟨c,o,none⟩).run P w= .ok (.agg xs.toArray) w:=by
 have:(loadCells ⟨c,o,none⟩ n).run P w= .ok xs.toArray w:=by
  rw [←ar]
  exact run_loadCells_list w _ xs fun j v aD=>by
   rw [show (⟨c,o,none⟩:Addr).add j=⟨c,o+j,none⟩ by unfold Addr.add;split<;>simp_all]
   exact h j v aD
 simp [loadVar,Vg w ht,y8 w ay,Result.andThen,this]
end
end
end Go.Eng
namespace Go.Eng
theorem Bp (i:Nat):2 ^ (8 * i)=256 ^ i:=by rw [Nat.pow_mul]
theorem Im (l:List UInt8) (i:Nat):enc l / 256 ^ i=enc (l.drop i):=by
 induction i generalizing l with
 |zero=>simp
 |succ i bm=>
  cases l with
  |nil=>simp [enc]
  |cons b l=>
   have:=b.toNat_lt
   rw [Nat.pow_succ,Nat.mul_comm,←Nat.div_div_eq_div_mul]
   have:(enc (b::l)) / 256=enc l:=by simp only [enc];omega
   rw [this,bm];rfl
theorem Vh (l:List UInt8) (i:Nat):enc l % 256 ^ i=enc (l.take i):=by
 induction i generalizing l with
 |zero=>simp [enc];omega
 |succ i bm=>
  cases l with
  |nil=>simp [enc]
  |cons b l=>
   have hb:=b.toNat_lt
   simp only [List.take_succ_cons,enc,Nat.pow_succ]
   have aS:(b.toNat+256 * enc l) / 256=enc l:=by omega
   have bl:(b.toNat+256 * enc l) % 256=b.toNat:=by omega
   rw [Nat.mul_comm (256 ^ i) 256,←bm l,Nat.mod_mul,aS,bl]
theorem Vi (a b:List UInt8):enc (a++b)=enc a+256 ^ a.length * enc b:=by
 induction a with
 |nil=>simp [enc]
 |cons x a bm=>
  simp only [List.cons_append,enc,bm,List.length_cons,Nat.pow_succ]
  rw [Nat.mul_add,Nat.mul_comm (256 ^ a.length) 256,Nat.mul_assoc];omega
theorem MW:∀{a b:List UInt8},a.length=b.length→enc a=enc b→a=b
 |[],[],_,_=>rfl
 |[],_::_,h,_=>by simp at h
 |_::_,[],h,_=>by simp at h
 |x::a,y::b,h,e=>by
  have hx:=x.toNat_lt
  have hy:=y.toNat_lt
  simp only [enc] at e
  have h1:x.toNat=y.toNat:=by omega
  have h2:enc a=enc b:=by omega
  rw [MW (by simpa using h) h2,UInt8.toNat_inj.1 h1]
theorem Vj (l:List UInt8) (i:Nat) (h:i<l.length):AZ (enc l) i=(l[i]).toNat:=by
 show (enc l >>> (8 * i)) % 256=_
 rw [Nat.shiftRight_eq_div_pow,Bp,Im,List.drop_eq_getElem_cons h]
 have:=l[i].toNat_lt
 simp only [enc];omega
theorem MX (l:List UInt8) (i n:Nat):DT (enc l) i n=enc ((l.drop i).take n):=by
 show (enc l >>> (8 * i)) % 2 ^ (8 * n)=_
 rw [Nat.shiftRight_eq_div_pow,Bp,Bp,Im,Vh]
theorem Vk (a b:List UInt8):Mq a.length (enc a) (enc b)=enc (a++b):=by
 show enc a+enc b <<< (8 * a.length)=_
 rw [Nat.shiftLeft_eq,Bp,Vi,Nat.mul_comm]
theorem Vl (n x:Nat):gy (n+1) x=x % 256::gy n (x / 256):=rfl
theorem qg (l:List UInt8):gy l.length (enc l)=l.map (·.toNat):=by
 induction l with
 |nil=>rfl
 |cons b l bm=>
  have:=b.toNat_lt
  rw [List.length_cons,Vl]
  have h1:enc (b::l) % 256=b.toNat:=by simp only [enc];omega
  have h2:enc (b::l) / 256=enc l:=by simp only [enc];omega
  rw [h1,h2,bm];rfl
theorem Vm (a b:Nat) (x y:List Nat):pZ (a::x) (b::y)=Bool.rec (Bool.rec false (pZ x y) (a.beq b)) true (a.blt b):=rfl
theorem y9:∀(a b:List UInt8),pZ (a.map (·.toNat)) (b.map (·.toNat))=Op.bytesLess a b
 |[],[]=>rfl
 |[],_::_=>rfl
 |_::_,[]=>rfl
 |x::a,y::b=>by
  simp only [List.map_cons]
  rw [Vm,fY,h5,y9 a b]
  simp only [Op.bytesLess]
  by_cases h1:x.toNat<y.toNat
  · have:x<y:=UInt8.lt_iff_toNat_lt.2 h1
    simp [h1,this]
  · have ji:¬x<y:=fun h=>h1 (UInt8.lt_iff_toNat_lt.1 h)
    by_cases h2:x=y
    · subst h2;simp
    · have:x.toNat≠y.toNat:=fun h=>h2 (UInt8.toNat_inj.1 h)
      simp [h1,ji,h2,this]
theorem Ep {n x m y:Nat} {s t:ByteArray} (h:D8 n x s) (ax:D8 m y t):l2 n x m y=decide (s=t):=by
 obtain ⟨rfl,rfl⟩:=h
 obtain ⟨rfl,rfl⟩:=ax
 unfold l2
 rw [h5,h5]
 by_cases ar:s.data.toList.length=t.data.toList.length
 · simp only [ar,decide_true]
   by_cases he:enc s.data.toList=enc t.data.toList
   · have:=MW ar he
     have:s=t:=by cases s;cases t;congr;exact Array.ext' this
     simp [this]
   · have:s≠t:=fun e=>he (by rw [e])
     simp [he,this]
 · have:s≠t:=fun e=>ar (by rw [e])
   simp only [ar,decide_false,this]
end Go.Eng
namespace Go.Eng
noncomputable section
def gX (P:Program) (ι:aY) (w:World) (bC:Operand→Value) (o:Oper) (v:V):Prop:=
 ∃v',(execOp bC o).run P w= .ok (.value v') w∧bD ι v v'
section
variable {P:Program} {ι:aY} {h:ae} {w:World} {bn:jl} {ev:dr} {bC:Operand→Value} {o:Oper} {v:V}
theorem Vn (bq:∀x a,bn x a=true→bD ι (ev a) (bC x)) {a:A} (hok:dn P bn o.op (.cV a)=true) (he:light (.cV a) ev h= .val v):gX P ι w bC o v:=by
 have sA:ev a=v:=by injection he
 subst sA
 simp only [dn] at hok
 split at hok<;>rename_i hx
 · exact ⟨_,by simp [execOp,hx],bq _ _ hok⟩
 · exact ⟨_,by simp [execOp,hx],bq _ _ hok⟩
 · cases hok
theorem Vo (bq:∀x a,bn x a=true→bD ι (ev a) (bC x)) {c a b:A} (hok:dn P bn o.op (.pick c a b)=true) (he:light (.pick c a b) ev h= .val v):gX P ι w bC o v:=by
 obtain ⟨t,av,aD⟩:=Eo (by simp) he
 simp only [dn] at hok
 split at hok<;>rename_i hx
 · simp only [Bool.and_eq_true] at hok
   have h1:=bq _ _ hok.1
   rw [av] at h1
   have h1:bC _= .bool t:=h1
   cases t with
   |true=>
    injection aD with aD;subst aD
    exact ⟨_,by simp [execOp,hx,h1,asBool,Result.andThen],bq _ _ hok.2.1⟩
   |false=>
    injection aD with aD;subst aD
    exact ⟨_,by simp [execOp,hx,h1,asBool,Result.andThen],bq _ _ hok.2.2⟩
 · cases hok
theorem Vp (g:Good ι h w) (bq:∀x a,bn x a=true→bD ι (ev a) (bC x)) {a:A} (hok:dn P bn o.op (.load a)=true) (he:light (.load a) ev h= .val v):gX P ι w bC o v:=by
 obtain ⟨b,off,av,aD⟩:=vj (by simp) he
 obtain ⟨y,hy,aD⟩:=o7 (by simp) aD
 cases aD
 simp only [dn] at hok
 split at hok<;>rename_i hx
 · simp only [Bool.and_eq_true] at hok
   have h1:=bq _ _ hok.2
   rw [av] at h1
   obtain ⟨B,bN,h1⟩:=h1
   obtain ⟨x,aD,_,hcell⟩:=MC g bN hy
   exact ⟨x,by simp [execOp,hx,Instr.loadAt,Instr.sureAddr,h1,Result.andThen,MU w hok.1 hcell],aD⟩
 · cases hok
theorem Vq (g:Good ι h w) (bq:∀x a,bn x a=true→bD ι (ev a) (bC x)) {n:Nat} {a:A} (hok:dn P bn o.op (.da n a)=true) (he:light (.da n a) ev h= .val v):gX P ι w bC o v:=by
 obtain ⟨b,off,av,aD⟩:=vj (by simp) he
 obtain ⟨l,ar,aD⟩:=j0 (by simp) aD
 rw [l4] at aD
 cases aD
 simp only [dn] at hok
 split at hok<;>rename_i hx
 · simp only [Bool.and_eq_true] at hok
   have h1:=bq _ _ hok.2.2
   rw [av] at h1
   obtain ⟨B,bN,h1⟩:=h1
   obtain ⟨xs,hlen,aD,vk,hcell⟩:=yZ g bN ar
   refine ⟨.agg xs.toArray,by simp [execOp,hx,Instr.loadAt,Instr.sureAddr,h1,Result.andThen,MV w hok.1 hok.2.1 hlen hcell], ?_⟩
   exact ⟨xs.toArray,rfl,by simpa using aD,by simpa using vk⟩
 · cases hok
theorem Vr (bq:∀x a,bn x a=true→bD ι (ev a) (bC x)) {a:A} (hok:dn P bn o.op (.oY a)=true) (he:light (.oY a) ev h= .val v):gX P ι w bC o v:=by
 obtain ⟨y,hy,aD⟩:=o7 (by simp) he
 cases aD
 simp only [dn] at hok
 split at hok<;>rename_i hx
 · have h1:=bq _ _ hok
   generalize ev a=cR at hy h1
   cases cR<;>first
    |(cases hy;done)
    |skip
   · cases hy
     obtain ⟨B,bN,h1⟩:=h1
     exact ⟨_,by simp [execOp,hx,h1],⟨B,bN,rfl⟩⟩
   · cases hy
     obtain ⟨xs,ys,h1,h2,a6⟩:=h1
     exact ⟨_,by simp [execOp,hx,h1],⟨xs,ys,rfl,h2,a6⟩⟩
   · cases hy
     obtain ⟨z,h1,h2⟩:=h1
     exact ⟨_,by simp [execOp,hx,h1],⟨z,rfl,h2⟩⟩
 · cases hok
theorem Io {op:BinOp} {t:TypeId} {x y:Operand} {k j:IntKind} {a b:Int}:(eqGuard op t x y (.int k a) (.int j b)).run P w= .ok () w:=by
 unfold eqGuard
 split<;>simp [Result.andThen]
theorem Vs {op:BinOp} {t:TypeId} {x y:Operand} {a b:ByteArray}:(eqGuard op t x y (.string a) (.string b)).run P w= .ok () w:=by
 unfold eqGuard
 split<;>simp [Result.andThen]
theorem Vt (bq:∀x a,bn x a=true→bD ι (ev a) (bC x)) {t:Nat} {a:A} (hok:dn P bn o.op (.ez t a)=true) (he:light (.ez t a) ev h= .val v):gX P ι w bC o v:=by
 have sA:V.ez t (ev a)=v:=by injection he
 subst sA
 simp only [dn] at hok
 split at hok
 · rename_i gW x hx
   simp only [Bool.and_eq_true,decide_eq_true_eq] at hok
   obtain ⟨rfl,hok⟩:=hok
   cases hu:P.underlying t with
   |none=>simp [hu] at hok
   |some d=>
    have av:bn x a=true:=by cases d<;>simp [hu] at hok<;>exact hok
    refine ⟨.iface t (bC x), ?_,⟨bC x,rfl,bq _ _ av⟩⟩
    cases d<;>simp [hu] at hok<;>simp [execOp,hx,Instr.makeInterface,run_underlying hu,Result.andThen]
 · cases hok
theorem Er (bq:∀x a,bn x a=true→bD ι (ev a) (bC x)):∀(l:List Operand) (m:List A),sy bn l m=true→ch ι (m.map ev) (l.map bC)
 |[],[],_=>rfl
 |[],_::_,h=>by simp [sy] at h
 |_::_,[],h=>by simp [sy] at h
 |x::l,a::m,h=>by
  simp [sy] at h
  exact ⟨_,_,rfl,bq x a h.1,Er bq l m h.2⟩
theorem Vu (bq:∀x a,bn x a=true→bD ι (ev a) (bC x)) {f:Nat} {l m:List A} (hok:dn P bn o.op (.fn f l m)=true) (he:light (.fn f l m) ev h= .val v):gX P ι w bC o v:=by
 have sA:V.fn f (hi l ev) (hi m ev)=v:=by injection he
 subst sA
 simp only [dn] at hok
 split at hok
 · rename_i c5 aI jH hx
   simp only [Bool.and_eq_true,decide_eq_true_eq] at hok
   obtain ⟨rfl,h1,h2⟩:=hok
   refine ⟨.func (.func f) (aI.map bC) (jH.map bC),by simp [execOp,hx,Instr.makeFunc,Result.andThen],⟨_,_,rfl, ?_, ?_⟩⟩
   · simpa using Er bq _ _ h1
   · simpa using Er bq _ _ h2
 · cases hok
theorem Vv (bq:∀x a,bn x a=true→bD ι (ev a) (bC x)) {a:A} (hok:dn P bn o.op (.not a)=true) (he:light (.not a) ev h= .val v):gX P ι w bC o v:=by
 obtain ⟨t,av,aD⟩:=Eo (by simp) he
 cases aD
 simp only [dn] at hok
 split at hok<;>rename_i hx
 · have h1:=bq _ _ hok
   rw [av] at h1
   have h1:bC _= .bool t:=h1
   exact ⟨.bool (!t),by simp [execOp,hx,Op.unary,h1,Result.andThen],by simp [bD]⟩
 · cases hok
theorem Vw (bq:∀x a,bn x a=true→bD ι (ev a) (bC x)) {a:A} (hok:dn P bn o.op (.neg a)=true) (he:light (.neg a) ev h= .val v):gX P ι w bC o v:=by
 obtain ⟨k,n,av,aD⟩:=qf (by simp) he
 cases aD
 simp only [dn] at hok
 split at hok<;>rename_i hx
 · have h1:=bq _ _ hok
   rw [av] at h1
   have h1:bC _= .int k n:=h1
   refine ⟨.int k (k.wrap (0 - n)),by simp [execOp,hx,Op.unary,Op.intArith,h1,Result.andThen], ?_⟩
   rw [su];simp only [bD];congr 2;show 0 - n= -n;omega
 · cases hok
theorem Vx (bq:∀x a,bn x a=true→bD ι (ev a) (bC x)) {k:IntKind} {a:A} (hok:dn P bn o.op (.conv k a)=true) (he:light (.conv k a) ev h= .val v):gX P ι w bC o v:=by
 obtain ⟨j,n,av,aD⟩:=qf (by simp) he
 cases aD
 simp only [dn] at hok
 split at hok<;>rename_i hx
 · split at hok
   · rename_i ay aQ
     simp only [Bool.and_eq_true,decide_eq_true_eq] at hok
     obtain ⟨rfl,hok⟩:=hok
     have h1:=bq _ _ hok
     rw [av] at h1
     have h1:bC _= .int j n:=h1
     refine ⟨.int k (k.wrap n),by simp [execOp,hx,convert,run_underlying ay,run_underlying aQ,Conv.intToInt,h1,Result.andThen], ?_⟩
     rw [su];rfl
   · cases hok
 · cases hok
theorem Vy (bq:∀x a,bn x a=true→bD ι (ev a) (bC x)) {n:Nat} {a:A} (hok:dn P bn o.op (.ext n a)=true) (he:light (.ext n a) ev h= .val v):gX P ι w bC o v:=by
 obtain ⟨l,av,aD⟩:=MS (by simp) he
 obtain ⟨y,hy,aD⟩:=o7 (by simp) aD
 cases aD
 rw [wO,oZ,List.head?_drop] at hy
 simp only [dn] at hok
 split at hok<;>rename_i hx
 · simp only [Bool.and_eq_true,decide_eq_true_eq] at hok
   obtain ⟨rfl,hok⟩:=hok
   have h1:=bq _ _ hok
   rw [av] at h1
   obtain ⟨cs,h1,h2⟩:=h1
   obtain ⟨x,Ei,aD⟩:=h2.get hy
   have VE:cs[n]? =some x:=by simpa using Ei
   exact ⟨x,by simp [execOp,hx,Instr.extract,h1,VE,Result.andThen],aD⟩
 · cases hok
end
end
end Go.Eng
namespace Go.Eng
noncomputable section
section
variable {P:Program} {ι:aY} {h:ae} {w:World} {bn:jl} {ev:dr} {bC:Operand→Value} {o:Oper} {v:V}
theorem MY (k:IntKind):(k.signed=true∧kV k=2 ^ (k.bits - 1))∨(k.signed=false∧kV k=2 ^ k.bits):=by cases k<;>decide
theorem MZ (k:IntKind):kV k≤2 ^ k.bits:=by cases k<;>decide
theorem Ip {k:IntKind} {n:Nat} (h:n<kV k):k.wrap (n:Int)=n:=by
 have h1:((n:Int) % 2 ^ k.bits)=n:=by
  have hb:n<2 ^ k.bits:=Nat.lt_of_lt_of_le h (MZ k)
  refine Int.emod_eq_of_lt (Int.natCast_nonneg _) ?_
  have:((n:Int))<((2 ^ k.bits:Nat):Int):=by exact_mod_cast hb
  simpa using this
 unfold IntKind.wrap
 simp only [h1]
 rcases MY k with ⟨ay,ar⟩|⟨ay,ar⟩
 · have:((n:Int))<((2 ^ (k.bits - 1):Nat):Int):=by rw [←ar];exact_mod_cast h
   have h2:¬((n:Int)≥2 ^ (k.bits - 1)):=by simpa using this
   simp [ay,h2]
 · simp [ay]
theorem Iq (k:IntKind) {m n:Nat} (hm:m<kV k) (hn:n<kV k):
  (Op.intBits .and k m n).run P w= .ok (.int k (Nat.land m n:Nat)) w∧(Op.intBits .or k m n).run P w= .ok (.int k (Nat.lor m n:Nat)) w∧(Op.intBits .xor k m n).run P w= .ok (.int k (Nat.xor m n:Nat)) w:=by
 have hb:=MZ k
 have hp:∃p,kV k=2 ^ p:=by
  rcases MY k with ⟨_,h⟩|⟨_,h⟩<;>exact ⟨_,h⟩
 obtain ⟨p,hp⟩:=hp
 have M0:∀x:Nat,x<kV k→(BitVec.ofInt k.bits (x:Int)).toNat=x:=by
  intro x hx
  rw [BitVec.ofInt_natCast,BitVec.toNat_ofNat]
  exact Nat.mod_eq_of_lt (Nat.lt_of_lt_of_le hx hb)
 have o2:=M0 m hm
 have sB:=M0 n hn
 rw [hp] at hm hn
 have ha:m &&& n<kV k:=by rw [hp];exact Nat.lt_of_le_of_lt Nat.and_le_left hm
 have bd:m ||| n<kV k:=by rw [hp];exact Nat.or_lt_two_pow hm hn
 have hx:m ^^^ n<kV k:=by rw [hp];exact Nat.xor_lt_two_pow hm hn
 refine ⟨?_, ?_, ?_⟩
 · simp only [Op.intBits,BitVec.toNat_and,o2,sB];rw [Ip ha];rfl
 · simp only [Op.intBits,BitVec.toNat_or,o2,sB];rw [Ip bd];rfl
 · simp only [Op.intBits,BitVec.toNat_xor,o2,sB];rw [Ip hx];rfl
theorem Ir {f:Nat→Nat→Nat} {k:IntKind} {a b:Int} {y:V} (h:A4 f k a b=some y):∃m n:Nat,a=m∧b=n∧m<kV k∧n<kV k∧y= .int k (f m n:Nat):=by
 unfold A4 at h
 cases a with
 |negSucc a=>cases h
 |ofNat m=>cases b with
  |negSucc b=>cases h
  |ofNat n=>
   have h:(bif m.blt (kV k)&&n.blt (kV k) then some (ir k (f m n)) else none)=some y:=h
   rw [fY,fY] at h
   by_cases h1:m<kV k
   · by_cases h2:n<kV k
     · simp [h1,h2] at h;exact ⟨m,n,rfl,rfl,h1,h2,h.symm⟩
     · simp [h2] at h
   · simp [h1] at h
theorem VF {op:BinOp} (bq:y5 op=true) {t:TypeId} {k:IntKind} {a b:Int} {y:V} (h:u2 op k a b=some y):∃x,(binOp op t (.int k a) (.int k b)).run P w= .ok x w∧bD ι y x:=by
 cases op<;>first|(simp [y5] at bq;done)|skip
 · have h:some (jV k (DV a b))=some y:=h
   cases h;exact ⟨.int k (k.wrap (a+b)),by simp [binOp,Op.intArith],by simp [bD]⟩
 · have h:some (jV k (A3 a b))=some y:=h
   cases h;exact ⟨.int k (k.wrap (a - b)),by simp [binOp,Op.intArith],by simp [bD]⟩
 · have h:some (jV k (yL a b))=some y:=h
   cases h;exact ⟨.int k (k.wrap (a * b)),by simp [binOp,Op.intArith],by simp [bD]⟩
 · have h:(Bool.rec (some (jV k (a.tdiv b))) none (n4 b 0):Option V)=some y:=h
   rw [yU] at h
   by_cases hb:b=0
   · simp [hb] at h
   · simp only [hb,decide_false] at h;cases h;exact ⟨.int k (k.wrap (a.tdiv b)),by simp [binOp,Op.intDiv,hb],by simp [bD]⟩
 · have h:(Bool.rec (some (A0 k (a.tmod b))) none (n4 b 0):Option V)=some y:=h
   rw [yU] at h
   by_cases hb:b=0
   · simp [hb] at h
   · simp only [hb,decide_false] at h;cases h;exact ⟨.int k (a.tmod b),by simp [binOp,Op.intDiv,hb],by simp [bD]⟩
 · obtain ⟨m,n,rfl,rfl,h1,h2,rfl⟩:=Ir h
   exact ⟨_,by simpa [binOp] using (Iq (P:=P) (w:=w) k h1 h2).1,rfl⟩
 · obtain ⟨m,n,rfl,rfl,h1,h2,rfl⟩:=Ir h
   exact ⟨_,by simpa [binOp] using (Iq (P:=P) (w:=w) k h1 h2).2.1,rfl⟩
 · obtain ⟨m,n,rfl,rfl,h1,h2,rfl⟩:=Ir h
   exact ⟨_,by simpa [binOp] using (Iq (P:=P) (w:=w) k h1 h2).2.2,rfl⟩
 · cases h
 · have h:some (V.bool (n4 a b))=some y:=h
   cases h;exact ⟨.bool (a==b),by simp [binOp,Op.intCmp],by simp [bD];rfl⟩
 · have h:some (V.bool (nv (n4 a b)))=some y:=h
   cases h;exact ⟨.bool (a !=b),by simp [binOp,Op.intCmp],by simp [bD,bne];rfl⟩
 · have h:some (V.bool (l0 a b))=some y:=h
   cases h;exact ⟨.bool (a<b),by simp [binOp,Op.intCmp],by simp [bD]⟩
 · have h:some (V.bool (nv (l0 b a)))=some y:=h
   cases h;exact ⟨.bool (a≤b),by simp [binOp,Op.intCmp],by simp only [bD,tI,yV];congr 1;rw [Bool.eq_iff_iff];simp [Int.not_lt]⟩
 · have h:some (V.bool (l0 b a))=some y:=h
   cases h;exact ⟨.bool (a>b),by simp [binOp,Op.intCmp],by simp [bD]⟩
 · have h:some (V.bool (nv (l0 a b)))=some y:=h
   cases h;exact ⟨.bool (a≥b),by simp [binOp,Op.intCmp],by simp only [bD,tI,yV];congr 1;rw [Bool.eq_iff_iff];simp [Int.not_lt]⟩
theorem VG (bq:∀x a,bn x a=true→bD ι (ev a) (bC x)) {op:BinOp} {a b:A} (hok:dn P bn o.op (.bin op a b)=true) (he:light (.bin op a b) ev h= .val v):gX P ι w bC o v:=by
 obtain ⟨k,m,av,aD⟩:=qf (by simp) he
 obtain ⟨j,n,aQ,aD⟩:=qf (by simp) aD
 obtain ⟨hk,aD⟩:=o8 (by simp) aD
 obtain ⟨y,hy,aD⟩:=o7 (by simp) aD
 cases aD
 rw [wP,decide_eq_true_eq] at hk
 subst hk
 simp only [dn] at hok
 split at hok
 · rename_i rm t x pb _ hx
   simp only [Bool.and_eq_true,decide_eq_true_eq] at hok
   obtain ⟨rfl,h0,h1,h2⟩:=hok
   have h1:=bq _ _ h1
   rw [av] at h1
   have h1:bC _= .int k m:=h1
   have h2:=bq _ _ h2
   rw [aQ] at h2
   have h2:bC _= .int k n:=h2
   obtain ⟨z,hz,hr⟩:=VF (P:=P) (w:=w) (ι:=ι) h0 (t:=t) hy
   exact ⟨z,by simp [execOp,hx,h1,h2,Io,hz,Result.andThen],hr⟩
 · cases hok
theorem VH (bq:∀x a,bn x a=true→bD ι (ev a) (bC x)) {l:Bool} {a b:A} (hok:dn P bn o.op (.lp l a b)=true) (he:light (.lp l a b) ev h= .val v):gX P ι w bC o v:=by
 obtain ⟨k,m,av,aD⟩:=qf (by simp) he
 obtain ⟨j,n,aQ,aD⟩:=qf (by simp) aD
 obtain ⟨y,hy,aD⟩:=o7 (by simp) aD
 cases aD
 simp only [dn] at hok
 split at hok
 · rename_i rm t x pb _ hx
   simp only [Bool.and_eq_true,decide_eq_true_eq] at hok
   obtain ⟨rfl,h1,h2⟩:=hok
   have h1:=bq _ _ h1
   rw [av] at h1
   have h1:bC _= .int k m:=h1
   have h2:=bq _ _ h2
   rw [aQ] at h2
   have h2:bC _= .int j n:=h2
   cases l with
   |true=>
    have hy:HB k m n=some v:=hy
    unfold HB at hy
    cases n with
    |negSucc n=>cases hy
    |ofNat n=>
     have hy:(bif n.ble 64&&n.ble k.bits then some (jV k (yL m (.ofNat (Nat.pow 2 n)))) else none)=some v:=hy
     rw [ew,ew] at hy
     by_cases hb:n≤k.bits
     · by_cases du:n≤64
       · simp only [hb,du,decide_true,Bool.and_self,cond_true,su,Mx,Option.some.injEq] at hy
         subst hy
         refine ⟨.int k (k.wrap (m * 2 ^ n)), ?_, ?_⟩
         · have Is:¬((n:Int)<0):=by omega
           simp [execOp,hx,h1,h2,Io,binOp,Op.shift,Result.andThen]
           simp [Nat.min_eq_left hb,Is]
         · simp only [bD];congr 3
       · simp [du] at hy
     · simp [hb] at hy
   |false=>
    have hy:HC k m n=some v:=hy
    unfold HC at hy
    cases m with
    |negSucc m=>cases hy
    |ofNat m=>cases n with
     |negSucc n=>cases hy
     |ofNat n=>
      have hy:(bif n.ble 64&&n.ble k.bits then some (ir k (m.div (Nat.pow 2 n))) else none)=some v:=hy
      rw [ew,ew] at hy
      by_cases hb:n≤k.bits
      · by_cases du:n≤64
        · simp only [hb,du,decide_true,Bool.and_self,cond_true,tH,Option.some.injEq] at hy
          subst hy
          refine ⟨.int k ((m:Int).fdiv (2 ^ n)), ?_, ?_⟩
          · have Is:¬((n:Int)<0):=by omega
            simp [execOp,hx,h1,h2,Io,binOp,Op.shift,Result.andThen]
            simp [Nat.min_eq_left hb,Is]
          · simp only [bD];congr 1
            show (m:Int).fdiv (2 ^ n)=((m / 2 ^ n:Nat):Int)
            rw [Int.fdiv_eq_ediv_of_nonneg _ (Int.pow_nonneg (by decide))];simp
        · simp [du] at hy
      · simp [hb] at hy
 · cases hok
end
end
end Go.Eng
namespace Go.Eng
noncomputable section
section
variable {P:Program} {ι:aY} {h:ae} {w:World} {bn:jl} {ev:dr} {bC:Operand→Value} {o:Oper} {v:V}
@[simp] theorem Bq (n x:Nat):q8 n x= .str n x:=by simp [q8]
theorem sC (c o n:Nat):(⟨c,o,none⟩:Addr).add n=⟨c,o+n,none⟩:=by unfold Addr.add;split<;>simp_all
theorem Br {ev:dr} {bC:Operand→Value} (bq:∀x a,bn x a=true→bD ι (ev a) (bC x)) {x:Operand} {a:A} {k:IntKind} {n:Int} (av:bn x a=true) (he:ev a= .int k n):bC x= .int k n:=by
 have:=bq x a av;rw [he] at this;exact this
theorem za {ev:dr} {bC:Operand→Value} (bq:∀x a,bn x a=true→bD ι (ev a) (bC x)) {x:Operand} {a:A} {n m:Nat} (av:bn x a=true) (he:ev a= .str n m):∃s,bC x= .string s∧D8 n m s:=by
 have:=bq x a av;rw [he] at this;exact this
theorem Es {ev:dr} {bC:Operand→Value} (bq:∀x a,bn x a=true→bD ι (ev a) (bC x)) {x:Operand} {a:A} {n m:Nat} (av:bn x a=true) (he:ev a= .ptr n m):∃B,ι n=some B∧bC x= .pointer (some ⟨B.c,B.off+m,none⟩):=by
 have:=bq x a av;rw [he] at this;exact this
theorem M1 {ev:dr} {bC:Operand→Value} (bq:∀x a,bn x a=true→bD ι (ev a) (bC x)) {x:Operand} {a:A} {b m n:Nat} {cap:Option Nat} (av:bn x a=true) (he:ev a= .au b m n cap):∃B y c,ι b=some B∧bC x= .slice (some y) n c∧yW B m n cap y c:=by
 have:=bq x a av;rw [he] at this;exact this
theorem vl {B:fk} {o n:Nat} {cap:Option Nat} {y:Addr} {c:Nat} (h:yW B o n cap y c) (hn:0<n):y=⟨B.c,B.off+o,none⟩:=by
 cases cap with
 |some k=>exact h.2.1
 |none=>
  obtain ⟨h1,h2,a6,cc,fA⟩:=h
  cases fA with
  |inl fA=>exact fA
  |inr fA=>omega
theorem VI (bq:∀x a,bn x a=true→bD ι (ev a) (bC x)) {off:Nat} {a:A} (hok:dn P bn o.op (.bK off a)=true) (he:light (.bK off a) ev h= .val v):gX P ι w bC o v:=by
 obtain ⟨b,q,av,aD⟩:=vj (by simp) he
 rw [force_eq] at aD
 cases aD
 simp only [dn] at hok
 split at hok
 · rename_i t x f hx
   split at hok
   · rename_i fs hu
     split at hok
     · rename_i dD hf
       simp only [Bool.and_eq_true,decide_eq_true_eq] at hok
       obtain ⟨rfl,ay,h1⟩:=hok
       obtain ⟨B,bN,h1⟩:=Es bq h1 av
       cases ag:P.info? dD.type with
       |none=>simp [ag] at ay
       |some i=>
        have ay:i.size≠0:=by simpa [ag] using ay
        have hz:P.cellsOf dD.type=i.size:=by simp [Program.cellsOf,ag]
        have k0:fs[f]? =some dD:=hf
        refine ⟨.pointer (some ⟨B.c,B.off+(q+dD.offset),none⟩), ?_,⟨B,bN,rfl⟩⟩
        simp [execOp,hx,Instr.fieldAt,run_underlying hu,k0,Instr.sureAddr,h1,fieldPlace,run_sizeOf w ag,hz,ay,sC,Result.andThen,Nat.add_assoc]
     · cases hok
   · cases hok
 · cases hok
theorem VJ (bq:∀x a,bn x a=true→bD ι (ev a) (bC x)) {r:Nat} {a i:A} (hok:dn P bn o.op (.bY r a i)=true) (he:light (.bY r a i) ev h= .val v):gX P ι w bC o v:=by
 obtain ⟨b,q,n,cap,av,aD⟩:=MR (by simp) he
 obtain ⟨k,j,aQ,aD⟩:=y7 (by simp) aD
 obtain ⟨aR,aD⟩:=o8 (by simp) aD
 rw [force_eq] at aD
 cases aD
 rw [fY,decide_eq_true_eq] at aR
 simp only [dn] at hok
 split at hok
 · rename_i t x y hx
   split at hok
   · rename_i el hu
     simp only [Bool.and_eq_true,decide_eq_true_eq] at hok
     obtain ⟨ay,h1,h2⟩:=hok
     obtain ⟨B,z,c,bN,h1,gD⟩:=M1 bq h1 av
     have h2:=Br bq h2 aQ
     have hz:=vl gD (by omega)
     refine ⟨.pointer (some ⟨B.c,B.off+(q+j * r),none⟩), ?_,⟨B,bN,rfl⟩⟩
     simp [execOp,hx,Instr.indexAt,run_underlying hu,h1,h2,asIntOf,aR,y8 w ay,hz,sC,Result.andThen,Nat.add_assoc]
   · cases hok
 · cases hok
theorem VK (bq:∀x a,bn x a=true→bD ι (ev a) (bC x)) {n r:Nat} {a i:A} (hok:dn P bn o.op (.si n r a i)=true) (he:light (.si n r a i) ev h= .val v):gX P ι w bC o v:=by
 obtain ⟨b,q,av,aD⟩:=vj (by simp) he
 obtain ⟨k,j,aQ,aD⟩:=y7 (by simp) aD
 obtain ⟨aR,aD⟩:=o8 (by simp) aD
 rw [force_eq] at aD
 cases aD
 rw [fY,decide_eq_true_eq] at aR
 simp only [dn] at hok
 split at hok
 · rename_i t x y hx
   split at hok
   · rename_i el hu
     simp only [Bool.and_eq_true,decide_eq_true_eq] at hok
     obtain ⟨rfl,ay,h1,h2⟩:=hok
     obtain ⟨B,bN,h1⟩:=Es bq h1 av
     have h2:=Br bq h2 aQ
     refine ⟨.pointer (some ⟨B.c,B.off+(q+j * r),none⟩), ?_,⟨B,bN,rfl⟩⟩
     simp [execOp,hx,Instr.indexAt,run_underlying hu,h1,h2,asIntOf,Instr.sureAddr,aR,y8 w ay,sC,Result.andThen,Nat.add_assoc]
   · cases hok
 · cases hok
theorem VL (bq:∀x a,bn x a=true→bD ι (ev a) (bC x)) {off n:Nat} {sg:Bool} {a:A} (hok:dn P bn o.op (.field off n sg a)=true) (he:light (.field off n sg a) ev h= .val v):gX P ι w bC o v:=(Bool.false_ne_true hok).elim
theorem VM (bq:∀x a,bn x a=true→bD ι (ev a) (bC x)) {a i:A} (hok:dn P bn o.op (.kT a i)=true) (he:light (.kT a i) ev h= .val v):gX P ι w bC o v:=by
 obtain ⟨n,m,av,aD⟩:=sz (by simp) he
 obtain ⟨k,j,aQ,aD⟩:=y7 (by simp) aD
 obtain ⟨aR,aD⟩:=o8 (by simp) aD
 cases aD
 rw [fY,decide_eq_true_eq] at aR
 simp only [dn] at hok
 split at hok
 · rename_i t x y hx
   split at hok
   · rename_i hu
     simp only [Bool.and_eq_true,decide_eq_true_eq] at hok
     obtain ⟨h1,h2⟩:=hok
     obtain ⟨s,h1,rfl,rfl⟩:=za bq h1 av
     have h2:=Br bq h2 aQ
     have VN:j<s.size:=Nat.lt_of_lt_of_eq aR Array.length_toList
     obtain ⟨z,hg,hz⟩:∃z,s[j]? =some z∧z=s.data.toList[j]:=⟨s[j],getElem?_pos s j VN,rfl⟩
     refine ⟨.int .u8 z.toNat, ?_, ?_⟩
     · have:(Instr.index t (.string s) (.int k (Int.ofNat j))).run P w= .ok (.int .u8 z.toNat) w:=by
        have e:(if 0≤Int.ofNat j then s[(Int.ofNat j).toNat]? else none)=some z:=by
         have h0:(0:Int)≤Int.ofNat j:=Int.natCast_nonneg j
         rw [if_pos h0];exact hg
        simp only [Instr.index,asIntOf,Sem.run_bind,Sem.run_pure,Result.andThen,run_underlying hu,e]
       simp only [execOp,hx,h1,h2,Sem.run_bind,this,Sem.run_pure,Result.andThen]
     · rw [tH,Vj _ _ aR,hz];rfl
   · cases hok
 · cases hok
theorem VO (bq:∀x a,bn x a=true→bD ι (ev a) (bC x)) {str:Bool} {a:A} (hok:dn P bn o.op (.len str a)=true) (he:light (.len str a) ev h= .val v):gX P ι w bC o v:=by
 simp only [dn] at hok
 split at hok
 · rename_i args argTypes hx
   split at hok
   · rename_i x t hargs It
     have aS:args= #[x]:=by cases args;simp at hargs;simp [hargs]
     subst aS
     cases str with
     |true=>
      obtain ⟨n,m,av,aD⟩:=sz (by simp) he
      cases aD
      split at hok
      · rename_i hu
        obtain ⟨s,h1,rfl,rfl⟩:=za bq (by simpa using hok) av
        refine ⟨goInt s.size,by simp [execOp,hx,resolve,invoke,builtin,Builtin.len_,It,run_underlying hu,h1,Result.andThen], ?_⟩
        rw [tH];rfl
      · simp at hok
      · cases hok
     |false=>
      split at hok
      · simp at hok
      · rename_i el hu
        have key:bn x a=true:=by simpa using hok
        rcases MT (by simp) he with ⟨av,aD⟩|⟨b,q,n,cap,av,aD⟩
        · cases aD
          have h1:=bq _ _ key
          rw [av] at h1
          have h1:bC x= .slice none 0 0:=h1
          exact ⟨goInt 0,by simp [execOp,hx,resolve,invoke,builtin,Builtin.len_,It,run_underlying hu,h1,Result.andThen],by rw [tH];rfl⟩
        · cases aD
          obtain ⟨B,z,c,bN,h1,gD⟩:=M1 bq key av
          exact ⟨goInt n,by simp [execOp,hx,resolve,invoke,builtin,Builtin.len_,It,run_underlying hu,h1,Result.andThen],by rw [tH];rfl⟩
      · cases hok
   · cases hok
 · cases hok
end
end
end Go.Eng
namespace Go.Eng
noncomputable section
section
variable {P:Program} {ι:aY} {h:ae} {w:World} {bn:jl} {ev:dr} {bC:Operand→Value} {o:Oper} {v:V}
theorem VP {op:BinOp} {t:TypeId} (bq:y5 op=true) {s u:ByteArray} {y:V}
  (h:A5 op s.data.toList.length (enc s.data.toList) u.data.toList.length (enc u.data.toList)=some y):∃x,(binOp op t (.string s) (.string u)).run P w= .ok x w∧bD ι y x:=by
 have ar:pZ (gy s.data.toList.length (enc s.data.toList)) (gy u.data.toList.length (enc u.data.toList))=Op.bytesLess s.toList u.toList:=by
  rw [qg,qg,y9,Go.Lib.toList_data,Go.Lib.toList_data]
 have sD:pZ (gy u.data.toList.length (enc u.data.toList)) (gy s.data.toList.length (enc s.data.toList))=Op.bytesLess u.toList s.toList:=by
  rw [qg,qg,y9,Go.Lib.toList_data,Go.Lib.toList_data]
 have he:l2 s.data.toList.length (enc s.data.toList) u.data.toList.length (enc u.data.toList)=(s.toList==u.toList):=by
  rw [Ep ⟨rfl,rfl⟩ ⟨rfl,rfl⟩,Go.Lib.toList_data,Go.Lib.toList_data]
  rw [Bool.eq_iff_iff]
  simp only [decide_eq_true_eq,beq_iff_eq]
  constructor
  · intro h;rw [h]
  · intro h;cases s;cases u;congr;exact Array.ext' h
 have M3:∀a b:List UInt8,(Op.bytesLess a b||a==b)= !Op.bytesLess b a:=by
  intro a
  induction a with
  |nil=>intro b;cases b<;>simp [Op.bytesLess]
  |cons x a bm=>
   intro b
   cases b with
   |nil=>simp [Op.bytesLess]
   |cons y b=>
    have:=bm b
    simp only [Op.bytesLess,List.cons_beq_cons]
    by_cases h1:x<y
    · have h2:¬y<x:=fun h=>by rw [UInt8.lt_iff_toNat_lt] at h h1;omega
      have a6:¬y=x:=fun h=>by subst h;rw [UInt8.lt_iff_toNat_lt] at h1;omega
      simp [h1,h2,a6]
    · by_cases h2:y<x
      · have a6:¬x=y:=fun h=>by subst h;exact h1 h2
        simp [h1,h2,a6]
      · have a6:x=y:=by
         rw [UInt8.lt_iff_toNat_lt] at h1 h2
         exact UInt8.toNat_inj.1 (by omega)
        subst a6
        simpa [h1] using this
 cases op<;>first|(simp [y5] at bq;done)|(cases h;done)|skip
 · have h:HE _ _ _ _=some y:=h
   unfold HE at h
   rw [fY] at h
   by_cases hb:s.data.toList.length+u.data.toList.length<4294967296
   · have ec:decide (Nat.add s.data.toList.length u.data.toList.length<4294967296)=true:=by simpa using hb
     rw [ec,cond_true,Bq,Vk] at h
     cases h
     have dC:¬(((s.size+u.size:Nat):Int)>IntKind.i64.max):=by
      rw [Go.Lib.size_eq,Go.Lib.size_eq];simp only [IntKind.max,IntKind.signed,IntKind.bits];simp at hb ⊢;omega
     refine ⟨.string (s++u),by simp only [binOp,Op.stringOp,if_neg dC];rfl,s++u,rfl, ?_, ?_⟩
     · simp
     · simp
   · have ec:decide (Nat.add s.data.toList.length u.data.toList.length<4294967296)=false:=by simpa using hb
     rw [ec] at h;cases h
 · have h:HF _ _ _ _=some y:=h
   unfold HF at h;rw [he] at h;cases h
   exact ⟨_,rfl,rfl⟩
 · have h:HG _ _ _ _=some y:=h
   unfold HG at h;rw [he,tI] at h;cases h
   exact ⟨_,rfl,rfl⟩
 · have h:HH _ _ _ _=some y:=h
   unfold HH at h;rw [ar] at h;cases h
   exact ⟨_,rfl,rfl⟩
 · have h:HI _ _ _ _=some y:=h
   unfold HI at h;rw [sD,tI,←M3] at h;cases h
   exact ⟨_,rfl,rfl⟩
 · have h:HJ _ _ _ _=some y:=h
   unfold HJ at h
   have e:Op.bytesLess u.toList s.toList= !(Op.bytesLess s.toList u.toList||s.toList==u.toList):=by rw [M3,Bool.not_not]
   rw [sD,e] at h;cases h
   exact ⟨_,rfl,rfl⟩
 · have h:HK _ _ _ _=some y:=h
   unfold HK at h;rw [ar,tI] at h;cases h
   exact ⟨_,rfl,rfl⟩
theorem VQ (bq:∀x a,bn x a=true→bD ι (ev a) (bC x)) {op:BinOp} {a b:A} (hok:dn P bn o.op (.e8 op a b)=true) (he:light (.e8 op a b) ev h= .val v):gX P ι w bC o v:=by
 obtain ⟨n,m,av,aD⟩:=sz (by simp) he
 obtain ⟨fy,jH,aQ,aD⟩:=sz (by simp) aD
 obtain ⟨y,hy,aD⟩:=o7 (by simp) aD
 cases aD
 simp only [dn] at hok
 split at hok
 · rename_i rm t x pb _ hx
   simp only [Bool.and_eq_true,decide_eq_true_eq] at hok
   obtain ⟨rfl,h0,h1,h2⟩:=hok
   obtain ⟨s,h1,rfl,rfl⟩:=za bq h1 av
   obtain ⟨u,h2,rfl,rfl⟩:=za bq h2 aQ
   obtain ⟨z,hz,hr⟩:=VP (P:=P) (w:=w) (ι:=ι) h0 (t:=t) hy
   exact ⟨z,by simp [execOp,hx,h1,h2,Vs,hz,Result.andThen],hr⟩
 · cases hok
theorem ma {t:TypeId} {x y:Value} {c:Bool} (h:∀d,(Op.equalIn (d+1) t x y).run P w= .ok c w):(Op.equal t x y).run P w= .ok c w:=h 9999
def vm (P:Program) (w:World) (t:TypeId) (q:cK) (c:Bool) (x y:Value):Prop:=
 (Op.equal t x y).run P w= .ok c w∧(∀op X Y,(isConst X||isConst Y||Ii q)=true→(eqGuard op t X Y x y).run P w= .ok () w)∧
     ∀u,binOp .eql u x y=(do pure (.bool (←Op.equal u x y)))∧binOp .neq u x y=(do pure (.bool (!(←Op.equal u x y))))
theorem mb {op:BinOp} {t:TypeId} {X Y:Operand} {x y:Value} (h1:∀a,x≠.agg a) (h2:x= .nilIface→y= .nilIface→(isConst X||isConst Y)=true):
  (eqGuard op t X Y x y).run P w= .ok () w:=by
 cases x with
 |agg a=>exact absurd rfl (h1 a)
 |nilIface=>
  cases y with
  |nilIface=>
   have:=h2 rfl rfl
   cases X<;>cases Y<;>simp [isConst] at this<;>(unfold eqGuard;split<;>simp [Result.andThen])
  |_=>unfold eqGuard;split<;>simp [Result.andThen]
 |_=>unfold eqGuard;split<;>simp [Result.andThen]
theorem VR {t:TypeId} {a b:Bool} (bB:lx P t .bool=true):vm P w t .bool (a==b) (.bool a) (.bool b):=by
 have hu:P.underlying t=some .bool:=by
  simp only [lx] at bB
  cases hu:P.underlying t with
  |none=>simp [hu] at bB
  |some d=>cases d<;>simp [hu] at bB ⊢
 exact ⟨ma fun d=>by simp [Op.equalIn,run_underlying hu,Result.andThen],fun op X Y _=>mb (by simp) (by simp),fun u=>⟨rfl,rfl⟩⟩
theorem VS {t:TypeId} {a b:V} {c:Bool} (bB:lx P t .ptr=true) (h:cK.eq .ptr a b=some c) {x y:Value} (hx:bD ι a x) (hy:bD ι b y):vm P w t .ptr c x y:=by
 obtain ⟨e,i,hu,ag,ay⟩:∃e i,P.underlying t=some (.pointer e)∧P.info? e=some i∧i.size≠0:=by
  simp only [lx] at bB
  cases hu:P.underlying t with
  |none=>simp [hu] at bB
  |some d=>
   cases d<;>simp [hu] at bB
   rename_i e
   cases ag:P.info? e with
   |none=>simp [ag] at bB
   |some i=>exact ⟨e,i,rfl,ag,by simpa [ag] using bB⟩
 have hz:P.cellsOf e≠0:=by simpa [Program.cellsOf,ag] using ay
 cases a<;>first|(cases b<;>cases h<;>done)|skip
 · cases b<;>cases h
   · cases hx;cases hy
     exact ⟨ma fun d=>by simp [Op.equalIn,run_underlying hu,Result.andThen],fun op X Y _=>mb (by simp) (by simp),fun u=>⟨rfl,rfl⟩⟩
   · cases hx;obtain ⟨B,bN,rfl⟩:=hy
     exact ⟨ma fun d=>by simp [Op.equalIn,run_underlying hu,Result.andThen],fun op X Y _=>mb (by simp) (by simp),fun u=>⟨rfl,rfl⟩⟩
 · cases b<;>first|(cases h;done)|skip
   · cases h;cases hy;obtain ⟨B,bN,rfl⟩:=hx
     exact ⟨ma fun d=>by simp [Op.equalIn,run_underlying hu,Result.andThen],fun op X Y _=>mb (by simp) (by simp),fun u=>⟨rfl,rfl⟩⟩
   · rename_i ff Iu eQ Iv
     have h:(bif ff.beq eQ then some (Iu.beq Iv) else none)=some c:=h
     rw [h5,h5] at h
     by_cases hb:ff=eQ
     · subst hb
       obtain ⟨B,bN,rfl⟩:=hx
       obtain ⟨aZ,dJ,rfl⟩:=hy
       rw [bN] at dJ;cases dJ
       simp only [decide_true,cond_true,Option.some.injEq] at h
       subst h
       refine ⟨?_,fun op X Y _=>mb (by simp) (by simp),fun u=>⟨rfl,rfl⟩⟩
       refine ma fun d=> ?_
       simp [Op.equalIn,run_underlying hu,Result.andThen,run_sizeOf w ag,hz,sameAddr]
       rw [Bool.eq_iff_iff];simp
     · simp [hb] at h
theorem VT {t:TypeId} {a b:V} {c:Bool} (bB:lx P t .au=true) (h:cK.eq .au a b=some c) {x y:Value} (hx:bD ι a x) (hy:bD ι b y):vm P w t .au c x y:=by
 obtain ⟨e,hu⟩:∃e,P.underlying t=some (.slice e):=by
  simp only [lx] at bB
  cases hu:P.underlying t with
  |none=>simp [hu] at bB
  |some d=>cases d<;>simp [hu] at bB ⊢
 cases a<;>first|(cases b<;>cases h<;>done)|skip
 · cases b<;>cases h
   · cases hx;cases hy
     exact ⟨ma fun d=>by simp [Op.equalIn,run_underlying hu,Result.andThen],fun op X Y _=>mb (by simp) (by simp),fun u=>⟨rfl,rfl⟩⟩
   · cases hx;obtain ⟨B,_,_,bN,rfl,_⟩:=hy
     exact ⟨ma fun d=>by simp [Op.equalIn,run_underlying hu,Result.andThen],fun op X Y _=>mb (by simp) (by simp),fun u=>⟨rfl,rfl⟩⟩
 · cases b<;>cases h
   cases hy;obtain ⟨B,_,_,bN,rfl,_⟩:=hx
   exact ⟨ma fun d=>by simp [Op.equalIn,run_underlying hu,Result.andThen],fun op X Y _=>mb (by simp) (by simp),fun u=>⟨rfl,rfl⟩⟩
theorem VU {t:TypeId} {a b:V} {c:Bool} (bB:lx P t .map=true) (h:cK.eq .map a b=some c) {x y:Value} (hx:bD ι a x) (hy:bD ι b y):vm P w t .map c x y:=by
 obtain ⟨e,bF,hu⟩:∃e bF,P.underlying t=some (.map e bF):=by
  simp only [lx] at bB
  cases hu:P.underlying t with
  |none=>simp [hu] at bB
  |some d=>cases d<;>simp [hu] at bB ⊢
 cases a<;>first|(cases b<;>cases h<;>done)|skip
 · cases b<;>cases h
   · cases hx;cases hy
     exact ⟨ma fun d=>by simp [Op.equalIn,run_underlying hu,Result.andThen],fun op X Y _=>mb (by simp) (by simp),fun u=>⟨rfl,rfl⟩⟩
   · cases hx;obtain ⟨B,bN,rfl⟩:=hy
     exact ⟨ma fun d=>by simp [Op.equalIn,run_underlying hu,Result.andThen],fun op X Y _=>mb (by simp) (by simp),fun u=>⟨rfl,rfl⟩⟩
 · cases b<;>cases h
   cases hy;obtain ⟨B,bN,rfl⟩:=hx
   exact ⟨ma fun d=>by simp [Op.equalIn,run_underlying hu,Result.andThen],fun op X Y _=>mb (by simp) (by simp),fun u=>⟨rfl,rfl⟩⟩
theorem VV {t:TypeId} {a b:V} {c:Bool} (bB:lx P t .fn=true) (h:cK.eq .fn a b=some c) {x y:Value} (hx:bD ι a x) (hy:bD ι b y):vm P w t .fn c x y:=by
 obtain ⟨e,bF,M4,hu⟩:∃e bF M4,P.underlying t=some (.func e bF M4):=by
  simp only [lx] at bB
  cases hu:P.underlying t with
  |none=>simp [hu] at bB
  |some d=>cases d<;>simp [hu] at bB ⊢
 cases a<;>first|(cases b<;>cases h<;>done)|skip
 · cases b<;>cases h
   cases hy;obtain ⟨_,_,rfl,_⟩:=hx
   exact ⟨ma fun d=>by simp [Op.equalIn,run_underlying hu,Result.andThen],fun op X Y _=>mb (by simp) (by simp),fun u=>⟨rfl,rfl⟩⟩
 · cases b<;>cases h
   · cases hx;obtain ⟨_,_,rfl,_⟩:=hy
     exact ⟨ma fun d=>by simp [Op.equalIn,run_underlying hu,Result.andThen],fun op X Y _=>mb (by simp) (by simp),fun u=>⟨rfl,rfl⟩⟩
   · cases hx;cases hy
     exact ⟨ma fun d=>by simp [Op.equalIn,run_underlying hu,Result.andThen],fun op X Y _=>mb (by simp) (by simp),fun u=>⟨rfl,rfl⟩⟩
theorem VW {t:TypeId} {a b:V} {c:Bool} (bB:lx P t .ez=true) (h:cK.eq .ez a b=some c) {x y:Value} (hx:bD ι a x) (hy:bD ι b y):vm P w t .ez c x y:=by
 obtain ⟨e,hu⟩:∃e,P.underlying t=some (.interface e):=by
  simp only [lx] at bB
  cases hu:P.underlying t with
  |none=>simp [hu] at bB
  |some d=>cases d<;>simp [hu] at bB ⊢
 cases a<;>first|(cases b<;>cases h<;>done)|skip
 · cases b<;>cases h
   cases hy;obtain ⟨_,rfl,_⟩:=hx
   exact ⟨ma fun d=>by simp [Op.equalIn,run_underlying hu,Result.andThen],fun op X Y _=>mb (by simp) (by simp),fun u=>⟨rfl,rfl⟩⟩
 · cases b<;>cases h
   · cases hx;obtain ⟨_,rfl,_⟩:=hy
     exact ⟨ma fun d=>by simp [Op.equalIn,run_underlying hu,Result.andThen],fun op X Y _=>mb (by simp) (by simp),fun u=>⟨rfl,rfl⟩⟩
   · cases hx;cases hy
     exact ⟨ma fun d=>by simp [Op.equalIn,run_underlying hu,Result.andThen],fun op X Y av=>mb (by simp) (fun _ _=>by simpa [Ii] using av),fun u=>⟨rfl,rfl⟩⟩
theorem flat_agg {t:TypeId} {q:cK} (h:o6 P t q=true):oe P t false=true:=by
 unfold o6 at h
 unfold oe
 split at h<;>first|(cases h;done)|(split at h<;>first|(cases h;done)|(rename_i hu;rw [hu];rfl))
theorem VX {t:TypeId} {q:cK} {a b:V} {c:Bool} {x y:Value} (bB:o6 P t q=true) (h:q.eq a b=some c) (hx:bD ι a x) (hy:bD ι b y) (d:Nat):(Op.equalIn (d+1) t x y).run P w= .ok c w:=by
 cases q with
 |int=>
  obtain ⟨k,hu⟩:∃k,P.underlying t=some (.int k):=by
   simp only [o6] at bB
   cases hu:P.underlying t with
   |none=>simp [hu] at bB
   |some d=>cases d<;>simp [hu] at bB ⊢
  cases a<;>first|(cases b<;>cases h<;>done)|skip
  cases b<;>first|(cases h;done)|skip
  rename_i j a i b
  simp only [cK.eq] at h
  cases hk:nw j i with
  |false=>rw [hk] at h;cases h
  |true=>
   rw [hk] at h
   have Bs:j=i:=by cases j<;>cases i<;>first|rfl|cases hk
   subst Bs
   cases hx;cases hy
   simp only [cond_true,yU,Option.some.injEq] at h
   rw [run_equalIn_int w d t j k a b hu,←h]
   congr 1
 |str=>
  have hu:P.underlying t=some .string:=by
   simp only [o6] at bB
   cases hu:P.underlying t with
   |none=>simp [hu] at bB
   |some d=>cases d<;>simp [hu] at bB ⊢
  cases a<;>first|(cases b<;>cases h<;>done)|skip
  cases b<;>first|(cases h;done)|skip
  simp only [cK.eq,Option.some.injEq] at h
  obtain ⟨s,rfl,ay⟩:=hx
  obtain ⟨u,rfl,wX⟩:=hy
  rw [run_equalIn_string w d t s u hu,←h,Ep ay wX]
  congr 1
  rw [Bool.eq_iff_iff]
  simp only [beq_iff_eq,decide_eq_true_eq]
  constructor
  · intro a6
    rw [ByteArray.toList_eq,ByteArray.toList_eq] at a6
    obtain ⟨⟨x⟩⟩:=s
    obtain ⟨⟨y⟩⟩:=u
    simp only at a6
    rw [a6]
  · intro e;rw [e]
 |bool=>
  have hu:P.underlying t=some .bool:=by
   simp only [o6] at bB
   cases hu:P.underlying t with
   |none=>simp [hu] at bB
   |some d=>cases d<;>simp [hu] at bB ⊢
  cases a<;>first|(cases b<;>cases h<;>done)|skip
  cases b<;>first|(cases h;done)|skip
  cases h;cases hx;cases hy
  exact run_equalIn_bool' w d t _ _ hu
 |ptr=>simp [o6] at bB
 |au=>simp [o6] at bB
 |map=>simp [o6] at bB
 |fn=>simp [o6] at bB
 |ez=>simp [o6] at bB
 |st fs=>simp [o6] at bB
theorem M5 {l m:List V} {cs ds:Array Value} (ar:ch ι l cs.toList) (hm:ch ι m ds.toList) (d:Nat):∀{fs:List Field} {dP:List (Nat×cK)} {c:Bool},wW P fs dP=true→cK.eqs dP l m=some c→(Op.eqFields (d+1) cs ds fs).run P w= .ok c w
 |[],[],c,_,h=>by
  simp only [cK.eqs,Option.some.injEq] at h
  subst h
  simp [Op.eqFields]
 |[],_::_,c,hf,_=>by simp [wW] at hf
 |_::_,[],c,hf,_=>by simp [wW] at hf
 |f::fs,(off,q)::dP,c,hf,h=>by
  simp only [wW,Bool.and_eq_true,decide_eq_true_eq] at hf
  obtain ⟨hn,rfl,bB,hf⟩:=hf
  simp only [cK.eqs,wO,oZ,List.head?_drop] at h
  cases ha:l[f.offset]? with
  |none=>simp only [ha] at h;cases h
  |some a=>
   cases hb:m[f.offset]? with
   |none=>simp only [ha,hb] at h;cases h
   |some b=>
    simp only [ha,hb] at h
    obtain ⟨x,hx,rx⟩:=ar.get ha
    obtain ⟨y,hy,VY⟩:=hm.get hb
    have h7:cs[f.offset]? =some x:=by simpa using hx
    have VZ:ds[f.offset]? =some y:=by simpa using hy
    have M6:=flat_agg bB
    have M7:(part f.type cs f.offset).run P w= .ok x w:=by simp [part,Il w M6,h7,Result.andThen]
    have M8:(part f.type ds f.offset).run P w= .ok y w:=by simp [part,Il w M6,VZ,Result.andThen]
    cases av:q.eq a b with
    |none=>simp only [av] at h;cases h
    |some r=>
     simp only [av] at h
     have hr:=VX (P:=P) (w:=w) (ι:=ι) bB av rx VY d
     cases r with
     |true=>simp [Op.eqFields,hn,M7,M8,hr,Result.andThen,M5 ar hm d hf h]
     |false=>
      simp only [Option.some.injEq] at h
      subst h
      simp [Op.eqFields,hn,M7,M8,hr,Result.andThen]
theorem V0 {t:TypeId} {dP:List (Nat×cK)} {a b:V} {c:Bool} (bB:lx P t (.st dP)=true) (h:cK.eq (.st dP) a b=some c) {x y:Value} (hx:bD ι a x) (hy:bD ι b y):vm P w t (.st dP) c x y:=by
 obtain ⟨fs,hu,h1,h2,a6⟩:∃fs,P.underlying t=some (.struct fs)∧P.stoodInHeld t=false∧P.eqGuardType P.depth t=false∧wW P fs.toList dP=true:=by
  simp only [lx] at bB
  cases hu:P.underlying t with
  |none=>simp [hu] at bB
  |some d=>
   cases d<;>simp [hu] at bB ⊢
   exact ⟨bB.1,bB.2.1,bB.2.2⟩
 cases a<;>first|(cases b<;>simp [cK.eq] at h<;>done)|skip
 cases b<;>first|(simp [cK.eq] at h;done)|skip
 simp only [cK.eq] at h
 obtain ⟨cs,rfl,ar,_⟩:=hx
 obtain ⟨ds,rfl,hm,_⟩:=hy
 have oh:P.fieldsOf t=fs:=by unfold Program.fieldsOf;rw [hu]
 have e:(Op.equal t (.agg cs) (.agg ds)).run P w= .ok c w:=by
  show (Op.equalIn (9998+1+1) t (.agg cs) (.agg ds)).run P w= .ok c w
  rw [run_equalIn_struct w (9998+1) t cs ds (by rw [oh];exact hu) h1,oh]
  exact M5 ar hm 9998 a6 h
 exact ⟨e,fun op X Y _=>run_eqGuard_agg w op t X Y cs ds h2,fun u=>⟨rfl,rfl⟩⟩
theorem V1 {t:TypeId} {q:cK} {a b:V} {c:Bool} (bB:lx P t q=true) (h:q.eq a b=some c) {x y:Value} (hx:bD ι a x) (hy:bD ι b y):vm P w t q c x y:=by
 cases q with
 |bool=>
  cases a<;>first|(cases b<;>cases h<;>done)|skip
  cases b<;>first|(cases h;done)|skip
  cases h;cases hx;cases hy
  exact VR bB
 |ptr=>exact VS bB h hx hy
 |au=>exact VT bB h hx hy
 |map=>exact VU bB h hx hy
 |fn=>exact VV bB h hx hy
 |ez=>exact VW bB h hx hy
 |int=>simp [lx] at bB
 |str=>simp [lx] at bB
 |st fs=>exact V0 bB h hx hy
theorem V2 (bq:∀x a,bn x a=true→bD ι (ev a) (bC x)) {neg:Bool} {q:cK} {a b:A} (hok:dn P bn o.op (.eq neg q a b)=true) (he:light (.eq neg q a b) ev h= .val v):gX P ι w bC o v:=by
 obtain ⟨c,av,aD⟩:=j0 (by simp) he
 cases aD
 simp only [dn] at hok
 split at hok
 · rename_i rm t x pb _ hx
   simp only [Bool.and_eq_true,decide_eq_true_eq] at hok
   obtain ⟨rfl,bB,hg,h1,h2⟩:=hok
   obtain ⟨aS,bl,df⟩:=V1 (P:=P) (w:=w) (ι:=ι) bB av (bq _ _ h1) (bq _ _ h2)
   cases neg with
   |false=>exact ⟨.bool c,by simp [execOp,hx,bl .eql x pb hg,(df t).1,aS,Result.andThen],by simp [bD]⟩
   |true=>exact ⟨.bool (!c),by simp [execOp,hx,bl .neq x pb hg,(df t).2,aS,Result.andThen],by simp [bD]⟩
 · cases hok
end
end
end Go.Eng
namespace Go.Eng
noncomputable section
section
variable {P:Program} {ι:aY} {h:ae} {w:World} {bn:jl} {ev:dr} {bC:Operand→Value} {o:Oper} {v:V}
theorem M9 {r:bE} (hr:r≠.bad) {f:List oX→Nat→bE} {b:Nat} (he:Obj.map? .bad f (h.obj b)=r):∃es c,T.get b h.t=some (.map es c)∧f es c=r:=by
 unfold ae.obj at he
 cases hg:T.get b h.t with
 |none=>rw [hg] at he;exact absurd he.symm hr
 |some aG=>
  rw [hg] at he
  cases aG with
  |map es c=>exact ⟨es,c,rfl,he⟩
  |_=>exact absurd he.symm hr
theorem rf.length:∀{l:List oX} {m:List MapEntry},rf ι l m→m.length=l.length
 |[],m,e=>by simp [rf] at e;simp [e]
 |a::l,m,e=>by
  simp only [rf] at e;obtain ⟨x,xs,rfl,_,_,_,h2⟩:=e;simp [h2.length]
theorem V3 (g:Good ι h w) (bq:∀x a,bn x a=true→bD ι (ev a) (bC x)) {q:cK} {zero:V} {ok:Bool} {m k:A} (hok:dn P bn o.op (.lookup q zero ok m k)=true) (he:light (.lookup q zero ok m k) ev h= .val v):gX P ι w bC o v:=(Bool.false_ne_true hok).elim
theorem V4 (bq:∀x a,bn x a=true→bD ι (ev a) (bC x)) {t:Nat} {zero:V} {ok:Bool} {a:A} (hok:dn P bn o.op (.AX t zero ok a)=true) (he:light (.AX t zero ok a) ev h= .val v):gX P ι w bC o v:=(Bool.false_ne_true hok).elim
theorem V5 (g:Good ι h w) (bq:∀x a,bn x a=true→bD ι (ev a) (bC x)) {a:A} (hok:dn P bn o.op (.wI a)=true) (he:light (.wI a) ev h= .val v):gX P ι w bC o v:=(Bool.false_ne_true hok).elim
theorem V6 (bq:∀x a,bn x a=true→bD ι (ev a) (bC x)) {mx:Bool} {a b:A} (hok:dn P bn o.op (.AY mx a b)=true) (he:light (.AY mx a b) ev h= .val v):gX P ι w bC o v:=(Bool.false_ne_true hok).elim
end
end
end Go.Eng
namespace Go.Eng
noncomputable section
section
variable {P:Program} {ι:aY} {h:ae} {w:World} {bn:jl} {ev:dr} {bC:Operand→Value} {o:Oper} {v:V}
def bound (x:Option Value) (d n:Nat):Prop:=(x=none∧n=d)∨∃k,x=some (.int k (n:Int))
theorem qh (bq:∀x a,bn x a=true→bD ι (ev a) (bC x)) {x:Option Operand} {a:Option A} (av:rl bn x a=true) {d n:Nat} (h:dM a ev d=some n):bound (x.map bC) d n:=by
 cases x with
 |none=>cases a with
  |none=>cases h;exact .inl ⟨rfl,rfl⟩
  |some a=>simp [rl] at av
 |some x=>cases a with
  |none=>simp [rl] at av
  |some a=>
   obtain ⟨k,hk⟩:=Ij (v:=ev a) h
   have:=bq x a av
   rw [hk] at this
   exact .inr ⟨k,congrArg some this⟩
theorem Iw {s:Bool} {len cap i j m:Nat} {br ag mx:Option Value} (hm:bound mx cap m) (bQ:bound ag len j) (ar:bound br 0 i) (e2:ag=none→mx=none) (h1:m≤cap) (h2:j≤m) (a6:i≤j):
  (Instr.sliceBounds s len cap br ag mx).run P w= .ok (i,j,m) w:=by
 rcases hm with ⟨rfl,rfl⟩|⟨agx,rfl⟩
 · rcases bQ with ⟨rfl,rfl⟩|⟨V7,rfl⟩<;>rcases ar with ⟨rfl,rfl⟩|⟨Ix,rfl⟩<;>simp [Instr.sliceBounds,run_sliceBound,Result.andThen,h1,h2,a6]
 · rcases bQ with ⟨rfl,rfl⟩|⟨V7,rfl⟩
   · cases e2 rfl
   · rcases ar with ⟨rfl,rfl⟩|⟨Ix,rfl⟩<;>simp [Instr.sliceBounds,run_sliceBound,Result.andThen,h1,h2,a6]
theorem Na {t el:TypeId} {r:Nat} (hu:P.underlying t=some (.slice el)) (ay:l9 P el r=true) {a:Option Addr} {len cap i j m:Nat} {br ag mx:Option Value} (hm:bound mx cap m) (bQ:bound ag len j) (ar:bound br 0 i) (e2:ag=none→mx=none) (h1:m≤cap) (h2:j≤m) (a6:i≤j):
  (Instr.sliceAt t (.slice a len cap) br ag mx).run P w= .ok (.slice (if m=i then a else a.map (·.add (i * r))) (j - i) (m - i)) w:=by
 simp [Instr.sliceAt,run_underlying hu,Instr.slice,Iw hm bQ ar e2 h1 h2 a6,y8 w ay,Result.andThen]
theorem V8 (bq:∀x a,bn x a=true→bD ι (ev a) (bC x)) {a:A} {br ag:Option A} (hok:dn P bn o.op (.n3 a br ag)=true) (he:light (.n3 a br ag) ev h= .val v):gX P ι w bC o v:=by
 obtain ⟨n,m,av,aD⟩:=sz (by simp) he
 obtain ⟨j,aR,aD⟩:=j0 (by simp) aD
 obtain ⟨i,mJ,aD⟩:=j0 (by simp) aD
 obtain ⟨hb,aD⟩:=o8 (by simp) aD
 cases aD
 simp only [ew,Bool.and_eq_true,decide_eq_true_eq] at hb
 simp only [dn] at hok
 split at hok
 · rename_i t x vi Iy hx
   split at hok
   · rename_i hu
     simp only [Bool.and_eq_true] at hok
     obtain ⟨h1,h2,a6⟩:=hok
     obtain ⟨s,h1,rfl,rfl⟩:=za bq h1 av
     have eQ:=qh bq h2 mJ
     have tO:=qh bq a6 aR
     rw [←Go.Lib.size_eq] at tO hb
     rw [Bq]
     refine ⟨.string (s.extract i j), ?_,s.extract i j,rfl, ?_⟩
     · have pc:=Iw (P:=P) (w:=w) (s:=false) (len:=s.size) (cap:=s.size) (mx:=none) (.inl ⟨rfl,rfl⟩) tO eQ (fun _=>rfl) (Nat.le_refl _) hb.2 hb.1
       simp [execOp,hx,Instr.sliceAt,run_underlying hu,h1,Instr.slice,pc,Result.andThen]
     · refine ⟨?_, ?_⟩
       · rw [Go.Lib.extract_data];rw [Go.Lib.size_eq] at hb;simp only [List.length_take,List.length_drop]
         show min (j - i) _=j - i;omega
       · rw [Go.Lib.extract_data,MX];rfl
   · cases hok
 · cases hok
theorem Nb (b o i j m r:Nat):nx b o i j m r= .val (.au b (if m=i then o else if m - i=0 then o else o+i * r) (j - i) (some (m - i))):=by
 unfold nx tE
 simp only [force_eq,bE.val.injEq,V.au.injEq,true_and]
 refine ⟨?_,rfl,rfl⟩
 rw [h5]
 by_cases h:m - i=0
 · simp [h]
 · have:m≠i:=by omega
   simp [h,this]
theorem Et {B:fk} {b o i j m r:Nat} (bN:ι b=some B) (h2:j≤m) (a6:i≤j):∃x,nx b o i j m r= .val x∧
  bD ι x (.slice (if m=i then some ⟨B.c,B.off+o,none⟩ else (some (⟨B.c,B.off+o,none⟩:Addr)).map (·.add (i * r))) (j - i) (m - i)):=by
 refine ⟨_,Nb .., ?_⟩
 by_cases h:m=i
 · rw [if_pos h,if_pos h]
   exact ⟨B,_,_,bN,rfl,rfl,rfl,by omega⟩
 · rw [if_neg h,if_neg h,if_neg (by omega)]
   refine ⟨B,_,_,bN,rfl,rfl, ?_,by omega⟩
   show Addr.add _ _=_
   rw [sC,Nat.add_assoc]
theorem V9 (bq:∀x a,bn x a=true→bD ι (ev a) (bC x)) {n r:Nat} {a:A} {br ag mx:Option A} (hok:dn P bn o.op (.u0 n r a br ag mx)=true) (he:light (.u0 n r a br ag mx) ev h= .val v):gX P ι w bC o v:=by
 have he:(match (ev a).lo with
  |some (b,o)=>match dM ag ev n,dM br ev 0,dM mx ev n with
   |some j,some i,some m=>bif i.ble j&&(j.ble m&&m.ble n) then nx b o i j m r else .bad
   |_,_,_=> .bad
  |none=> .bad)=bE.val v:=he
 obtain ⟨b,q,av⟩:∃b q,ev a= .ptr b q:=by
  generalize ev a=cR at he
  cases cR<;>first|exact ⟨_,_,rfl⟩|cases he
 rw [av] at he
 have he:(match dM ag ev n,dM br ev 0,dM mx ev n with
   |some j,some i,some m=>bif i.ble j&&(j.ble m&&m.ble n) then nx b q i j m r else .bad
   |_,_,_=> .bad)=bE.val v:=he
 cases aS:dM ag ev n with
 |none=>simp [aS] at he
 |some j=>
  cases bl:dM br ev 0 with
  |none=>simp [aS,bl] at he
  |some i=>
   cases df:dM mx ev n with
   |none=>simp [aS,bl,df] at he
   |some m=>
    simp only [aS,bl,df] at he
    obtain ⟨hb,aD⟩:=o9 (by simp) he
    simp only [ew,Bool.and_eq_true,decide_eq_true_eq] at hb
    simp only [dn] at hok
    split at hok
    · rename_i t x vi Iy og hx
      split at hok
      · rename_i fy el hu
        simp only [Bool.and_eq_true,decide_eq_true_eq] at hok
        obtain ⟨rfl,ay,h1,h2,a6,cc,fA⟩:=hok
        obtain ⟨B,bN,h1⟩:=Es bq h1 av
        have eQ:=qh bq h2 bl
        have tO:=qh bq a6 aS
        have Iz:=qh bq cc df
        have e2:Iy.map bC=none→og.map bC=none:=by
         cases Iy<;>cases og<;>simp [En] at fA ⊢
        have pc:=Iw (P:=P) (w:=w) (s:=false) Iz tO eQ e2 hb.2.2 hb.2.1 hb.1
        obtain ⟨fe,mK,ky⟩:=Et (ι:=ι) (r:=r) (o:=q) bN hb.2.1 hb.1
        rw [mK] at aD
        injection aD with aD
        subst aD
        refine ⟨_, ?_,ky⟩
        simp [execOp,hx,Instr.sliceAt,run_underlying hu,h1,Instr.sureAddr,pc,y8 w ay,Result.andThen]
        split<;>rfl
      · cases hok
    · cases hok
theorem Wa (g:Good ι h w) (bq:∀x a,bn x a=true→bD ι (ev a) (bC x)) {r:Nat} {a:A} {br ag mx:Option A} (hok:dn P bn o.op (.jU r a br ag mx)=true) (he:light (.jU r a br ag mx) ev h= .val v):gX P ι w bC o v:=by
 simp only [dn] at hok
 split at hok
 · rename_i t x vi mJ og hx
   split at hok
   · rename_i el hu
     simp only [Bool.and_eq_true] at hok
     obtain ⟨ay,h1,h2,a6,cc,fA⟩:=hok
     have h1:=bq _ _ h1
     have e2:mJ.map bC=none→og.map bC=none:=by
      cases mJ<;>cases og<;>simp [En] at fA ⊢
     have he:(match ev a with
      | .U=>match dM ag ev 0,dM br ev 0,dM mx ev 0 with
        |some 0,some 0,some 0=> .val .U
        |_,_,_=> .bad
      | .au b o n cap=>match dM ag ev n,dM br ev 0 with
        |some j,some i=>ny r b o n cap i j (Option.rec none (fun x=>some (ev x).asNat) mx) h
        |_,_=> .bad
      |_=> .bad)=bE.val v:=he
     generalize av:ev a=cR at he h1
     cases cR<;>first|(cases he;done)|skip
     · simp only at he
       split at he
       · rename_i aS bl df
         injection he with he
         subst he
         have h1:bC x= .slice none 0 0:=h1
         have:=Na (P:=P) (w:=w) hu ay (a:=none) (qh bq cc df) (qh bq a6 aS) (qh bq h2 bl) e2 (Nat.le_refl _) (Nat.le_refl _) (Nat.le_refl _)
         exact ⟨.slice none 0 0,by simp [execOp,hx,h1,this,Result.andThen],rfl⟩
       · cases he
     · rename_i b q n cap
       obtain ⟨B,y,c,bN,h1,gD⟩:=h1
       simp only at he
       cases aS:dM ag ev n with
       |none=>simp [aS] at he
       |some j=>
        cases bl:dM br ev 0 with
        |none=>simp [aS,bl] at he
        |some i=>
         simp only [aS,bl] at he
         have eQ:=qh bq h2 bl
         have tO:=qh bq a6 aS
         have fin:∀(m:Nat) (fe:V),bound (og.map bC) c m→m≤c→j≤m→i≤j→bD ι fe (.slice (if m=i then some y else (some y).map (·.add (i * r))) (j - i) (m - i))→fe=v→gX P ι w bC o v:=by
          intro m fe Iz aW bu cC hr aD
          subst aD
          have:=Na (P:=P) (w:=w) hu ay (a:=some y) Iz tO eQ e2 aW bu cC
          exact ⟨_,by simp only [execOp,hx,h1,Sem.run_bind,this,Result.andThen];rfl,hr⟩
         have Nc:∀(a:A) (m:Nat),mx=some a→(ev a).asNat=some m→bound (og.map bC) c m:=by
          intro a m hm hn
          refine qh bq cc (d:=c) ?_
          rw [hm];exact hn
         have Nd:mx=none→bound (og.map bC) c c:=by
          intro hm
          refine qh bq cc (d:=c) ?_
          rw [hm];rfl
         cases cap with
         |some k=>
          obtain ⟨rfl,rfl,Eu⟩:=gD
          cases mx with
          |none=>
           have he:(bif i.ble j&&j.ble c then nx b q i j c r else .bad)=bE.val v:=he
           obtain ⟨hb,aD⟩:=o9 (by simp) he
           simp only [ew,Bool.and_eq_true,decide_eq_true_eq] at hb
           obtain ⟨fe,mK,ky⟩:=Et (ι:=ι) (r:=r) (o:=q) bN hb.2 hb.1
           exact fin c fe (Nd rfl) (Nat.le_refl _) hb.2 hb.1 ky (by rw [mK] at aD;injection aD)
          |some bf=>
           cases df:(ev bf).asNat with
           |none=>simp [df,ny] at he
           |some m=>
            simp only [df] at he
            have he:(bif i.ble j&&(j.ble m&&m.ble c) then nx b q i j m r else .bad)=bE.val v:=he
            obtain ⟨hb,aD⟩:=o9 (by simp) he
            simp only [ew,Bool.and_eq_true,decide_eq_true_eq] at hb
            obtain ⟨fe,mK,ky⟩:=Et (ι:=ι) (r:=r) (o:=q) bN hb.2.1 hb.1
            exact fin m fe (Nc bf m rfl df) hb.2.2 hb.2.1 hb.1 ky (by rw [mK] at aD;injection aD)
         |none=>
          have IA:=gD
          obtain ⟨pd,k1,sE,Bt,vn⟩:=IA
          cases mx with
          |some bf=>
           cases df:(ev bf).asNat with
           |none=>simp [df,ny] at he
           |some m=>
            simp only [df] at he
            have he:(bif Nat.blt 0 n&&(i.ble j&&(j.ble m&&m.ble n)) then nx b q i j m r else .bad)=bE.val v:=he
            obtain ⟨hb,aD⟩:=o9 (by simp) he
            simp only [ew,fY,Bool.and_eq_true,decide_eq_true_eq] at hb
            obtain ⟨jy,gN,du,IB⟩:=hb
            have hy:=vl gD jy
            subst hy
            obtain ⟨fe,mK,ky⟩:=Et (ι:=ι) (r:=r) (o:=q) bN du gN
            exact fin m fe (Nc bf m rfl df) (by omega) du gN ky (by rw [mK] at aD;injection aD)
          |none=>
           have he:(match h.obj b with
            |some (.cells dt _ _ bk _)=>bif dt.beq r&&(i.ble j&&(j.ble n||(Nat.add q (Nat.mul j r)).ble bk)) then tE b (Nat.add q (Nat.mul i r)) (Nat.sub j i) none else .bad
            |_=> .bad)=bE.val v:=he
           cases hg:h.obj b with
           |none=>simp [hg] at he
           |some aG=>
            cases aG with
            |cells dt cO ap bk rows=>
             simp only [hg] at he
             obtain ⟨hb,aD⟩:=o9 (by simp) he
             simp only [ew,h5,Bool.and_eq_true,Bool.or_eq_true,decide_eq_true_eq] at hb
             obtain ⟨rfl,gN,du⟩:=hb
             obtain ⟨cs,_,_,_,_,s1,s2,fw,_⟩:=g.obj b B _ bN hg (g.kY b (g.small b (by simp [bN])) (by rw [show T.get b h.t=_ from hg];simp))
             obtain ⟨t1,t2,t3,t4,t5⟩:=fw
             subst t1
             have s2:B.off+bk≤cs.size:=s2
             have dC:bk≤B.cap * B.r:=by omega
             obtain ⟨d,aQ⟩:∃d,q=d * B.r:=⟨q / B.r,by have:=Nat.div_add_mod q B.r;rw [k1,Nat.mul_comm] at this;omega⟩
             subst aQ
             rw [Nat.mul_div_cancel _ sE] at pd
             have Bu:j≤c:=by
              rcases du with du|du
              · omega
              · have du:d * B.r+j * B.r≤bk:=du
                rw [←Nat.add_mul] at du
                have:=Nat.le_of_mul_le_mul_right (Nat.le_trans du dC) sE
                omega
             have aD:bE.val (.au b (d * B.r+i * B.r) (j - i) none)=bE.val v:=by simpa [tE] using aD
             injection aD with aD
             refine fin c _ (Nd rfl) (Nat.le_refl _) Bu gN ?_ aD
             have aS:(d * B.r+i * B.r) / B.r=d+i:=by rw [←Nat.add_mul,Nat.mul_div_cancel _ sE]
             have bl:(d * B.r+i * B.r) % B.r=0:=by rw [←Nat.add_mul,Nat.mul_mod_left]
             by_cases Nf:c=i
             · rw [if_pos Nf]
               exact ⟨B,_,_,bN,rfl,by rw [aS];omega,bl,sE,by omega, .inr (by omega)⟩
             · rw [if_neg Nf]
               have hy:y=⟨B.c,B.off+d * B.r,none⟩:=by
                rcases vn with h|h
                · exact h
                · omega
               refine ⟨B,_,_,bN,rfl,by rw [aS];omega,bl,sE,by omega, .inl ?_⟩
               rw [hy]
               show Addr.add _ _=_
               rw [sC,Nat.add_assoc]
            |_=>simp [hg] at he
   · cases hok
 · cases hok
end
end
end Go.Eng
namespace Go.Eng
noncomputable section
section
variable {P:Program} {ι:aY} {h:ae} {w:World} {bn:jl} {ev:dr} {bC:Operand→Value} {o:Oper} {v:V}
theorem Wb (a:V) (l:List V):bytesOf (a::l)=(match bytesOf l with
 |none=>none
 |some x=>match a.yJ with|none=>none|some b=>if b<256 then some (x.1+1,b+256 * x.2) else none):=by
 show (Option.rec none (fun x=>Option.rec none (fun b=>bif b.blt 256 then some (Nat.succ x.1,Nat.add b (Nat.mul 256 x.2)) else none) a.yJ) (bytesOf l):Option (Nat×Nat))=_
 cases bytesOf l with
 |none=>rfl
 |some x=>
  cases a.yJ with
  |none=>rfl
  |some b=>
   show (bif b.blt 256 then _ else _)=_
   rw [fY]
   by_cases hb:b<256<;>simp [hb]
theorem Wc {a:V} {b:Nat} (h:a.yJ=some b):a= .int .u8 (.ofNat b):=by
 cases a<;>first|(cases h;done)|skip
 rename_i k n
 cases k<;>first|(cases h;done)|skip
 cases n with
 |ofNat n=>have h:some n=some b:=h;cases h;rfl
 |negSucc n=>cases h
theorem Ng:∀(l:List V) (xs:List Value) (p:Nat×Nat),bytesOf l=some p→ch ι l xs→∃bs:List UInt8,xs=(bs.map fun b=>(b.toNat:Int)).map (Value.int .u8)∧p=(bs.length,enc bs)
 |[],xs,p,h,hr=>by
  cases h;cases hr;exact ⟨[],rfl,rfl⟩
 |a::l,xs,p,h,hr=>by
  obtain ⟨x,xs,rfl,h1,h2⟩:=hr
  rw [Wb] at h
  cases hp:bytesOf l with
  |none=>simp [hp] at h
  |some q=>
   cases ha:a.yJ with
   |none=>simp [hp,ha] at h
   |some b=>
    simp only [hp,ha] at h
    by_cases hb:b<256
    · rw [if_pos hb] at h
      cases h
      obtain ⟨bs,rfl,rfl⟩:=Ng l xs q hp h2
      have:=Wc ha
      subst this
      have h1:x= .int .u8 (Int.ofNat b):=h1
      subst h1
      have e:(UInt8.ofNat b).toNat=b:=by simp;omega
      refine ⟨UInt8.ofNat b::bs, ?_, ?_⟩
      · simp only [List.map_cons,e];rfl
      · simp only [List.length_cons,enc,e]
    · rw [if_neg hb] at h;cases h
theorem foldl_push:∀(bs:List UInt8) (s:ByteArray),(((bs.map fun b=>(b.toNat:Int))).foldl (fun r n=>r.push (UInt8.ofNat n.toNat)) s).data.toList=s.data.toList++bs
 |[],s=>by simp
 |b::bs,s=>by
  simp only [List.map_cons,List.foldl_cons]
  rw [foldl_push bs]
  have:UInt8.ofNat ((b.toNat:Int)).toNat=b:=by simp
  rw [this]
  simp [ByteArray.push]
theorem Wd (g:Good ι h w) (bq:∀x a,bn x a=true→bD ι (ev a) (bC x)) {a:A} (hok:dn P bn o.op (.q5 a)=true) (he:light (.q5 a) ev h= .val v):gX P ι w bC o v:=by
 simp only [dn] at hok
 split at hok
 · rename_i s d x hx
   split at hok
   · rename_i el ay aQ
     split at hok
     · rename_i sF
       have h1:=bq _ _ hok
       have he:(match ev a with
        | .U=> .val (.str 0 0)
        | .au b o n _=>Option.rec .bad (fun l=>Option.rec .bad (fun x=> .val (q8 x.1 x.2)) (bytesOf l)) (h.load b o n)
        |_=> .bad)=bE.val v:=he
       generalize av:ev a=cR at he h1
       cases cR<;>first|(cases he;done)|skip
       · injection he with he
         subst he
         have h1:bC x= .slice none 0 0:=h1
         exact ⟨.string .empty,by simp [execOp,hx,h1,run_convert_bytes_string w s d el none 0 0 ay sF aQ,Conv.bytesToString,Result.andThen], .empty,rfl,rfl,rfl⟩
       · rename_i b q n cap
         obtain ⟨B,y,c,bN,h1,gD⟩:=h1
         simp only at he
         obtain ⟨l,ar,aD⟩:=j0 (by simp) he
         obtain ⟨p,hp,aD⟩:=j0 (by simp) aD
         rw [Bq] at aD
         injection aD with aD
         subst aD
         obtain ⟨xs,hlen,Bv,vk,hcell⟩:=yZ g bN ar
         obtain ⟨bs,rfl,rfl⟩:=Ng l xs p hp Bv
         have iI:(loadCells y n).run P w= .ok ((bs.map fun b=>(b.toNat:Int)).map (Value.int .u8)).toArray w:=by
          by_cases hn:n=0
          · subst hn
            have:bs=[]:=by simpa using hlen
            subst this
            exact run_loadCells_list w y [] (fun j v aD=>by simp at aD)
          · have hy:=vl gD (by omega)
            subst hy
            rw [←hlen]
            exact run_loadCells_list w _ _ fun j v aD=>by
             rw [sC]
             exact hcell j v aD
         refine ⟨_,by simp only [execOp,hx,h1,Sem.run_bind,run_convert_bytes_string w s d el (some y) n c ay sF aQ,run_bytesToString w y n c _ iI,Result.andThen];rfl,_,rfl, ?_, ?_⟩
         · rw [foldl_push];simp
         · rw [foldl_push];simp
     · cases hok
   · cases hok
 · cases hok
theorem Wf (p:Nat×Nat×A) (aO:List (Nat×Nat×A)) (cs:List V):fill (p::aO) ev cs=(match (ev p.2.2).dA with
 |none=>none
 |some l=>if l.length=p.2.1∧p.1+p.2.1≤cs.length then fill aO ev (gL p.1 l cs) else none):=by
 show (Option.rec none (fun l=>bif (cI l).beq p.2.1&&(Nat.add p.1 p.2.1).ble (cI cs) then fill aO ev (gL p.1 l cs) else none) (ev p.2.2).dA:Option (List V))=_
 cases (ev p.2.2).dA with
 |none=>rfl
 |some l=>
  show (bif _ then _ else _)=_
  rw [h5,ew,kX,kX]
  by_cases h1:l.length=p.2.1
  · by_cases h2:p.1+p.2.1≤cs.length
    · simp [h1,h2]
    · simp [h2]
  · simp [h1]
theorem IC (bq:∀x a,bn x a=true→bD ι (ev a) (bC x)) {place place':Nat→Option (Nat×Nat)} (tP:∀i p,place i=some p→place' i=some p):
  ∀(parts:List (Nat×Operand)) (aO:List (Nat×Nat×A)) (cs l:List V) (ms:Array Value),wV P bn place parts aO=true→ch ι cs ms.toList→(∀x∈ms.toList,x.oneCell'=true)→fill aO ev cs=some l→
   ∃vo,Instr.fill place' ms (parts.map fun p=>(p.1,bC p.2))=some vo∧ch ι l vo.toList∧(∀x∈vo.toList,x.oneCell'=true)∧vo.size=ms.size
 |[],aO,cs,l,ms,hp,hr,h1,hf=>by
  cases aO with
  |nil=>cases hf;exact ⟨ms,rfl,hr,h1,rfl⟩
  |cons p aO=>simp [wV] at hp
 |(i,x)::parts,[],cs,l,ms,hp,hr,h1,hf=>by simp [wV] at hp
 |(i,x)::parts,(off,n,a)::aO,cs,l,ms,hp,hr,h1,hf=>by
  simp only [wV,Bool.and_eq_true,decide_eq_true_eq] at hp
  obtain ⟨Wg,av,hp⟩:=hp
  rw [Wf] at hf
  cases vp:(ev a).dA with
  |none=>simp [vp] at hf
  |some k=>
   simp only [vp] at hf
   by_cases pe:k.length=n∧off+n≤cs.length
   · rw [if_pos pe] at hf
     obtain ⟨iU,mK⟩:=Ik vp (bq x a av)
     have dC:(bC x).cells.size=n:=by have:=iU.length;simp at this;omega
     have dQ:ms.size=cs.length:=by have:=hr.length;simpa using this
     obtain ⟨f1,f2⟩:=Go.Great.foldl_set off (bC x).cells.toList 0 ms
     have Nh:(bC x).cells.zipIdx.foldl (fun cs (x:Value×Nat)=>cs.setIfInBounds (off+x.2) x.1) ms=((bC x).cells.toList.zipIdx 0).foldl (fun cs (x:Value×Nat)=>cs.setIfInBounds (off+x.2) x.1) ms:=by
      rw [←Array.foldl_toList,Array.toList_zipIdx]
     generalize agy:((bC x).cells.toList.zipIdx 0).foldl (fun cs (x:Value×Nat)=>cs.setIfInBounds (off+x.2) x.1) ms=vo at f1 f2 Nh
     have Wh:Instr.fill place' ms (((i,x)::parts).map fun p=>(p.1,bC p.2))=Instr.fill place' vo (parts.map fun p=>(p.1,bC p.2)):=by
      simp only [List.map_cons,Instr.fill,tP _ _ Wg]
      rw [if_neg (by simp only [Bool.or_eq_true,decide_eq_true_eq,dC];omega),Nh]
     have mc:∀j,vo[j]? =if off≤j∧j<off+n then (bC x).cells[j - off]? else ms[j]? :=by
      intro j
      rw [f2 j]
      simp only [Nat.add_zero,Array.length_toList,dC,Array.getElem?_toList]
      by_cases aR:off≤j∧j<off+n
      · rw [if_pos (by omega),if_pos aR]
      · rw [if_neg (by omega),if_neg aR]
     have nB:=D5 off k cs (by omega)
     have Wi:∀j,(gL off k cs)[j]? =if off≤j∧j<off+n then k[j - off]? else cs[j]? :=by
      intro j
      rw [nB]
      by_cases c1:j<off
      · rw [if_neg (by omega),List.append_assoc,List.getElem?_append_left (by simp;omega),List.getElem?_take_of_lt c1]
      · by_cases c2:j<off+n
        · rw [if_pos (by omega),List.append_assoc,List.getElem?_append_right (by simp;omega),List.getElem?_append_left (by simp;omega)]
          congr 1;simp;omega
        · rw [if_neg (by omega),List.getElem?_append_right (by simp;omega),List.getElem?_drop]
          congr 1;simp;omega
     have hlen:(gL off k cs).length=cs.length:=by rw [nB];simp;omega
     obtain ⟨m2,r1,fI,kz,vq⟩:=IC bq tP parts aO (gL off k cs) l vo hp
      (ch.of (by rw [hlen,Array.length_toList,f1];exact dQ) fun j u y hu hy=>by
        rw [Array.getElem?_toList,mc] at hy
        rw [Wi] at hu
        by_cases aR:off≤j∧j<off+n
        · rw [if_pos aR] at hy hu
          obtain ⟨z,hz,Ev⟩:=iU.get hu
          rw [Array.getElem?_toList,hy] at hz
          cases hz;exact Ev
        · rw [if_neg aR] at hy hu
          obtain ⟨z,hz,Ev⟩:=hr.get hu
          rw [Array.getElem?_toList,hy] at hz
          cases hz;exact Ev)
      (fun y hy=>by
        obtain ⟨j,aR⟩:=List.mem_iff_getElem?.1 hy
        rw [Array.getElem?_toList,mc] at aR
        by_cases av:off≤j∧j<off+n
        · rw [if_pos av] at aR
          exact mK y (by rw [←Array.getElem?_toList] at aR;exact List.mem_of_getElem? aR)
        · rw [if_neg av] at aR
          exact h1 y (by rw [←Array.getElem?_toList] at aR;exact List.mem_of_getElem? aR)) hf
     exact ⟨m2,by rw [Wh];exact r1,fI,kz,by rw [vq,f1]⟩
   · rw [if_neg pe] at hf;cases hf
theorem Bw {t:TypeId} {z:List V} (hz:wU P t z=true):∃x,(zeroValue t).run P w= .ok x w∧ch ι z x.cells.toList∧(∀y∈x.cells.toList,y.oneCell'=true)∧∃i,P.info? t=some i∧i.zero=some x:=by
 unfold wU at hz
 cases ag:P.info? t with
 |none=>simp [ag] at hz
 |some i=>
  cases hx:i.zero with
  |none=>simp [ag,hx] at hz
  |some x=>
   simp only [ag,hx,Bool.and_eq_true] at hz
   exact ⟨x,by simp [zeroValue,run_typeInfo w ag,hx,Result.andThen],Em z _ hz.1,fun y hy=>List.all_eq_true.1 hz.2 y hy,i,rfl,hx⟩
theorem Wj {fs:List Field} (h:∀f∈fs,(P.info? f.type).isSome=true):∃places,fs.mapM (fun f=>(P.info? f.type).map fun i=>(f.offset,i.size))=some places∧
  ∀i:Nat,places[i]? =match (fs[i]? :Option Field) with|some f=>(match P.info? f.type with|some t=>some (f.offset,t.size)|none=>none)|none=>none:=by
 induction fs with
 |nil=>exact ⟨[],rfl,fun i=>by simp⟩
 |cons f fs bm=>
  obtain ⟨pl,h1,h2⟩:=bm fun g hg=>h g (by simp [hg])
  have hf:=h f (by simp)
  obtain ⟨i,ag⟩:=Option.isSome_iff_exists.1 hf
  refine ⟨(f.offset,i.size)::pl,by simp [List.mapM_cons,ag,h1],fun j=> ?_⟩
  cases j with
  |zero=>simp [ag]
  |succ j=>simpa using h2 j
theorem Wk (bq:∀x a,bn x a=true→bD ι (ev a) (bC x)) {zero:List V} {aO:List (Nat×Nat×A)} (hok:dn P bn o.op (.build zero aO)=true) (he:light (.build zero aO) ev h= .val v):gX P ι w bC o v:=by
 obtain ⟨l,ar,aD⟩:=j0 (by simp) he
 rw [l4] at aD
 cases aD
 simp only [dn] at hok
 split at hok
 · rename_i t parts hx
   simp only [Bool.and_eq_true] at hok
   obtain ⟨hz,hok⟩:=hok
   obtain ⟨z,Ew,ly,sG,it,Wl,Wm⟩:=Bw (P:=P) (w:=w) (ι:=ι) hz
   split at hok
   · rename_i fs hu
     simp only [Bool.and_eq_true] at hok
     obtain ⟨hp,nE⟩:=hok
     obtain ⟨pl,tP,Wn⟩:=Wj (P:=P) (fs:=fs.toList) (fun f hf=>by
      rw [Array.all_eq_true_iff_forall_mem] at nE
      exact nE f (by simpa using hf))
     obtain ⟨ms,r1,fI,kz,_⟩:=IC (P:=P) (ev:=ev) bq (place':=fun i=>pl.toArray[i]?) (fun i p ag=>by
       show pl.toArray[i]? =some p
       rw [List.getElem?_toArray,Wn i,Array.getElem?_toList]
       exact ag) parts.toList aO zero l z.cells hp ly sG ar
     refine ⟨.agg ms, ?_,ms,rfl,fI,kz⟩
     have hb:P.built t (parts.map fun (i,x)=>(i,bC x)).toList=some ms:=by
      simp only [Program.built,Wl,hu,Wm,tP]
      rw [Array.toList_map]
      exact r1
     simp [execOp,hx,run_build w t _ _ hb,Result.andThen]
   · cases hok
 · cases hok
end
end
end Go.Eng
namespace Go.Eng
noncomputable section
theorem Ni {r k:Nat} (hr:0<r) (vs:List V) (aD:vs.length=k * r) (hk:0≤k):p9 r (k * r) (eC r k 0 vs T.e):=by
 refine ⟨hr,Nat.zero_le _,fun i row ag hg=> ?_⟩
 rw [qb r k 0 vs T.e i (by omega) ag] at hg
 by_cases av:0≤i∧i<0+k
 · rw [if_pos av] at hg
   cases hg
   have h2:(i+1) * r≤k * r:=Nat.mul_le_mul_right r (by omega)
   refine ⟨?_,h2⟩
   simp only [Nat.sub_zero,List.length_take,List.length_drop,aD]
   rw [Nat.add_mul] at h2;omega
 · rw [if_neg av,T.u5] at hg;cases hg
theorem Nj {r k cO ap:Nat} (hr:0<r) (vs:List V) (aD:vs.length=k * r) (hk:0≤k) (j:Nat):cellOf (.cells r cO ap (k * r) (eC r k 0 vs T.e)) j=vs[j]? :=by
 rw [vf]
 by_cases aR:j<k * r
 · rw [if_pos aR,H0 hr vs aD T.e (by omega) j (Nat.zero_le _),if_pos (by rw [Nat.zero_mul,Nat.zero_add];exact ⟨Nat.zero_le _,aR⟩)]
   simp
 · rw [if_neg aR];symm;rw [List.getElem?_eq_none_iff];omega
theorem Wo {r f a n:Nat} {t:T (List V)} (h:eT (.cells r f a n t)=true):0<r∧0≤n:=by
 have h:(Nat.blt 0 r)=true:=h
 rw [fY] at h
 exact ⟨by simpa using h,Nat.zero_le _⟩
theorem zb {r f a k:Nat} {t:T (List V)} (h:eT (.cells r f a (k * r) t)=true):0<r∧0≤k:=by
 exact ⟨(Wo h).1,Nat.zero_le _⟩
theorem Nk (n:Nat) (l:List V):rep (n+1) l=l++rep n l:=by show fx l (rep n l)=_;rw [o0]
theorem Bx (n:Nat) (l:List V):(rep n l).length=n * l.length:=by
 induction n with
 |zero=>simp;rfl
 |succ n bm=>rw [Nk,List.length_append,bm,Nat.add_mul];omega
theorem ID (l:List V):∀(n j:Nat),j<n * l.length→(rep n l)[j]? =l[j % l.length]?
 |0,j,h=>by simp at h
 |n+1,j,h=>by
  rw [Nk]
  by_cases aR:j<l.length
  · rw [List.getElem?_append_left aR,Nat.mod_eq_of_lt aR]
  · rw [List.getElem?_append_right (by omega),ID l n (j - l.length) (by rw [Nat.add_mul] at h;omega),←Nat.mod_eq_sub_mod (by omega)]
theorem Nl {z:Array Value} {n r:Nat} (hz:z.size=r) (hr:0<r):∀j x,(madeCells z n)[j]? =some x→z[j % r]? =some x∧j<n:=by
 intro j x h
 unfold madeCells at h
 rw [Array.getElem?_map,hz] at h
 by_cases aR:j<n
 · rw [Array.getElem?_range,if_pos aR] at h
   simp only [Option.map_some,Option.some.injEq] at h
   have hm:=Nat.mod_lt j hr
   rw [getElem!_pos z (j % r) (by omega)] at h
   exact ⟨by rw [←h];exact Array.getElem?_eq_getElem _,aR⟩
 · rw [Array.getElem?_eq_none (by simpa using aR)] at h;simp at h
structure rn (ι:aY) (b:Nat) (w w':World) (B:fk) (aG:Obj):Prop where
 c:B.c=w.heap.size
 cO:B.cO=b
 old:∀c,c<w.heap.size→w'.heap[c]? =w.heap[c]?
 size:w'.heap.size=w.heap.size+1
 tape:w'.tape=w.tape
 os:w'.os=w.os
 out:w'.output=w.output
 rel:mF ι B aG w'
def wY (P:Program) (ι:aY) (b:Nat) (w:World) (bC:Operand→Value) (o:Oper) (aG:Obj) (v:V):Prop:=
 ∃v' w' B,(execOp bC o).run P w= .ok (.value v') w'∧rn ι b w w' B aG∧bD (ι.put b B) v v'
theorem rn.frame {ι:aY} {b:Nat} {w w':World} {B:fk} {aG:Obj} (n:rn ι b w w' B aG) (h:ae):ri ι h w w':=ri.push n.old (by have:=n.size;omega) n.tape n.os n.out
theorem rn.fJ {ι:aY} {h:ae} {w w':World} {B:fk} {aG:Obj} (n:rn ι h.next w w' B aG) (g:Good ι h w) (hf:ι h.next=none) (ar:0≤h.next):Good (ι.put h.next B) (h.add aG) w':=
 Va g hf ar n.c n.cO n.old n.size n.rel
section
variable {P:Program} {ι:aY} {h:ae} {w:World} {bn:jl} {ev:dr} {bC:Operand→Value} {o:Oper} {aG:Obj} {v:V}
theorem Ex (w:World) (o:Go.Obj):∀c,c<w.heap.size→(w.alloc o).heap[c]? =w.heap[c]? :=by
 intro c av;show (w.heap.push o)[c]? =_;rw [Array.getElem?_push,if_neg (by omega)]
theorem zc (w:World) (o:Go.Obj):(w.alloc o).heap[w.heap.size]? =some o:=by
 show (w.heap.push o)[w.heap.size]? =_;rw [Array.getElem?_push,if_pos rfl]
theorem Nn (b:Nat) {row:List V} {cs:Array Value} {el:TypeId} (hr:ch ι row cs.toList) (h1:∀x∈cs.toList,x.oneCell'=true):
  ∃B,rn ι b w (w.alloc (.cells cs el)) B (.box row)∧bD (ι.put b B) (.ptr b 0) (.pointer (some ⟨w.heap.size,0,none⟩)):=by
 have hlen:cs.size=row.length:=by simpa using hr.length
 refine ⟨⟨w.heap.size,0,row.length,0,0,b,0⟩,⟨rfl,rfl,Ex w _,by simp,rfl,rfl,rfl, ?_⟩,⟨_,aY.gB ..,rfl⟩⟩
 refine ⟨cs,el,(0,0),zc w _,qa.b (.inl (Nat.le_refl _)) (by simp [nz,hlen]),rfl,by simp [nz,hlen],trivial,fun j v aR=> ?_⟩
 obtain ⟨x,hx,aD⟩:=hr.get aR
 refine ⟨x, ?_,h1 x (List.mem_of_getElem? hx),aD⟩
 rw [←Array.getElem?_toList];simpa using hx
theorem Ey (b:Nat) {r k cap:Nat} (fK:0<r) (hk:0≤k) (nF:k≤cap) {vs:List V} {cs more:List Value} {el:TypeId} {w':World} {fr:Nat×Nat}
  (aD:vs.length=k * r) (hr:ch ι vs cs) (h1:∀x∈cs,x.oneCell'=true) (dC:cs.length+more.length=cap * r)
  (me:w'.heap[w.heap.size]? =some (.cells (cs++more).toArray el fr)) (Bz:qa (cap * r) fr):
  mF ι ⟨w.heap.size,0,k * r,r,cap,b,0⟩ (.cells r b 0 (k * r) (eC r k 0 vs T.e)) w':=by
 have vp:cs.length=k * r:=hr.length.trans aD
 refine ⟨(cs++more).toArray,el,fr,me,qa.cells (by simpa [dC] using Bz),rfl, ?_,⟨rfl,rfl,rfl,by simp [dC],Ni fK vs aD hk⟩,fun j v aR=> ?_⟩
 · simp [nz,vp]
 · rw [Nj fK vs aD hk] at aR
   obtain ⟨x,hx,aD⟩:=hr.get aR
   refine ⟨x, ?_,h1 x (List.mem_of_getElem? hx),aD⟩
   have:j<cs.length:=(List.getElem?_eq_some_iff.1 hx).1
   simp [List.getElem?_append_left this,hx]
theorem Wp {cs:List V} (hok:dn P bn o.op (.alloc cs)=true) (he:light (.alloc cs) ev h= .new aG v):wY P ι h.next w bC o aG v:=by
 have he:force h.next (fun b=>bE.new (.box cs) (.ptr b 0))= .new aG v:=he
 rw [force_eq] at he
 cases he
 simp only [dn] at hok
 split at hok<;>rename_i hx
 · rename_i t
   obtain ⟨x,hz,hr,h1,_⟩:=Bw (P:=P) (w:=w) (ι:=ι) hok
   obtain ⟨B,ff,eQ⟩:=Nn h.next (w:=w) (el:=t) hr h1
   exact ⟨_,_,B,by simp [execOp,hx,Instr.alloc,hz,newVar,newRow,Result.andThen],ff,eQ⟩
 · cases hok
theorem Wq (bq:∀x a,bn x a=true→bD ι (ev a) (bC x)) {n:Nat} {a:A} (hok:dn P bn o.op (.box n a)=true) (he:light (.box n a) ev h= .new aG v):wY P ι h.next w bC o aG v:=by
 have he:force h.next (fun b=>(Option.rec .bad (fun l=>Bool.rec .bad (gK l fun l=> .new (.box l) (.ptr b 0)) ((cI l).beq n)) (ev a).dA:bE))= .new aG v:=he
 rw [force_eq] at he
 obtain ⟨l,av,he⟩:=j0 (by simp) he
 obtain ⟨_,he⟩:=o8 (by simp) he
 rw [l4] at he
 cases he
 simp only [dn] at hok
 split at hok<;>rename_i hx
 · rename_i t x
   obtain ⟨hr,h1⟩:=Ik av (bq _ _ hok)
   obtain ⟨B,ff,eQ⟩:=Nn h.next (w:=w) (el:=t) hr h1
   exact ⟨_,_,B,by simp [execOp,hx,Instr.box,newVar,newRow,Result.andThen],ff,eQ⟩
 · cases hok
theorem Wr (hok:dn P bn o.op .wH=true) (he:light .wH ev h= .new aG v):wY P ι h.next w bC o aG v:=(Bool.false_ne_true hok).elim
theorem Ws (bq:∀x a,bn x a=true→bD ι (ev a) (bC x)) {r bytes:Nat} {zero:List V} {l c:A} (hok:dn P bn o.op (.n2 r zero bytes l c)=true) (he:light (.n2 r zero bytes l c) ev h= .new aG v) (dC:eT aG=true):wY P ι h.next w bC o aG v:=by
 have he:(match (ev l).asNat,(ev c).asNat with
  |some n,some m=>force h.next fun b=>bif n.ble m&&(Nat.mul m bytes).ble 1099511627776 then gl r m 0 (rep m zero) T.e fun t=> .new (.cells r b 0 (Nat.mul m r) t) (.au b 0 n (some m)) else .bad
  |_,_=> .bad)=bE.new aG v:=he
 cases aS:(ev l).asNat with
 |none=>simp [aS] at he
 |some n=>
  cases bl:(ev c).asNat with
  |none=>simp [aS,bl] at he
  |some m=>
   simp only [aS,bl,force_eq,h6] at he
   obtain ⟨hb,he⟩:=o9 (by simp) he
   simp only [ew,Bool.and_eq_true,decide_eq_true_eq] at hb
   cases he
   obtain ⟨Ix,Ez⟩:=Ij aS
   obtain ⟨Wt,Wu⟩:=Ij bl
   simp only [dn] at hok
   split at hok
   · rename_i t aI dw hx
     simp only [Bool.and_eq_true,decide_eq_true_eq] at hok
     obtain ⟨fK,h1,h2,hok⟩:=hok
     split at hok
     · rename_i el hu
       simp only [Bool.and_eq_true,decide_eq_true_eq] at hok
       obtain ⟨ay,IE,hz,oi,jy⟩:=hok
       have h1:=Br bq h1 Ez
       have h2:=Br bq h2 Wu
       obtain ⟨z,Ew,ly,sG,i,ag,EA⟩:=Bw (P:=P) (w:=w) (ι:=ι) hz
       have wZ:i.size=r:=by simpa [l9,ag] using ay
       have Wv:i.bytes=bytes:=by simpa [Ek,ag] using IE
       obtain ⟨_,hm⟩:=zb (k:=m) dC
       have iI:=run_make (P:=P) w t el i z hu ag EA Ix Wt (Int.ofNat n) (Int.ofNat m) (Int.natCast_nonneg _) (by have:=hb.1;simp;omega) (by
        have:=hb.2;rw [Wv]
        have e:((bytes:Int) * Int.ofNat m)=((m * bytes:Nat):Int):=by simp [Int.mul_comm]
        rw [e];simp at this ⊢;omega) (by have a6:=Nat.le_mul_of_pos_right m jy;have cc:m * bytes≤1099511627776:=hb.2;simp;omega)
       have w2:z.cells.size=r:=by have:=ly.length;simpa [oi] using this
       refine ⟨_,_,⟨w.heap.size,0,m * r,r,m,h.next,0⟩,by simp only [execOp,hx,h1,h2,Sem.run_bind,iI,Result.andThen];rfl,⟨rfl,rfl,Ex w _,by simp,rfl,rfl,rfl, ?_⟩, ?_⟩
       · have dQ:(madeCells z.cells (m * r)).size=m * r:=size_madeCells _ _
         have mc:=Nl (z:=z.cells) (n:=m * r) (r:=r) w2 fK
         refine Ey h.next (w:=w) fK hm (Nat.le_refl _) (cs:=(madeCells z.cells (m * r)).toList) (more:=[]) (el:=el) (fr:=(0,0)) (by rw [Bx,oi]) ?_ ?_ (by simp [dQ]) ?_ (.inl (Nat.le_refl _))
         · refine ch.of (by rw [Bx,oi];simpa using dQ) fun j u x wX h7=> ?_
           rw [Array.getElem?_toList] at h7
           obtain ⟨g1,g2⟩:=mc j x h7
           rw [ID zero m j (by rw [oi];exact g2),oi] at wX
           obtain ⟨bR,ky,EB⟩:=ly.get wX
           rw [Array.getElem?_toList,g1] at ky
           cases ky;exact EB
         · intro x h7
           obtain ⟨j,aR⟩:=List.mem_iff_getElem?.1 h7
           rw [Array.getElem?_toList] at aR
           obtain ⟨g1,g2⟩:=mc j x aR
           exact sG x (List.mem_of_getElem? (by rw [Array.getElem?_toList];exact g1))
         · rw [zc];simp [wZ]
       · refine ⟨_,_,_,aY.gB ..,rfl,rfl,rfl,hb.1⟩
     · cases hok
   · cases hok
end
end
end Go.Eng
namespace Go.Eng
noncomputable section
section
variable {P:Program} {ι:aY} {h:ae} {w:World} {bn:jl} {ev:dr} {bC:Operand→Value} {o:Oper} {aG:Obj} {v:V}
theorem Ww {w:World} {cs:Array Value} {el:TypeId} {c:Nat}:(w.alloc (.cells cs el)).freeze ⟨w.heap.size,c,none⟩ 1={w with heap:=w.heap.push (.cells cs el (c,c+1))}:=by
 unfold World.freeze World.alloc
 simp only [Nat.one_ne_zero,if_false]
 congr 1
 apply Array.ext_getElem?
 intro i
 rw [Array.getElem?_modify,Array.getElem?_push,Array.getElem?_push]
 by_cases h:i=w.heap.size
 · subst h;simp
 · rw [if_neg (fun e=>h e.symm),if_neg h,if_neg h]
theorem Wx {P:Program} {w:World} {EC ED el:TypeId} {s:ByteArray} {cap:Nat} (ay:P.underlying EC=some .string) (aQ:P.underlying ED=some (.slice el)) (sF:P.underlying el=some (.int .u8))
 (nF:(Question.appendCap s.size 0 el).cut (w.tape w.drawn (.appendCap s.size 0 el))=cap) (Np:s.size≤cap):
 (convert EC ED (.string s)).run P w= .ok (.slice (some ⟨w.heap.size,0,none⟩) s.size cap) {w with drawn:=w.drawn+1,heap:=w.heap.push (.cells ((s.data.map fun b=>Value.int .u8 b.toNat)++Array.replicate (cap - s.size) (.int .u8 0)) el (cap,cap+1))}:=by
 have agz:s.data.size=s.size:=rfl
 simp only [convert,Sem.run_bind,run_underlying ay,run_underlying aQ,run_underlying sF,Result.andThen,Conv.stringToBytes,run_choose,nF]
 generalize dQ:(s.data.map fun b=>Value.int .u8 b.toNat)++Array.replicate (cap - s.size) (.int .u8 0)=cs
 have dC:cs.size=cap:=by rw [←dQ];simp only [Array.size_append,Array.size_map,Array.size_replicate];omega
 have Wy:(w.drew.alloc (.cells cs el)).shape? w.heap.size=some (el,cap):=by
  have:=zc w.drew (.cells cs el)
  have e:w.drew.heap.size=w.heap.size:=rfl
  rw [e] at this
  unfold World.shape?;rw [this];simp [dC]
 have hfz:=Ww (w:=w.drew) (cs:=cs) (el:=el) (c:=cap)
 have e:w.drew.heap.size=w.heap.size:=rfl
 rw [e] at hfz
 simp [Question.forced,Result.andThen,newRow,markStringish,dQ,Wy,hfz]
 exact ⟨rfl,rfl,rfl⟩
theorem Nq {z:Array Value} {zero:List V} {r m:Nat} (fK:0<r) (oi:zero.length=r) (ly:ch ι zero z.toList) (sG:∀x∈z.toList,x.oneCell'=true):
  ch ι (rep m zero) (madeCells z (m * r)).toList∧∀x∈(madeCells z (m * r)).toList,x.oneCell'=true:=by
 have w2:z.size=r:=by have:=ly.length;simpa [oi] using this
 have dQ:(madeCells z (m * r)).size=m * r:=size_madeCells _ _
 have mc:=Nl (z:=z) (n:=m * r) (r:=r) w2 fK
 constructor
 · refine ch.of (by rw [Bx,oi];simpa using dQ) fun j u x wX h7=> ?_
   rw [Array.getElem?_toList] at h7
   obtain ⟨g1,g2⟩:=mc j x h7
   rw [ID zero m j (by rw [oi];exact g2),oi] at wX
   obtain ⟨bR,ky,EB⟩:=ly.get wX
   rw [Array.getElem?_toList,g1] at ky
   cases ky;exact EB
 · intro x h7
   obtain ⟨j,aR⟩:=List.mem_iff_getElem?.1 h7
   rw [Array.getElem?_toList] at aR
   obtain ⟨g1,g2⟩:=mc j x aR
   exact sG x (List.mem_of_getElem? (by rw [Array.getElem?_toList];exact g1))
theorem Wz (bq:∀x a,bn x a=true→bD ι (ev a) (bC x)) {r n:Nat} {zero:List V} {aO:List (Nat×Nat×A)} (hok:dn P bn o.op (.eS r n zero aO)=true) (he:light (.eS r n zero aO) ev h= .new aG v) (dC:eT aG=true):wY P ι h.next w bC o aG v:=by
 have he:force h.next (fun b=>(Option.rec .bad (fun l=>gl r n 0 l T.e fun t=> .new (.cells r b 0 (Nat.mul n r) t) (.au b 0 n (some n))) (fill aO ev (rep n zero)):bE))= .new aG v:=he
 rw [force_eq] at he
 obtain ⟨l,k2,he⟩:=j0 (by simp) he
 rw [h6] at he
 cases he
 simp only [dn] at hok
 split at hok
 · rename_i t len parts hx
   simp only [Bool.and_eq_true,decide_eq_true_eq] at hok
   obtain ⟨rfl,fK,agA,hok⟩:=hok
   split at hok
   · rename_i el hu
     simp only [Bool.and_eq_true,decide_eq_true_eq] at hok
     obtain ⟨ay,hz,oi,hp⟩:=hok
     obtain ⟨z,Ew,ly,sG,i,ag,EA⟩:=Bw (P:=P) (w:=w) (ι:=ι) hz
     have wZ:i.size=r:=by simpa [l9,ag] using ay
     obtain ⟨m1,m2⟩:=Nq (m:=len) fK oi ly sG
     obtain ⟨ms,r1,fI,kz,vq⟩:=IC (P:=P) (ev:=ev) bq (place':=fun i=>some (i * r,r)) (fun i p h=>h) parts.toList aO (rep len zero) l _ hp m1 m2 k2
     rw [size_madeCells] at vq
     obtain ⟨_,hm⟩:=zb (k:=len) dC
     have Ig:l.length=len * r:=by have:=fI.length;simp at this;omega
     have iI:(Instr.buildSlice t len (parts.map fun (i,x)=>(i,bC x))).run P w= .ok (.slice (some ⟨w.heap.size,0,none⟩) len len) (w.alloc (.cells ms el)):=by
      have WA:(parts.map fun (i,x)=>(i,bC x)).toList=parts.toList.map fun p=>(p.1,bC p.2):=by rw [Array.toList_map]
      by_cases h0:len * i.size=0
      · have EE:len=0:=by
         rw [wZ] at h0
         rcases Nat.mul_eq_zero.1 h0 with h|h
         · exact h
         · omega
        subst EE
        have iv:(madeCells z.cells (0 * r))= #[]:=by simp [madeCells]
        rw [iv] at r1
        have aS:(Array.map (fun x:Nat=>(#[]:Array Value)[x % (#[]:Array Value).size]!) (Array.range (0 * r)))= #[]:=by simp
        simp only [Instr.buildSlice,Sem.run_bind,run_underlying hu,Result.andThen,run_sizeOf w ag]
        simp [Program.cellsOf,ag,wZ,Array.range_zero',r1,newRow]
      · exact run_buildSlice w t el len _ ms i z hu ag EA (by rw [wZ];omega) h0 (by rw [WA,wZ];exact r1)
     refine ⟨_,_,⟨w.heap.size,0,len * r,r,len,h.next,0⟩,by simp only [execOp,hx,Sem.run_bind,iI,Result.andThen];rfl,⟨rfl,rfl,Ex w _,by simp,rfl,rfl,rfl, ?_⟩, ?_⟩
     · exact Ey h.next (w:=w) fK hm (Nat.le_refl _) (cs:=ms.toList) (more:=[]) (el:=el) (fr:=(0,0)) Ig fI kz (by simp [vq]) (by rw [zc];simp) (.inl (Nat.le_refl _))
     · exact ⟨_,_,_,aY.gB ..,rfl,rfl,rfl,Nat.le_refl _⟩
   · cases hok
 · cases hok
theorem Nr (l:List UInt8):ch ι (mE (l.map (·.toNat))) (l.map fun b=>Value.int .u8 b.toNat):=by
 induction l with
 |nil=>rfl
 |cons b l bm=>
  refine ⟨_,_,rfl, ?_,bm⟩
  rw [tH];rfl
theorem WB (bq:∀x a,bn x a=true→bD ι (ev a) (bC x)) {a:A} (hok:dn P bn o.op (.uZ a)=true) (he:light (.uZ a) ev h= .new aG v) (dC:eT aG=true):wY P ι h.next w bC o aG v:=by
 have he:force h.next (fun b=>(Option.rec .bad (fun x=>gl 1 x.1 0 (mE (gy x.1 x.2)) T.e fun t=> .new (.cells 1 b 0 x.1 t) (.au b 0 x.1 none)) (ev a).q4:bE))= .new aG v:=he
 rw [force_eq] at he
 obtain ⟨p,hp,he⟩:=j0 (by simp) he
 obtain ⟨n,x⟩:=p
 have av:ev a= .str n x:=by
  generalize ev a=cR at hp
  cases cR<;>first|(cases hp;done)|skip
  cases hp;rfl
 rw [h6] at he
 cases he
 simp only [dn] at hok
 split at hok
 · rename_i EC ED agB hx
   split at hok
   · rename_i el ay aQ
     split at hok
     · rename_i sF
       obtain ⟨s,h1,rfl,rfl⟩:=za bq hok av
       rw [qg] at *
       have o4:=Nr (ι:=ι) s.data.toList
       have mL:s.data.toList.length=s.data.toList.length * 1:=(Nat.mul_one _).symm
       have WC:eT (.cells 1 h.next 0 (s.data.toList.length * 1) (eC 1 s.data.toList.length 0 (mE (s.data.toList.map (·.toNat))) T.e))=true:=by rw [←mL];exact dC
       obtain ⟨_,hm⟩:=zb WC
       have WD:(mE (s.data.toList.map (·.toNat))).length=s.data.toList.length * 1:=by
        have:=o4.length;simp at this;simp [this]
       generalize nF:(Question.appendCap s.size 0 el).cut (w.tape w.drawn (.appendCap s.size 0 el))=cap
       have Np:s.size≤cap:=by rw [←nF];simp [Question.cut]
       have WE:=Go.Lib.size_eq s
       let cs:Array Value:=(s.data.map fun b=>Value.int .u8 b.toNat)++Array.replicate (cap - s.size) (.int .u8 0)
       have agC:cs.size=cap:=by simp only [cs,Array.size_append,Array.size_map,Array.size_replicate];have:s.data.size=s.size:=rfl;omega
       let w1:World:={w with drawn:=w.drawn+1,heap:=w.heap.push (.cells cs el (cap,cap+1))}
       have iI:(convert EC ED (.string s)).run P w= .ok (.slice (some ⟨w.heap.size,0,none⟩) s.size cap) w1:=by
        exact Wx ay aQ sF nF Np
       have hold:∀c,c<w.heap.size→w1.heap[c]? =w.heap[c]? :=by
        intro c av;show (w.heap.push _)[c]? =_;rw [Array.getElem?_push,if_neg (by omega)]
       have me:w1.heap[w.heap.size]? =some (.cells cs el (cap,cap+1)):=by
        show (w.heap.push _)[w.heap.size]? =_;rw [Array.getElem?_push,if_pos rfl]
       have IG:w1.heap.size=w.heap.size+1:=by show (w.heap.push _).size=_;simp
       have Ns:=Ey h.next (w:=w) (r:=1) (k:=s.data.toList.length) (cap:=cap) (by decide) hm (by omega) (cs:=s.data.toList.map fun b=>Value.int .u8 b.toNat) (more:=List.replicate (cap - s.size) (.int .u8 0)) (el:=el) (fr:=(cap,cap+1)) (w':=w1)
        WD o4 (fun x hx=>by obtain ⟨b,_,rfl⟩:=List.mem_map.1 hx;rfl) (by simp only [List.length_map,List.length_replicate];omega) (by rw [me];congr 2;simp [cs,←Array.toList_inj]) (.inr (by omega))
       refine ⟨_,w1,_,by simp only [execOp,hx,h1,Sem.run_bind,iI,Result.andThen];rfl,⟨rfl,rfl,hold,IG,rfl,rfl,rfl,by rw [←mL] at Ns;exact Ns⟩, ?_⟩
       refine ⟨_,_,_,aY.gB ..,by rw [WE], ?_⟩
       exact ⟨by simp,by simp,by simp,by omega, .inl rfl⟩
     · cases hok
   · cases hok
 · cases hok
end
end
end Go.Eng
