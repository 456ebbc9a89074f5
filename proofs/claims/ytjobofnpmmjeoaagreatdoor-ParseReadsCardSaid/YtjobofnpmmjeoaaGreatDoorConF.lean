/- Part of a proof of a law: rules of an evaluator, contracts, plain laws. No condition of its own. -/
import Derived.Test.YtjobofnpmmjeoaaGreatDoorSymE
import Derived.Test.YtjobofnpmmjeoaaGreatDoorCodeA
set_option linter.unusedVariables false
set_option linter.unusedSimpArgs false
namespace Go.Eng.YtjobofnpmmjeoaaGreatDoor.Pq
open Go.Eng
noncomputable section
variable {c:Ctx}
theorem uses_c (h39:T.get 39 c.bf=some i39) {fs:List Fact} {h:Heap} {us:List (List UInt8)} {v1 v2:V} (st:St (.stb (fun h=>Rows 1 h v1 (us.map bK)):: .stb (fun h=>Rows 1 h v2 (us.map bK))::fs) h) (hsm:us.length<4294967296):
 aV c 39 [v1,v2] h fun v h1=>v= .bool true∧St fs h1:=by
 refine aV.dh h39 rfl (WP.seq (WP.reg (WO.aB (v:= .bool false) rfl (WO.nil (WP.seq (WP.seq (WP.reg (WO.val (v:= .int .i64 (us.length:Int)) (L.dJ rfl (st.aJ 0 rfl) (by simp)) (WO.val (v:= .int .i64 (us.length:Int)) (L.dJ rfl (st.aJ 1 rfl) (by simp)) (WO.ifS (L.neq rfl rfl) (fun c_=>absurd rfl c_) (fun c_=> ?_)))))))))))
 refine WO.nil (WP.cond (t:=false) rfl (WP.skip (WP.seq (WP.seq (WP.reg (WO.aB (v:= .int .i64 0) rfl (WO.nil (WP.block (WP.eO (α:=Nat) (fun i env h=>∃x2 x5 x6,(i≤us.length)∧env=bG [v1,v2,x2, .bool false, .int .i64 (i:Int),x5,x6] 0 Env.nil∧St (.stb (fun h=>Rows 1 h v1 (us.map bK)):: .stb (fun h=>Rows 1 h v2 (us.map bK))::fs) h) (fun i=>us.length - i) 0 ?_ ?_)))))))))
 ·exact ⟨(.bool false), .bot, .bot,(Nat.zero_le _),by kernel_rfl,st⟩
 rintro i _ h ⟨x2,x5,x6,hi,rfl,st⟩
 refine WP.seq (WP.seq (WP.reg (WO.val (v:= .int .i64 (us.length:Int)) (L.dJ rfl (st.aJ 0 rfl) (by simp)) (WO.ifS (L.lss rfl rfl) (fun c1=> ?_) (fun c1=> ?_)))))
 ·replace c1:i<us.length:=by omega
  refine WO.nil (WP.cond (t:=true) rfl (WP.skip (WP.seq (WP.block (WP.seq (WP.draw (WD.val (v:=v1) rfl (WD.val (v:= .int .i64 (i:Int)) rfl ?_))))))))
  obtain ⟨u,ho⟩:∃u,us[i]? =some u:=⟨_,List.getElem?_eq_getElem c1⟩
  refine WD.val (v:= .ptr (slB v1) (slO v1+i * 1)) (L.bT (Rows.sl (st.aJ 0 rfl) (by simpa using c1)) rfl (by simpa using c1)) (WD.val (v:=L.str u) (L.load rfl (Rows.yX (st.aJ 0 rfl) (by rw [List.getElem?_map,ho];rfl))) ?_)
  refine WD.val (v:=v2) rfl (WD.val (v:= .int .i64 (i:Int)) rfl (WD.val (v:= .ptr (slB v2) (slO v2+i * 1)) (L.bT (Rows.sl (st.aJ 1 rfl) (by simpa using c1)) rfl (by simpa using c1)) (WD.val (v:=L.str u) (L.load rfl (Rows.yX (st.aJ 1 rfl) (by rw [List.getElem?_map,ho];rfl))) ?_)))
  refine WD.ifS (L.sne rfl rfl) (fun _ c_=>absurd rfl c_) (fun _ c_=> ?_)
  refine WD.nil (WP.cond (t:=false) rfl (WP.skip (WP.reg (WO.aB (v:= .int .i64 ((i+1:Nat):Int)) (L.fQ rfl rfl (by omega) (And.intro (by omega) (by omega))) (WO.nil ?_)))))
  exact ⟨i+1,(by omega),x2,(.bool true),(.bool false),by omega,by kernel_rfl,st⟩
 ·replace c1:¬(i<us.length):=by omega
  refine WO.nil (WP.cond (t:=false) rfl (WP.exit (WP.seq (WP.reg (WO.aB (v:= .bool true) rfl (WO.nil (WP.ret ?_)))))))
  exact ⟨_,(ak (aD (v:= .bool true) rfl) (aF _ _)),rfl,st.tail.tail⟩
theorem Nd.row0 (k:Nat) (n:Int) (m nm:List UInt8) (a b:Int):Eq1.eqs [(0, .int),(1, .int),(2, .str),(3, .str),(4, .int),(5, .int),(6, .int)] [.int .i64 (k:Int), .int .i64 n,L.str m,L.str nm, .int .i64 a, .int .i64 b, .int .i64 0] [.int .i64 (k:Int), .int .i64 n,L.str m,L.str nm, .int .i64 a, .int .i64 b, .int .i64 0]=some true:=
 Eq1.jX rfl (Eq1.qK _) (Eq1.jX rfl (Eq1.qK _) (Eq1.jX rfl (Eq1.xY _) (Eq1.jX rfl (Eq1.xY _) (Eq1.jX rfl (Eq1.qK _) (Eq1.jX rfl (Eq1.qK _) (Eq1.jX rfl (Eq1.qK _) (by simp [Eq1.eqs])))))))
theorem er_at {es es':List Nd} (he:es.map Nd.er=es'.map Nd.er) {i:Nat} (hi:i<es.length):∃(k:Nat) (n:Int) (m nm:List UInt8) (a b:Int) (p q:Nat),es[i]? =some ⟨k,n,m,nm,a,b,p⟩∧es'[i]? =some ⟨k,n,m,nm,a,b,q⟩:=by
 have hl:es.length=es'.length:=by simpa using congrArg List.length he
 have h1:=List.getElem?_eq_getElem hi
 have h2:=List.getElem?_eq_getElem (l:=es') (i:=i) (by omega)
 have h3:=congrArg (fun l=>l[i]?) he
 simp only [List.getElem?_map,h1,h2,Option.map_some] at h3
 generalize es[i]=x at *
 generalize es'[i]'(by omega)=y at *
 obtain ⟨k,n,m,nm,a,b,p⟩:=x
 obtain ⟨k',n',m',nm',a',b',q⟩:=y
 simp only [Nd.er,Option.some.injEq,Nd.mk.injEq] at h3
 obtain ⟨rfl,rfl,rfl,rfl,rfl,rfl,_⟩:=h3
 exact ⟨_,_,_,_,_,_,p,q,h1,h2⟩
theorem LP (h68:T.get 68 c.bf=some i68) {fs:List Fact} {h:Heap} {es es':List Nd} {v1 v2:V} (st:St (.stb (fun h=>Rows 7 h v1 (es.map Nd.row)):: .stb (fun h=>Rows 7 h v2 (es'.map Nd.row))::fs) h) (he:es.map Nd.er=es'.map Nd.er) (hsm:es.length<4294967296):
 aV c 68 [v1,v2] h fun v h1=>v= .bool true∧St fs h1:=by
 have hl:es'.length=es.length:=by simpa using (congrArg List.length he).symm
 refine aV.dh h68 rfl (WP.seq (WP.reg (WO.aB (v:= .bool false) rfl (WO.nil (WP.seq (WP.seq (WP.reg (WO.val (v:= .int .i64 (es.length:Int)) (L.dJ rfl (st.aJ 0 rfl) (by simp)) (WO.val (v:= .int .i64 (es.length:Int)) (L.dJ rfl (st.aJ 1 rfl) (by simp [hl])) (WO.ifS (L.neq rfl rfl) (fun c_=>absurd rfl c_) (fun c_=> ?_)))))))))))
 refine WO.nil (WP.cond (t:=false) rfl (WP.skip (WP.seq (WP.seq (WP.reg (WO.aB (v:= .int .i64 0) rfl (WO.nil (WP.block (WP.eO (α:=Nat) (fun i env h=>∃x2 x5 x6 x7 x8,(i≤es.length)∧env=bG [v1,v2,x2, .bool false, .int .i64 (i:Int),x5,x6,x7,x8] 0 Env.nil∧St (.stb (fun h=>Rows 7 h v1 (es.map Nd.row)):: .stb (fun h=>Rows 7 h v2 (es'.map Nd.row))::fs) h) (fun i=>es.length - i) 0 ?_ ?_)))))))))
 ·exact ⟨(.bool false), .bot, .bot, .bot, .bot,(Nat.zero_le _),by kernel_rfl,st⟩
 rintro i _ h ⟨x2,x5,x6,x7,x8,hi,rfl,st⟩
 refine WP.seq (WP.seq (WP.reg (WO.val (v:= .int .i64 (es.length:Int)) (L.dJ rfl (st.aJ 0 rfl) (by simp)) (WO.ifS (L.lss rfl rfl) (fun c1=> ?_) (fun c1=> ?_)))))
 ·replace c1:i<es.length:=by omega
  refine WO.nil (WP.cond (t:=true) rfl (WP.skip (WP.seq (WP.block (WP.seq (WP.draw (WD.val (v:=v1) rfl (WD.val (v:= .int .i64 (i:Int)) rfl ?_))))))))
  obtain ⟨k,n,m,nm,a,b,p,q,hx,hy⟩:=er_at he c1
  refine WD.val (v:= .ptr (slB v1) (slO v1+i * 7)) (L.bT (Rows.sl (st.aJ 0 rfl) (by simpa using c1)) rfl (by simpa using c1)) (WD.val (v:= .agg [.int .i64 (k:Int), .int .i64 n,L.str m,L.str nm, .int .i64 a, .int .i64 b, .int .i64 (p:Int)]) (L.aY rfl (Rows.fu (st.aJ 0 rfl) (by rw [List.getElem?_map,hx];rfl))) ?_)
  refine WD.val (v:=v2) rfl (WD.val (v:= .int .i64 (i:Int)) rfl (WD.val (v:= .ptr (slB v2) (slO v2+i * 7)) (L.bT (i:=i) (Rows.sl (i:=i) (st.aJ 1 rfl) (by simp;omega)) rfl (by simp;omega)) (WD.val (v:= .agg [.int .i64 (k:Int), .int .i64 n,L.str m,L.str nm, .int .i64 a, .int .i64 b, .int .i64 (q:Int)]) (L.aY rfl (Rows.fu (st.aJ 1 rfl) (by rw [List.getElem?_map,hy];rfl))) ?_)))
  refine WD.bL st L.alloc (fun b1 h st=> ?_)
  refine WD.bL st L.alloc (fun b2 h st=> ?_)
  refine WD.aG (row':=[.int .i64 (k:Int), .int .i64 n,L.str m,L.str nm, .int .i64 a, .int .i64 b, .int .i64 (p:Int)]) st 1 rfl rfl rfl rfl rfl rfl rfl (fun h st=>aR (by first|exact av (L.aY rfl (Rows.fu (st.aJ 2 rfl) (by rw [List.getElem?_map,hx];rfl)))|exact av (L.aY rfl (Rows.fu (st.aJ 3 rfl) (by rw [List.getElem?_map,hy];rfl)))|exact av (L.aC rfl (st.aj 0 rfl) rfl)|exact aH st 0 rfl|exact av (L.aK rfl (st.aj 0 rfl) rfl rfl rfl)|exact av (L.aC rfl (st.aj 1 rfl) rfl)|exact aH st 1 rfl|exact av (L.aK rfl (st.aj 1 rfl) rfl rfl rfl)) (bC _ _)) (fun h st=> ?_)
  refine WD.aG (row':=[.int .i64 (k:Int), .int .i64 n,L.str m,L.str nm, .int .i64 a, .int .i64 b, .int .i64 (q:Int)]) st 0 rfl rfl rfl rfl rfl rfl rfl (fun h st=>rfl) (fun h st=> ?_)
  refine WD.nil (WP.seq (WP.reg (WO.val (v:= .ptr b1 6) (L.aA rfl) (WO.aG (row':=[.int .i64 (k:Int), .int .i64 n,L.str m,L.str nm, .int .i64 a, .int .i64 b, .int .i64 0]) st 1 rfl rfl rfl rfl rfl rfl rfl (fun h st=> ?_)))))
  refine WO.nil (WP.seq (WP.reg (WO.val (v:= .ptr b2 6) (L.aA rfl) (WO.aG (row':=[.int .i64 (k:Int), .int .i64 n,L.str m,L.str nm, .int .i64 a, .int .i64 b, .int .i64 0]) st 0 rfl rfl rfl rfl rfl rfl rfl (fun h st=> ?_)))))
  refine WO.nil (WP.seq (WP.reg (WO.val (v:= .agg [.int .i64 (k:Int), .int .i64 n,L.str m,L.str nm, .int .i64 a, .int .i64 b, .int .i64 0]) (L.aK rfl (st.aj 1 rfl) rfl rfl rfl) (WO.val (v:= .agg [.int .i64 (k:Int), .int .i64 n,L.str m,L.str nm, .int .i64 a, .int .i64 b, .int .i64 0]) (L.aK rfl (st.aj 0 rfl) rfl rfl rfl) (WO.aB (v:= .bool false) (L.Ei rfl rfl (Nd.row0 ..)) (WO.nil (WP.cond (t:=false) rfl (WP.skip (WP.reg (WO.aB (v:= .int .i64 ((i+1:Nat):Int)) (L.fQ rfl rfl (by omega) (And.intro (by omega) (by omega))) (WO.nil ?_)))))))))))
  exact ⟨i+1,(by omega),x2,(.bool true),(.ptr b1 0),(.ptr b2 0),(.bool false),by omega,by kernel_rfl,st.tail.tail⟩
 ·replace c1:¬(i<es.length):=by omega
  refine WO.nil (WP.cond (t:=false) rfl (WP.exit (WP.seq (WP.reg (WO.aB (v:= .bool true) rfl (WO.nil (WP.ret ?_)))))))
  exact ⟨_,(ak (aD (v:= .bool true) rfl) (aF _ _)),rfl,st.tail.tail⟩
theorem Av (h68:T.get 68 c.bf=some i68) (h57:T.get 57 c.bf=some i57) {fs:List Fact} {h:Heap} {b:Bool} {es es':List Nd} {v1 v2:V} (st:St (.stb (fun h=>Rows 7 h v1 (es.map Nd.row)):: .stb (fun h=>Rows 7 h v2 (es'.map Nd.row))::fs) h) (he:uM b es es') (hsm:es.length<4294967296):
 aV c 57 [v1,v2, .bool b] h fun v h1=>v= .bool true∧St fs h1:=by
 have hl:=he.len
 refine aV.dh h57 rfl (WP.seq (WP.reg ?_))
 cases b
 ·refine WO.aB (v:= .bool false) rfl (WO.nil (WP.seq (WP.seq (WP.reg (WO.aM rfl (LP h68 (fs:= .stb (fun h=>Rows 7 h v1 (es.map Nd.row)):: .stb (fun h=>Rows 7 h v2 (es'.map Nd.row))::fs) st.twice he.1 hsm) ?_)))))
  rintro _ h ⟨rfl,st⟩
  refine WO.aB (v:= .bool false) rfl (WO.nil (WP.cond (t:=false) rfl (WP.skip (WP.seq (WP.seq (WP.reg (WO.aB (v:= .int .i64 0) rfl (WO.nil (WP.block (WP.eO (α:=Nat) (fun i env h=>∃x3 x6 x7,(i≤es.length)∧env=bG [v1,v2, .bool false,x3, .bool false, .int .i64 (i:Int),x6,x7] 0 Env.nil∧St (.stb (fun h=>Rows 7 h v1 (es.map Nd.row)):: .stb (fun h=>Rows 7 h v2 (es'.map Nd.row))::fs) h) (fun i=>es.length - i) 0 ?_ ?_))))))))))
  ·exact ⟨(.bool false), .bot, .bot,(Nat.zero_le _),by kernel_rfl,st⟩
  rintro i _ h ⟨x3,x6,x7,hi,rfl,st⟩
  refine WP.seq (WP.seq (WP.reg (WO.val (v:= .int .i64 (es.length:Int)) (L.dJ rfl (st.aJ 0 rfl) (by simp)) (WO.ifV (L.lss rfl rfl) (fun c1=> ?_) (fun c1=> ?_)))))
  ·replace c1:i<es.length:=by omega
   refine WO.yes rfl (WO.val (v:= .bool false) rfl (WO.aB (v:= .bool false) rfl (WO.nil (WP.cond (t:=false) rfl (WP.exit (WP.seq (WP.reg (WO.aB (v:= .bool true) rfl (WO.nil (WP.ret ?_))))))))))
   exact ⟨_,(ak (aD (v:= .bool true) rfl) (aF _ _)),rfl,st.tail.tail⟩
  ·replace c1:¬(i<es.length):=by omega
   refine WO.no rfl (WO.aB (v:= .bool false) rfl (WO.nil (WP.cond (t:=false) rfl (WP.exit (WP.seq (WP.reg (WO.aB (v:= .bool true) rfl (WO.nil (WP.ret ?_)))))))))
   exact ⟨_,(ak (aD (v:= .bool true) rfl) (aF _ _)),rfl,st.tail.tail⟩
 ·refine WO.aB (v:= .bool false) rfl (WO.nil (WP.seq (WP.seq (WP.reg (WO.aM rfl (LP h68 (fs:= .stb (fun h=>Rows 7 h v1 (es.map Nd.row)):: .stb (fun h=>Rows 7 h v2 (es'.map Nd.row))::fs) st.twice he.1 hsm) ?_)))))
  rintro _ h ⟨rfl,st⟩
  refine WO.aB (v:= .bool false) rfl (WO.nil (WP.cond (t:=false) rfl (WP.skip (WP.seq (WP.seq (WP.reg (WO.aB (v:= .int .i64 0) rfl (WO.nil (WP.block (WP.eO (α:=Nat) (fun i env h=>∃x3 x6 x7,(i≤es.length)∧env=bG [v1,v2, .bool true,x3, .bool false, .int .i64 (i:Int),x6,x7] 0 Env.nil∧St (.stb (fun h=>Rows 7 h v1 (es.map Nd.row)):: .stb (fun h=>Rows 7 h v2 (es'.map Nd.row))::fs) h) (fun i=>es.length - i) 0 ?_ ?_))))))))))
  ·exact ⟨(.bool false), .bot, .bot,(Nat.zero_le _),by kernel_rfl,st⟩
  rintro i _ h ⟨x3,x6,x7,hi,rfl,st⟩
  refine WP.seq (WP.seq (WP.reg (WO.val (v:= .int .i64 (es.length:Int)) (L.dJ rfl (st.aJ 0 rfl) (by simp)) (WO.ifV (L.lss rfl rfl) (fun c2=> ?_) (fun c2=> ?_)))))
  ·replace c2:i<es.length:=by omega
   refine WO.yes rfl (WO.val (v:= .bool true) rfl (WO.aB (v:= .bool true) rfl (WO.nil (WP.cond (t:=true) rfl (WP.skip (WP.seq (WP.block (WP.seq (WP.draw (WD.val (v:=v1) rfl (WD.val (v:= .int .i64 (i:Int)) rfl ?_)))))))))))
   obtain ⟨x,hx⟩:∃x,es[i]? =some x:=⟨_,List.getElem?_eq_getElem c2⟩
   obtain ⟨y,hy⟩:∃y,es'[i]? =some y:=⟨_,List.getElem?_eq_getElem (by omega)⟩
   have hat:=he.at_ rfl hx hy
   refine WD.val (v:= .ptr (slB v1) (slO v1+i * 7)) (L.bT (i:=i) (Rows.sl (i:=i) (st.aJ 0 rfl) (by simp;omega)) rfl (by simp;omega)) (WD.val (v:= .ptr (slB v1) (slO v1+i * 7+6)) (L.aA rfl) (WD.val (v:= .int .i64 (x.at_:Int)) (L.load rfl (Rows.iW (j:=6) (row:=x.row) (st.aJ 0 rfl) (by rw [List.getElem?_map,hx];rfl) rfl)) ?_))
   refine WD.val (v:=v2) rfl (WD.val (v:= .int .i64 (i:Int)) rfl (WD.val (v:= .ptr (slB v2) (slO v2+i * 7)) (L.bT (i:=i) (Rows.sl (i:=i) (st.aJ 1 rfl) (by simp;omega)) rfl (by simp;omega)) (WD.val (v:= .ptr (slB v2) (slO v2+i * 7+6)) (L.aA rfl) (WD.val (v:= .int .i64 (y.at_:Int)) (L.load rfl (Rows.iW (j:=6) (row:=y.row) (st.aJ 1 rfl) (by rw [List.getElem?_map,hy];rfl) rfl)) ?_))))
   refine WD.ifS (L.neq rfl rfl) (fun _ c3=>by exfalso;omega) (fun _ c3=> ?_)
   refine WD.nil (WP.cond (t:=false) rfl (WP.skip (WP.reg (WO.aB (v:= .int .i64 ((i+1:Nat):Int)) (L.fQ rfl rfl (by omega) (And.intro (by omega) (by omega))) (WO.nil ?_)))))
   exact ⟨i+1,(by omega),x3,(.bool true),(.bool false),by omega,by kernel_rfl,st⟩
  ·replace c2:¬(i<es.length):=by omega
   refine WO.no rfl (WO.aB (v:= .bool false) rfl (WO.nil (WP.cond (t:=false) rfl (WP.exit (WP.seq (WP.reg (WO.aB (v:= .bool true) rfl (WO.nil (WP.ret ?_)))))))))
   exact ⟨_,(ak (aD (v:= .bool true) rfl) (aF _ _)),rfl,st.tail.tail⟩
end
end Go.Eng.YtjobofnpmmjeoaaGreatDoor.Pq
namespace Go.Eng.YtjobofnpmmjeoaaGreatDoor.Pq
open Go.Eng
noncomputable section
variable {c:Ctx}
theorem sms_c (h68:T.get 68 c.bf=some i68) (h57:T.get 57 c.bf=some i57) (h40:T.get 40 c.bf=some i40) {N0:Nat} (hN:N0<4294967296):
 ∀(N:Nat),N≤N0→∀{b:Bool} {fs:List Fact} {h:Heap} {l l':List Sm} {v1 v2:V} (st:St (.stb (fun h=>iD h v1 l):: .stb (fun h=>iD h v2 l')::fs) h) (hsz:Sms.sz l≤N) (hl:nM b l l'),aV c 40 [v1,v2, .bool b] h fun v h1=>v= .bool true∧St fs h1:=by
 intro N
 induction N using Nat.strongRecOn
 rename_i N IH
 intro hNN b fs h l l' v1 v2 st hsz hl
 obtain ⟨rw,st⟩:=St.Fp st
 replace st:=(st.pick 2 rfl)
 obtain ⟨rw2,st⟩:=St.Fp st
 replace st:St (.stb (fun h=>Rows 12 h v1 rw):: .stb (fun h=>bF h l rw):: .stb (fun h=>Rows 12 h v2 rw2):: .stb (fun h=>bF h l' rw2)::fs) h:=(st.pick 3 rfl).pick 3 rfl
 have hr1:=(st.aJ 1 rfl).len
 have hr2:=(st.aJ 3 rfl).len
 have hll:=hl.len
 have hlz:=Sms.SB l
 refine aV.dh h40 rfl (WP.seq (WP.reg ?_))
 cases b
 ·refine WO.aB (v:= .bool false) rfl (WO.nil (WP.seq (WP.seq (WP.reg (WO.val (v:= .int .i64 (l.length:Int)) (L.dJ rfl (st.aJ 0 rfl) (by omega)) (WO.val (v:= .int .i64 (l.length:Int)) (L.dJ rfl (st.aJ 2 rfl) (by omega)) (WO.ifS (L.neq rfl rfl) (fun c_=>absurd rfl c_) (fun c_=> ?_))))))))
  refine WO.nil (WP.cond (t:=false) rfl (WP.skip (WP.seq (WP.seq (WP.reg (WO.aB (v:= .int .i64 0) rfl (WO.nil (WP.block (WP.eO (α:=Nat) (fun i env h=>∃x3 x6 x7 x8 x9 x10 x11 x12 x13,(i≤l.length)∧env=bG [v1,v2, .bool false,x3, .bool false, .int .i64 (i:Int),x6,x7,x8,x9,x10,x11,x12,x13] 0 Env.nil∧St (.stb (fun h=>Rows 12 h v1 rw):: .stb (fun h=>bF h l rw):: .stb (fun h=>Rows 12 h v2 rw2):: .stb (fun h=>bF h l' rw2)::fs) h) (fun i=>l.length - i) 0 ?_ ?_)))))))))
  ·exact ⟨(.bool false), .bot, .bot, .bot, .bot, .bot, .bot, .bot, .bot,(Nat.zero_le _),by kernel_rfl,st⟩
  rintro i _ h ⟨x3,x6,x7,x8,x9,x10,x11,x12,x13,hi,rfl,st⟩
  refine WP.seq (WP.seq (WP.reg (WO.val (v:= .int .i64 (l.length:Int)) (L.dJ rfl (st.aJ 0 rfl) (by omega)) (WO.ifS (L.lss rfl rfl) (fun c1=> ?_) (fun c1=> ?_)))))
  ·replace c1:i<l.length:=by omega
   refine WO.nil (WP.cond (t:=true) rfl (WP.skip (WP.seq (WP.block (WP.seq (WP.draw (WD.val (v:=v1) rfl (WD.val (v:= .int .i64 (i:Int)) rfl ?_))))))))
   obtain ⟨s0,hs0⟩:∃s,l[i]? =some s:=⟨_,List.getElem?_eq_getElem c1⟩
   obtain ⟨s1,hs1,hse⟩:=hl.at_ hs0
   have hsz0:=Sms.SA hs0
   cases hse with
   | @mk k a a2 m n lb hs tm t e e2 as as2 bd bd2 el el2 hat hee hase hbe hle=>
    obtain ⟨ve,va,vb,vl,hx,st⟩:=St.smAt (st.pick 1 rfl) hs0
    obtain ⟨ve2,va2,vb2,vl2,hy,st⟩:=St.smAt (st.pick 7 rfl) hs1
    obtain ⟨vs,st⟩:=St.argsAt (st.pick 6 rfl)
    obtain ⟨vs2,st⟩:=St.argsAt (st.pick 3 rfl)
    simp only [Sm.sz] at hsz0
    have hq1:=(st.aJ 3 rfl).len
    have hq2:=(st.aJ 1 rfl).len
    have hasl:=hase.1
    have hasz:=xg as
    refine WD.val (v:= .ptr (slB v1) (slO v1+i * 12)) (L.bT (i:=i) (Rows.sl (i:=i) (st.aJ 12 rfl) (by omega)) rfl (by omega)) (WD.val (v:= .agg [.int .i64 (k:Int), .int .i64 (a:Int),L.str m,L.str n,L.str lb, .bool hs,L.str tm,L.str t,ve,va,vb,vl]) (L.aY rfl (Rows.fu (st.aJ 12 rfl) hx)) (WD.val (v:=v2) rfl (WD.val (v:= .int .i64 (i:Int)) rfl (WD.val (v:= .ptr (slB v2) (slO v2+i * 12)) (L.bT (i:=i) (Rows.sl (i:=i) (st.aJ 13 rfl) (by omega)) rfl (by omega)) (WD.val (v:= .agg [.int .i64 (k:Int), .int .i64 (a2:Int),L.str m,L.str n,L.str lb, .bool hs,L.str tm,L.str t,ve2,va2,vb2,vl2]) (L.aY rfl (Rows.fu (st.aJ 13 rfl) hy)) (WD.bL st L.alloc (fun b1 h st=> ?_)))))))
    refine WD.bL st L.alloc (fun b2 h st=> ?_)
    refine WD.aG (row':=[.int .i64 (k:Int), .int .i64 (a:Int),L.str m,L.str n,L.str lb, .bool hs,L.str tm,L.str t,ve,va,vb,vl]) st 1 rfl rfl rfl rfl rfl rfl rfl (fun h st=>aR (by first|exact av (L.aY rfl (Rows.fu (st.aJ 14 rfl) hx))|exact av (L.aY rfl (Rows.fu (st.aJ 15 rfl) hy))|exact av (L.aC rfl (st.aj 0 rfl) rfl)|exact aH st 0 rfl|exact av (L.aK rfl (st.aj 0 rfl) rfl rfl rfl)|exact av (L.aC rfl (st.aj 1 rfl) rfl)|exact aH st 1 rfl|exact av (L.aK rfl (st.aj 1 rfl) rfl rfl rfl)) (bC _ _)) (fun h st=> ?_)
    refine WD.aG (row':=[.int .i64 (k:Int), .int .i64 (a2:Int),L.str m,L.str n,L.str lb, .bool hs,L.str tm,L.str t,ve2,va2,vb2,vl2]) st 0 rfl rfl rfl rfl rfl rfl rfl (fun h st=>rfl) (fun h st=> ?_)
    refine WD.nil (WP.seq (WP.seq (WP.reg (WO.val (v:= .ptr b1 0) (L.aA rfl) (WO.val (v:= .int .i64 (k:Int)) (L.aC rfl (st.aj 1 rfl) rfl) (WO.val (v:= .ptr b2 0) (L.aA rfl) (WO.val (v:= .int .i64 (k:Int)) (L.aC rfl (st.aj 0 rfl) rfl) (WO.ifV (L.neq rfl rfl) (fun c_=>absurd rfl c_) (fun c_=> ?_)))))))))
    refine WO.yes rfl (WO.val (v:= .bool false) rfl (WO.yes rfl (WO.val (v:= .bool false) rfl (WO.no rfl (WO.no rfl (WO.no rfl (WO.no rfl (WO.no rfl (WO.yes rfl (WO.val (v:= .bool false) rfl (WO.val (v:= .bool false) rfl (WO.yes rfl (WO.val (v:= .ptr b1 2) (L.aA rfl) (WO.yes rfl (WO.val (v:=L.str m) (L.aC rfl (st.aj 1 rfl) rfl) (WO.yes rfl (WO.val (v:= .ptr b2 2) (L.aA rfl) (WO.yes rfl (WO.val (v:=L.str m) (L.aC rfl (st.aj 0 rfl) rfl) (WO.yes rfl (WO.ifV (L.sne rfl rfl) (fun c_=>absurd rfl c_) (fun c_=> ?_))))))))))))))))))))))
    refine WO.val (v:= .bool false) rfl (WO.yes rfl (WO.val (v:= .ptr b1 3) (L.aA rfl) (WO.yes rfl (WO.val (v:=L.str n) (L.aC rfl (st.aj 1 rfl) rfl) (WO.yes rfl (WO.val (v:= .ptr b2 3) (L.aA rfl) (WO.yes rfl (WO.val (v:=L.str n) (L.aC rfl (st.aj 0 rfl) rfl) (WO.yes rfl (WO.ifV (L.sne rfl rfl) (fun c_=>absurd rfl c_) (fun c_=> ?_)))))))))))
    refine WO.val (v:= .bool false) rfl (WO.yes rfl (WO.val (v:= .ptr b1 4) (L.aA rfl) (WO.yes rfl (WO.val (v:=L.str lb) (L.aC rfl (st.aj 1 rfl) rfl) (WO.yes rfl (WO.val (v:= .ptr b2 4) (L.aA rfl) (WO.yes rfl (WO.val (v:=L.str lb) (L.aC rfl (st.aj 0 rfl) rfl) (WO.yes rfl (WO.ifV (L.sne rfl rfl) (fun c_=>absurd rfl c_) (fun c_=> ?_)))))))))))
    refine WO.val (v:= .bool false) rfl (WO.yes rfl (WO.val (v:= .ptr b1 5) (L.aA rfl) (WO.yes rfl (WO.val (v:= .bool hs) (L.aC rfl (st.aj 1 rfl) rfl) (WO.yes rfl (WO.val (v:= .ptr b2 5) (L.aA rfl) (WO.yes rfl (WO.val (v:= .bool hs) (L.aC rfl (st.aj 0 rfl) rfl) (WO.yes rfl (WO.val (v:= .bool false) (L.uF rfl rfl) (WO.val (v:= .bool false) rfl (WO.yes rfl (WO.val (v:= .ptr b1 6) (L.aA rfl) (WO.yes rfl (WO.val (v:=L.str tm) (L.aC rfl (st.aj 1 rfl) rfl) (WO.yes rfl (WO.val (v:= .ptr b2 6) (L.aA rfl) (WO.yes rfl (WO.val (v:=L.str tm) (L.aC rfl (st.aj 0 rfl) rfl) (WO.yes rfl (WO.ifV (L.sne rfl rfl) (fun c_=>absurd rfl c_) (fun c_=> ?_))))))))))))))))))))))
    refine WO.val (v:= .bool false) rfl (WO.yes rfl (WO.val (v:= .ptr b1 7) (L.aA rfl) (WO.yes rfl (WO.val (v:=L.str t) (L.aC rfl (st.aj 1 rfl) rfl) (WO.yes rfl (WO.val (v:= .ptr b2 7) (L.aA rfl) (WO.yes rfl (WO.val (v:=L.str t) (L.aC rfl (st.aj 0 rfl) rfl) (WO.yes rfl (WO.ifV (L.sne rfl rfl) (fun c_=>absurd rfl c_) (fun c_=> ?_)))))))))))
    refine WO.val (v:= .bool false) rfl (WO.yes rfl (WO.val (v:= .ptr b1 9) (L.aA rfl) (WO.yes rfl (WO.val (v:=va) (L.aC rfl (st.aj 1 rfl) rfl) (WO.yes rfl (WO.val (v:= .int .i64 (as.length:Int)) (L.dJ rfl (st.aJ 4 rfl) (by simp;omega)) (WO.yes rfl (WO.val (v:= .ptr b2 9) (L.aA rfl) (WO.yes rfl (WO.val (v:=va2) (L.aC rfl (st.aj 0 rfl) rfl) (WO.yes rfl (WO.val (v:= .int .i64 (as.length:Int)) (L.dJ rfl (st.aJ 2 rfl) (by simp;omega)) (WO.yes rfl (WO.ifV (L.neq rfl rfl) (fun c_=>absurd rfl c_) (fun c_=> ?_)))))))))))))))
    refine WO.aB (v:= .bool false) rfl (WO.nil (WP.cond (t:=false) rfl (WP.skip (WP.seq (WP.seq (WP.reg (WO.val (v:= .ptr b1 8) (L.aA rfl) (WO.val (v:=ve) (L.aC rfl (st.aj 1 rfl) rfl) (WO.val (v:= .ptr b2 8) (L.aA rfl) (WO.val (v:=ve2) (L.aC rfl (st.aj 0 rfl) rfl) (WO.aM rfl (Av h68 h57 (b:=false) (es:=e) (es':=e2) ((st.pick 6 rfl).pick 10 rfl) hee (by omega)) ?_)))))))))))
    rintro _ h ⟨rfl,st⟩
    refine WO.val (v:= .bool false) rfl (WO.yes rfl (WO.val (v:= .ptr b1 10) (L.aA rfl) (WO.yes rfl (WO.val (v:=vb) (L.aC rfl (st.aj 1 rfl) rfl) (WO.yes rfl (WO.val (v:= .ptr b2 10) (L.aA rfl) (WO.yes rfl (WO.val (v:=vb2) (L.aC rfl (st.aj 0 rfl) rfl) (WO.yes rfl (WO.val (v:= .bool false) rfl (WO.yes rfl (WO.aM rfl (IH (Sms.sz bd) (by omega) (by omega) ((st.pick 6 rfl).pick 9 rfl) (Nat.le_refl _) hbe) ?_))))))))))))
    rintro _ h ⟨rfl,st⟩
    refine WO.yes rfl (WO.val (v:= .bool false) rfl (WO.val (v:= .bool false) rfl (WO.yes rfl (WO.val (v:= .ptr b1 11) (L.aA rfl) (WO.yes rfl (WO.val (v:=vl) (L.aC rfl (st.aj 1 rfl) rfl) (WO.yes rfl (WO.val (v:= .ptr b2 11) (L.aA rfl) (WO.yes rfl (WO.val (v:=vl2) (L.aC rfl (st.aj 0 rfl) rfl) (WO.yes rfl (WO.val (v:= .bool false) rfl (WO.yes rfl (WO.aM rfl (IH (Sms.sz el) (by omega) (by omega) ((st.pick 6 rfl).pick 8 rfl) (Nat.le_refl _) hle) ?_))))))))))))))
    rintro _ h ⟨rfl,st⟩
    refine WO.yes rfl (WO.val (v:= .bool false) rfl (WO.aB (v:= .bool false) rfl (WO.nil (WP.cond (t:=false) rfl (WP.skip (WP.seq (WP.reg (WO.aB (v:= .int .i64 0) rfl (WO.nil (WP.block (WP.eO (α:=Nat) (fun j env h=>∃x3 x12 x13,(j≤as.length)∧env=bG [v1,v2, .bool false,x3, .bool false, .int .i64 (i:Int), .bool true, .ptr b1 0, .ptr b2 0, .bool false, .bool false, .int .i64 (j:Int),x12,x13] 0 Env.nil∧St (.box b2 [.int .i64 (k:Int), .int .i64 (a2:Int),L.str m,L.str n,L.str lb, .bool hs,L.str tm,L.str t,ve2,va2,vb2,vl2]:: .box b1 [.int .i64 (k:Int), .int .i64 (a:Int),L.str m,L.str n,L.str lb, .bool hs,L.str tm,L.str t,ve,va,vb,vl]:: .stb (fun h=>Rows 1 h va2 (vs2.map fun x=>[x])):: .stb (fun h=>bH h as2 vs2):: .stb (fun h=>Rows 1 h va (vs.map fun x=>[x])):: .stb (fun h=>bH h as vs):: .stb (fun h=>bF h l' rw2):: .stb (fun h=>bF h l rw):: .stb (fun h=>Rows 12 h v1 rw):: .stb (fun h=>Rows 12 h v2 rw2)::fs) h) (fun j=>as.length - j) 0 ?_ ?_)))))))))))
    ·exact ⟨x3,x12,x13,(Nat.zero_le _),by kernel_rfl,st⟩
    rintro j _ h ⟨x3,x12,x13,hj,rfl,st⟩
    refine WP.seq (WP.seq (WP.reg (WO.val (v:= .ptr b1 9) (L.aA rfl) (WO.val (v:=va) (L.aC rfl (st.aj 1 rfl) rfl) (WO.val (v:= .int .i64 (as.length:Int)) (L.dJ rfl (st.aJ 4 rfl) (by simp;omega)) (WO.ifS (L.lss rfl rfl) (fun c2=> ?_) (fun c2=> ?_)))))))
    ·replace c2:j<as.length:=by omega
     refine WO.nil (WP.cond (t:=true) rfl (WP.skip (WP.seq (WP.block (WP.seq (WP.draw (WD.val (v:= .ptr b1 9) (L.aA rfl) ?_)))))))
     obtain ⟨x,hxj⟩:∃x,as[j]? =some x:=⟨_,List.getElem?_eq_getElem (by omega)⟩
     obtain ⟨y,hyj⟩:∃y,as2[j]? =some y:=⟨_,List.getElem?_eq_getElem (by omega)⟩
     have hxl:=zl hxj
     obtain ⟨wx,hwx,st⟩:=St.LJ (st.pick 5 rfl) hxj
     obtain ⟨wy,hwy,st⟩:=St.LJ (st.pick 5 rfl) hyj
     refine WD.val (v:=va) (L.aC rfl (st.aj 5 rfl) rfl) (WD.val (v:= .int .i64 (j:Int)) rfl (WD.val (v:= .ptr (slB va) (slO va+j * 1)) (L.bT (i:=j) (Rows.sl (i:=j) (st.aJ 7 rfl) (by simp;omega)) rfl (by simp;omega)) (WD.val (v:=wx) (L.load rfl (Rows.yX (st.aJ 7 rfl) (by rw [List.getElem?_map,hwx];rfl))) ?_)))
     refine WD.val (v:= .ptr b2 9) (L.aA rfl) (WD.val (v:=va2) (L.aC rfl (st.aj 4 rfl) rfl) (WD.val (v:= .int .i64 (j:Int)) rfl (WD.val (v:= .ptr (slB va2) (slO va2+j * 1)) (L.bT (i:=j) (Rows.sl (i:=j) (st.aJ 6 rfl) (by simp;omega)) rfl (by simp;omega)) (WD.val (v:=wy) (L.load rfl (Rows.yX (st.aJ 6 rfl) (by rw [List.getElem?_map,hwy];rfl))) ?_))))
     refine WD.val (v:= .bool false) rfl (WD.aM rfl (Av h68 h57 (b:=false) (es:=x) (es':=y) (st.pick 2 rfl) (hase.2 j x y hxj hyj) (by omega)) (fun _ _ _=>rfl) ?_)
     rintro _ h ⟨rfl,st⟩
     refine WD.aB (v:= .bool false) rfl (WD.nil (WP.cond (t:=false) rfl (WP.skip (WP.reg (WO.aB (v:= .int .i64 ((j+1:Nat):Int)) (L.fQ rfl rfl (by omega) (And.intro (by omega) (by omega))) (WO.nil ?_))))))
     exact ⟨j+1,(by omega),x3,(.bool true),(.bool false),by omega,by kernel_rfl,(((((st.pick 5 rfl).pick 1 rfl).pick 5 rfl).pick 5 rfl).pick 5 rfl)⟩
    ·replace c2:¬(j<as.length):=by omega
     refine WO.nil (WP.cond (t:=false) rfl (WP.exit (WP.reg (WO.aB (v:= .int .i64 ((i+1:Nat):Int)) (L.fQ rfl rfl (by omega) (And.intro (by omega) (by omega))) (WO.nil ?_)))))
     exact ⟨i+1,(by omega),x3,(.bool true),(.ptr b1 0),(.ptr b2 0),(.bool false),(.bool false),(.int .i64 (j:Int)),(.bool false),x13,by omega,by kernel_rfl,(((st.tail.tail.tail.tail.tail.tail.pick 3 rfl).pick 2 rfl).pick 3 rfl)⟩
  ·replace c1:¬(i<l.length):=by omega
   refine WO.nil (WP.cond (t:=false) rfl (WP.exit (WP.seq (WP.reg (WO.aB (v:= .bool true) rfl (WO.nil (WP.ret ?_)))))))
   exact ⟨_,(ak (aD (v:= .bool true) rfl) (aF _ _)),rfl,st.tail.tail.tail.tail⟩
 ·refine WO.aB (v:= .bool false) rfl (WO.nil (WP.seq (WP.seq (WP.reg (WO.val (v:= .int .i64 (l.length:Int)) (L.dJ rfl (st.aJ 0 rfl) (by omega)) (WO.val (v:= .int .i64 (l.length:Int)) (L.dJ rfl (st.aJ 2 rfl) (by omega)) (WO.ifS (L.neq rfl rfl) (fun c_=>absurd rfl c_) (fun c_=> ?_))))))))
  refine WO.nil (WP.cond (t:=false) rfl (WP.skip (WP.seq (WP.seq (WP.reg (WO.aB (v:= .int .i64 0) rfl (WO.nil (WP.block (WP.eO (α:=Nat) (fun i env h=>∃x3 x6 x7 x8 x9 x10 x11 x12 x13,(i≤l.length)∧env=bG [v1,v2, .bool true,x3, .bool false, .int .i64 (i:Int),x6,x7,x8,x9,x10,x11,x12,x13] 0 Env.nil∧St (.stb (fun h=>Rows 12 h v1 rw):: .stb (fun h=>bF h l rw):: .stb (fun h=>Rows 12 h v2 rw2):: .stb (fun h=>bF h l' rw2)::fs) h) (fun i=>l.length - i) 0 ?_ ?_)))))))))
  ·exact ⟨(.bool false), .bot, .bot, .bot, .bot, .bot, .bot, .bot, .bot,(Nat.zero_le _),by kernel_rfl,st⟩
  rintro i _ h ⟨x3,x6,x7,x8,x9,x10,x11,x12,x13,hi,rfl,st⟩
  refine WP.seq (WP.seq (WP.reg (WO.val (v:= .int .i64 (l.length:Int)) (L.dJ rfl (st.aJ 0 rfl) (by omega)) (WO.ifS (L.lss rfl rfl) (fun c3=> ?_) (fun c3=> ?_)))))
  ·replace c3:i<l.length:=by omega
   refine WO.nil (WP.cond (t:=true) rfl (WP.skip (WP.seq (WP.block (WP.seq (WP.draw (WD.val (v:=v1) rfl (WD.val (v:= .int .i64 (i:Int)) rfl ?_))))))))
   obtain ⟨s0,hs0⟩:∃s,l[i]? =some s:=⟨_,List.getElem?_eq_getElem c3⟩
   obtain ⟨s1,hs1,hse⟩:=hl.at_ hs0
   have hsz0:=Sms.SA hs0
   cases hse with
   | @mk k a a2 m n lb hs tm t e e2 as as2 bd bd2 el el2 hat hee hase hbe hle=>
    obtain ⟨ve,va,vb,vl,hx,st⟩:=St.smAt (st.pick 1 rfl) hs0
    obtain ⟨ve2,va2,vb2,vl2,hy,st⟩:=St.smAt (st.pick 7 rfl) hs1
    obtain ⟨vs,st⟩:=St.argsAt (st.pick 6 rfl)
    obtain ⟨vs2,st⟩:=St.argsAt (st.pick 3 rfl)
    simp only [Sm.sz] at hsz0
    have hq1:=(st.aJ 3 rfl).len
    have hq2:=(st.aJ 1 rfl).len
    have hasl:=hase.1
    have hasz:=xg as
    refine WD.val (v:= .ptr (slB v1) (slO v1+i * 12)) (L.bT (i:=i) (Rows.sl (i:=i) (st.aJ 12 rfl) (by omega)) rfl (by omega)) (WD.val (v:= .agg [.int .i64 (k:Int), .int .i64 (a:Int),L.str m,L.str n,L.str lb, .bool hs,L.str tm,L.str t,ve,va,vb,vl]) (L.aY rfl (Rows.fu (st.aJ 12 rfl) hx)) (WD.val (v:=v2) rfl (WD.val (v:= .int .i64 (i:Int)) rfl (WD.val (v:= .ptr (slB v2) (slO v2+i * 12)) (L.bT (i:=i) (Rows.sl (i:=i) (st.aJ 13 rfl) (by omega)) rfl (by omega)) (WD.val (v:= .agg [.int .i64 (k:Int), .int .i64 (a2:Int),L.str m,L.str n,L.str lb, .bool hs,L.str tm,L.str t,ve2,va2,vb2,vl2]) (L.aY rfl (Rows.fu (st.aJ 13 rfl) hy)) (WD.bL st L.alloc (fun b1 h st=> ?_)))))))
    refine WD.bL st L.alloc (fun b2 h st=> ?_)
    refine WD.aG (row':=[.int .i64 (k:Int), .int .i64 (a:Int),L.str m,L.str n,L.str lb, .bool hs,L.str tm,L.str t,ve,va,vb,vl]) st 1 rfl rfl rfl rfl rfl rfl rfl (fun h st=>aR (by first|exact av (L.aY rfl (Rows.fu (st.aJ 14 rfl) hx))|exact av (L.aY rfl (Rows.fu (st.aJ 15 rfl) hy))|exact av (L.aC rfl (st.aj 0 rfl) rfl)|exact aH st 0 rfl|exact av (L.aK rfl (st.aj 0 rfl) rfl rfl rfl)|exact av (L.aC rfl (st.aj 1 rfl) rfl)|exact aH st 1 rfl|exact av (L.aK rfl (st.aj 1 rfl) rfl rfl rfl)) (bC _ _)) (fun h st=> ?_)
    refine WD.aG (row':=[.int .i64 (k:Int), .int .i64 (a2:Int),L.str m,L.str n,L.str lb, .bool hs,L.str tm,L.str t,ve2,va2,vb2,vl2]) st 0 rfl rfl rfl rfl rfl rfl rfl (fun h st=>rfl) (fun h st=> ?_)
    refine WD.nil (WP.seq (WP.seq (WP.reg (WO.val (v:= .ptr b1 0) (L.aA rfl) (WO.val (v:= .int .i64 (k:Int)) (L.aC rfl (st.aj 1 rfl) rfl) (WO.val (v:= .ptr b2 0) (L.aA rfl) (WO.val (v:= .int .i64 (k:Int)) (L.aC rfl (st.aj 0 rfl) rfl) (WO.ifV (L.neq rfl rfl) (fun c_=>absurd rfl c_) (fun c_=> ?_)))))))))
    refine WO.yes rfl (WO.val (v:= .bool true) rfl (WO.yes rfl (WO.val (v:= .bool true) rfl (WO.yes rfl (WO.val (v:= .ptr b1 1) (L.aA rfl) (WO.yes rfl (WO.val (v:= .int .i64 (a:Int)) (L.aC rfl (st.aj 1 rfl) rfl) (WO.yes rfl (WO.val (v:= .ptr b2 1) (L.aA rfl) (WO.yes rfl (WO.val (v:= .int .i64 (a2:Int)) (L.aC rfl (st.aj 0 rfl) rfl) (WO.yes rfl (WO.ifV (L.neq rfl rfl) (fun c_=>absurd (by have:=hat rfl;omega) c_) (fun c_=> ?_))))))))))))))
    refine WO.yes rfl (WO.val (v:= .bool false) rfl (WO.val (v:= .bool false) rfl (WO.yes rfl (WO.val (v:= .ptr b1 2) (L.aA rfl) (WO.yes rfl (WO.val (v:=L.str m) (L.aC rfl (st.aj 1 rfl) rfl) (WO.yes rfl (WO.val (v:= .ptr b2 2) (L.aA rfl) (WO.yes rfl (WO.val (v:=L.str m) (L.aC rfl (st.aj 0 rfl) rfl) (WO.yes rfl (WO.ifV (L.sne rfl rfl) (fun c_=>absurd rfl c_) (fun c_=> ?_)))))))))))))
    refine WO.val (v:= .bool false) rfl (WO.yes rfl (WO.val (v:= .ptr b1 3) (L.aA rfl) (WO.yes rfl (WO.val (v:=L.str n) (L.aC rfl (st.aj 1 rfl) rfl) (WO.yes rfl (WO.val (v:= .ptr b2 3) (L.aA rfl) (WO.yes rfl (WO.val (v:=L.str n) (L.aC rfl (st.aj 0 rfl) rfl) (WO.yes rfl (WO.ifV (L.sne rfl rfl) (fun c_=>absurd rfl c_) (fun c_=> ?_)))))))))))
    refine WO.val (v:= .bool false) rfl (WO.yes rfl (WO.val (v:= .ptr b1 4) (L.aA rfl) (WO.yes rfl (WO.val (v:=L.str lb) (L.aC rfl (st.aj 1 rfl) rfl) (WO.yes rfl (WO.val (v:= .ptr b2 4) (L.aA rfl) (WO.yes rfl (WO.val (v:=L.str lb) (L.aC rfl (st.aj 0 rfl) rfl) (WO.yes rfl (WO.ifV (L.sne rfl rfl) (fun c_=>absurd rfl c_) (fun c_=> ?_)))))))))))
    refine WO.val (v:= .bool false) rfl (WO.yes rfl (WO.val (v:= .ptr b1 5) (L.aA rfl) (WO.yes rfl (WO.val (v:= .bool hs) (L.aC rfl (st.aj 1 rfl) rfl) (WO.yes rfl (WO.val (v:= .ptr b2 5) (L.aA rfl) (WO.yes rfl (WO.val (v:= .bool hs) (L.aC rfl (st.aj 0 rfl) rfl) (WO.yes rfl (WO.val (v:= .bool false) (L.uF rfl rfl) (WO.val (v:= .bool false) rfl (WO.yes rfl (WO.val (v:= .ptr b1 6) (L.aA rfl) (WO.yes rfl (WO.val (v:=L.str tm) (L.aC rfl (st.aj 1 rfl) rfl) (WO.yes rfl (WO.val (v:= .ptr b2 6) (L.aA rfl) (WO.yes rfl (WO.val (v:=L.str tm) (L.aC rfl (st.aj 0 rfl) rfl) (WO.yes rfl (WO.ifV (L.sne rfl rfl) (fun c_=>absurd rfl c_) (fun c_=> ?_))))))))))))))))))))))
    refine WO.val (v:= .bool false) rfl (WO.yes rfl (WO.val (v:= .ptr b1 7) (L.aA rfl) (WO.yes rfl (WO.val (v:=L.str t) (L.aC rfl (st.aj 1 rfl) rfl) (WO.yes rfl (WO.val (v:= .ptr b2 7) (L.aA rfl) (WO.yes rfl (WO.val (v:=L.str t) (L.aC rfl (st.aj 0 rfl) rfl) (WO.yes rfl (WO.ifV (L.sne rfl rfl) (fun c_=>absurd rfl c_) (fun c_=> ?_)))))))))))
    refine WO.val (v:= .bool false) rfl (WO.yes rfl (WO.val (v:= .ptr b1 9) (L.aA rfl) (WO.yes rfl (WO.val (v:=va) (L.aC rfl (st.aj 1 rfl) rfl) (WO.yes rfl (WO.val (v:= .int .i64 (as.length:Int)) (L.dJ rfl (st.aJ 4 rfl) (by simp;omega)) (WO.yes rfl (WO.val (v:= .ptr b2 9) (L.aA rfl) (WO.yes rfl (WO.val (v:=va2) (L.aC rfl (st.aj 0 rfl) rfl) (WO.yes rfl (WO.val (v:= .int .i64 (as.length:Int)) (L.dJ rfl (st.aJ 2 rfl) (by simp;omega)) (WO.yes rfl (WO.ifV (L.neq rfl rfl) (fun c_=>absurd rfl c_) (fun c_=> ?_)))))))))))))))
    refine WO.aB (v:= .bool false) rfl (WO.nil (WP.cond (t:=false) rfl (WP.skip (WP.seq (WP.seq (WP.reg (WO.val (v:= .ptr b1 8) (L.aA rfl) (WO.val (v:=ve) (L.aC rfl (st.aj 1 rfl) rfl) (WO.val (v:= .ptr b2 8) (L.aA rfl) (WO.val (v:=ve2) (L.aC rfl (st.aj 0 rfl) rfl) (WO.aM rfl (Av h68 h57 (b:=true) (es:=e) (es':=e2) ((st.pick 6 rfl).pick 10 rfl) hee (by omega)) ?_)))))))))))
    rintro _ h ⟨rfl,st⟩
    refine WO.val (v:= .bool false) rfl (WO.yes rfl (WO.val (v:= .ptr b1 10) (L.aA rfl) (WO.yes rfl (WO.val (v:=vb) (L.aC rfl (st.aj 1 rfl) rfl) (WO.yes rfl (WO.val (v:= .ptr b2 10) (L.aA rfl) (WO.yes rfl (WO.val (v:=vb2) (L.aC rfl (st.aj 0 rfl) rfl) (WO.yes rfl (WO.val (v:= .bool true) rfl (WO.yes rfl (WO.aM rfl (IH (Sms.sz bd) (by omega) (by omega) ((st.pick 6 rfl).pick 9 rfl) (Nat.le_refl _) hbe) ?_))))))))))))
    rintro _ h ⟨rfl,st⟩
    refine WO.yes rfl (WO.val (v:= .bool false) rfl (WO.val (v:= .bool false) rfl (WO.yes rfl (WO.val (v:= .ptr b1 11) (L.aA rfl) (WO.yes rfl (WO.val (v:=vl) (L.aC rfl (st.aj 1 rfl) rfl) (WO.yes rfl (WO.val (v:= .ptr b2 11) (L.aA rfl) (WO.yes rfl (WO.val (v:=vl2) (L.aC rfl (st.aj 0 rfl) rfl) (WO.yes rfl (WO.val (v:= .bool true) rfl (WO.yes rfl (WO.aM rfl (IH (Sms.sz el) (by omega) (by omega) ((st.pick 6 rfl).pick 8 rfl) (Nat.le_refl _) hle) ?_))))))))))))))
    rintro _ h ⟨rfl,st⟩
    refine WO.yes rfl (WO.val (v:= .bool false) rfl (WO.aB (v:= .bool false) rfl (WO.nil (WP.cond (t:=false) rfl (WP.skip (WP.seq (WP.reg (WO.aB (v:= .int .i64 0) rfl (WO.nil (WP.block (WP.eO (α:=Nat) (fun j env h=>∃x3 x12 x13,(j≤as.length)∧env=bG [v1,v2, .bool true,x3, .bool false, .int .i64 (i:Int), .bool true, .ptr b1 0, .ptr b2 0, .bool false, .bool false, .int .i64 (j:Int),x12,x13] 0 Env.nil∧St (.box b2 [.int .i64 (k:Int), .int .i64 (a2:Int),L.str m,L.str n,L.str lb, .bool hs,L.str tm,L.str t,ve2,va2,vb2,vl2]:: .box b1 [.int .i64 (k:Int), .int .i64 (a:Int),L.str m,L.str n,L.str lb, .bool hs,L.str tm,L.str t,ve,va,vb,vl]:: .stb (fun h=>Rows 1 h va2 (vs2.map fun x=>[x])):: .stb (fun h=>bH h as2 vs2):: .stb (fun h=>Rows 1 h va (vs.map fun x=>[x])):: .stb (fun h=>bH h as vs):: .stb (fun h=>bF h l' rw2):: .stb (fun h=>bF h l rw):: .stb (fun h=>Rows 12 h v1 rw):: .stb (fun h=>Rows 12 h v2 rw2)::fs) h) (fun j=>as.length - j) 0 ?_ ?_)))))))))))
    ·exact ⟨x3,x12,x13,(Nat.zero_le _),by kernel_rfl,st⟩
    rintro j _ h ⟨x3,x12,x13,hj,rfl,st⟩
    refine WP.seq (WP.seq (WP.reg (WO.val (v:= .ptr b1 9) (L.aA rfl) (WO.val (v:=va) (L.aC rfl (st.aj 1 rfl) rfl) (WO.val (v:= .int .i64 (as.length:Int)) (L.dJ rfl (st.aJ 4 rfl) (by simp;omega)) (WO.ifS (L.lss rfl rfl) (fun c4=> ?_) (fun c4=> ?_)))))))
    ·replace c4:j<as.length:=by omega
     refine WO.nil (WP.cond (t:=true) rfl (WP.skip (WP.seq (WP.block (WP.seq (WP.draw (WD.val (v:= .ptr b1 9) (L.aA rfl) ?_)))))))
     obtain ⟨x,hxj⟩:∃x,as[j]? =some x:=⟨_,List.getElem?_eq_getElem (by omega)⟩
     obtain ⟨y,hyj⟩:∃y,as2[j]? =some y:=⟨_,List.getElem?_eq_getElem (by omega)⟩
     have hxl:=zl hxj
     obtain ⟨wx,hwx,st⟩:=St.LJ (st.pick 5 rfl) hxj
     obtain ⟨wy,hwy,st⟩:=St.LJ (st.pick 5 rfl) hyj
     refine WD.val (v:=va) (L.aC rfl (st.aj 5 rfl) rfl) (WD.val (v:= .int .i64 (j:Int)) rfl (WD.val (v:= .ptr (slB va) (slO va+j * 1)) (L.bT (i:=j) (Rows.sl (i:=j) (st.aJ 7 rfl) (by simp;omega)) rfl (by simp;omega)) (WD.val (v:=wx) (L.load rfl (Rows.yX (st.aJ 7 rfl) (by rw [List.getElem?_map,hwx];rfl))) ?_)))
     refine WD.val (v:= .ptr b2 9) (L.aA rfl) (WD.val (v:=va2) (L.aC rfl (st.aj 4 rfl) rfl) (WD.val (v:= .int .i64 (j:Int)) rfl (WD.val (v:= .ptr (slB va2) (slO va2+j * 1)) (L.bT (i:=j) (Rows.sl (i:=j) (st.aJ 6 rfl) (by simp;omega)) rfl (by simp;omega)) (WD.val (v:=wy) (L.load rfl (Rows.yX (st.aJ 6 rfl) (by rw [List.getElem?_map,hwy];rfl))) ?_))))
     refine WD.val (v:= .bool true) rfl (WD.aM rfl (Av h68 h57 (b:=true) (es:=x) (es':=y) (st.pick 2 rfl) (hase.2 j x y hxj hyj) (by omega)) (fun _ _ _=>rfl) ?_)
     rintro _ h ⟨rfl,st⟩
     refine WD.aB (v:= .bool false) rfl (WD.nil (WP.cond (t:=false) rfl (WP.skip (WP.reg (WO.aB (v:= .int .i64 ((j+1:Nat):Int)) (L.fQ rfl rfl (by omega) (And.intro (by omega) (by omega))) (WO.nil ?_))))))
     exact ⟨j+1,(by omega),x3,(.bool true),(.bool false),by omega,by kernel_rfl,(((((st.pick 5 rfl).pick 1 rfl).pick 5 rfl).pick 5 rfl).pick 5 rfl)⟩
    ·replace c4:¬(j<as.length):=by omega
     refine WO.nil (WP.cond (t:=false) rfl (WP.exit (WP.reg (WO.aB (v:= .int .i64 ((i+1:Nat):Int)) (L.fQ rfl rfl (by omega) (And.intro (by omega) (by omega))) (WO.nil ?_)))))
     exact ⟨i+1,(by omega),x3,(.bool true),(.ptr b1 0),(.ptr b2 0),(.bool false),(.bool false),(.int .i64 (j:Int)),(.bool false),x13,by omega,by kernel_rfl,(((st.tail.tail.tail.tail.tail.tail.pick 3 rfl).pick 2 rfl).pick 3 rfl)⟩
  ·replace c3:¬(i<l.length):=by omega
   refine WO.nil (WP.cond (t:=false) rfl (WP.exit (WP.seq (WP.reg (WO.aB (v:= .bool true) rfl (WO.nil (WP.ret ?_)))))))
   exact ⟨_,(ak (aD (v:= .bool true) rfl) (aF _ _)),rfl,st.tail.tail.tail.tail⟩
end
end Go.Eng.YtjobofnpmmjeoaaGreatDoor.Pq
namespace Go.Eng.YtjobofnpmmjeoaaGreatDoor.Pq
open Go.Eng
noncomputable section
variable {c:Ctx}
theorem cmpmd_t (h39:T.get 39 c.bf=some i39) (h68:T.get 68 c.bf=some i68) (h57:T.get 57 c.bf=some i57) (h40:T.get 40 c.bf=some i40) (h23:T.get 23 c.bf=some i23) {fs:List Fact} {h:Heap} {m m':Md} {row row':List V} (st:St (.stb (fun h=>MdR h m row):: .stb (fun h=>MdR h m' row')::fs) h) (he:MdEq true m m') (hf:IW m):
 aV c 23 [.agg row, .agg row', .bool true] h fun v h1=>v= .bool true∧St fs h1:=by
 obtain ⟨vi,vv,vp0,rw,hrow,st1⟩:=St.mdAt st
 subst hrow
 replace st:St (.stb (fun h=>MdR h m' row'):: .stb (fun h=>Rows 2 h vi (m.imports.map Im.row)):: .stb (fun h=>Rows 4 h vv (m.vars.map Vr.row)):: .stb (fun h=>Rows 8 h vp0 rw):: .stb (fun h=>bZ h m.procs rw)::fs) h:=st1.pick 4 rfl
 obtain ⟨vi2,vv2,vp02,rw2,hrow2,st2⟩:=St.mdAt st
 subst hrow2
 clear st
 have st:St (.stb (fun h=>Rows 2 h vi (m.imports.map Im.row)):: .stb (fun h=>Rows 4 h vv (m.vars.map Vr.row)):: .stb (fun h=>Rows 8 h vp0 rw):: .stb (fun h=>bZ h m.procs rw):: .stb (fun h=>Rows 2 h vi2 (m'.imports.map Im.row)):: .stb (fun h=>Rows 4 h vv2 (m'.vars.map Vr.row)):: .stb (fun h=>Rows 8 h vp02 rw2):: .stb (fun h=>bZ h m'.procs rw2)::fs) h:=(((st2.pick 7 rfl).pick 7 rfl).pick 7 rfl).pick 7 rfl
 have hil:=he.imports.len
 have hvl:=he.vars.len
 have hpl0:=he.procs.len
 have hfi:=hf.imports
 have hfv:=hf.vars
 have hfp:=hf.procs
 have hr1:=(st.aJ 3 rfl).len
 have hr2:=(st.aJ 7 rfl).len
 refine aV.dh h23 rfl (WP.seq (WP.reg (WO.bL st (L.box (l:=[L.str m.name, .int .i64 (m.at_:Int),vi,vv,vp0]) rfl rfl) (fun m1 h st=> ?_))))
 refine WO.bL st (L.box (l:=[L.str m'.name, .int .i64 (m'.at_:Int),vi2,vv2,vp02]) rfl rfl) (fun m2 h st=> ?_)
 refine WO.aB (v:= .bool false) rfl (WO.nil (WP.seq (WP.seq (WP.reg (WO.val (v:= .ptr m1 0) (L.aA rfl) (WO.val (v:=L.str m.name) (L.aC rfl (st.aj 1 rfl) rfl) (WO.val (v:= .ptr m2 0) (L.aA rfl) (WO.val (v:=L.str m'.name) (L.aC rfl (st.aj 0 rfl) rfl) (WO.ifV (L.sne rfl rfl) (fun c_=>absurd (by exact he.name) c_) (fun c_=> ?_))))))))))
 refine WO.yes rfl (WO.val (v:= .bool true) rfl (WO.yes rfl (WO.val (v:= .bool true) rfl (WO.yes rfl (WO.val (v:= .ptr m1 1) (L.aA rfl) (WO.yes rfl (WO.val (v:= .int .i64 (m.at_:Int)) (L.aC rfl (st.aj 1 rfl) rfl) (WO.yes rfl (WO.val (v:= .ptr m2 1) (L.aA rfl) (WO.yes rfl (WO.val (v:= .int .i64 (m'.at_:Int)) (L.aC rfl (st.aj 0 rfl) rfl) (WO.yes rfl (WO.ifV (L.neq rfl rfl) (fun c_=>absurd (by have:=he.at_ rfl;omega) c_) (fun c_=> ?_))))))))))))))
 refine WO.yes rfl (WO.val (v:= .bool false) rfl (WO.val (v:= .bool false) rfl (WO.yes rfl (WO.val (v:= .ptr m1 2) (L.aA rfl) (WO.yes rfl (WO.val (v:=vi) (L.aC rfl (st.aj 1 rfl) rfl) (WO.yes rfl (WO.val (v:= .int .i64 (m.imports.length:Int)) (L.dJ rfl (st.aJ 2 rfl) (by simp)) (WO.yes rfl (WO.val (v:= .ptr m2 2) (L.aA rfl) (WO.yes rfl (WO.val (v:=vi2) (L.aC rfl (st.aj 0 rfl) rfl) (WO.yes rfl (WO.val (v:= .int .i64 (m.imports.length:Int)) (L.dJ rfl (st.aJ 6 rfl) (by simp [hil])) (WO.yes rfl (WO.ifV (L.neq rfl rfl) (fun c_=>absurd rfl c_) (fun c_=> ?_)))))))))))))))))
 refine WO.val (v:= .bool false) rfl (WO.yes rfl (WO.val (v:= .ptr m1 3) (L.aA rfl) (WO.yes rfl (WO.val (v:=vv) (L.aC rfl (st.aj 1 rfl) rfl) (WO.yes rfl (WO.val (v:= .int .i64 (m.vars.length:Int)) (L.dJ rfl (st.aJ 3 rfl) (by simp)) (WO.yes rfl (WO.val (v:= .ptr m2 3) (L.aA rfl) (WO.yes rfl (WO.val (v:=vv2) (L.aC rfl (st.aj 0 rfl) rfl) (WO.yes rfl (WO.val (v:= .int .i64 (m.vars.length:Int)) (L.dJ rfl (st.aJ 7 rfl) (by simp [hvl])) (WO.yes rfl (WO.ifV (L.neq rfl rfl) (fun c_=>absurd rfl c_) (fun c_=> ?_)))))))))))))))
 refine WO.val (v:= .bool false) rfl (WO.yes rfl (WO.val (v:= .ptr m1 4) (L.aA rfl) (WO.yes rfl (WO.val (v:=vp0) (L.aC rfl (st.aj 1 rfl) rfl) (WO.yes rfl (WO.val (v:= .int .i64 (m.procs.length:Int)) (L.dJ rfl (st.aJ 4 rfl) (by omega)) (WO.yes rfl (WO.val (v:= .ptr m2 4) (L.aA rfl) (WO.yes rfl (WO.val (v:=vp02) (L.aC rfl (st.aj 0 rfl) rfl) (WO.yes rfl (WO.val (v:= .int .i64 (m.procs.length:Int)) (L.dJ rfl (st.aJ 8 rfl) (by omega)) (WO.yes rfl (WO.ifV (L.neq rfl rfl) (fun c_=>absurd rfl c_) (fun c_=> ?_)))))))))))))))
 refine WO.aB (v:= .bool false) rfl (WO.nil (WP.cond (t:=false) rfl (WP.skip (WP.seq (WP.seq (WP.reg (WO.aB (v:= .int .i64 0) rfl (WO.nil (WP.block (WP.eO (α:=Nat) (fun i1 env h=>∃x3 x8 x9,(i1≤m.imports.length)∧env=bG [.agg [L.str m.name, .int .i64 (m.at_:Int),vi,vv,vp0], .agg [L.str m'.name, .int .i64 (m'.at_:Int),vi2,vv2,vp02], .bool true,x3, .ptr m1 0, .ptr m2 0, .bool false, .int .i64 (i1:Int),x8,x9] 0 Env.nil∧St (.box m2 [L.str m'.name, .int .i64 (m'.at_:Int),vi2,vv2,vp02]:: .box m1 [L.str m.name, .int .i64 (m.at_:Int),vi,vv,vp0]:: .stb (fun h=>Rows 2 h vi (m.imports.map Im.row)):: .stb (fun h=>Rows 4 h vv (m.vars.map Vr.row)):: .stb (fun h=>Rows 8 h vp0 rw):: .stb (fun h=>bZ h m.procs rw):: .stb (fun h=>Rows 2 h vi2 (m'.imports.map Im.row)):: .stb (fun h=>Rows 4 h vv2 (m'.vars.map Vr.row)):: .stb (fun h=>Rows 8 h vp02 rw2):: .stb (fun h=>bZ h m'.procs rw2)::fs) h) (fun i1=>m.imports.length - i1) 0 ?_ ?_))))))))))
 ·exact ⟨(.bool false), .bot, .bot,(Nat.zero_le _),by kernel_rfl,st⟩
 rintro i1 _ h ⟨x3,x8,x9,hi1,rfl,st⟩
 refine WP.seq (WP.seq (WP.reg (WO.val (v:= .ptr m1 2) (L.aA rfl) (WO.val (v:=vi) (L.aC rfl (st.aj 1 rfl) rfl) (WO.val (v:= .int .i64 (m.imports.length:Int)) (L.dJ rfl (st.aJ 2 rfl) (by simp)) (WO.ifS (L.lss rfl rfl) (fun c1=> ?_) (fun c1=> ?_)))))))
 ·replace c1:i1<m.imports.length:=by omega
  refine WO.nil (WP.cond (t:=true) rfl (WP.skip (WP.seq (WP.block (WP.seq (WP.draw (WD.val (v:= .ptr m1 2) (L.aA rfl) (WD.val (v:=vi) (L.aC rfl (st.aj 1 rfl) rfl) (WD.val (v:= .int .i64 (i1:Int)) rfl ?_)))))))))
  obtain ⟨x,hx⟩:∃z_,m.imports[i1]? =some z_:=⟨_,List.getElem?_eq_getElem (by omega)⟩
  obtain ⟨y,hy⟩:∃z_,m'.imports[i1]? =some z_:=⟨_,List.getElem?_eq_getElem (by have:=he.imports.len;omega)⟩
  have hxy:=he.imports.at_ _ _ _ hx hy
  refine WD.val (v:= .ptr (slB vi) (slO vi+i1 * 2)) (L.bT (i:=i1) (Rows.sl (i:=i1) (st.aJ 2 rfl) (by simp;omega)) rfl (by simp;omega)) (WD.val (v:= .ptr (slB vi) (slO vi+i1 * 2+0)) (L.aA rfl) (WD.val (v:=L.str x.name) (L.load rfl (Rows.iW (i:=i1) (j:=0) (row:=x.row) (st.aJ 2 rfl) (by rw [List.getElem?_map,hx];rfl) rfl)) ?_))
  refine WD.val (v:= .ptr m2 2) (L.aA rfl) (WD.val (v:=vi2) (L.aC rfl (st.aj 0 rfl) rfl) (WD.val (v:= .int .i64 (i1:Int)) rfl (WD.val (v:= .ptr (slB vi2) (slO vi2+i1 * 2)) (L.bT (i:=i1) (Rows.sl (i:=i1) (st.aJ 6 rfl) (by simp;omega)) rfl (by simp;omega)) (WD.val (v:= .ptr (slB vi2) (slO vi2+i1 * 2+0)) (L.aA rfl) (WD.val (v:=L.str y.name) (L.load rfl (Rows.iW (i:=i1) (j:=0) (row:=y.row) (st.aJ 6 rfl) (by rw [List.getElem?_map,hy];rfl) rfl)) ?_)))))
  refine WD.ifV (L.sne rfl rfl) (fun _ c_=>absurd (by exact hxy.name) c_) (fun _ c_=> ?_)
  refine WD.val (v:= .bool false) rfl (WD.yes rfl (WD.val (v:= .bool true) rfl (WD.yes rfl (WD.val (v:= .bool true) rfl (WD.yes rfl (WD.val (v:= .ptr m1 2) (L.aA rfl) (WD.yes rfl (WD.val (v:=vi) (L.aC rfl (st.aj 1 rfl) rfl) (WD.yes rfl (WD.val (v:= .int .i64 (i1:Int)) rfl (WD.yes rfl (WD.val (v:= .ptr (slB vi) (slO vi+i1 * 2)) (L.bT (i:=i1) (Rows.sl (i:=i1) (st.aJ 2 rfl) (by simp;omega)) rfl (by simp;omega)) (WD.yes rfl (WD.val (v:= .ptr (slB vi) (slO vi+i1 * 2+1)) (L.aA rfl) (WD.yes rfl (WD.val (v:= .int .i64 (x.at_:Int)) (L.load rfl (Rows.iW (i:=i1) (j:=1) (row:=x.row) (st.aJ 2 rfl) (by rw [List.getElem?_map,hx];rfl) rfl)) ?_))))))))))))))))
  refine WD.yes rfl (WD.val (v:= .ptr m2 2) (L.aA rfl) (WD.yes rfl (WD.val (v:=vi2) (L.aC rfl (st.aj 0 rfl) rfl) (WD.yes rfl (WD.val (v:= .int .i64 (i1:Int)) rfl (WD.yes rfl (WD.val (v:= .ptr (slB vi2) (slO vi2+i1 * 2)) (L.bT (i:=i1) (Rows.sl (i:=i1) (st.aJ 6 rfl) (by simp;omega)) rfl (by simp;omega)) (WD.yes rfl (WD.val (v:= .ptr (slB vi2) (slO vi2+i1 * 2+1)) (L.aA rfl) (WD.yes rfl (WD.val (v:= .int .i64 (y.at_:Int)) (L.load rfl (Rows.iW (i:=i1) (j:=1) (row:=y.row) (st.aJ 6 rfl) (by rw [List.getElem?_map,hy];rfl) rfl)) ?_)))))))))))
  refine WD.yes rfl (WD.ifV (L.neq rfl rfl) (fun _ c_=>absurd (by have:=hxy.at_ rfl;omega) c_) (fun _ c_=> ?_))
  refine WD.yes rfl (WD.val (v:= .bool false) rfl (WD.aB (v:= .bool false) rfl (WD.nil (WP.cond (t:=false) rfl (WP.skip (WP.reg (WO.aB (v:= .int .i64 ((i1+1:Nat):Int)) (L.fQ rfl rfl (by omega) (And.intro (by omega) (by omega))) (WO.nil ?_))))))))
  exact ⟨i1+1,(by omega),x3,(.bool true),(.bool false),by omega,by kernel_rfl,st⟩
 ·replace c1:¬(i1<m.imports.length):=by omega
  refine WO.nil (WP.cond (t:=false) rfl (WP.exit (WP.seq (WP.seq (WP.reg (WO.aB (v:= .int .i64 0) rfl (WO.nil (WP.block (WP.eO (α:=Nat) (fun i2 env h=>∃x3 x11 x12 x13 x14,(i2≤m.vars.length)∧env=bG [.agg [L.str m.name, .int .i64 (m.at_:Int),vi,vv,vp0], .agg [L.str m'.name, .int .i64 (m'.at_:Int),vi2,vv2,vp02], .bool true,x3, .ptr m1 0, .ptr m2 0, .bool false, .int .i64 (i1:Int), .bool false,x9, .int .i64 (i2:Int),x11,x12,x13,x14] 0 Env.nil∧St (.box m2 [L.str m'.name, .int .i64 (m'.at_:Int),vi2,vv2,vp02]:: .box m1 [L.str m.name, .int .i64 (m.at_:Int),vi,vv,vp0]:: .stb (fun h=>Rows 2 h vi (m.imports.map Im.row)):: .stb (fun h=>Rows 4 h vv (m.vars.map Vr.row)):: .stb (fun h=>Rows 8 h vp0 rw):: .stb (fun h=>bZ h m.procs rw):: .stb (fun h=>Rows 2 h vi2 (m'.imports.map Im.row)):: .stb (fun h=>Rows 4 h vv2 (m'.vars.map Vr.row)):: .stb (fun h=>Rows 8 h vp02 rw2):: .stb (fun h=>bZ h m'.procs rw2)::fs) h) (fun i2=>m.vars.length - i2) 0 ?_ ?_)))))))))
  ·exact ⟨x3, .bot, .bot, .bot, .bot,(Nat.zero_le _),by kernel_rfl,st⟩
  rintro i2 _ h ⟨x3,x11,x12,x13,x14,hi2,rfl,st⟩
  refine WP.seq (WP.seq (WP.reg (WO.val (v:= .ptr m1 3) (L.aA rfl) (WO.val (v:=vv) (L.aC rfl (st.aj 1 rfl) rfl) (WO.val (v:= .int .i64 (m.vars.length:Int)) (L.dJ rfl (st.aJ 3 rfl) (by simp)) (WO.ifS (L.lss rfl rfl) (fun c2=> ?_) (fun c2=> ?_)))))))
  ·replace c2:i2<m.vars.length:=by omega
   refine WO.nil (WP.cond (t:=true) rfl (WP.skip (WP.seq (WP.block (WP.seq (WP.draw (WD.val (v:= .ptr m1 3) (L.aA rfl) (WD.val (v:=vv) (L.aC rfl (st.aj 1 rfl) rfl) (WD.val (v:= .int .i64 (i2:Int)) rfl ?_)))))))))
   obtain ⟨x,hx⟩:∃z_,m.vars[i2]? =some z_:=⟨_,List.getElem?_eq_getElem (by omega)⟩
   obtain ⟨y,hy⟩:∃z_,m'.vars[i2]? =some z_:=⟨_,List.getElem?_eq_getElem (by have:=he.vars.len;omega)⟩
   have hxy:=he.vars.at_ _ _ _ hx hy
   refine WD.val (v:= .ptr (slB vv) (slO vv+i2 * 4)) (L.bT (i:=i2) (Rows.sl (i:=i2) (st.aJ 3 rfl) (by simp;omega)) rfl (by simp;omega)) (WD.val (v:= .agg [L.str x.name,L.str x.label, .int .i64 x.init, .int .i64 (x.at_:Int)]) (L.aY rfl (Rows.fu (i:=i2) (st.aJ 3 rfl) (by rw [List.getElem?_map,hx];rfl))) ?_)
   refine WD.val (v:= .ptr m2 3) (L.aA rfl) (WD.val (v:=vv2) (L.aC rfl (st.aj 0 rfl) rfl) (WD.val (v:= .int .i64 (i2:Int)) rfl (WD.val (v:= .ptr (slB vv2) (slO vv2+i2 * 4)) (L.bT (i:=i2) (Rows.sl (i:=i2) (st.aJ 7 rfl) (by simp;omega)) rfl (by simp;omega)) (WD.val (v:= .agg [L.str y.name,L.str y.label, .int .i64 y.init, .int .i64 (y.at_:Int)]) (L.aY rfl (Rows.fu (i:=i2) (st.aJ 7 rfl) (by rw [List.getElem?_map,hy];rfl))) ?_))))
   refine WD.bL st L.alloc (fun b1 h st=> ?_)
   refine WD.bL st L.alloc (fun b2 h st=> ?_)
   refine WD.aG (row':=[L.str x.name,L.str x.label, .int .i64 x.init, .int .i64 (x.at_:Int)]) st 1 rfl rfl rfl rfl rfl rfl rfl (fun h st=>aR (by first|exact av (L.aY rfl (Rows.fu (st.aJ 5 rfl) (by rw [List.getElem?_map,hx];rfl)))|exact av (L.aY rfl (Rows.fu (st.aJ 9 rfl) (by rw [List.getElem?_map,hy];rfl)))|exact av (L.aY rfl (Rows.fu (st.aJ 6 rfl) hrx))|exact av (L.aY rfl (Rows.fu (st.aJ 10 rfl) hry))|exact av (L.aC rfl (st.aj 0 rfl) rfl)|exact aH st 0 rfl|exact av (L.aK rfl (st.aj 0 rfl) rfl rfl rfl)|exact av (L.aC rfl (st.aj 1 rfl) rfl)|exact aH st 1 rfl|exact av (L.aK rfl (st.aj 1 rfl) rfl rfl rfl)|exact av (L.aC rfl (st.aj 2 rfl) rfl)|exact aH st 2 rfl|exact av (L.aK rfl (st.aj 2 rfl) rfl rfl rfl)|exact av (L.aC rfl (st.aj 3 rfl) rfl)|exact aH st 3 rfl|exact av (L.aK rfl (st.aj 3 rfl) rfl rfl rfl)) (aR (by first|exact av (L.aY rfl (Rows.fu (st.aJ 5 rfl) (by rw [List.getElem?_map,hx];rfl)))|exact av (L.aY rfl (Rows.fu (st.aJ 9 rfl) (by rw [List.getElem?_map,hy];rfl)))|exact av (L.aY rfl (Rows.fu (st.aJ 6 rfl) hrx))|exact av (L.aY rfl (Rows.fu (st.aJ 10 rfl) hry))|exact av (L.aC rfl (st.aj 0 rfl) rfl)|exact aH st 0 rfl|exact av (L.aK rfl (st.aj 0 rfl) rfl rfl rfl)|exact av (L.aC rfl (st.aj 1 rfl) rfl)|exact aH st 1 rfl|exact av (L.aK rfl (st.aj 1 rfl) rfl rfl rfl)|exact av (L.aC rfl (st.aj 2 rfl) rfl)|exact aH st 2 rfl|exact av (L.aK rfl (st.aj 2 rfl) rfl rfl rfl)|exact av (L.aC rfl (st.aj 3 rfl) rfl)|exact aH st 3 rfl|exact av (L.aK rfl (st.aj 3 rfl) rfl rfl rfl)) (bC _ _))) (fun h st=> ?_)
   refine WD.aG (row':=[L.str y.name,L.str y.label, .int .i64 y.init, .int .i64 (y.at_:Int)]) st 0 rfl rfl rfl rfl rfl rfl rfl (fun h st=>rfl) (fun h st=> ?_)
   refine WD.nil (WP.seq (WP.reg (WO.val (v:= .ptr b1 0) (L.aA rfl) (WO.val (v:=L.str x.name) (L.aC rfl (st.aj 1 rfl) rfl) (WO.val (v:= .ptr b2 0) (L.aA rfl) (WO.val (v:=L.str y.name) (L.aC rfl (st.aj 0 rfl) rfl) (WO.ifV (L.sne rfl rfl) (fun c_=>absurd (by exact hxy.name) c_) (fun c_=> ?_))))))))
   refine WO.yes rfl (WO.val (v:= .ptr b1 1) (L.aA rfl) (WO.yes rfl (WO.val (v:=L.str x.label) (L.aC rfl (st.aj 1 rfl) rfl) (WO.yes rfl (WO.val (v:= .ptr b2 1) (L.aA rfl) (WO.yes rfl (WO.val (v:=L.str y.label) (L.aC rfl (st.aj 0 rfl) rfl) (WO.yes rfl (WO.ifV (L.sne rfl rfl) (fun c_=>absurd (by exact hxy.label) c_) (fun c_=> ?_))))))))))
   refine WO.val (v:= .bool false) rfl (WO.yes rfl (WO.val (v:= .ptr b1 2) (L.aA rfl) (WO.yes rfl (WO.val (v:= .int .i64 x.init) (L.aC rfl (st.aj 1 rfl) rfl) (WO.yes rfl (WO.val (v:= .ptr b2 2) (L.aA rfl) (WO.yes rfl (WO.val (v:= .int .i64 y.init) (L.aC rfl (st.aj 0 rfl) rfl) (WO.yes rfl (WO.ifV (L.neq rfl rfl) (fun c_=>absurd (by have:=hxy.init;omega) c_) (fun c_=> ?_)))))))))))
   refine WO.val (v:= .bool false) rfl (WO.yes rfl (WO.val (v:= .bool true) rfl (WO.yes rfl (WO.val (v:= .bool true) rfl (WO.yes rfl (WO.val (v:= .ptr b1 3) (L.aA rfl) (WO.yes rfl (WO.val (v:= .int .i64 (x.at_:Int)) (L.aC rfl (st.aj 1 rfl) rfl) (WO.yes rfl (WO.val (v:= .ptr b2 3) (L.aA rfl) (WO.yes rfl (WO.val (v:= .int .i64 (y.at_:Int)) (L.aC rfl (st.aj 0 rfl) rfl) (WO.yes rfl (WO.ifV (L.neq rfl rfl) (fun c_=>absurd (by have:=hxy.at_ rfl;omega) c_) (fun c_=> ?_)))))))))))))))
   refine WO.yes rfl (WO.val (v:= .bool false) rfl (WO.aB (v:= .bool false) rfl (WO.nil (WP.cond (t:=false) rfl (WP.skip (WP.reg (WO.aB (v:= .int .i64 ((i2+1:Nat):Int)) (L.fQ rfl rfl (by omega) (And.intro (by omega) (by omega))) (WO.nil ?_))))))))
   exact ⟨i2+1,(by omega),x3,(.bool true),(.ptr b1 0),(.ptr b2 0),(.bool false),by omega,by kernel_rfl,st.tail.tail⟩
  ·replace c2:¬(i2<m.vars.length):=by omega
   refine WO.nil (WP.cond (t:=false) rfl (WP.exit (WP.seq (WP.seq (WP.reg (WO.aB (v:= .int .i64 0) rfl (WO.nil (WP.block (WP.eO (α:=Nat) (fun i3 env h=>∃x3 x16 x17 x18 x19 x20 x21 x22,(i3≤m.procs.length)∧env=bG [.agg [L.str m.name, .int .i64 (m.at_:Int),vi,vv,vp0], .agg [L.str m'.name, .int .i64 (m'.at_:Int),vi2,vv2,vp02], .bool true,x3, .ptr m1 0, .ptr m2 0, .bool false, .int .i64 (i1:Int), .bool false,x9, .int .i64 (i2:Int), .bool false,x12,x13,x14, .int .i64 (i3:Int),x16,x17,x18,x19,x20,x21,x22] 0 Env.nil∧St (.box m2 [L.str m'.name, .int .i64 (m'.at_:Int),vi2,vv2,vp02]:: .box m1 [L.str m.name, .int .i64 (m.at_:Int),vi,vv,vp0]:: .stb (fun h=>Rows 2 h vi (m.imports.map Im.row)):: .stb (fun h=>Rows 4 h vv (m.vars.map Vr.row)):: .stb (fun h=>Rows 8 h vp0 rw):: .stb (fun h=>bZ h m.procs rw):: .stb (fun h=>Rows 2 h vi2 (m'.imports.map Im.row)):: .stb (fun h=>Rows 4 h vv2 (m'.vars.map Vr.row)):: .stb (fun h=>Rows 8 h vp02 rw2):: .stb (fun h=>bZ h m'.procs rw2)::fs) h) (fun i3=>m.procs.length - i3) 0 ?_ ?_)))))))))
   ·exact ⟨x3, .bot, .bot, .bot, .bot, .bot, .bot, .bot,(Nat.zero_le _),by kernel_rfl,st⟩
   rintro i3 _ h ⟨x3,x16,x17,x18,x19,x20,x21,x22,hi3,rfl,st⟩
   refine WP.seq (WP.seq (WP.reg (WO.val (v:= .ptr m1 4) (L.aA rfl) (WO.val (v:=vp0) (L.aC rfl (st.aj 1 rfl) rfl) (WO.val (v:= .int .i64 (m.procs.length:Int)) (L.dJ rfl (st.aJ 4 rfl) (by omega)) (WO.ifS (L.lss rfl rfl) (fun c3=> ?_) (fun c3=> ?_)))))))
   ·replace c3:i3<m.procs.length:=by omega
    refine WO.nil (WP.cond (t:=true) rfl (WP.skip (WP.seq (WP.block (WP.seq (WP.draw (WD.val (v:= .ptr m1 4) (L.aA rfl) ?_)))))))
    obtain ⟨x,hx⟩:∃z_,m.procs[i3]? =some z_:=⟨_,List.getElem?_eq_getElem (by omega)⟩
    obtain ⟨y,hy⟩:∃z_,m'.procs[i3]? =some z_:=⟨_,List.getElem?_eq_getElem (by have:=he.procs.len;omega)⟩
    have hxy:=he.procs.at_ _ _ _ hx hy
    have hfew:=hf.proc x (List.mem_of_getElem? hx)
    have hpl:=hxy.params.len
    obtain ⟨vp,vu,vb,hrx,st⟩:=St.prAt (st.pick 5 rfl) hx
    obtain ⟨vp2,vu2,vb2,hry,st⟩:=St.prAt (st.pick 12 rfl) hy
    refine WD.val (v:=vp0) (L.aC rfl (st.aj 9 rfl) rfl) (WD.val (v:= .int .i64 (i3:Int)) rfl (WD.val (v:= .ptr (slB vp0) (slO vp0+i3 * 8)) (L.bT (i:=i3) (Rows.sl (i:=i3) (st.aJ 12 rfl) (by omega)) rfl (by omega)) (WD.val (v:= .agg [L.str x.name,vp, .bool x.has,L.str x.result,L.str x.pc,vu,vb, .int .i64 (x.at_:Int)]) (L.aY rfl (Rows.fu (i:=i3) (st.aJ 12 rfl) hrx)) (WD.val (v:= .ptr m2 4) (L.aA rfl) (WD.val (v:=vp02) (L.aC rfl (st.aj 8 rfl) rfl) (WD.val (v:= .int .i64 (i3:Int)) rfl (WD.val (v:= .ptr (slB vp02) (slO vp02+i3 * 8)) (L.bT (i:=i3) (Rows.sl (i:=i3) (st.aJ 15 rfl) (by omega)) rfl (by omega)) (WD.val (v:= .agg [L.str y.name,vp2, .bool y.has,L.str y.result,L.str y.pc,vu2,vb2, .int .i64 (y.at_:Int)]) (L.aY rfl (Rows.fu (i:=i3) (st.aJ 15 rfl) hry)) (WD.bL st L.alloc (fun b1 h st=> ?_))))))))))
    refine WD.bL st L.alloc (fun b2 h st=> ?_)
    refine WD.aG (row':=[L.str x.name,vp, .bool x.has,L.str x.result,L.str x.pc,vu,vb, .int .i64 (x.at_:Int)]) st 1 rfl rfl rfl rfl rfl rfl rfl (fun h st=>aR (by first|exact av (L.aY rfl (Rows.fu (st.aJ 13 rfl) (by rw [List.getElem?_map,hx];rfl)))|exact av (L.aY rfl (Rows.fu (st.aJ 16 rfl) (by rw [List.getElem?_map,hy];rfl)))|exact av (L.aY rfl (Rows.fu (st.aJ 14 rfl) hrx))|exact av (L.aY rfl (Rows.fu (st.aJ 17 rfl) hry))|exact av (L.aC rfl (st.aj 0 rfl) rfl)|exact aH st 0 rfl|exact av (L.aK rfl (st.aj 0 rfl) rfl rfl rfl)|exact av (L.aC rfl (st.aj 1 rfl) rfl)|exact aH st 1 rfl|exact av (L.aK rfl (st.aj 1 rfl) rfl rfl rfl)|exact av (L.aC rfl (st.aj 10 rfl) rfl)|exact aH st 10 rfl|exact av (L.aK rfl (st.aj 10 rfl) rfl rfl rfl)|exact av (L.aC rfl (st.aj 11 rfl) rfl)|exact aH st 11 rfl|exact av (L.aK rfl (st.aj 11 rfl) rfl rfl rfl)) (aR (by first|exact av (L.aY rfl (Rows.fu (st.aJ 13 rfl) (by rw [List.getElem?_map,hx];rfl)))|exact av (L.aY rfl (Rows.fu (st.aJ 16 rfl) (by rw [List.getElem?_map,hy];rfl)))|exact av (L.aY rfl (Rows.fu (st.aJ 14 rfl) hrx))|exact av (L.aY rfl (Rows.fu (st.aJ 17 rfl) hry))|exact av (L.aC rfl (st.aj 0 rfl) rfl)|exact aH st 0 rfl|exact av (L.aK rfl (st.aj 0 rfl) rfl rfl rfl)|exact av (L.aC rfl (st.aj 1 rfl) rfl)|exact aH st 1 rfl|exact av (L.aK rfl (st.aj 1 rfl) rfl rfl rfl)|exact av (L.aC rfl (st.aj 10 rfl) rfl)|exact aH st 10 rfl|exact av (L.aK rfl (st.aj 10 rfl) rfl rfl rfl)|exact av (L.aC rfl (st.aj 11 rfl) rfl)|exact aH st 11 rfl|exact av (L.aK rfl (st.aj 11 rfl) rfl rfl rfl)) (bC _ _))) (fun h st=> ?_)
    refine WD.aG (row':=[L.str y.name,vp2, .bool y.has,L.str y.result,L.str y.pc,vu2,vb2, .int .i64 (y.at_:Int)]) st 0 rfl rfl rfl rfl rfl rfl rfl (fun h st=>rfl) (fun h st=> ?_)
    refine WD.nil (WP.seq (WP.seq (WP.reg (WO.val (v:= .ptr b1 0) (L.aA rfl) (WO.val (v:=L.str x.name) (L.aC rfl (st.aj 1 rfl) rfl) (WO.val (v:= .ptr b2 0) (L.aA rfl) (WO.val (v:=L.str y.name) (L.aC rfl (st.aj 0 rfl) rfl) (WO.ifV (L.sne rfl rfl) (fun c_=>absurd (by exact hxy.name) c_) (fun c_=> ?_)))))))))
    refine WO.yes rfl (WO.val (v:= .ptr b1 2) (L.aA rfl) (WO.yes rfl (WO.val (v:= .bool x.has) (L.aC rfl (st.aj 1 rfl) rfl) (WO.yes rfl (WO.val (v:= .ptr b2 2) (L.aA rfl) (WO.yes rfl (WO.val (v:= .bool y.has) (L.aC rfl (st.aj 0 rfl) rfl) (WO.yes rfl (WO.val (v:= .bool false) (L.uF (b:=x.has) rfl (by rw [hxy.has];rfl)) (WO.val (v:= .bool false) rfl (WO.yes rfl (WO.val (v:= .ptr b1 3) (L.aA rfl) (WO.yes rfl (WO.val (v:=L.str x.result) (L.aC rfl (st.aj 1 rfl) rfl) (WO.yes rfl (WO.val (v:= .ptr b2 3) (L.aA rfl) (WO.yes rfl (WO.val (v:=L.str y.result) (L.aC rfl (st.aj 0 rfl) rfl) (WO.yes rfl (WO.ifV (L.sne rfl rfl) (fun c_=>absurd (by exact hxy.result) c_) (fun c_=> ?_)))))))))))))))))))))
    refine WO.val (v:= .bool false) rfl (WO.yes rfl (WO.val (v:= .ptr b1 4) (L.aA rfl) (WO.yes rfl (WO.val (v:=L.str x.pc) (L.aC rfl (st.aj 1 rfl) rfl) (WO.yes rfl (WO.val (v:= .ptr b2 4) (L.aA rfl) (WO.yes rfl (WO.val (v:=L.str y.pc) (L.aC rfl (st.aj 0 rfl) rfl) (WO.yes rfl (WO.ifV (L.sne rfl rfl) (fun c_=>absurd (by exact hxy.pc) c_) (fun c_=> ?_)))))))))))
    refine WO.val (v:= .bool false) rfl (WO.yes rfl (WO.val (v:= .ptr b1 5) (L.aA rfl) (WO.yes rfl (WO.val (v:=vu) (L.aC rfl (st.aj 1 rfl) rfl) (WO.yes rfl (WO.val (v:= .ptr b2 5) (L.aA rfl) (WO.yes rfl (WO.val (v:=vu2) (L.aC rfl (st.aj 0 rfl) rfl) (WO.yes rfl ?_)))))))))
    have st2:=((st.pick 3 rfl).pick 7 rfl)
    rw [show y.uses=x.uses from hxy.uses.symm] at st2
    refine WO.aM rfl (uses_c h39 (us:=x.uses) (st2:St (.stb (fun h=>Rows 1 h vu (x.uses.map bK)):: .stb (fun h=>Rows 1 h vu2 (x.uses.map bK)):: .box b2 [L.str y.name,vp2, .bool y.has,L.str y.result,L.str y.pc,vu2,vb2, .int .i64 (y.at_:Int)]:: .box b1 [L.str x.name,vp, .bool x.has,L.str x.result,L.str x.pc,vu,vb, .int .i64 (x.at_:Int)]:: .stb (fun h=>Rows 3 h vp2 (y.params.map Pm.row)):: .stb (fun h=>iD h vb2 y.body):: .stb (fun h=>bZ h m'.procs rw2):: .stb (fun h=>Rows 3 h vp (x.params.map Pm.row)):: .stb (fun h=>iD h vb x.body):: .stb (fun h=>bZ h m.procs rw):: .box m2 [L.str m'.name, .int .i64 (m'.at_:Int),vi2,vv2,vp02]:: .box m1 [L.str m.name, .int .i64 (m.at_:Int),vi,vv,vp0]:: .stb (fun h=>Rows 2 h vi (m.imports.map Im.row)):: .stb (fun h=>Rows 4 h vv (m.vars.map Vr.row)):: .stb (fun h=>Rows 8 h vp0 rw):: .stb (fun h=>Rows 2 h vi2 (m'.imports.map Im.row)):: .stb (fun h=>Rows 4 h vv2 (m'.vars.map Vr.row)):: .stb (fun h=>Rows 8 h vp02 rw2)::fs) _) (by omega)) ?_
    clear st2
    rintro _ h ⟨rfl,st⟩
    refine WO.yes rfl (WO.val (v:= .bool false) rfl (WO.val (v:= .bool false) rfl (WO.yes rfl (WO.val (v:= .bool true) rfl (WO.yes rfl (WO.val (v:= .bool true) rfl (WO.yes rfl (WO.val (v:= .ptr b1 7) (L.aA rfl) (WO.yes rfl (WO.val (v:= .int .i64 (x.at_:Int)) (L.aC rfl (st.aj 1 rfl) rfl) (WO.yes rfl (WO.val (v:= .ptr b2 7) (L.aA rfl) (WO.yes rfl (WO.val (v:= .int .i64 (y.at_:Int)) (L.aC rfl (st.aj 0 rfl) rfl) (WO.yes rfl (WO.ifV (L.neq rfl rfl) (fun c_=>absurd (by have:=hxy.at_ rfl;omega) c_) (fun c_=> ?_)))))))))))))))))
    refine WO.yes rfl (WO.val (v:= .bool false) rfl (WO.val (v:= .bool false) rfl (WO.yes rfl (WO.val (v:= .ptr b1 1) (L.aA rfl) (WO.yes rfl (WO.val (v:=vp) (L.aC rfl (st.aj 1 rfl) rfl) (WO.yes rfl (WO.val (v:= .int .i64 (x.params.length:Int)) (L.dJ rfl (st.aJ 5 rfl) (by simp)) (WO.yes rfl (WO.val (v:= .ptr b2 1) (L.aA rfl) (WO.yes rfl (WO.val (v:=vp2) (L.aC rfl (st.aj 0 rfl) rfl) (WO.yes rfl (WO.val (v:= .int .i64 (x.params.length:Int)) (L.dJ rfl (st.aJ 2 rfl) (by simp [hpl])) (WO.yes rfl (WO.ifV (L.neq rfl rfl) (fun c_=>absurd rfl c_) (fun c_=> ?_)))))))))))))))))
    refine WO.val (v:= .bool false) rfl (WO.yes rfl (WO.val (v:= .ptr b1 6) (L.aA rfl) (WO.yes rfl (WO.val (v:=vb) (L.aC rfl (st.aj 1 rfl) rfl) (WO.yes rfl (WO.val (v:= .ptr b2 6) (L.aA rfl) (WO.yes rfl (WO.val (v:=vb2) (L.aC rfl (st.aj 0 rfl) rfl) (WO.yes rfl (WO.val (v:= .bool true) rfl (WO.yes rfl (WO.aM rfl (sms_c h68 h57 h40 hfew.2.2 (Sms.sz x.body) (Nat.le_refl _) ((st.pick 3 rfl).pick 6 rfl) (Nat.le_refl _) hxy.body) ?_))))))))))))
    rintro _ h ⟨rfl,st⟩
    refine WO.yes rfl (WO.val (v:= .bool false) rfl (WO.aB (v:= .bool false) rfl (WO.nil (WP.cond (t:=false) rfl (WP.skip (WP.seq (WP.reg (WO.aB (v:= .int .i64 0) rfl (WO.nil (WP.block (WP.eO (α:=Nat) (fun j env h=>∃x3 x21 x22,(j≤x.params.length)∧env=bG [.agg [L.str m.name, .int .i64 (m.at_:Int),vi,vv,vp0], .agg [L.str m'.name, .int .i64 (m'.at_:Int),vi2,vv2,vp02], .bool true,x3, .ptr m1 0, .ptr m2 0, .bool false, .int .i64 (i1:Int), .bool false,x9, .int .i64 (i2:Int), .bool false,x12,x13,x14, .int .i64 (i3:Int), .bool true, .ptr b1 0, .ptr b2 0, .bool false, .int .i64 (j:Int),x21,x22] 0 Env.nil∧St (.box b2 [L.str y.name,vp2, .bool y.has,L.str y.result,L.str y.pc,vu2,vb2, .int .i64 (y.at_:Int)]:: .box b1 [L.str x.name,vp, .bool x.has,L.str x.result,L.str x.pc,vu,vb, .int .i64 (x.at_:Int)]:: .stb (fun h=>Rows 3 h vp2 (y.params.map Pm.row)):: .stb (fun h=>bZ h m'.procs rw2):: .stb (fun h=>Rows 3 h vp (x.params.map Pm.row)):: .stb (fun h=>bZ h m.procs rw):: .box m2 [L.str m'.name, .int .i64 (m'.at_:Int),vi2,vv2,vp02]:: .box m1 [L.str m.name, .int .i64 (m.at_:Int),vi,vv,vp0]:: .stb (fun h=>Rows 2 h vi (m.imports.map Im.row)):: .stb (fun h=>Rows 4 h vv (m.vars.map Vr.row)):: .stb (fun h=>Rows 8 h vp0 rw):: .stb (fun h=>Rows 2 h vi2 (m'.imports.map Im.row)):: .stb (fun h=>Rows 4 h vv2 (m'.vars.map Vr.row)):: .stb (fun h=>Rows 8 h vp02 rw2)::fs) h) (fun j=>x.params.length - j) 0 ?_ ?_)))))))))))
    ·exact ⟨x3,x21,x22,(Nat.zero_le _),by kernel_rfl,st⟩
    rintro j _ h ⟨x3,x21,x22,hj,rfl,st⟩
    refine WP.seq (WP.seq (WP.reg (WO.val (v:= .ptr b1 1) (L.aA rfl) (WO.val (v:=vp) (L.aC rfl (st.aj 1 rfl) rfl) (WO.val (v:= .int .i64 (x.params.length:Int)) (L.dJ rfl (st.aJ 4 rfl) (by simp)) (WO.ifS (L.lss rfl rfl) (fun c4=> ?_) (fun c4=> ?_)))))))
    ·replace c4:j<x.params.length:=by omega
     refine WO.nil (WP.cond (t:=true) rfl (WP.skip (WP.seq (WP.block (WP.seq (WP.draw (WD.val (v:= .ptr b1 1) (L.aA rfl) (WD.val (v:=vp) (L.aC rfl (st.aj 1 rfl) rfl) (WD.val (v:= .int .i64 (j:Int)) rfl ?_)))))))))
     obtain ⟨u,hu⟩:∃z_,x.params[j]? =some z_:=⟨_,List.getElem?_eq_getElem (by omega)⟩
     obtain ⟨w,hw⟩:∃z_,y.params[j]? =some z_:=⟨_,List.getElem?_eq_getElem (by have:=hxy.params.len;omega)⟩
     have huw:=hxy.params.at_ _ _ _ hu hw
     refine WD.val (v:= .ptr (slB vp) (slO vp+j * 3)) (L.bT (i:=j) (Rows.sl (i:=j) (st.aJ 4 rfl) (by simp;omega)) rfl (by simp;omega)) (WD.val (v:= .ptr (slB vp) (slO vp+j * 3+0)) (L.aA rfl) (WD.val (v:=L.str u.name) (L.load rfl (Rows.iW (i:=j) (j:=0) (row:=u.row) (st.aJ 4 rfl) (by rw [List.getElem?_map,hu];rfl) rfl)) ?_))
     refine WD.val (v:= .ptr b2 1) (L.aA rfl) (WD.val (v:=vp2) (L.aC rfl (st.aj 0 rfl) rfl) (WD.val (v:= .int .i64 (j:Int)) rfl (WD.val (v:= .ptr (slB vp2) (slO vp2+j * 3)) (L.bT (i:=j) (Rows.sl (i:=j) (st.aJ 2 rfl) (by simp;omega)) rfl (by simp;omega)) (WD.val (v:= .ptr (slB vp2) (slO vp2+j * 3+0)) (L.aA rfl) (WD.val (v:=L.str w.name) (L.load rfl (Rows.iW (i:=j) (j:=0) (row:=w.row) (st.aJ 2 rfl) (by rw [List.getElem?_map,hw];rfl) rfl)) ?_)))))
     refine WD.ifV (L.sne rfl rfl) (fun _ c_=>absurd (by exact huw.name) c_) (fun _ c_=> ?_)
     refine WD.val (v:= .bool false) rfl (WD.yes rfl (WD.val (v:= .ptr b1 1) (L.aA rfl) (WD.yes rfl (WD.val (v:=vp) (L.aC rfl (st.aj 1 rfl) rfl) (WD.yes rfl (WD.val (v:= .int .i64 (j:Int)) rfl (WD.yes rfl (WD.val (v:= .ptr (slB vp) (slO vp+j * 3)) (L.bT (i:=j) (Rows.sl (i:=j) (st.aJ 4 rfl) (by simp;omega)) rfl (by simp;omega)) (WD.yes rfl (WD.val (v:= .ptr (slB vp) (slO vp+j * 3+1)) (L.aA rfl) (WD.yes rfl (WD.val (v:=L.str u.label) (L.load rfl (Rows.iW (i:=j) (j:=1) (row:=u.row) (st.aJ 4 rfl) (by rw [List.getElem?_map,hu];rfl) rfl)) ?_))))))))))))
     refine WD.yes rfl (WD.val (v:= .ptr b2 1) (L.aA rfl) (WD.yes rfl (WD.val (v:=vp2) (L.aC rfl (st.aj 0 rfl) rfl) (WD.yes rfl (WD.val (v:= .int .i64 (j:Int)) rfl (WD.yes rfl (WD.val (v:= .ptr (slB vp2) (slO vp2+j * 3)) (L.bT (i:=j) (Rows.sl (i:=j) (st.aJ 2 rfl) (by simp;omega)) rfl (by simp;omega)) (WD.yes rfl (WD.val (v:= .ptr (slB vp2) (slO vp2+j * 3+1)) (L.aA rfl) (WD.yes rfl (WD.val (v:=L.str w.label) (L.load rfl (Rows.iW (i:=j) (j:=1) (row:=w.row) (st.aJ 2 rfl) (by rw [List.getElem?_map,hw];rfl) rfl)) ?_)))))))))))
     refine WD.yes rfl (WD.ifV (L.sne rfl rfl) (fun _ c_=>absurd (by exact huw.label) c_) (fun _ c_=> ?_))
     refine WD.val (v:= .bool false) rfl (WD.val (v:= .bool false) rfl (WD.yes rfl (WD.val (v:= .bool true) rfl (WD.yes rfl (WD.val (v:= .bool true) rfl (WD.yes rfl (WD.val (v:= .ptr b1 1) (L.aA rfl) (WD.yes rfl (WD.val (v:=vp) (L.aC rfl (st.aj 1 rfl) rfl) (WD.yes rfl (WD.val (v:= .int .i64 (j:Int)) rfl (WD.yes rfl (WD.val (v:= .ptr (slB vp) (slO vp+j * 3)) (L.bT (i:=j) (Rows.sl (i:=j) (st.aJ 4 rfl) (by simp;omega)) rfl (by simp;omega)) (WD.yes rfl (WD.val (v:= .ptr (slB vp) (slO vp+j * 3+2)) (L.aA rfl) (WD.yes rfl (WD.val (v:= .int .i64 (u.at_:Int)) (L.load rfl (Rows.iW (i:=j) (j:=2) (row:=u.row) (st.aJ 4 rfl) (by rw [List.getElem?_map,hu];rfl) rfl)) ?_)))))))))))))))))
     refine WD.yes rfl (WD.val (v:= .ptr b2 1) (L.aA rfl) (WD.yes rfl (WD.val (v:=vp2) (L.aC rfl (st.aj 0 rfl) rfl) (WD.yes rfl (WD.val (v:= .int .i64 (j:Int)) rfl (WD.yes rfl (WD.val (v:= .ptr (slB vp2) (slO vp2+j * 3)) (L.bT (i:=j) (Rows.sl (i:=j) (st.aJ 2 rfl) (by simp;omega)) rfl (by simp;omega)) (WD.yes rfl (WD.val (v:= .ptr (slB vp2) (slO vp2+j * 3+2)) (L.aA rfl) (WD.yes rfl (WD.val (v:= .int .i64 (w.at_:Int)) (L.load rfl (Rows.iW (i:=j) (j:=2) (row:=w.row) (st.aJ 2 rfl) (by rw [List.getElem?_map,hw];rfl) rfl)) ?_)))))))))))
     refine WD.yes rfl (WD.ifV (L.neq rfl rfl) (fun _ c_=>absurd (by have:=huw.at_ rfl;omega) c_) (fun _ c_=> ?_))
     refine WD.yes rfl (WD.val (v:= .bool false) rfl (WD.aB (v:= .bool false) rfl (WD.nil (WP.cond (t:=false) rfl (WP.skip (WP.reg (WO.aB (v:= .int .i64 ((j+1:Nat):Int)) (L.fQ rfl rfl (by omega) (And.intro (by omega) (by omega))) (WO.nil ?_))))))))
     exact ⟨j+1,(by omega),x3,(.bool true),(.bool false),by omega,by kernel_rfl,st⟩
    ·replace c4:¬(j<x.params.length):=by omega
     refine WO.nil (WP.cond (t:=false) rfl (WP.exit (WP.reg (WO.aB (v:= .int .i64 ((i3+1:Nat):Int)) (L.fQ rfl rfl (by omega) (And.intro (by omega) (by omega))) (WO.nil ?_)))))
     exact ⟨i3+1,(by omega),x3,(.bool true),(.ptr b1 0),(.ptr b2 0),(.bool false),(.int .i64 (j:Int)),(.bool false),x22,by omega,by kernel_rfl,((((((((((st.tail.tail.tail.pick 1 rfl).tail.pick 9 rfl).pick 9 rfl).pick 9 rfl).pick 4 rfl).pick 9 rfl).pick 9 rfl).pick 9 rfl).pick 9 rfl).pick 9 rfl)⟩
   ·replace c3:¬(i3<m.procs.length):=by omega
    refine WO.nil (WP.cond (t:=false) rfl (WP.exit (WP.seq (WP.reg (WO.aB (v:= .bool true) rfl (WO.nil (WP.ret ?_)))))))
    exact ⟨_,(ak (aD (v:= .bool true) rfl) (aF _ _)),rfl,st.tail.tail.tail.tail.tail.tail.tail.tail.tail.tail⟩
end
end Go.Eng.YtjobofnpmmjeoaaGreatDoor.Pq
