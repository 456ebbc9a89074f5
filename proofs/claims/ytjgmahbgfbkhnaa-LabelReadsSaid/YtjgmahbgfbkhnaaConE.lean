/- Part of a proof of a law: rules of an evaluator, contracts, plain laws. No condition of its own. -/
import Derived.Test.YtjgmahbgfbkhnaaConD
import Derived.Test.YtjgmahbgfbkhnaaSymF
set_option linter.unusedVariables false
set_option linter.unusedSimpArgs false
namespace Go.Eng.Ytjgmahbgfbkhnaa
open Go.Eng
noncomputable section
variable {c:Ctx}
theorem make_c (D:yD c) {fs:List Fact} {h:Heap} {v:V} {ps:List Prm} (hn:ps.length<2147483648) (st:St (.stb (fun h=>bD h v ps)::fs) h):
 aM c 12 [v] h fun v1 h1=>match Lab.made (pr ps) with
  |(_,some (lo,hi))=>∃vN vL vJ vK,v1= .tup [.agg [vN,vL,vJ,vK, .int .i64 (lo:Int), .int .i64 (hi:Int)], .int .i64 0]∧St (.stb (fun h=>Rows 1 h vN (SR (Lab.names (pr ps)))):: .stb (fun h=>fU h vL (Lab.order (pr ps))):: .stb (fun h=>kV h vJ (Lab.fu (Lab.names (pr ps)).length (Lab.order (pr ps)) (Lab.names (pr ps)).length)):: .stb (fun h=>kV h vK (Lab.gX (Lab.names (pr ps)).length (Lab.order (pr ps)) (Lab.names (pr ps)).length)):: .stb (fun h=>bD h v ps)::fs) h1
  |(e,none)=>v1= .tup [.agg [.slN, .slN, .slN, .slN, .int .i64 0, .int .i64 0], .int .i64 (e:Int)]∧St (.stb (fun h=>bD h v ps)::fs) h1:=by
 refine aM.bX D.f12 rfl (WP.seq (WP.reg (WO.dz st L.alloc (fun res h st=> ?_))))
 refine WO.ak (v:= .int .i64 0) rfl (WO.nil (WP.seq (WP.reg (WO.ak (v:= .slN) rfl (WO.nil (WP.seq (WP.seq (WP.reg (WO.ak (v:=v) rfl (WO.ak (v:= .int .i64 (ps.length:Int)) (L.xQ rfl (st.aB 1 rfl)) (WO.ak (v:= .int .i64 0) rfl (WO.nil (WP.block ?_)))))))))))))
 replace st:St (.acu ([]) 0 1 .slN ([]):: .box res [.slN, .slN, .slN, .slN, .int .i64 0, .int .i64 0]:: .stb (fun h=>bD h v ps)::fs) h:=st.acu0 1
 refine WP.bT (α:=Nat) (fun i env h=>∃bs f vn x5 x7 x9,(i≤ps.length)∧env=aO [v, .ptr res 0, .int .i64 0, .int .i64 (i:Int), .int .i64 (ps.length:Int),x5,v,x7,vn,x9] 0 Env.nil∧St (.acu bs f 1 vn (SR (Lab.raw (pr (ps.take i)))):: .box res [.slN, .slN, .slN, .slN, .int .i64 0, .int .i64 0]:: .stb (fun h=>bD h v ps)::fs) h) (fun i=>ps.length - i) 0 ?_ ?_
 ·exact ⟨[],0, .slN, .bot, .bot, .bot,Nat.zero_le _,by kernel_rfl,st⟩
 rintro i _ h ⟨bs,f,vn,x5,x7,x9,hi,rfl,st⟩
 refine WP.seq (WP.reg (WO.ifS (L.lss rfl rfl) (fun c1=> ?_) (fun c1=> ?_)))
 ·replace c1:i<ps.length:=by omega
  obtain ⟨p,hp⟩:∃p,ps[i]? =some p:=⟨ps[i]'(by omega),List.getElem?_eq_getElem (by omega)⟩
  refine WO.nil (WP.seq (WP.cond (t:=true) rfl (WP.skip (WP.seq (WP.block (WP.seq (WP.reg (WO.val (v:= .ptr (slB v) (slO v+i * 3)) (L.lU (st.aB 2 rfl) c1 rfl rfl) (WO.val (v:= .agg [L.str p.1,L.str p.2.1, .int .i64 p.2.2]) (L.cO rfl (bD.at (st.aB 2 rfl) hp)) (WO.dz st L.alloc (fun pb h st=> ?_)))))))))))
  refine WO.aI (row':=[L.str p.1,L.str p.2.1, .int .i64 p.2.2]) st 0 rfl rfl rfl rfl rfl rfl rfl (fun h st=> ?_)
  refine WO.nil (WP.seq (WP.reg (WO.val (v:= .ptr pb 0) (L.aA rfl) (WO.val (v:=L.str p.1) (L.aG rfl (st.av 0 rfl) rfl) (WO.gJ (rows:=[[L.str p.1]]) st rfl (by decide) rfl (by simp) (fun lit1 h st=> ?_))))))
  refine WO.F3 (st.pick 2 rfl) rfl rfl (new:=[[L.str p.1]]) (st.aB 0 rfl) (by decide) (by have e0:=Lab.Ap (pr (ps.take i));have e1:(pr (ps.take i)).length≤ps.length:=(by unfold pr;rw [List.length_map,List.length_take];omega);simp only [bY,List.length_append,List.length_cons,List.length_nil];omega) (fun bs1 f1 v1 h st=> ?_)
  rw [show (SR (Lab.raw (pr (ps.take i))))++([[L.str p.1]])=SR (Lab.raw (pr (ps.take i))++[p.1]) from (by rw [Al];rfl)] at st
  refine WO.nil (WP.seq (WP.reg (WO.val (v:= .ptr pb 1) (L.aA rfl) (WO.val (v:=L.str p.2.1) (L.aG rfl (st.av 2 rfl) rfl) (WO.ifS (L.sne (m:=[]) rfl rfl) (fun cl=> ?_) (fun cl=> ?_))))))
  ·refine WO.nil (WP.cond (t:=true) rfl (WP.reg (WO.val (v:= .ptr pb 1) (L.aA rfl) (WO.val (v:=L.str p.2.1) (L.aG rfl (st.av 2 rfl) rfl) (WO.gJ (rows:=[[L.str p.2.1]]) st rfl (by decide) rfl (by simp) (fun lit2 h st=> ?_))))))
   refine WO.F3 (st.pick 1 rfl) rfl rfl (new:=[[L.str p.2.1]]) (st.aB 0 rfl) (by decide) (by have e0:=Lab.Ap (pr (ps.take i));have e1:(pr (ps.take i)).length≤ps.length:=(by unfold pr;rw [List.length_map,List.length_take];omega);simp only [bY,List.length_append,List.length_cons,List.length_nil];omega) (fun bs2 f2 v2 h st=> ?_)
   rw [show (SR (Lab.raw (pr (ps.take i))++[p.1]))++([[L.str p.2.1]])=SR ((Lab.raw (pr (ps.take i))++[p.1])++[p.2.1]) from (by rw [Al _ [p.2.1]];rfl)] at st
   refine WO.nil (WP.reg (WO.ak (v:= .int .i64 ((i+1:Nat):Int)) (L.bP rfl rfl (by omega) (And.intro (by omega) (by omega))) (WO.nil ?_)))
   have er:=Lab.CG hp
   rw [if_neg cl] at er
   rw [show SR ((Lab.raw (pr (ps.take i))++[p.1])++[p.2.1])=SR (Lab.raw (pr (ps.take (i+1)))) from by rw [er];simp] at st
   exact ⟨i+1,(by omega),bs2,f2,v2,(.bool true),(.ptr pb 0),(.bool true),by omega,by kernel_rfl,(((st.pick 1 rfl).tail.pick 1 rfl).tail.pick 1 rfl).tail⟩
  ·refine WO.nil (WP.cond (t:=false) rfl (WP.skip (WP.reg (WO.ak (v:= .int .i64 ((i+1:Nat):Int)) (L.bP rfl rfl (by omega) (And.intro (by omega) (by omega))) (WO.nil ?_)))))
   have er:=Lab.CG hp
   rw [if_pos (Decidable.not_not.1 cl)] at er
   rw [show SR (Lab.raw (pr (ps.take i))++[p.1])=SR (Lab.raw (pr (ps.take (i+1)))) from by rw [er]] at st
   exact ⟨i+1,(by omega),bs1,f1,v1,(.bool true),(.ptr pb 0),(.bool false),by omega,by kernel_rfl,((st.pick 1 rfl).tail.pick 1 rfl).tail⟩
 ·replace c1:¬i<ps.length:=by omega
  have ei:ps.take i=ps:=List.take_of_length_le (by omega)
  rw [ei] at st
  obtain rfl:i=ps.length:=by omega
  refine WO.nil (WP.seq (WP.cond (t:=false) rfl (WP.exit (WP.seq (WP.reg ?_)))))
  have hraw:(Lab.raw (pr ps)).length<4294967296:=by have e0:=Lab.Ap (pr ps);have e1:(pr ps).length=ps.length:=List.length_map _;omega
  refine WO.aP rfl (Io D.f24 (ss:=Lab.raw (pr ps)) hraw st) ?_
  rintro _ h st
  refine WO.nil (WP.seq (WP.reg ?_))
  have hsl:(gI (Lab.raw (pr ps))).length<4294967296:=by rw [(iH _).length_eq];exact hraw
  refine WO.dB rfl (Iu D hsl st) ?_
  rintro vm h st
  obtain ⟨NS,hNS⟩:∃NS,NS=Lab.names (pr ps):=⟨_,rfl⟩
  have hnl:NS.length<4294967296:=by rw [hNS];exact Nat.lt_of_le_of_lt (Lab.Iw _) hraw
  rw [show Lab.uniq (gI (Lab.raw (pr ps)))=NS from hNS.symm] at st
  refine WO.nil (WP.seq (WP.block (WP.seq (WP.reg (WO.val (v:= .int .i64 (NS.length:Int)) (L.dU rfl (st.dH 0 rfl (by decide)) (bY _)) (WO.ifS (L.eql rfl rfl) (fun e0=> ?_) (fun e0=> ?_)))))))
  ·replace e0:NS.length=0:=by omega
   refine WO.nil (WP.cond (t:=true) rfl (WP.seq (WP.reg (WO.val (v:= .agg [.slN, .slN, .slN, .slN, .int .i64 0, .int .i64 0]) (L.build rfl) (WO.aI (row':=[.slN, .slN, .slN, .slN, .int .i64 0, .int .i64 0]) st 1 rfl rfl rfl rfl rfl rfl rfl (fun h st=> ?_))))))
   refine WO.ak (v:= .int .i64 13) rfl (WO.nil (WP.ret ?_))
   rw [Lab.tN (by rw [←hNS];exact e0)]
   exact ⟨_,(aj (aY (l:=[.slN, .slN, .slN, .slN, .int .i64 0, .int .i64 0]) rfl (L.bC (st.av 1 rfl) rfl rfl rfl)) (aj (au (v:= .int .i64 13) rfl) (ay _ _))),rfl,st.tail.tail⟩
  ·replace e0:¬NS.length=0:=by omega
   refine WO.nil (WP.cond (t:=false) rfl (WP.seq (WP.reg (WO.val (v:= .int .i64 (NS.length:Int)) (L.dU rfl (st.dH 0 rfl (by decide)) (bY _)) (WO.ifS (L.gtr rfl rfl) (fun e1=> ?_) (fun e1=> ?_))))))
   ·replace e1:12<NS.length:=by omega
    refine WO.nil (WP.cond (t:=true) rfl (WP.seq (WP.reg (WO.val (v:= .agg [.slN, .slN, .slN, .slN, .int .i64 0, .int .i64 0]) (L.build rfl) (WO.aI (row':=[.slN, .slN, .slN, .slN, .int .i64 0, .int .i64 0]) st 1 rfl rfl rfl rfl rfl rfl rfl (fun h st=> ?_))))))
    refine WO.ak (v:= .int .i64 14) rfl (WO.nil (WP.ret ?_))
    rw [Lab.jA (by rw [←hNS];exact e1)]
    exact ⟨_,(aj (aY (l:=[.slN, .slN, .slN, .slN, .int .i64 0, .int .i64 0]) rfl (L.bC (st.av 1 rfl) rfl rfl rfl)) (aj (au (v:= .int .i64 14) rfl) (ay _ _))),rfl,st.tail.tail⟩
   ·replace e1:¬12<NS.length:=by omega
    refine WO.nil (WP.cond (t:=false) rfl (WP.skip (WP.seq (WP.reg ?_))))
    obtain ⟨nb,rfl⟩:∃nb,vm= .sl nb 0 NS.length none:=EF (st.Ai 0 rfl) (bY _) e0
    replace st:=(st).shutU (by decide)
    replace st:St (.stb (fun h=>Rows 1 h (.sl nb 0 NS.length (some NS.length)) (SR NS)):: .box res [.slN, .slN, .slN, .slN, .int .i64 0, .int .i64 0]:: .stb (fun h=>bD h v ps)::fs) h:=st.o6 fun h hx=>hx.cap
    refine WO.val (v:= .int .i64 (NS.length:Int)) (L.llen rfl) (WO.val (v:= .int .i64 (NS.length:Int)) (L.llen rfl) (WO.val (v:= .sl nb 0 NS.length (some NS.length)) (L.sslM rfl rfl rfl rfl (by omega) (Nat.zero_le _) (Nat.le_refl _) (Nat.le_refl _) (by omega)) (WO.val (v:= .agg [.sl nb 0 NS.length (some NS.length), .slN, .slN, .slN, .int .i64 0, .int .i64 0]) (L.build rfl) (WO.dz st L.alloc (fun tb h st=> ?_)))))
    refine WO.aI (row':=[.sl nb 0 NS.length (some NS.length), .slN, .slN, .slN, .int .i64 0, .int .i64 0]) st 0 rfl rfl rfl rfl rfl rfl rfl (fun h st=> ?_)
    refine WO.nil (WP.seq (WP.seq (WP.reg (WO.ak (v:= .int .i64 (NS.length:Int)) (L.llen rfl) (WO.ak (v:= .int .i64 0) rfl (WO.nil (WP.block ?_)))))))
    replace st:St (.acc 0 1 .slN ([]):: .box tb [.sl nb 0 NS.length (some NS.length), .slN, .slN, .slN, .int .i64 0, .int .i64 0]:: .stb (fun h=>Rows 1 h (.sl nb 0 NS.length (some NS.length)) (SR NS)):: .box res [.slN, .slN, .slN, .slN, .int .i64 0, .int .i64 0]:: .stb (fun h=>bD h v ps)::fs) h:=st.acc0 1
    refine WP.bT (α:=Nat) (fun a env h=>∃bl fL vL x14 x16,(a≤NS.length∧bl.length=a)∧env=aO [v, .ptr res 0, .int .i64 0, .int .i64 (ps.length:Int), .int .i64 (ps.length:Int), .bool false,v,x7, .sl nb 0 NS.length none,x9, .bool false, .bool false, .int .i64 (a:Int), .int .i64 (NS.length:Int),x14, .ptr tb 0,x16] 0 Env.nil∧St (.acc fL 1 vL (bl.map fun b=>[V.sl b 0 NS.length (some NS.length)]):: .box tb [.sl nb 0 NS.length (some NS.length),vL, .slN, .slN, .int .i64 0, .int .i64 0]:: .stb (fun h=>Rows 1 h (.sl nb 0 NS.length (some NS.length)) (SR NS)):: .box res [.slN, .slN, .slN, .slN, .int .i64 0, .int .i64 0]:: .stb (fun h=>bD h v ps)::(dN bl (Lab.mM NS.length a)++fs)) h) (fun a=>NS.length - a) 0 ?_ ?_
    ·exact ⟨[],0, .slN, .bot, .bot,⟨Nat.zero_le _,rfl⟩,by kernel_rfl,st⟩
    rintro a _ h ⟨bl,fL,vL,x14,x16,⟨ha,hbl⟩,rfl,st⟩
    refine WP.seq (WP.reg (WO.ifS (L.lss rfl rfl) (fun c1=> ?_) (fun c1=> ?_)))
    ·replace c1:a<NS.length:=by omega
     refine WO.nil (WP.seq (WP.cond (t:=true) rfl (WP.skip (WP.seq (WP.block (WP.seq (WP.reg (WO.ak (v:= .int .i64 (a:Int)) rfl (WO.nil (WP.seq (WP.draw (WD.val (v:= .ptr tb 1) (L.aA rfl) (WD.val (v:=vL) (L.aG rfl (st.av 1 rfl) rfl) (WD.val (v:= .sl nb 0 NS.length none) rfl (WD.val (v:= .int .i64 (NS.length:Int)) (L.llen rfl) (WD.mkslF st rfl rfl (by decide) rfl (by omega) (fun rb h _ st=> ?_)))))))))))))))))
     refine WD.gJ (rows:=[[.sl rb 0 NS.length (some NS.length)]]) st rfl (by decide) rfl (by simp) (fun rl1 h _ st=> ?_)
     refine WD.wS st 2 rfl rfl rfl (st.aB 0 rfl) (by decide) (by simp;omega) (fun _ _ h st=>rfl) (fun fL1 vL1 h st=> ?_)
     rw [show (bl.map fun b=>[V.sl b 0 NS.length (some NS.length)])++[[V.sl rb 0 NS.length (some NS.length)]]=(bl++[rb]).map fun b=>[V.sl b 0 NS.length (some NS.length)] from by simp] at st
     have hcL:=(st.dK 2 rfl).cells
     refine WD.val (v:= .ptr tb 1) (L.aA rfl) (WD.aI (row':=[.sl nb 0 NS.length (some NS.length),vL1, .slN, .slN, .int .i64 0, .int .i64 0]) st 3 rfl rfl hcL rfl rfl rfl rfl (fun h st=>rfl) (fun h st=> ?_))
     refine WD.nil (WP.reg (WO.val (v:= .ptr tb 1) (L.aA rfl) (WO.val (v:=vL1) (L.aG rfl (st.av 3 rfl) rfl) (WO.val (v:= .ptr (slB vL1) (slO vL1+a * 1)) (Cz (st.FQ 2 rfl (by decide)) (by simp;omega) rfl rfl) (WO.val (v:= .sl rb 0 NS.length (some NS.length)) (L.load rfl ((st.FQ 2 rfl (by decide)).iF (show _=some [V.sl rb 0 NS.length (some NS.length)] by rw [List.getElem?_map,List.getElem?_append_right (by omega),show a - bl.length=0 by omega];rfl))) ?_)))))
     refine WO.val (v:= .ptr rb (0+a * 1)) (L.aC rfl rfl (by omega)) (WO.mK (st.pick 1 rfl) rfl rfl (by simp;omega) (fun h st=> ?_))
     refine WO.nil (WP.reg (WO.ak (v:= .int .i64 ((a+1:Nat):Int)) (L.bP rfl rfl (by omega) (And.intro (by omega) (by omega))) (WO.nil ?_)))
     have st2:=St.snocG (gs:=[_,_,_,_,_]) (l:=dN bl (Lab.mM NS.length a)) (st.pick 1 rfl).tail
     rw [show dN bl (Lab.mM NS.length a)++[_]=dN (bl++[rb]) (Lab.mM NS.length (a+1)) from by rw [Lab.xR,zi (by rw [Lab.zk];exact hbl)];unfold yA;rw [List.map_set,List.map_replicate]] at st2
     replace st:=st2
     exact ⟨a+1,(by omega),(bl++[rb]),fL1,vL1,(.bool true),(.int .i64 (a:Int)),⟨by omega,by simp [hbl]⟩,by kernel_rfl,st⟩
    ·obtain rfl:a=NS.length:=by omega
     obtain ⟨lb,rfl⟩:=Kt (st.dK 0 rfl) (List.length_map _) (by rw [hbl];exact e0)
     rw [hbl] at st
     replace st:St (.stb (fun h=>Rows 1 h (.sl lb 0 NS.length none) (bl.map fun b=>[V.sl b 0 NS.length (some NS.length)])):: .box tb [.sl nb 0 NS.length (some NS.length), .sl lb 0 NS.length none, .slN, .slN, .int .i64 0, .int .i64 0]:: .stb (fun h=>Rows 1 h (.sl nb 0 NS.length (some NS.length)) (SR NS)):: .box res [.slN, .slN, .slN, .slN, .int .i64 0, .int .i64 0]:: .stb (fun h=>bD h v ps)::(dN bl (Lab.table NS (pr (ps.take 0)))++fs)) h:=(st).shut (by decide)
     replace st:St (.stb (gL lb 0 NS.length bl):: .stb (fun h=>Rows 1 h (.sl lb 0 NS.length none) (bl.map fun b=>[V.sl b 0 NS.length (some NS.length)])):: .box tb [.sl nb 0 NS.length (some NS.length), .sl lb 0 NS.length none, .slN, .slN, .int .i64 0, .int .i64 0]:: .stb (fun h=>Rows 1 h (.sl nb 0 NS.length (some NS.length)) (SR NS)):: .box res [.slN, .slN, .slN, .slN, .int .i64 0, .int .i64 0]:: .stb (fun h=>bD h v ps)::(dN bl (Lab.table NS (pr (ps.take 0)))++fs)) h:=st.imp fun h hx a b hb=>⟨_,hx.bE (by rw [List.getElem?_map,hb];rfl)⟩
     replace st:St (.stb (fun h=>Rows 1 h (.sl lb 0 NS.length none) (bl.map fun b=>[V.sl b 0 NS.length (some NS.length)])):: .box tb [.sl nb 0 NS.length (some NS.length), .sl lb 0 NS.length none, .slN, .slN, .int .i64 0, .int .i64 0]:: .stb (fun h=>Rows 1 h (.sl nb 0 NS.length (some NS.length)) (SR NS)):: .box res [.slN, .slN, .slN, .slN, .int .i64 0, .int .i64 0]:: .stb (fun h=>bD h v ps):: .stb (gL lb 0 NS.length bl)::(dN bl (Lab.table NS (pr (ps.take 0)))++fs)) h:=(((((st.pick 5 rfl).pick 5 rfl).pick 5 rfl).pick 5 rfl).pick 5 rfl)
     refine WO.nil (WP.seq (WP.cond (t:=false) rfl (WP.exit (WP.seq (WP.seq (WP.reg (WO.ak (v:=v) rfl (WO.ak (v:= .int .i64 (ps.length:Int)) (L.xQ rfl (st.aB 4 rfl)) (WO.ak (v:= .int .i64 0) rfl (WO.nil (WP.block (WP.bT (α:=Nat) (fun i env h=>∃x19 x21 x22,(i≤ps.length)∧env=aO [v, .ptr res 0, .int .i64 0, .int .i64 (ps.length:Int), .int .i64 (ps.length:Int), .bool false,v,x7, .sl nb 0 NS.length none,x9, .bool false, .bool false, .int .i64 (NS.length:Int), .int .i64 (NS.length:Int), .bool false, .ptr tb 0,x16, .int .i64 (i:Int), .int .i64 (ps.length:Int),x19,v,x21,x22] 0 Env.nil∧St (.stb (fun h=>Rows 1 h (.sl lb 0 NS.length none) (bl.map fun b=>[V.sl b 0 NS.length (some NS.length)])):: .box tb [.sl nb 0 NS.length (some NS.length), .sl lb 0 NS.length none, .slN, .slN, .int .i64 0, .int .i64 0]:: .stb (fun h=>Rows 1 h (.sl nb 0 NS.length (some NS.length)) (SR NS)):: .box res [.slN, .slN, .slN, .slN, .int .i64 0, .int .i64 0]:: .stb (fun h=>bD h v ps):: .stb (gL lb 0 NS.length bl)::(dN bl (Lab.table NS (pr (ps.take i)))++fs)) h) (fun i=>ps.length - i) 0 ?_ ?_))))))))))))
     ·exact ⟨.bot, .bot, .bot,Nat.zero_le _,by kernel_rfl,st⟩
     rintro i _ h ⟨x19,x21,x22,hi,rfl,st⟩
     refine WP.seq (WP.reg (WO.ifS (L.lss rfl rfl) (fun c1=> ?_) (fun c1=> ?_)))
     ·replace c1:i<ps.length:=by omega
      obtain ⟨p,hp⟩:∃p,ps[i]? =some p:=⟨ps[i]'(by omega),List.getElem?_eq_getElem (by omega)⟩
      refine WO.nil (WP.seq (WP.cond (t:=true) rfl (WP.skip (WP.seq (WP.block (WP.seq (WP.reg (WO.val (v:= .ptr (slB v) (slO v+i * 3)) (L.lU (st.aB 4 rfl) c1 rfl rfl) (WO.val (v:= .agg [L.str p.1,L.str p.2.1, .int .i64 p.2.2]) (L.cO rfl (bD.at (st.aB 4 rfl) hp)) (WO.dz st L.alloc (fun pb h st=> ?_)))))))))))
      refine WO.aI (row':=[L.str p.1,L.str p.2.1, .int .i64 p.2.2]) st 0 rfl rfl rfl rfl rfl rfl rfl (fun h st=> ?_)
      refine WO.nil (WP.seq (WP.reg (WO.val (v:= .ptr pb 1) (L.aA rfl) (WO.val (v:=L.str p.2.1) (L.aG rfl (st.av 0 rfl) rfl) (WO.ifS (L.sne (m:=[]) rfl rfl) (fun cl=> ?_) (fun cl=> ?_))))))
      ·have hm:p.1∈NS∧p.2.1∈NS:=by rw [hNS];exact Lab.iM (p.1,p.2.1) (List.mem_map.2 ⟨p,List.mem_of_getElem? hp,rfl⟩) cl
       have h1l:NS.idxOf p.1<NS.length:=List.idxOf_lt_length_of_mem hm.1
       have h2l:NS.idxOf p.2.1<NS.length:=List.idxOf_lt_length_of_mem hm.2
       obtain ⟨rb,hrb⟩:∃b,bl[NS.idxOf p.1]? =some b:=⟨bl[NS.idxOf p.1]'(by omega),List.getElem?_eq_getElem (by omega)⟩
       have hrow:(bl.map fun b=>[V.sl b 0 NS.length (some NS.length)])[NS.idxOf p.1]? =some [.sl rb 0 NS.length (some NS.length)]:=by rw [List.getElem?_map,hrb];rfl
       obtain ⟨rr,hrr,hrl⟩:=(Lab.fw NS (pr (ps.take i))).at h1l
       refine WO.nil (WP.cond (t:=true) rfl (WP.draw (WD.val (v:= .ptr tb 1) (L.aA rfl) (WD.val (v:= .sl lb 0 NS.length none) (L.aG rfl (st.av 2 rfl) rfl) (WD.val (v:= .agg [.sl nb 0 NS.length (some NS.length), .sl lb 0 NS.length none, .slN, .slN, .int .i64 0, .int .i64 0]) (L.aZ rfl (st.av 2 rfl) rfl rfl rfl) (WD.val (v:= .ptr pb 0) (L.aA rfl) (WD.val (v:=L.str p.1) (L.aG rfl (st.av 0 rfl) rfl) (WD.val (v:= .agg [.sl nb 0 NS.length (some NS.length), .sl lb 0 NS.length none, .slN, .slN, .int .i64 0, .int .i64 0]) (L.aZ rfl (st.av 2 rfl) rfl rfl rfl) (WD.val (v:= .ptr pb 1) (L.aA rfl) (WD.val (v:=L.str p.2.1) (L.aG rfl (st.av 0 rfl) rfl) (WD.aP rfl (vB D hnl (fun gs h st=>st.F9 3 rfl) st) (fun _ h hp2=> ?_) ?_)))))))))))
       ·obtain ⟨_,st⟩:=hp2
        exact dm (by first|exact aD (L.aG rfl (st.av 0 rfl) rfl)|exact aT st 0 rfl|exact aD (L.aZ rfl (st.av 0 rfl) rfl rfl rfl)|exact aD (L.aG rfl (st.av 2 rfl) rfl)|exact aT st 2 rfl|exact aD (L.aZ rfl (st.av 2 rfl) rfl rfl rfl)|exact aD (L.aG rfl (st.av 4 rfl) rfl)|exact aT st 4 rfl|exact aD (L.aZ rfl (st.av 4 rfl) rfl rfl rfl)) (dm (by first|exact aD (L.aG rfl (st.av 0 rfl) rfl)|exact aT st 0 rfl|exact aD (L.aZ rfl (st.av 0 rfl) rfl rfl rfl)|exact aD (L.aG rfl (st.av 2 rfl) rfl)|exact aT st 2 rfl|exact aD (L.aZ rfl (st.av 2 rfl) rfl rfl rfl)|exact aD (L.aG rfl (st.av 4 rfl) rfl)|exact aT st 4 rfl|exact aD (L.aZ rfl (st.av 4 rfl) rfl rfl rfl)) (dm (by first|exact aD (L.aG rfl (st.av 0 rfl) rfl)|exact aT st 0 rfl|exact aD (L.aZ rfl (st.av 0 rfl) rfl rfl rfl)|exact aD (L.aG rfl (st.av 2 rfl) rfl)|exact aT st 2 rfl|exact aD (L.aZ rfl (st.av 2 rfl) rfl rfl rfl)|exact aD (L.aG rfl (st.av 4 rfl) rfl)|exact aT st 4 rfl|exact aD (L.aZ rfl (st.av 4 rfl) rfl rfl rfl)) (gy _ _)))
       rintro _ h ⟨rfl,st⟩
       rw [show jU NS p.1=(NS.idxOf p.1:Int) from if_pos hm.1]
       refine WD.val (v:= .ptr lb (0+NS.idxOf p.1 * 1)) (L.aC rfl rfl (by omega)) (WD.val (v:= .sl rb 0 NS.length (some NS.length)) (L.load rfl ((st.aB 1 rfl).bE hrow)) (WD.aP rfl (vB D hnl (fun gs h st=>st.F9 3 rfl) st) (fun _ h hp2=> ?_) ?_))
       ·obtain ⟨_,st⟩:=hp2
        exact dm (by first|exact aD (L.load rfl ((st.aB 1 rfl).bE hrow))|exact aD (L.aG rfl (st.av 0 rfl) rfl)|exact aT st 0 rfl|exact aD (L.aZ rfl (st.av 0 rfl) rfl rfl rfl)|exact aD (L.aG rfl (st.av 2 rfl) rfl)|exact aT st 2 rfl|exact aD (L.aZ rfl (st.av 2 rfl) rfl rfl rfl)|exact aD (L.aG rfl (st.av 4 rfl) rfl)|exact aT st 4 rfl|exact aD (L.aZ rfl (st.av 4 rfl) rfl rfl rfl)) (dm (by first|exact aD (L.load rfl ((st.aB 1 rfl).bE hrow))|exact aD (L.aG rfl (st.av 0 rfl) rfl)|exact aT st 0 rfl|exact aD (L.aZ rfl (st.av 0 rfl) rfl rfl rfl)|exact aD (L.aG rfl (st.av 2 rfl) rfl)|exact aT st 2 rfl|exact aD (L.aZ rfl (st.av 2 rfl) rfl rfl rfl)|exact aD (L.aG rfl (st.av 4 rfl) rfl)|exact aT st 4 rfl|exact aD (L.aZ rfl (st.av 4 rfl) rfl rfl rfl)) (gy _ _))
       rintro _ h ⟨rfl,st⟩
       rw [show jU NS p.2.1=(NS.idxOf p.2.1:Int) from if_pos hm.2]
       refine WD.val (v:= .ptr rb (0+NS.idxOf p.2.1 * 1)) (L.aC rfl rfl (by omega)) (WD.storeT (St.rot (gs:=[_,_,_,_,_,_]) st) rfl rfl hrb hrr (by rw [hrl];omega) (fun h st=> ?_))
       have epu:(Lab.table NS (pr (ps.take i))).set (NS.idxOf p.1) (rr.set (NS.idxOf p.2.1) true)=Lab.put (Lab.table NS (pr (ps.take i))) (NS.idxOf p.1) (NS.idxOf p.2.1):=by unfold Lab.put;rw [hrr];rfl
       rw [epu] at st
       replace st:St (.box pb [L.str p.1,L.str p.2.1, .int .i64 p.2.2]:: .stb (fun h=>Rows 1 h (.sl lb 0 NS.length none) (bl.map fun b=>[V.sl b 0 NS.length (some NS.length)])):: .box tb [.sl nb 0 NS.length (some NS.length), .sl lb 0 NS.length none, .slN, .slN, .int .i64 0, .int .i64 0]:: .stb (fun h=>Rows 1 h (.sl nb 0 NS.length (some NS.length)) (SR NS)):: .box res [.slN, .slN, .slN, .slN, .int .i64 0, .int .i64 0]:: .stb (fun h=>bD h v ps):: .stb (gL lb 0 NS.length bl)::(dN bl (Lab.put (Lab.table NS (pr (ps.take i))) (NS.idxOf p.1) (NS.idxOf p.2.1))++fs)) h:=St.uP (gs:=[_,_,_,_,_,_]) st
       refine WD.nil (WP.reg (WO.ak (v:= .int .i64 ((i+1:Nat):Int)) (L.bP rfl rfl (by omega) (And.intro (by omega) (by omega))) (WO.nil ?_)))
       have et:=Lab.nJ (ns:=NS) hp
       unfold Lab.xM at et
       rw [if_neg cl] at et
       rw [←et] at st
       exact ⟨i+1,(by omega),(.bool true),(.ptr pb 0),(.bool true),by omega,by kernel_rfl,st.tail⟩
      ·refine WO.nil (WP.cond (t:=false) rfl (WP.skip (WP.reg (WO.ak (v:= .int .i64 ((i+1:Nat):Int)) (L.bP rfl rfl (by omega) (And.intro (by omega) (by omega))) (WO.nil ?_)))))
       have et:=Lab.nJ (ns:=NS) hp
       unfold Lab.xM at et
       rw [if_pos (Decidable.not_not.1 cl)] at et
       rw [←et] at st
       exact ⟨i+1,(by omega),(.bool true),(.ptr pb 0),(.bool false),by omega,by kernel_rfl,st.tail⟩
     ·rw [List.take_of_length_le (by omega)] at st
      refine WO.nil (WP.seq (WP.cond (t:=false) rfl (WP.exit (WP.seq (WP.reg (WO.val (v:= .ptr tb 1) (L.aA rfl) (WO.val (v:= .sl lb 0 NS.length none) (L.aG rfl (st.av 1 rfl) rfl) (WO.aP rfl (J6 D.f26 hnl hbl (Lab.fw NS (pr ps)) (St.rot (gs:=[_,_,_,_,_]) st)) ?_))))))))
      rintro _ h st
      obtain ⟨M,hM⟩:∃M,M=Lab.order (pr ps):=⟨_,rfl⟩
      have hM2:M=Lab.closed NS.length (Lab.table NS (pr ps)):=by rw [hM,hNS];rfl
      rw [←hM2] at st
      have sq:Sq NS.length M:=by rw [hM2];exact Lab.eU (Lab.fw NS (pr ps)) _ (Nat.le_refl _)
      replace st:=(qP (n:=NS.length) (by rw [hbl,sq.len]) sq.row st.tail)
      replace st:St (.stb (fun h=>Rows 1 h (.sl lb 0 NS.length none) (bl.map fun b=>[V.sl b 0 NS.length (some NS.length)])):: .box tb [.sl nb 0 NS.length (some NS.length), .sl lb 0 NS.length none, .slN, .slN, .int .i64 0, .int .i64 0]:: .stb (fun h=>Rows 1 h (.sl nb 0 NS.length (some NS.length)) (SR NS)):: .box res [.slN, .slN, .slN, .slN, .int .i64 0, .int .i64 0]:: .stb (fun h=>bD h v ps):: .stb (fun h=>jh h M (bl.map fun b=> .sl b 0 NS.length (some NS.length)))::fs) h:=St.uP (gs:=[_,_,_,_,_]) (l:=[]) (fs:=fs) st
      replace st:St (.stb (fun h=>fU h (.sl lb 0 NS.length none) M):: .box tb [.sl nb 0 NS.length (some NS.length), .sl lb 0 NS.length none, .slN, .slN, .int .i64 0, .int .i64 0]:: .stb (fun h=>Rows 1 h (.sl nb 0 NS.length (some NS.length)) (SR NS)):: .box res [.slN, .slN, .slN, .slN, .int .i64 0, .int .i64 0]:: .stb (fun h=>bD h v ps)::fs) h:=(((st.pick 5 rfl).pick 1 rfl)).and.o6 fun h hx=>⟨_,by have:=hx.1;rw [List.map_map];exact this,hx.2⟩
      replace st:St (.stb (yB lb 0 NS.length M):: .stb (fun h=>fU h (.sl lb 0 NS.length none) M):: .box tb [.sl nb 0 NS.length (some NS.length), .sl lb 0 NS.length none, .slN, .slN, .int .i64 0, .int .i64 0]:: .stb (fun h=>Rows 1 h (.sl nb 0 NS.length (some NS.length)) (SR NS)):: .box res [.slN, .slN, .slN, .slN, .int .i64 0, .int .i64 0]:: .stb (fun h=>bD h v ps)::fs) h:=st.imp fun h hx=>yB.of sq hx
      refine WO.nil (WP.seq (WP.reg (WO.val (v:= .agg [.sl nb 0 NS.length (some NS.length), .sl lb 0 NS.length none, .slN, .slN, .int .i64 0, .int .i64 0]) (L.aZ rfl (st.av 2 rfl) rfl rfl rfl) (WO.aP rfl (Es D.lab (vn:= .bot) hnl st) ?_))))
      rintro _ h ⟨row,rfl,hrl,hcm⟩
      cases hc:Lab.complete NS.length M with
      |none=>
       rw [hc] at hcm
       replace st:St (.stb (fun h=>fU h (.sl lb 0 NS.length none) M):: .box tb [.sl nb 0 NS.length (some NS.length), .sl lb 0 NS.length none, .slN, .slN, .int .i64 0, .int .i64 0]:: .stb (fun h=>Rows 1 h (.sl nb 0 NS.length (some NS.length)) (SR NS)):: .box res [.slN, .slN, .slN, .slN, .int .i64 0, .int .i64 0]:: .stb (fun h=>bD h v ps)::fs) h:=hcm
       rw [show (none:Option (Nat×Nat)).isSome=false from rfl]
       refine WO.val (v:= .agg row) rfl (WO.val (v:= .bool false) rfl (WO.aI (row':=row) st 1 rfl rfl rfl (by rw [eG];exact hrl) rfl rfl (H9 hrl) (fun h st=> ?_)))
       refine WO.ak (v:= .bool false) rfl (WO.nil (WP.seq (WP.seq (WP.reg (WO.ak (v:= .bool true) rfl (WO.nil (WP.cond (t:=true) rfl (WP.seq (WP.reg (WO.val (v:= .agg [.slN, .slN, .slN, .slN, .int .i64 0, .int .i64 0]) (L.build rfl) (WO.aI (row':=[.slN, .slN, .slN, .slN, .int .i64 0, .int .i64 0]) st 3 rfl rfl rfl rfl rfl rfl rfl (fun h st=> ?_))))))))))))
       refine WO.ak (v:= .int .i64 13) rfl (WO.nil (WP.ret ?_))
       rw [Lab.Ak (by rw [←hNS];exact e0) (by rw [←hNS];exact e1) (by rw [←hNS,←hM];exact hc)]
       exact ⟨_,(aj (aY (l:=[.slN, .slN, .slN, .slN, .int .i64 0, .int .i64 0]) rfl (L.bC (st.av 3 rfl) rfl rfl rfl)) (aj (au (v:= .int .i64 13) rfl) (ay _ _))),rfl,st.tail.tail.tail.tail⟩
      |some x=>
       obtain ⟨lo,hi⟩:=x
       rw [hc] at hcm
       obtain ⟨vJ,vK,rfl,st⟩:=hcm
       rw [show (some (lo,hi)).isSome=true from rfl]
       refine WO.val (v:= .agg [.sl nb 0 NS.length (some NS.length), .sl lb 0 NS.length none,vJ,vK, .int .i64 (lo:Int), .int .i64 (hi:Int)]) rfl (WO.val (v:= .bool true) rfl ?_)
       have hJ:True:=trivial
       refine WO.aI (row':=[.sl nb 0 NS.length (some NS.length), .sl lb 0 NS.length none,vJ,vK, .int .i64 (lo:Int), .int .i64 (hi:Int)]) st 3 rfl rfl rfl rfl rfl rfl rfl (fun h st=> ?_)
       refine WO.ak (v:= .bool true) rfl (WO.nil (WP.seq (WP.seq (WP.reg (WO.ak (v:= .bool false) rfl (WO.nil (WP.cond (t:=false) rfl (WP.skip (WP.seq (WP.reg (WO.val (v:= .agg [.sl nb 0 NS.length (some NS.length), .sl lb 0 NS.length none,vJ,vK, .int .i64 (lo:Int), .int .i64 (hi:Int)]) (L.aZ rfl (st.av 3 rfl) rfl rfl rfl) (WO.aI (row':=[.sl nb 0 NS.length (some NS.length), .sl lb 0 NS.length none,vJ,vK, .int .i64 (lo:Int), .int .i64 (hi:Int)]) st 5 rfl rfl rfl rfl rfl rfl rfl (fun h st=> ?_)))))))))))))
       refine WO.ak (v:= .int .i64 0) rfl (WO.nil (WP.ret ?_))
       rw [Lab.tO (by rw [←hNS];exact e0) (by rw [←hNS];exact e1) (by rw [←hNS,←hM];exact hc)]
       refine ⟨_,(aj (aY (l:=[.sl nb 0 NS.length (some NS.length), .sl lb 0 NS.length none,vJ,vK, .int .i64 (lo:Int), .int .i64 (hi:Int)]) rfl (L.bC (st.av 5 rfl) rfl rfl rfl)) (aj (au (v:= .int .i64 0) rfl) (ay _ _))),_,_,_,_,rfl, ?_⟩
       rw [←hNS,←hM]
       exact ((((st.pick 3 rfl).tail.pick 4 rfl).tail.pick 2 rfl).pick 3 rfl)
end
end Go.Eng.Ytjgmahbgfbkhnaa
