/- Part of a proof of a law: rules of an evaluator, contracts, plain laws. No condition of its own. -/
import Derived.Test.YtjgmahbgfbkhnaaSymD
import Derived.Test.YtjgmahbgfbkhnaaEngF
import Derived.Test.YtjgmahbgfbkhnaaSymB
set_option linter.unusedVariables false
set_option linter.unusedSimpArgs false
namespace Go.Eng
noncomputable section
theorem St.turn {x y:Fact} {fs:List Fact} {h h':Heap} (s:St (x::fs) h) (hw:Wf h') (hn:h.next≤h'.next) (hxf:x.fam=[]) (hyf:y.fam=[])
  (kt:∀b,b<h.next→b∉x.own→T.get b h'.t=T.get b h.t) (kf:∀b,b<h.next→b∉x.own→T.get b h'.aJ=T.get b h.aJ)
  (hyo:∀b∈y.own,b∈x.own∨h.next≤b) (hyn:y.own.Nodup) (hh:∀Z,y.holds Z h'):St (y::fs) h':=by
 obtain ⟨Z,s⟩:=s
 have hxo:∀b∈x.own,¬Z b∧8≤b:=fun b hb=>s.oz b (by rw [aQ];exact List.mem_append_left _ hb)
 have hnb:=s.nb
 rw [aQ,List.nodup_append] at hnb
 obtain ⟨_,n2,n3⟩:=hnb
 have hz:∀b,Z b→T.get b h'.t=T.get b h.t:=fun b hb=>kt b (BO s hb) fun hm=>(hxo b hm).1 hb
 have hlt:∀b∈owns fs,b<h.next:=fun b hb=>kr s (by rw [aQ];exact List.mem_append_right _ hb)
 have hno:∀b∈owns fs,b∉x.own:=fun b hb hm=>n3 b hm b hb rfl
 have hfl:∀b∈aJ fs,b<h.next:=fun b hb=>Ad s (by rw [bU];exact List.mem_append_right _ hb)
 have hfo:∀b∈aJ fs,b∉x.own:=fun b hb hm=>s.nd b (by rw [aQ];exact List.mem_append_left _ hm) (by rw [bU];exact List.mem_append_right _ hb)
 refine ⟨Z,hw,fun b hb=>by rw [hz b hb];exact s.z b hb,fun b hb=> ?_, ?_, ?_,fun b hb hf=> ?_,fun w hw'=> ?_⟩
 · rw [aQ] at hb
   rcases List.mem_append.1 hb with hb|hb
   · rcases hyo b hb with hb|hb
     · exact hxo b hb
     · exact ⟨fun e=>absurd (BO s e) (by omega),by have:=s.wf.lim;omega⟩
   · exact s.oz b (by rw [aQ];exact List.mem_append_right _ hb)
 · rw [aQ]
   refine List.nodup_append.2 ⟨hyn,n2,fun a ha b hb e=> ?_⟩
   subst e
   rcases hyo a ha with ha|ha
   · exact n3 a ha a hb rfl
   · have:=hlt a hb;omega
 · rw [bU,hyf];have:=s.nf;rw [bU,hxf] at this;exact this
 · rw [bU,hyf] at hf
   rw [aQ] at hb
   rcases List.mem_append.1 hb with hb|hb
   · rcases hyo b hb with hb|hb
     · exact s.nd b (by rw [aQ];exact List.mem_append_left _ hb) (by rw [bU];exact List.mem_append_right _ hf)
     · have:=hfl b hf;omega
   · exact s.nd b (by rw [aQ];exact List.mem_append_right _ hb) (by rw [bU];exact List.mem_append_right _ hf)
 · rcases List.mem_cons.1 hw' with rfl|hw'
   · exact hh Z
   · exact Fact.stay (s.all w (by simp [hw'])) (fun b hb=>⟨hb,hz b hb⟩) (fun b hb=>kt b (hlt b (iX hw' hb)) (hno b (iX hw' hb))) (fun b hb=>kf b (hlt b (iX hw' hb)) (hno b (iX hw' hb))) fun g hg=>kf g (hfl g (wQ hw' hg)) (hfo g (wQ hw' hg))
theorem St.Ai {fs:List Fact} {h:Heap} (s:St fs h) (k:Nat) {bs:List Nat} {f r:Nat} {v:V} {rows:List (List V)} (hk:fs[k]? =some (.acu bs f r v rows)):kZ bs f r h v rows:=by
 obtain ⟨Z,s⟩:=s
 exact (s.all (.acu bs f r v rows) (List.mem_of_getElem? hk)).1
theorem kZ.rows {bs:List Nat} {f r:Nat} {h:Heap} {v:V} {rows:List (List V)} (hr:0<r) (a:kZ bs f r h v rows):Rows r h v rows:=by
 cases a with
 |nil=>exact .nil
 |row ge hb hf ob hrow len mem=>
  refine .row hr ob (Nat.zero_mod r) (fun i row hi=> ?_) (by rw [Nat.zero_add];exact Nat.mul_le_mul_right _ (by omega)) fun row hm=>len row (List.mem_append_left _ hm)
  rw [Nat.zero_div,Nat.zero_add]
  refine hrow i row ?_
  rw [List.getElem?_append_left (List.getElem?_eq_some_iff.1 hi).1];exact hi
theorem St.dH {fs:List Fact} {h:Heap} (s:St fs h) (k:Nat) {bs:List Nat} {f r:Nat} {v:V} {rows:List (List V)} (hk:fs[k]? =some (.acu bs f r v rows)) (hr:0<r):Rows r h v rows:=(s.Ai k hk).rows hr
theorem St.acu0 {fs:List Fact} {h:Heap} (s:St fs h) (r:Nat):St (.acu [] 0 r .slN []::fs) h:=by
 obtain ⟨Z,s⟩:=s
 refine ⟨Z,s.wf,s.z,s.oz,s.nb,s.nf,s.nd,fun x hx=> ?_⟩
 rcases List.mem_cons.1 hx with rfl|hx
 · exact ⟨.nil rfl,fun b hb=>by simp at hb⟩
 · exact s.all x hx
theorem St.shutU {fs:List Fact} {h:Heap} {bs:List Nat} {f r:Nat} {v:V} {rows:List (List V)} (s:St (.acu bs f r v rows::fs) h) (hr:0<r):St (.stb (fun h=>Rows r h v rows)::fs) h:=by
 obtain ⟨Z,s⟩:=s
 obtain ⟨a,hbs⟩:=s.all (.acu bs f r v rows) (by simp)
 have hno:∀b∈bs,b∉owns fs:=fun b hb hm=>by
  have:=s.nb;rw [aQ,List.nodup_append] at this
  exact this.2.2 b hb b hm rfl
 refine ⟨fun b=>Z b∨b∈bs,s.wf,fun b hb=>hb.elim (s.z b) (hbs b),fun b hb=>⟨fun e=>e.elim (s.oz b (by rw [aQ];exact List.mem_append_right _ hb)).1 fun hm=>hno b hm hb,(s.oz b (by rw [aQ];exact List.mem_append_right _ hb)).2⟩, ?_,s.nf,fun b hb hf=>s.nd b (by rw [aQ];exact List.mem_append_right _ hb) hf,fun x hx=> ?_⟩
 · have:=s.nb;rw [aQ,List.nodup_append] at this
   exact this.2.1
 · rcases List.mem_cons.1 hx with rfl|hx
   · intro h' hz
     cases a with
     |nil=>exact .nil
     |row ge hb hf ob hrow len mem=>
      refine .row hr ((hz _ (.inr hb)).trans ob) (Nat.zero_mod r) (fun i row hi=> ?_) (by rw [Nat.zero_add];exact Nat.mul_le_mul_right _ (by omega)) fun row hm=>len row (List.mem_append_left _ hm)
      rw [Nat.zero_div,Nat.zero_add]
      refine hrow i row ?_
      rw [List.getElem?_append_left (List.getElem?_eq_some_iff.1 hi).1];exact hi
   · exact Fact.stay (s.all x (by simp [hx])) (fun b hb=>⟨.inl hb,rfl⟩) (fun _ _=>rfl) (fun _ _=>rfl) fun _ _=>rfl
theorem kZ.cut {bs:List Nat} {f r b m n:Nat} {h:Heap} {cap:Option Nat} {rows:List (List V)} (a:kZ bs f r h (.sl b m n cap) rows) {k:Nat} (hk:k≤n):kZ bs f r h (.sl b m k cap) (rows.take k):=by
 cases a with
 |row ge hb hf ob hrow len mem=>
  rename_i ap hid t
  have e:(rows.take k).length=k:=by rw [List.length_take];omega
  have:=kZ.row (rows:=rows.take k) (hid:=rows.drop k++hid) (ap:=ap) (t:=t) (bs:=bs) (f:=f) (r:=r) (h:=h) ge hb hf (by rw [ob];congr 3;simp;omega) (fun i row hi=>hrow i row (by rw [←List.append_assoc,List.take_append_drop] at hi;exact hi)) (fun row hm=>len row (by rw [←List.append_assoc,List.take_append_drop] at hm;exact hm)) mem
  rw [e] at this;exact this
theorem St.cutU {fs:List Fact} {h:Heap} {bs:List Nat} {f r b m n:Nat} {cap:Option Nat} {rows:List (List V)} (s:St (.acu bs f r (.sl b m n cap) rows::fs) h) {k:Nat} (hk:k≤n):St (.acu bs f r (.sl b m k cap) (rows.take k)::fs) h:=by
 obtain ⟨Z,s⟩:=s
 refine ⟨Z,s.wf,s.z,s.oz,s.nb,s.nf,s.nd,fun x hx=> ?_⟩
 rcases List.mem_cons.1 hx with rfl|hx
 · obtain ⟨a,hz⟩:=s.all (.acu bs f r (.sl b m n cap) rows) (by simp)
   exact ⟨a.cut hk,hz⟩
 · exact s.all x (by simp [hx])
theorem nH (lo hi but:Nat):∀(l:List Nat) (h:Heap) (b:Nat),b∉l→T.get b (dD lo hi but l h).t=T.get b h.t
 |[],_,_,_=>rfl
 |m::l,h,b,hb=>by
  have h1:b≠m:=fun e=>hb (by rw [e];simp)
  have h2:b∉l:=fun e=>hb (by simp [e])
  rw [dD,nH lo hi but l _ b h2]
  split
  · rfl
  · unfold mV qf Obj.cells? Heap.obj
    cases T.get m h.t with
    |none=>rfl
    |some ob=>
     cases ob with
     |cells r f a n t=>
      simp only
      cases (a.blt hi&&lo.blt (Nat.add a n)) with
      |false=>rfl
      |true=>simp only [iB,id];rw [T.aU (Nat.zero_le _) (Nat.zero_le _),if_neg h1]
     |_=>rfl
theorem rV (lo hi but:Nat) (l:List Nat) (h:Heap) (b:Nat):T.get b (dD lo hi but l h).t≠none↔T.get b h.t≠none:=by
 rcases fO lo hi but l h (fun _ _=>Nat.zero_le _) with ⟨h1,_⟩|h4
 · rcases h1.at_ b (Nat.zero_le _) with e|⟨e,e2⟩
   · rw [e]
   · rw [e];simp [e2]
 · exact absurd (Nat.zero_le _) h4
theorem Eu {h:Heap} {f lo hi but b:Nat} (hm:∀F,T.get f h.aJ=some F→b∉F.mem):T.get b (iU h f lo hi but).t=T.get b h.t:=by
 unfold iU
 cases e:T.get f h.aJ with
 |none=>rfl
 |some F=>exact nH lo hi but F.mem h b (hm F e)
theorem Ew (h:Heap) (f lo hi but b:Nat):T.get b (iU h f lo hi but).t≠none↔T.get b h.t≠none:=by
 unfold iU
 cases T.get f h.aJ with
 |none=>exact Iff.rfl
 |some F=>exact rV lo hi but F.mem h b
theorem Il {r i k:Nat} {new:List (List V)} (hr:0<r) (hk:0<k) (hn:new.length=k) (hl:∀row∈new,row.length=r) (t:T (List V)):
  ∃t',(∀{R:Type} (d:R) (c:T (List V)→R),over d r (i * r) (k * r) new.flatten t c=c t')∧∀j,T.get j t'=if i≤j∧j<i+k then new[j - i]? else T.get j t:=by
 have hm:(i * r).mod r=0:=Nat.mul_mod_left i r
 have hd:(i * r).div r=i:=Nat.mul_div_cancel i hr
 by_cases h1:k=1
 · subst h1
   obtain ⟨row,rfl⟩:=List.length_eq_one_iff.1 hn
   have hrow:row.length=r:=hl row (by simp)
   refine ⟨T.set i row t,fun d c=> ?_,fun j=> ?_⟩
   · unfold over
     rw [hm,show ((1 * r).beq r&&Nat.beq 0 0)=true by rw [Nat.one_mul,Nat.beq_refl];rfl,cond_true,dw,hd]
     simp
   · rw [T.aU (Nat.zero_le _) (Nat.zero_le _)]
     by_cases e:j=i
     · subst e;simp
     · rw [if_neg e,if_neg (by omega)]
 · refine ⟨aH r k i new.flatten t,fun d c=> ?_,fun j=> ?_⟩
   · unfold over
     have e1:(k * r).beq r=false:=by
      rw [je];have:k * r≠r:=fun e=>h1 (Nat.eq_of_mul_eq_mul_right hr (e.trans (Nat.one_mul r).symm));simp [this]
     have e2:(Nat.add 0 (k * r)).ble r=false:=by
      rw [dO]
      have:¬0+k * r≤r:=by
       have:2 * r≤k * r:=Nat.mul_le_mul_right _ (by omega)
       omega
      simpa using this
     have e3:(k * r).mod r=0:=Nat.mul_mod_left k r
     have e4:(k * r).div r=k:=Nat.mul_div_cancel k hr
     rw [hm,e1,e2,e3,e4,hd]
     simp
   · rw [bW r _ _ _ t j (by omega) (by omega)]
     by_cases hj:i≤j∧j<i+k
     · rw [if_pos hj,if_pos hj]
       have hlt:j - i<new.length:=by omega
       rw [List.getElem?_eq_getElem hlt,eZ (j - i) hl (List.getElem?_eq_getElem hlt)]
     · rw [if_neg hj,if_neg hj]
theorem St.putU {fs:List Fact} {h:Heap} {bs:List Nat} {f r b m n:Nat} {cap:Option Nat} {rows new:List (List V)} (s:St (.acu bs f r (.sl b m n cap) rows::fs) h) (hr:0<r) {i k:Nat} (hk:0<k) (hnew:new.length=k) (hl:∀row∈new,row.length=r) (hi:i+k≤rows.length):
  ∃h',(∀{R:Type} (d:R) (K:Heap→R),h.bA b (i * r) (k * r) new.flatten d K=K h')∧St (.acu bs f r (.sl b m n cap) (rows.take i++new++rows.drop (i+k))::fs) h':=by
 obtain ⟨a,hbs⟩:kZ bs f r h (.sl b m n cap) rows∧∀b∈bs,T.get b h.t≠none:=by
  obtain ⟨Z,s⟩:=s
  exact s.all (.acu bs f r (.sl b m n cap) rows) (by simp)
 have hwf:=s.wf
 cases a with
 |row ge hb hf ob hrow len mem=>
  rename_i ap hid t
  obtain ⟨t',hov,hget⟩:=Il (i:=i) hr hk hnew hl t
  have hlen:(rows.take i++new++rows.drop (i+k)).length=rows.length:=by simp;omega
  let h1:=iU h f (ap+i * r) (ap+i * r+k * r) b
  have hfl:Falls h h1:=(ow h f _ _ b (fun _ _ _ _=>Nat.zero_le _) (Nat.zero_le _)).1
  refine ⟨⟨T.set b (.cells r f ap ((rows.length+hid.length) * r) t') h1.t,h.next,h.aJ,h.ds,h.pc⟩,fun d K=> ?_, ?_⟩
  · unfold Heap.bA
    have e0:(k * r).beq 0=false:=by rw [je];have:0<k * r:=Nat.mul_pos hk hr;simp;omega
    rw [e0,show b.blt 8=false by rw [eH];simpa using ge,show h.obj b=_ from ob]
    show (bif (Nat.add (i * r) (k * r)).ble ((rows.length+hid.length) * r) then over d r (i * r) (k * r) new.flatten t (fun rows'=>h.q8 f (Nat.add ap (i * r)) (Nat.add (Nat.add ap (i * r)) (k * r)) b fun h=>h.kI b (.cells r f ap ((rows.length+hid.length) * r) rows') K) else d)=_
    have e1:(Nat.add (i * r) (k * r)).ble ((rows.length+hid.length) * r)=true:=by
     rw [dO]
     have:i * r+k * r≤(rows.length+hid.length) * r:=by rw [←Nat.add_mul];exact Nat.mul_le_mul_right _ (by omega)
     simpa using this
    rw [e1,cond_true,hov,AU,iB]
    show K ⟨T.set b _ h1.t,h1.next,h1.aJ,h1.ds,h1.pc⟩=_
    rw [hfl.next,hfl.aJ,hfl.ds,hfl.pc]
  · have hgb:∀c,T.get c (T.set b (.cells r f ap ((rows.length+hid.length) * r) t') h1.t)=if c=b then some (.cells r f ap ((rows.length+hid.length) * r) t') else T.get c h1.t:=fun c=>T.aU (Nat.zero_le _) (Nat.zero_le _) ..
    have hsome:∀c,T.get c (T.set b (.cells r f ap ((rows.length+hid.length) * r) t') h1.t)≠none↔T.get c h.t≠none:=fun c=>by
     rw [hgb]
     by_cases e:c=b
     · subst e;rw [if_pos rfl];simp [ob]
     · rw [if_neg e];exact Ew h f _ _ b c
    have hnd:bs.Nodup:=by
     obtain ⟨Z,s⟩:=s
     have:=s.nb;rw [aQ,List.nodup_append] at this
     exact this.1
    refine s.turn ⟨fun c hc=>hwf.t c ((hsome c).1 hc),hwf.f,hwf.lim⟩ (Nat.le_refl _) rfl rfl (fun c hc hm=> ?_) (fun _ _ _=>rfl) (fun c hc=> .inl hc) hnd fun Z=>⟨?_,fun c hc=>(hsome c).2 (hbs c hc)⟩
    · show T.get c (T.set b _ h1.t)=_
      rw [hgb,if_neg (fun e=>hm (by rw [e];exact hb))]
      exact Eu fun F hF hmem=>hm (mem F hF c hmem)
    · have:=kZ.row (bs:=bs) (f:=f) (r:=r) (ap:=ap) (hid:=hid) (t:=t') (h:=⟨T.set b (.cells r f ap ((rows.length+hid.length) * r) t') h1.t,h.next,h.aJ,h.ds,h.pc⟩) (rows:=rows.take i++new++rows.drop (i+k)) ge hb hf (by rw [hlen];exact (hgb b).trans (if_pos rfl)) (fun j row hj=> ?_) (fun row hm=> ?_) mem
      · rw [hlen] at this;exact this
      · rw [hget]
        rw [List.append_assoc,List.append_assoc] at hj
        by_cases c1:j<i
        · rw [if_neg (by omega)]
          rw [List.getElem?_append_left (by rw [List.length_take];omega),List.getElem?_take_of_lt c1] at hj
          exact hrow j row (by rw [List.getElem?_append_left (by omega)];exact hj)
        · rw [List.getElem?_append_right (by rw [List.length_take];omega),List.length_take,Nat.min_eq_left (by omega)] at hj
          by_cases c2:j<i+k
          · rw [if_pos ⟨by omega,c2⟩]
            rw [List.getElem?_append_left (by omega)] at hj
            exact hj.symm▸rfl
          · rw [if_neg (by omega)]
            rw [List.getElem?_append_right (by omega),hnew] at hj
            refine hrow j row ?_
            by_cases c3:j<rows.length
            · rw [List.getElem?_append_left (by rw [List.length_drop];omega),List.getElem?_drop] at hj
              rw [List.getElem?_append_left c3,←hj];congr 1;omega
            · rw [List.getElem?_append_right (by rw [List.length_drop];omega),List.length_drop] at hj
              rw [List.getElem?_append_right (by omega),←hj];congr 1;omega
      · rcases List.mem_append.1 hm with hm|hm
        · rcases List.mem_append.1 hm with hm|hm
          · rcases List.mem_append.1 hm with hm|hm
            · exact len row (List.mem_append_left _ (List.mem_of_mem_take hm))
            · exact hl row hm
          · exact len row (List.mem_append_left _ (List.mem_of_mem_drop hm))
        · exact len row (List.mem_append_right _ hm)
end
end Go.Eng
namespace Go.Eng
noncomputable section
theorem St.Aj {fs:List Fact} {h:Heap} {bs:List Nat} {f r:Nat} {v:V} {rows:List (List V)} (s:St (.acu bs f r v rows::fs) h):bs.Nodup∧(∀b∈bs,T.get b h.t≠none)∧kZ bs f r h v rows:=by
 obtain ⟨Z,s⟩:=s
 have:=s.nb;rw [aQ,List.nodup_append] at this
 obtain ⟨a,hz⟩:=s.all (.acu bs f r v rows) (by simp)
 exact ⟨this.1,hz,a⟩
theorem St.acu_to {fs:List Fact} {h:Heap} {bs:List Nat} {f r:Nat} {v v':V} {rows rows':List (List V)} (s:St (.acu bs f r v rows::fs) h) (ha:kZ bs f r h v' rows'):St (.acu bs f r v' rows'::fs) h:=by
 obtain ⟨Z,s⟩:=s
 refine ⟨Z,s.wf,s.z,s.oz,s.nb,s.nf,s.nd,fun x hx=> ?_⟩
 rcases List.mem_cons.1 hx with rfl|hx
 · exact ⟨ha,(s.all (.acu bs f r v rows) (by simp)).2⟩
 · exact s.all x (by simp [hx])
theorem Cq (h:Heap) (b f ap sz e top:Nat):(dP h b f ap sz e top).next=h.next∧(dP h b f ap sz e top).ds=h.ds∧(dP h b f ap sz e top).pc=h.pc:=by
 unfold dP;split<;>exact ⟨rfl,rfl,rfl⟩
theorem Cr (h:Heap) (b f ap sz e top k:Nat) (hk:k≠f):T.get k (dP h b f ap sz e top).aJ=T.get k h.aJ:=by
 unfold dP;split<;>exact (T.aU (Nat.zero_le _) (Nat.zero_le _) ..).trans (if_neg hk)
theorem Ct {h:Heap} {b f ap sz e top k:Nat} (hb:k≠b) (hm:∀F,T.get f h.aJ=some F→k∉F.mem):T.get k (dP h b f ap sz e top).t=T.get k h.t:=by
 unfold dP
 split
 · show T.get k (if e<ap+sz then (⟨T.set b .dead h.t,h.next,h.aJ,h.ds,h.pc⟩:Heap) else h).t=_
   split
   · exact (T.aU (Nat.zero_le _) (Nat.zero_le _) ..).trans (if_neg hb)
   · rfl
 · rename_i F hF
   show T.get k (if F.last≤e then h else dD e (F.last+top) h.next F.mem h).t=_
   split
   · rfl
   · exact nH _ _ _ _ _ _ (hm F hF)
theorem Cu {h:Heap} {b f ap sz e top:Nat} (hb:T.get b h.t≠none) (k:Nat):T.get k (dP h b f ap sz e top).t≠none↔T.get k h.t≠none:=by
 unfold dP
 split
 · show T.get k (if e<ap+sz then (⟨T.set b .dead h.t,h.next,h.aJ,h.ds,h.pc⟩:Heap) else h).t≠none↔_
   split
   · show T.get k (T.set b .dead h.t)≠none↔_
     rw [T.aU (Nat.zero_le _) (Nat.zero_le _)]
     by_cases e:k=b
     · subst e;simp [hb]
     · rw [if_neg e]
   · exact Iff.rfl
 · rename_i F hF
   show T.get k (if F.last≤e then h else dD e (F.last+top) h.next F.mem h).t≠none↔_
   split
   · exact Iff.rfl
   · exact rV _ _ _ _ _ _
theorem Ey (h:Heap) (b f ap sz e top:Nat):∃F,T.get f (dP h b f ap sz e top).aJ=some F∧∀m∈F.mem,m=h.next∨m=b∨∃F0,T.get f h.aJ=some F0∧m∈F0.mem:=by
 unfold dP
 split
 · exact ⟨_,T.get_set_same _ _ _,fun m hm=>by simp at hm;rcases hm with h|h<;>simp [h]⟩
 · rename_i F hF
   exact ⟨_,T.get_set_same _ _ _,fun m hm=>by
    rcases List.mem_cons.1 hm with h|h
    · exact .inl h
    · exact .inr (.inr ⟨F,hF,h⟩)⟩
theorem St.FZ {fs:List Fact} {h:Heap} {bs:List Nat} {f r bytes:Nat} {v:V} {rows new:List (List V)} (s:St (.acu bs f r v rows::fs) h) (hr:0<r) (hl:∀row∈new,row.length=r) (hfit:(rows.length+new.length) * bytes≤1099511627776):
  ∃bs' f' v' h',bq h r bytes v new.flatten new.length= .ok v' h'∧St (.acu bs' f' r v' (rows++new)::fs) h':=by
 obtain ⟨hnd,hbs,a⟩:=s.Aj
 have w:=s.wf
 by_cases hm0:new.length=0
 · obtain rfl:new=[]:=by simpa using hm0
   refine ⟨bs,f,v,h, ?_,by rw [List.append_nil];exact s⟩
   cases a with
   |nil=>rfl
   |row a=>rfl
 have hb0:Nat.beq new.length 0=false:=by
  cases e:Nat.beq new.length 0 with
  |false=>rfl
  |true=>exact absurd (Nat.eq_of_beq_eq_true e) hm0
 have hfn:T.get h.next h.aJ=none:=by
  cases e:T.get h.next h.aJ with
  |none=>rfl
  |some F=>have:=w.f h.next (by rw [e];simp);omega
 have htn:T.get h.next h.t=none:=by
  cases e:T.get h.next h.t with
  |none=>rfl
  |some F=>have:=w.t h.next (by rw [e];simp);omega
 cases a with
 |nil hbe=>
  subst hbe
  have hok:bI (.cells r h.next 0 (new.length * r) (aH r new.length 0 new.flatten T.e))=true:=by show Nat.blt 0 r=true;rw [eH];simpa using hr
  refine ⟨[h.next],h.next, .sl h.next 0 new.length none,h.add (.cells r h.next 0 (new.length * r) (aH r new.length 0 new.flatten T.e)), ?_, ?_⟩
  · unfold bq
    have h1:(Nat.mul new.length bytes).ble 1099511627776=true:=by
     rw [dO];have:new.length * bytes≤1099511627776:=by simpa using hfit
     simpa using this
    simp only [hb0,cond_false,h1,cond_true,force_eq,aX]
    show (Bool.rec .bad (h.newC (.cells r h.next 0 (Nat.mul new.length r) (aH r new.length 0 new.flatten T.e)) fun h2=> .ok (.sl h.next 0 new.length none) h2) (bI (.cells r h.next 0 (Nat.mul new.length r) (aH r new.length 0 new.flatten T.e))):OR)=_
    rw [show bI (.cells r h.next 0 (Nat.mul new.length r) (aH r new.length 0 new.flatten T.e))=true from hok,fE];rfl
  · refine s.turn (Fr.add h _ |>.wf w) (Nat.le_succ _) rfl rfl (fun b hb _=>dZ hb) (fun _ _ _=>rfl) (fun b hb=> .inr (by simp [Fact.own] at hb;omega)) (by simp [Fact.own]) fun Z=>⟨?_,fun b hb=> ?_⟩
    · have:=kZ.row (bs:=[h.next]) (f:=h.next) (r:=r) (h:=h.add (.cells r h.next 0 (new.length * r) (aH r new.length 0 new.flatten T.e))) (rows:=new) (hid:=[]) w.lim (by simp) (by simp) (by rw [dG,List.length_nil,Nat.add_zero]) (fun i row hi=> ?_) (fun row hm=>hl row (by simpa using hm)) (fun F hF=> ?_)
      · rw [List.nil_append];exact this
      · rw [List.append_nil] at hi
        rw [bW r _ 0 _ T.e i (by omega) (by omega),if_pos ⟨by omega,by have:=(List.getElem?_eq_some_iff.1 hi).1;omega⟩,Nat.sub_zero,eZ i hl hi]
      · have hF:T.get h.next h.aJ=some F:=hF
        rw [hfn] at hF;cases hF
    · have:b=h.next:=by simpa using hb
      subst this;rw [dG];simp
 |row ge hb hf ob hrow len mem=>
  rename_i b ap hid t
  have e0:∀X:OR,(bif (Nat.mul (Nat.add rows.length new.length) bytes).ble 1099511627776&&Nat.ble 8 b then X else .bad)=X:=fun X=>by
   have h1:(Nat.mul (Nat.add rows.length new.length) bytes).ble 1099511627776=true:=by rw [dO];simpa using hfit
   have h2:Nat.ble 8 b=true:=Nat.ble_eq_true_of_le ge
   rw [h1,h2];rfl
  have run0:bq h r bytes (.sl b 0 rows.length none) new.flatten new.length=(bif (Nat.add 0 (Nat.mul (Nat.add rows.length new.length) r)).ble ((rows.length+hid.length) * r) then h.bA b (Nat.add 0 (Nat.mul rows.length r)) (Nat.mul new.length r) new.flatten OR.bad fun h=>OR.ok (.sl b 0 (Nat.add rows.length new.length) none) h
        else bif (Nat.add 0 (Nat.mul rows.length r)).ble ((rows.length+hid.length) * r) then
         grown h b f ap ((rows.length+hid.length) * r) (Nat.add (Nat.add ap 0) (Nat.mul rows.length r)) (Nat.add (Nat.add ap 0) (Nat.mul (Nat.add rows.length new.length) r)) fun h3=>setRows r new.length rows.length new.flatten t fun t=>mk h3 (.cells r f ap (Nat.mul (Nat.add rows.length new.length) r) t) (.sl h.next 0 (Nat.add rows.length new.length) none)
        else .bad):=by
   unfold bq Go.Eng.gM
   simp only [hb0,cond_false,force_eq]
   rw [e0]
   show (Obj.cells? .bad _ (h.obj b):OR)=_
   rw [show h.obj b=some (.cells r f ap ((rows.length+hid.length) * r) t) from ob]
   have c1:(r.beq r&&(Nat.mod 0 r).beq 0)=true:=by
    have:Nat.mod 0 r=0:=Nat.zero_mod r
    rw [this,Nat.beq_refl];rfl
   show (bif (r.beq r&&(Nat.mod 0 r).beq 0) then _ else _)=_
   rw [c1,cond_true];rfl
  rw [run0]
  by_cases hin:new.length≤hid.length
  · have c2:(Nat.add 0 (Nat.mul (Nat.add rows.length new.length) r)).ble ((rows.length+hid.length) * r)=true:=by
     rw [dO]
     have:0+(rows.length+new.length) * r≤(rows.length+hid.length) * r:=by rw [Nat.zero_add];exact Nat.mul_le_mul_right _ (by omega)
     simpa using this
    rw [c2,cond_true]
    have wide:kZ bs f r h (.sl b 0 (rows++hid).length none) (rows++hid):=kZ.row (hid:=[]) ge hb hf (by rw [ob];congr 3;simp) (by rw [List.append_nil];exact hrow) (by rw [List.append_nil];exact len) mem
    have s1:=s.acu_to wide
    obtain ⟨h',hst,s2⟩:=s1.putU hr (i:=rows.length) (k:=new.length) (by omega) rfl hl (by simp;omega)
    refine ⟨bs,f, .sl b 0 (rows.length+new.length) none,h', ?_, ?_⟩
    · show h.bA b (0+rows.length * r) (new.length * r) new.flatten OR.bad (fun h=>OR.ok (.sl b 0 (rows.length+new.length) none) h)=_
      rw [Nat.zero_add,hst]
    · have s3:=s2.cutU (k:=rows.length+new.length) (by simp;omega)
      have e:((rows++hid).take rows.length++new++(rows++hid).drop (rows.length+new.length)).take (rows.length+new.length)=rows++new:=by
       rw [List.take_left' rfl,List.take_left' (by simp)]
      rw [e] at s3;exact s3
  · have c2:(Nat.add 0 (Nat.mul (Nat.add rows.length new.length) r)).ble ((rows.length+hid.length) * r)=false:=by
     rw [dO]
     have:¬(0+(rows.length+new.length) * r≤(rows.length+hid.length) * r):=by
      rw [Nat.zero_add];intro hc
      have:=Nat.le_of_mul_le_mul_right hc hr
      omega
     simpa using this
    have c3:(Nat.add 0 (Nat.mul rows.length r)).ble ((rows.length+hid.length) * r)=true:=by
     rw [dO]
     have:0+rows.length * r≤(rows.length+hid.length) * r:=by rw [Nat.zero_add];exact Nat.mul_le_mul_right _ (by omega)
     simpa using this
    rw [c2,cond_false,c3,cond_true,AV _ _ _ _ _ _ _ _ (fun _ _ _ _=>Nat.zero_le _) (Nat.zero_le _),aX]
    generalize hg:dP h b f ap ((rows.length+hid.length) * r) (Nat.add (Nat.add ap 0) (Nat.mul rows.length r)) (Nat.add (Nat.add ap 0) (Nat.mul (Nat.add rows.length new.length) r))=g
    have g1:=Cq h b f ap ((rows.length+hid.length) * r) (Nat.add (Nat.add ap 0) (Nat.mul rows.length r)) (Nat.add (Nat.add ap 0) (Nat.mul (Nat.add rows.length new.length) r))
    have g2:=Cr h b f ap ((rows.length+hid.length) * r) (Nat.add (Nat.add ap 0) (Nat.mul rows.length r)) (Nat.add (Nat.add ap 0) (Nat.mul (Nat.add rows.length new.length) r))
    have g3:= @Ct h b f ap ((rows.length+hid.length) * r) (Nat.add (Nat.add ap 0) (Nat.mul rows.length r)) (Nat.add (Nat.add ap 0) (Nat.mul (Nat.add rows.length new.length) r))
    have g4:= @Cu h b f ap ((rows.length+hid.length) * r) (Nat.add (Nat.add ap 0) (Nat.mul rows.length r)) (Nat.add (Nat.add ap 0) (Nat.mul (Nat.add rows.length new.length) r)) (hbs b hb)
    obtain ⟨F,g5,g6⟩:=Ey h b f ap ((rows.length+hid.length) * r) (Nat.add (Nat.add ap 0) (Nat.mul rows.length r)) (Nat.add (Nat.add ap 0) (Nat.mul (Nat.add rows.length new.length) r))
    rw [hg] at g1 g2 g3 g4 g5
    have hs:bI (.cells r f ap (Nat.mul (Nat.add rows.length new.length) r) (aH r new.length rows.length new.flatten t))=true:=by show Nat.blt 0 r=true;rw [eH];simpa using hr
    have hbl:∀c∈bs,c<h.next:=fun c hc=>w.t c (hbs c hc)
    refine ⟨h.next::bs,f, .sl h.next 0 (rows.length+new.length) none,g.add (.cells r f ap ((rows.length+new.length) * r) (aH r new.length rows.length new.flatten t)), ?_, ?_⟩
    · show (Bool.rec .bad (g.newC (.cells r f ap (Nat.mul (Nat.add rows.length new.length) r) (aH r new.length rows.length new.flatten t)) fun h2=> .ok (.sl h.next 0 (Nat.add rows.length new.length) none) h2) (bI (.cells r f ap (Nat.mul (Nat.add rows.length new.length) r) (aH r new.length rows.length new.flatten t))):OR)=_
      rw [hs,fE];rfl
    · have gn:g.next=h.next:=g1.1
      have ga:∀k,T.get k (g.add (.cells r f ap ((rows.length+new.length) * r) (aH r new.length rows.length new.flatten t))).t=if k=h.next then some (.cells r f ap ((rows.length+new.length) * r) (aH r new.length rows.length new.flatten t)) else T.get k g.t:=fun k=>by rw [nu,gn]
      have hne:∀k,k<h.next→k≠h.next:=fun k hk=>by omega
      refine s.turn ⟨fun k hk=> ?_,fun k hk=> ?_, ?_⟩ (by show h.next≤g.next+1;omega) rfl rfl (fun k hk hm=> ?_) (fun k hk hm=> ?_) (fun k hk=> ?_) ?_ fun Z=>⟨?_,fun k hk=> ?_⟩
      · show k<g.next+1
        rw [ga] at hk
        by_cases e:k=h.next
        · omega
        · rw [if_neg e] at hk
          have:=w.t k ((g4 k).1 hk);omega
      · show k<g.next+1
        have hk:T.get k g.aJ≠none:=hk
        by_cases e:k=f
        · have:=hbl f hf;omega
        · rw [g2 k e] at hk;have:=w.f k hk;omega
      · show 8≤g.next+1
        have:=w.lim;omega
      · rw [ga,if_neg (hne k hk)]
        exact g3 (fun e=>hm (by rw [e];exact hb)) fun F hF hmem=>hm (mem F hF k hmem)
      · exact g2 k fun e=>hm (by rw [e];exact hf)
      · rcases List.mem_cons.1 hk with rfl|hk
        · exact .inr (Nat.le_refl _)
        · exact .inl hk
      · exact List.nodup_cons.2 ⟨fun hm=>by have:=hbl _ hm;omega,hnd⟩
      · have hlen:(rows++new).length=rows.length+new.length:=by simp
        have:=kZ.row (bs:=h.next::bs) (f:=f) (r:=r) (ap:=ap) (h:=g.add (.cells r f ap ((rows.length+new.length) * r) (aH r new.length rows.length new.flatten t))) (b:=h.next) (rows:=rows++new) (hid:=[]) w.lim (by simp) (by simp [hf]) (by rw [ga,if_pos rfl,hlen];rfl) (fun i row hi=> ?_) (fun row hm=> ?_) (fun F' hF' m hm=> ?_)
        · rw [hlen] at this;exact this
        · rw [List.append_nil] at hi
          rw [bW r _ _ _ t i (by omega) (by omega)]
          have hi1:=(List.getElem?_eq_some_iff.1 hi).1
          rw [hlen] at hi1
          by_cases hlt:i<rows.length
          · rw [if_neg (by omega)]
            rw [List.getElem?_append_left hlt] at hi
            exact hrow i row (by rw [List.getElem?_append_left hlt];exact hi)
          · rw [if_pos ⟨by omega,by omega⟩]
            rw [List.getElem?_append_right (by omega)] at hi
            rw [eZ _ hl hi]
        · rw [List.append_nil] at hm
          rcases List.mem_append.1 hm with hm|hm
          · exact len row (List.mem_append_left _ hm)
          · exact hl row hm
        · have hF':T.get f g.aJ=some F':=hF'
          rw [g5] at hF';cases hF'
          rcases g6 m hm with rfl|rfl|⟨F0,hF0,hm0⟩
          · simp
          · simp [hb]
          · exact List.mem_cons_of_mem _ (mem F0 hF0 m hm0)
      · rw [ga]
        rcases List.mem_cons.1 hk with rfl|hk
        · rw [if_pos rfl];simp
        · rw [if_neg (hne k (hbl k hk))];exact (g4 k).2 (hbs k hk)
section
variable {c:Ctx} {Q:QT} {env:Env} {h:Heap} {fs:List Fact} {vs:List V} {l:List Opr} {i j:D8} {bs:List Nat} {f r bytes:Nat} {v xv:V} {rows new:List (List V)}
theorem WO.appU {s x:A} (st:St (.acu bs f r v rows::fs) h) (hs:s.ev vs env=v) (hx:x.ev vs env=xv) (hn:Rows r h xv new) (hr:0<r) (hfit:(rows.length+new.length) * bytes≤1099511627776)
  (K:∀bs' f' v' h1,St (.acu bs' f' r v' (rows++new)::fs) h1→WO c l Q (v'::vs) env h1):WO c (.p (.H (.append r bytes s x))::l) Q vs env h:=by
 have hl:∀row∈new,row.length=r:=by
  cases hn with
  |nil=>intro row hm;simp at hm
  |row _ _ _ _ _ hlen=>exact hlen
 obtain ⟨bs',f',v',h',e,s'⟩:=st.FZ hr hl hfit
 exact WO.act (fun _=>L.append (ev:=fun a=>a.ev vs env) hs hx hn e) (K _ _ _ _ s')
theorem WO.F3 {s x:A} (st:St (.acu bs f r v rows::fs) h) (hs:s.ev vs env=v) (hx:x.ev vs env=xv) (hn:Rows r h xv new) (hr:0<r) (hfit:(rows.length+new.length) * bytes≤1099511627776)
  (K:∀bs' f' v' h1,St (.acu bs' f' r v' (rows++new)::fs) h1→WO c l Q (v'::vs) (Env.set i j v' env) h1):WO c (.s i j (.H (.append r bytes s x))::l) Q vs env h:=by
 have hl:∀row∈new,row.length=r:=by
  cases hn with
  |nil=>intro row hm;simp at hm
  |row _ _ _ _ _ hlen=>exact hlen
 obtain ⟨bs',f',v',h',e,s'⟩:=st.FZ hr hl hfit
 exact WO.JR (fun _=>L.append (ev:=fun a=>a.ev vs env) hs hx hn e) (K _ _ _ _ s')
theorem St.put1U {b m n k:Nat} {cap:Option Nat} {cs:List V} (s:St (.acu bs f r (.sl b m n cap) rows::fs) h) (hr:0<r) (hk:k<rows.length) (hc:cs.length=r):
  ∃h',(∀{R:Type} (d:R) (K:Heap→R),h.bA b (k * r) r cs d K=K h')∧St (.acu bs f r (.sl b m n cap) (rows.set k cs)::fs) h':=by
 obtain ⟨h',e,s'⟩:=s.putU hr (i:=k) (k:=1) (new:=[cs]) (by omega) rfl (by simpa using hc) (by omega)
 refine ⟨h',fun d K=> ?_, ?_⟩
 · have:=e d K
   rw [Nat.one_mul] at this
   simpa using this
 · rw [List.set_eq_take_append_cons_drop,if_pos hk,←List.singleton_append (x:=cs),←List.append_assoc];exact s'
theorem WO.xJ {b n k:Nat} {cap:Option Nat} {x y:A} {cs:List V} (st:St (.acu bs f r (.sl b 0 n cap) rows::fs) h) (hx:x.ev vs env= .ptr b (0+k * r)) (hy:(y.ev vs env).aV=some cs) (hr:0<r) (hk:k<rows.length) (hc:cs.length=r)
  (K:∀h1,St (.acu bs f r (.sl b 0 n cap) (rows.set k cs)::fs) h1→WO c l Q (un::vs) env h1):WO c (.p (.H (.store r x y))::l) Q vs env h:=by
 obtain ⟨h',e,s'⟩:=st.put1U hr hk hc
 refine WO.act (fun call=> ?_) (K h' s')
 show (Option.rec .bad (fun p=>Option.rec .bad (fun l=>Bool.rec .bad (h.bA p.1 p.2 r l .bad fun h=> .ok un h) ((bO l).beq r)) (y.ev vs env).aV) (x.ev vs env).jf:OR)=_
 rw [hx,hy]
 show (Bool.rec .bad (h.bA b (0+k * r) r cs .bad fun h=>OR.ok un h) ((bO cs).beq r):OR)=_
 rw [eG,hc,Nat.beq_refl]
 show h.bA b (0+k * r) r cs .bad (fun h=>OR.ok un h)=_
 rw [Nat.zero_add,e]
end
theorem tK:∀ss:List (List UInt8),(ss.map fun s=>[L.str s]).flatten=ss.map sV
 |[]=>rfl
 |a::l=>by rw [List.map_cons,List.flatten_cons,tK l];rfl
theorem Io {c:Ctx} {f0:Nat} (hc:∀args h r,ja f0 f0 args h=r→r≠.bad→Runs c f0 args h r) {fs:List Fact} {h:Heap} {bs:List Nat} {f:Nat} {v:V} {ss:List (List UInt8)} (hn:ss.length<4294967296) (st:St (.acu bs f 1 v (ss.map fun s=>[L.str s])::fs) h):
  aM c f0 [v] h fun _ h1=>St (.acu bs f 1 v ((gI ss).map fun s=>[L.str s])::fs) h1:=by
 obtain ⟨_,_,a⟩:=st.Aj
 have hf:f0.beq f0=true:=Nat.beq_refl _
 have hrows:=a.rows (by decide)
 generalize hR:(ss.map fun s=>[L.str s])=R at st a hrows
 cases a with
 |nil=>
  obtain rfl:ss=[]:=by simpa using hR
  refine ⟨.tup [],h,hc _ _ _ ?_ (by simp),st⟩
  unfold ja;rw [hf]
 |row ge hb hfb ob hrow len mem=>
  rename_i b ap hid t
  have hRl:R.length=ss.length:=by rw [←hR,List.length_map]
  have hload:h.load b 0 R.length=some (ss.map sV):=by
   have:=hrows.vk
   rw [show Nat.mul R.length 1=R.length from Nat.mul_one _] at this
   rw [this,←hR,tK]
  have hstr:∀l:List (List UInt8),mH (l.map sV)=true:=fun l=>by
   induction l with
   |nil=>rfl
   |cons a l ih=>exact ih
  have hsl:(gI ss).length=ss.length:=(iH ss).length_eq
  have hlt:(R.length).blt 4294967296=true:=by rw [eH];simp;omega
  by_cases h0:ss.length=0
  · obtain rfl:ss=[]:=by simpa using h0
    obtain rfl:R=[]:=by simpa using hR.symm
    refine ⟨.tup [],h,hc _ _ _ ?_ (by simp),st⟩
    unfold ja;rw [hf]
    show (Option.rec .bad (fun l=>Bool.rec .bad (h.bA b 0 0 (sortV l) .bad fun h=> .ok (.tup []) h) ((mH l).and (Nat.blt 0 4294967296))) (h.load b 0 0):OR)=_
    rfl
  · obtain ⟨h',e,s'⟩:=st.putU (i:=0) (k:=ss.length) (new:=(gI ss).map fun s=>[L.str s]) (by decide) (by omega) (by rw [List.length_map,hsl]) (fun row hm=>by obtain ⟨s,_,rfl⟩:=List.mem_map.1 hm;rfl) (by omega)
    refine ⟨.tup [],h',hc _ _ _ ?_ (by simp), ?_⟩
    · unfold ja;rw [hf]
      show (Option.rec .bad (fun l=>Bool.rec .bad (h.bA b 0 R.length (sortV l) .bad fun h=> .ok (.tup []) h) ((mH l).and ((R.length).blt 4294967296))) (h.load b 0 R.length):OR)=_
      rw [hload]
      show (Bool.rec .bad (h.bA b 0 R.length (sortV (ss.map sV)) .bad fun h=> .ok (.tup []) h) ((mH (ss.map sV)).and ((R.length).blt 4294967296)):OR)=_
      rw [hstr,hlt]
      show h.bA b 0 R.length (sortV (ss.map sV)) .bad (fun h=>OR.ok (.tup []) h)=_
      have:=e (.bad:OR) (fun h=> .ok (.tup []) h)
      rw [Nat.zero_mul,Nat.mul_one] at this
      rw [xH,hRl]
      rw [tK] at this;exact this
    · have e3:R.take 0++((gI ss).map fun s=>[L.str s])++R.drop (0+ss.length)=(gI ss).map fun s=>[L.str s]:=by
       rw [Nat.zero_add,List.drop_of_length_le (by omega)];simp
      rw [e3] at s';exact s'
end
end Go.Eng
namespace Go.Eng
noncomputable section
namespace Lab
theorem fT {M:List (List Bool)} {a:Nat} {r:List Bool} (h:M[a]? =some r) (b:Nat):at2 M a b=(r[b]?).getD false:=by unfold at2;rw [h];rfl
theorem pu {M:List (List Bool)} {a:Nat} (h:M[a]? =none) (b:Nat):at2 M a b=false:=by unfold at2;rw [h];rfl
theorem Ez {n:Nat} {M:List (List Bool)} (s:Sq n M) {a b:Nat} (h:at2 M a b=true):a<n∧b<n:=by
 cases ha:M[a]? with
 |none=>rw [pu ha] at h;cases h
 |some r=>
  rw [fT ha] at h
  obtain ⟨h1,rfl⟩:=List.getElem?_eq_some_iff.1 ha
  refine ⟨s.len▸h1, ?_⟩
  rcases Nat.lt_or_ge b (M[a].length) with hb|hb
  · rw [s.row _ (List.getElem_mem h1)] at hb;exact hb
  · rw [List.getElem?_eq_none hb] at h;cases h
theorem qO {n k:Nat} {M:List (List Bool)} (s:Sq n M) (hk:k<n) (a b:Nat):at2 (kT M k) a b=(at2 M a b||(at2 M a k&&at2 M k b)):=by
 obtain ⟨rk,hrk,hlk⟩:=s.at hk
 cases ha:M[a]? with
 |none=>
  have:(kT M k)[a]? =none:=by unfold kT;rw [List.getElem?_map,ha];rfl
  rw [pu this,pu ha,pu ha];rfl
 |some r=>
  have hl:r.length=n:=s.row r (List.mem_of_getElem? ha)
  have:(kT M k)[a]? =some (jW k M r):=by unfold kT;rw [List.getElem?_map,ha];rfl
  rw [fT this,fT ha,fT ha,fT hrk]
  unfold jW
  rw [hrk]
  by_cases hb:b<n
  · obtain ⟨x,hx⟩:∃x,r[b]? =some x:=⟨r[b]'(by omega),List.getElem?_eq_getElem (by omega)⟩
    obtain ⟨y,hy⟩:∃y,rk[b]? =some y:=⟨rk[b]'(by omega),List.getElem?_eq_getElem (by omega)⟩
    cases (r[k]?).getD false with
    |false=>simp
    |true=>
     simp only [if_true,Option.getD_some]
     unfold lJ
     rw [List.getElem?_zipWith,hx,hy];rfl
  · have e1:r[b]? =none:=List.getElem?_eq_none (by omega)
    have e2:rk[b]? =none:=List.getElem?_eq_none (by omega)
    rw [e1,e2]
    split
    · have:(lJ r ((some rk).getD []))[b]? =none:=List.getElem?_eq_none (by rw [jr hl (by exact hlk)];omega)
      rw [this];simp
    · rw [e1];simp
theorem jw {n:Nat} {M:List (List Bool)} (s:Sq n M) {a b:Nat} (h:at2 M a b=true):∀k,k≤n→at2 (closed k M) a b=true
 |0,_=>h
 |k+1,hk=>by rw [iL,qO (eU s k (by omega)) (by omega),jw s h k (by omega)];rfl
theorem mI {n:Nat} {M:List (List Bool)} (s:Sq n M) {R:Nat→Nat→Prop} (tr:∀a b c,R a b→R b c→R a c) (hM:∀a b,at2 M a b=true→R a b):∀k,k≤n→∀a b,at2 (closed k M) a b=true→R a b
 |0,_,a,b,h=>hM a b h
 |k+1,hk,a,b,h=>by
  rw [iL,qO (eU s k (by omega)) (by omega),Bool.or_eq_true,Bool.and_eq_true] at h
  rcases h with h|⟨h1,h2⟩
  · exact mI s tr hM k (by omega) a b h
  · exact tr _ _ _ (mI s tr hM k (by omega) _ _ h1) (mI s tr hM k (by omega) _ _ h2)
theorem zf {n:Nat} {M:List (List Bool)} (s:Sq n M):∀k,k≤n→∀j,j<k→∀a b,at2 (closed k M) a j=true→at2 (closed k M) j b=true→at2 (closed k M) a b=true
 |0,_,j,hj,_,_,_,_=>absurd hj (by omega)
 |k+1,hk,j,hj,a,b,h1,h2=>by
  have sk:=eU s k (by omega)
  have ih:=zf s k (by omega)
  simp only [iL,qO sk (show k<n by omega),Bool.or_eq_true,Bool.and_eq_true] at h1 h2 ⊢
  by_cases e:j=k
  · subst e
    have h1:at2 (closed j M) a j=true:=by rcases h1 with h|h;exact h;exact h.1
    have h2:at2 (closed j M) j b=true:=by rcases h2 with h|h;exact h;exact h.2
    exact .inr ⟨h1,h2⟩
  · have hjk:j<k:=by omega
    rcases h1 with h1|⟨h1,h1'⟩<;>rcases h2 with h2|⟨h2,h2'⟩
    · exact .inl (ih j hjk a b h1 h2)
    · exact .inr ⟨ih j hjk a k h1 h2,h2'⟩
    · exact .inr ⟨h1,ih j hjk k b h1' h2⟩
    · exact .inr ⟨h1,h2'⟩
theorem kz {n:Nat} {M:List (List Bool)} (s:Sq n M) {a b c:Nat} (h1:at2 (closed n M) a b=true) (h2:at2 (closed n M) b c=true):at2 (closed n M) a c=true:=
 zf s n (Nat.le_refl _) b (Ez (eU s n (Nat.le_refl _)) h1).2 a c h1 h2
theorem sq_ext {n:Nat} {A B:List (List Bool)} (sa:Sq n A) (sb:Sq n B) (h:∀a b,at2 A a b=at2 B a b):A=B:=by
 apply List.ext_getElem (by rw [sa.len,sb.len])
 intro a h1 h2
 have la:=sa.row _ (List.getElem_mem h1)
 have lb:=sb.row _ (List.getElem_mem h2)
 apply List.ext_getElem (by rw [la,lb])
 intro b h3 h4
 have:=h a b
 rw [fT (List.getElem?_eq_getElem h1),fT (List.getElem?_eq_getElem h2),List.getElem?_eq_getElem h3,List.getElem?_eq_getElem h4] at this
 exact this
theorem Cv {n:Nat} {A B:List (List Bool)} (sa:Sq n A) (sb:Sq n B) (hab:∀a b,at2 A a b=true→at2 (closed n B) a b=true) (hba:∀a b,at2 B a b=true→at2 (closed n A) a b=true):closed n A=closed n B:=by
 refine sq_ext (eU sa n (Nat.le_refl _)) (eU sb n (Nat.le_refl _)) fun a b=> ?_
 rw [Bool.eq_iff_iff]
 exact ⟨mI (R:=fun a b=>at2 (closed n B) a b=true) sa (fun _ _ _=>kz sb) hab n (Nat.le_refl _) a b,mI (R:=fun a b=>at2 (closed n A) a b=true) sb (fun _ _ _=>kz sa) hba n (Nat.le_refl _) a b⟩
abbrev Txt:=List UInt8
def uniq:List Txt→List Txt
 |[]=>[]
 |x::l=>match l with
  |[]=>[x]
  |y::_=>if x=y then uniq l else x::uniq l
theorem xK:∀(l:List Txt) (z:Txt),z∈uniq l↔z∈l
 |[],z=>Iff.rfl
 |[x],z=>Iff.rfl
 |x::y::l,z=>by
  have ih:=xK (y::l) z
  by_cases h:x=y
  · rw [show uniq (x::y::l)=uniq (y::l) from if_pos h,ih,h];simp
  · rw [show uniq (x::y::l)=x::uniq (y::l) from if_neg h,List.mem_cons,ih];simp
theorem Cw:∀l:List Txt,(uniq l).length≤l.length
 |[]=>Nat.le_refl _
 |[x]=>Nat.le_refl _
 |x::y::l=>by
  have ih:=Cw (y::l)
  by_cases h:x=y
  · rw [show uniq (x::y::l)=uniq (y::l) from if_pos h];simp at ih ⊢;omega
  · rw [show uniq (x::y::l)=x::uniq (y::l) from if_neg h];simp at ih ⊢;omega
theorem lt_of_le_ne {x y:Txt} (h:x≤y) (hn:x≠y):x<y:=by
 rcases List.le_iff_lt_or_eq.1 h with h|h
 · exact h
 · exact absurd h hn
theorem xL:∀l:List Txt,l.Pairwise (·≤·)→(uniq l).Pairwise (·<·)
 |[],_=>List.Pairwise.nil
 |[x],_=>by simp [uniq]
 |x::y::l,h=>by
  obtain ⟨h1,h2⟩:=List.pairwise_cons.1 h
  have ih:=xL (y::l) h2
  by_cases e:x=y
  · rw [show uniq (x::y::l)=uniq (y::l) from if_pos e];exact ih
  · rw [show uniq (x::y::l)=x::uniq (y::l) from if_neg e]
    refine List.pairwise_cons.2 ⟨fun z hz=> ?_,ih⟩
    have hz:=(xK _ _).1 hz
    have hxy:x<y:=lt_of_le_ne (h1 y (by simp)) e
    rcases List.mem_cons.1 hz with rfl|hz
    · exact hxy
    · exact List.not_le.1 fun hzx=>List.not_le.2 hxy (List.le_trans ((List.pairwise_cons.1 h2).1 z hz) hzx)
theorem tL:∀{a b:List Txt},a.Pairwise (·<·)→b.Pairwise (·<·)→(∀z,z∈a↔z∈b)→a=b
 |[],[],_,_,_=>rfl
 |[],y::b,_,_,h=>absurd ((h y).2 (by simp)) (by simp)
 |x::a,[],_,_,h=>absurd ((h x).1 (by simp)) (by simp)
 |x::a,y::b,ha,hb,h=>by
  obtain ⟨a1,a2⟩:=List.pairwise_cons.1 ha
  obtain ⟨b1,b2⟩:=List.pairwise_cons.1 hb
  have hxy:x=y:=by
   rcases List.mem_cons.1 ((h x).1 (by simp)) with e|e
   · exact e
   · rcases List.mem_cons.1 ((h y).2 (by simp)) with e'|e'
     · exact e'.symm
     · exact absurd (List.lt_trans (b1 x e) (a1 y e')) (List.lt_irrefl _)
  subst hxy
  congr 1
  refine tL a2 b2 fun z=>⟨fun hz=> ?_,fun hz=> ?_⟩
  · rcases List.mem_cons.1 ((h z).1 (by simp [hz])) with e|e
    · subst e;exact absurd (a1 z hz) (List.lt_irrefl _)
    · exact e
  · rcases List.mem_cons.1 ((h z).2 (by simp [hz])) with e|e
    · subst e;exact absurd (b1 z hz) (List.lt_irrefl _)
    · exact e
def raw (l:List (Txt×Txt)):List Txt:=l.flatMap fun p=>if p.2=[] then [p.1] else [p.1,p.2]
def names (l:List (Txt×Txt)):List Txt:=uniq (gI (raw l))
theorem kH (l:List (Txt×Txt)) (z:Txt):z∈names l↔z∈raw l:=(xK _ z).trans (iH _).mem_iff
theorem pz (l:List (Txt×Txt)):(names l).Pairwise (·<·):=xL _ (nG _)
def unit (n:Nat):List (List Bool):=(List.range n).map fun a=>(List.replicate n false).set a true
def put (M:List (List Bool)) (i j:Nat):List (List Bool):=M.set i ((M[i]?.getD []).set j true)
def xM (ns:List Txt) (M:List (List Bool)) (p:Txt×Txt):List (List Bool):=if p.2=[] then M else put M (ns.idxOf p.1) (ns.idxOf p.2)
def table (ns:List Txt) (l:List (Txt×Txt)):List (List Bool):=l.foldl (xM ns) (unit ns.length)
theorem F4 (n:Nat):Sq n (unit n):=⟨by simp [unit],fun r hr=>by
 obtain ⟨a,_,rfl⟩:=List.mem_map.1 hr
 simp⟩
theorem put_sq {n:Nat} {M:List (List Bool)} (s:Sq n M) {i j:Nat}:Sq n (put M i j):=by
 refine ⟨by simp [put,s.len],fun r hr=> ?_⟩
 unfold put at hr
 cases h:M[i]? with
 |none=>
  rw [List.set_eq_of_length_le (by rw [List.getElem?_eq_none_iff] at h;exact h)] at hr
  exact s.row r hr
 |some q=>
  rw [h] at hr
  rcases List.mem_or_eq_of_mem_set hr with hr|rfl
  · exact s.row r hr
  · simp [s.row q (List.mem_of_getElem? h)]
theorem F5 {n:Nat} {M:List (List Bool)} {ns:List Txt} (s:Sq n M) (p:Txt×Txt):Sq n (xM ns M p):=by
 unfold xM;split
 · exact s
 · exact put_sq s
theorem F6 {n:Nat} {ns:List Txt}:∀(l:List (Txt×Txt)) {M:List (List Bool)},Sq n M→Sq n (l.foldl (xM ns) M)
 |[],_,s=>s
 |p::l,_,s=>F6 l (F5 s p)
theorem fw (ns:List Txt) (l:List (Txt×Txt)):Sq ns.length (table ns l):=F6 l (F4 _)
theorem Kq (n a b:Nat):at2 (unit n) a b=decide (a=b∧a<n):=by
 by_cases ha:a<n
 · have:(unit n)[a]? =some ((List.replicate n false).set a true):=by unfold unit;rw [List.getElem?_map,List.getElem?_range ha];rfl
   rw [fT this,List.getElem?_set]
   by_cases e:a=b
   · subst e;simp [ha]
   · rw [if_neg e,List.getElem?_replicate]
     split<;>simp [e]
 · have:(unit n)[a]? =none:=List.getElem?_eq_none (by simp [unit];omega)
   rw [pu this];simp [ha]
theorem at2_put {n:Nat} {M:List (List Bool)} (s:Sq n M) {i j:Nat} (hi:i<n) (hj:j<n) (a b:Nat):at2 (put M i j) a b=(at2 M a b||decide (a=i∧b=j)):=by
 obtain ⟨r,hr,hl⟩:=s.at hi
 by_cases e:i=a
 · subst e
   have:(put M i j)[i]? =some (r.set j true):=by unfold put;rw [hr,List.getElem?_set,if_pos rfl,if_pos (by rw [s.len];exact hi)];rfl
   rw [fT this,fT hr,List.getElem?_set]
   by_cases e2:j=b
   · subst e2;simp [hl,hj]
   · rw [if_neg e2];simp [Ne.symm e2]
 · have:(put M i j)[a]? =M[a]? :=by unfold put;rw [List.getElem?_set,if_neg e]
   have h2:at2 (put M i j) a b=at2 M a b:=by unfold at2;rw [this]
   rw [h2];simp [Ne.symm e]
theorem Cx {n:Nat} {ns:List Txt} (hn:ns.length=n):∀(l:List (Txt×Txt)) {M:List (List Bool)},Sq n M→(∀p∈l,p.2≠[]→p.1∈ns∧p.2∈ns)→∀a b,at2 (l.foldl (xM ns) M) a b=true↔(at2 M a b=true∨∃p∈l,p.2≠[]∧ns.idxOf p.1=a∧ns.idxOf p.2=b)
 |[],M,s,_,a,b=>by simp
 |p::l,M,s,hm,a,b=>by
  rw [List.foldl_cons,Cx hn l (F5 s p) (fun q hq=>hm q (by simp [hq]))]
  have hp:=hm p (by simp)
  unfold xM
  by_cases e:p.2=[]
  · rw [if_pos e]
    constructor
    · rintro (h|⟨q,hq,h⟩)
      · exact .inl h
      · exact .inr ⟨q,by simp [hq],h⟩
    · rintro (h|⟨q,hq,h⟩)
      · exact .inl h
      · rcases List.mem_cons.1 hq with rfl|hq
        · exact absurd e h.1
        · exact .inr ⟨q,hq,h⟩
  · obtain ⟨h1,h2⟩:=hp e
    rw [if_neg e,at2_put s (hn▸List.idxOf_lt_length_of_mem h1) (hn▸List.idxOf_lt_length_of_mem h2)]
    constructor
    · rintro (h|⟨q,hq,h⟩)
      · rcases Bool.or_eq_true _ _▸h with h|h
        · exact .inl h
        · obtain ⟨rfl,rfl⟩:=of_decide_eq_true h
          exact .inr ⟨p,by simp,e,rfl,rfl⟩
      · exact .inr ⟨q,by simp [hq],h⟩
    · rintro (h|⟨q,hq,h⟩)
      · exact .inl (by rw [h];rfl)
      · rcases List.mem_cons.1 hq with rfl|hq
        · refine .inl ?_
          rw [Bool.or_eq_true]
          exact .inr (by simp [h.2.1,h.2.2])
        · exact .inr ⟨q,hq,h⟩
theorem jy (ns:List Txt) (l:List (Txt×Txt)) (h:∀p∈l,p.2≠[]→p.1∈ns∧p.2∈ns) (a b:Nat):at2 (table ns l) a b=true↔((a=b∧a<ns.length)∨∃p∈l,p.2≠[]∧ns.idxOf p.1=a∧ns.idxOf p.2=b):=by
 unfold table
 rw [Cx rfl l (F4 _) h,Kq,decide_eq_true_iff]
theorem F7 {l:List (Txt×Txt)} {p:Txt×Txt} (hp:p∈l):p.1∈raw l∧(p.2≠[]→p.2∈raw l):=by
 unfold raw
 constructor
 · exact List.mem_flatMap.2 ⟨p,hp,by split<;>simp⟩
 · intro h;exact List.mem_flatMap.2 ⟨p,hp,by rw [if_neg h];simp⟩
theorem iM {l:List (Txt×Txt)}:∀p∈l,p.2≠[]→p.1∈names l∧p.2∈names l:=fun p hp h=>⟨(kH l _).2 (F7 hp).1,(kH l _).2 ((F7 hp).2 h)⟩
def order (l:List (Txt×Txt)):List (List Bool):=closed (names l).length (table (names l) l)
def made (l:List (Txt×Txt)):Nat×Option (Nat×Nat):=
 if (names l).length=0 then (13,none) else if 12<(names l).length then (14,none) else match complete (names l).length (order l) with
  |none=>(13,none)
  |some x=>(0,some x)
theorem tN {l:List (Txt×Txt)} (h:(names l).length=0):made l=(13,none):=if_pos h
theorem jA {l:List (Txt×Txt)} (h:12<(names l).length):made l=(14,none):=by unfold made;rw [if_neg (by omega),if_pos h]
theorem Ak {l:List (Txt×Txt)} (h0:¬(names l).length=0) (h1:¬12<(names l).length) (h:complete (names l).length (order l)=none):made l=(13,none):=by unfold made;rw [if_neg h0,if_neg h1,h]
theorem tO {l:List (Txt×Txt)} {x:Nat×Nat} (h0:¬(names l).length=0) (h1:¬12<(names l).length) (h:complete (names l).length (order l)=some x):made l=(0,some x):=by unfold made;rw [if_neg h0,if_neg h1,h]
def follow (l:List (Txt×Txt)):List (Txt×Txt):=l.flatMap fun p=>l.flatMap fun q=>if p.2=q.1 then [(p.1,q.2)] else []
def turned (l:List (Txt×Txt)):List (Txt×Txt):=(l.reverse.flatMap fun p=>[p,p])++follow l
theorem EA {l:List (Txt×Txt)} {z:Txt×Txt}:z∈follow l↔∃p∈l,∃q∈l,p.2=q.1∧z=(p.1,q.2):=by
 unfold follow
 simp only [List.mem_flatMap]
 constructor
 · rintro ⟨p,hp,q,hq,hz⟩
   split at hz
   · rename_i e;exact ⟨p,hp,q,hq,e,by simpa using hz⟩
   · simp at hz
 · rintro ⟨p,hp,q,hq,e,rfl⟩
   exact ⟨p,hp,q,hq,by rw [if_pos e];simp⟩
theorem kW {l:List (Txt×Txt)} {z:Txt×Txt}:z∈turned l↔(z∈l∨∃p∈l,∃q∈l,p.2=q.1∧z=(p.1,q.2)):=by
 unfold turned
 rw [List.mem_append,EA,List.mem_flatMap]
 simp only [List.mem_reverse]
 constructor
 · rintro (⟨p,hp,hz⟩|h)
   · have:z=p:=by simpa using hz
     exact .inl (this▸hp)
   · exact .inr h
 · rintro (h|h)
   · exact .inl ⟨z,h,by simp⟩
   · exact .inr h
theorem F8 {l:List (Txt×Txt)} (hl:∀p∈l,p.2≠[]) (z:Txt):z∈raw l↔∃p∈l,z=p.1∨z=p.2:=by
 unfold raw
 simp only [List.mem_flatMap]
 constructor
 · rintro ⟨p,hp,hz⟩
   rw [if_neg (hl p hp)] at hz
   exact ⟨p,hp,by simpa using hz⟩
 · rintro ⟨p,hp,hz⟩
   exact ⟨p,hp,by rw [if_neg (hl p hp)];simpa using hz⟩
theorem EB {l:List (Txt×Txt)} (hl:∀p∈l,p.2≠[]):∀p∈turned l,p.2≠[]:=by
 intro p hp
 rcases kW.1 hp with h|⟨p',_,q,hq,_,rfl⟩
 · exact hl p h
 · exact hl q hq
theorem kC {l:List (Txt×Txt)} (hl:∀p∈l,p.2≠[]):names (turned l)=names l:=by
 refine tL (pz _) (pz _) fun z=> ?_
 rw [kH,kH,F8 (EB hl),F8 hl]
 constructor
 · rintro ⟨p,hp,hz⟩
   rcases kW.1 hp with h|⟨p',hp',q,hq,_,rfl⟩
   · exact ⟨p,h,hz⟩
   · rcases hz with rfl|rfl
     · exact ⟨p',hp', .inl rfl⟩
     · exact ⟨q,hq, .inr rfl⟩
 · rintro ⟨p,hp,hz⟩
   exact ⟨p,kW.2 (.inl hp),hz⟩
theorem rW {l:List (Txt×Txt)} (hl:∀p∈l,p.2≠[]):order (turned l)=order l:=by
 unfold order
 rw [kC hl]
 have hm:∀p∈turned l,p.2≠[]→p.1∈names l∧p.2∈names l:=fun p hp h=>by rw [←kC hl];exact iM p hp h
 refine Cv (fw _ _) (fw _ _) (fun a b h=> ?_) fun a b h=> ?_
 · rcases (jy _ _ hm a b).1 h with h|⟨p,hp,h1,h2,h3⟩
   · exact jw (fw _ _) ((jy _ _ iM a b).2 (.inl h)) _ (Nat.le_refl _)
   · rcases kW.1 hp with hp|⟨p',hp',q,hq,e,rfl⟩
     · exact jw (fw _ _) ((jy _ _ iM a b).2 (.inr ⟨p,hp,h1,h2,h3⟩)) _ (Nat.le_refl _)
     · have i1:=jw (fw (names l) l) ((jy _ _ iM a _).2 (.inr ⟨p',hp',hl p' hp',h2,rfl⟩)) _ (Nat.le_refl _)
       have i2:=jw (fw (names l) l) ((jy _ _ iM _ b).2 (.inr ⟨q,hq,hl q hq,rfl,h3⟩)) _ (Nat.le_refl _)
       rw [e] at i1
       exact kz (fw _ _) i1 i2
 · refine jw (fw _ _) ((jy _ _ hm a b).2 ?_) _ (Nat.le_refl _)
   rcases (jy _ _ iM a b).1 h with h|⟨p,hp,h⟩
   · exact .inl h
   · exact .inr ⟨p,kW.2 (.inl hp),h⟩
theorem Cy {l:List (Txt×Txt)} (hl:∀p∈l,p.2≠[]):made (turned l)=made l:=by
 unfold made
 rw [rW hl,kC hl]
end Lab
end
end Go.Eng
namespace Go.Eng
noncomputable section
theorem Rows.yA {r b o n:Nat} {h:Heap} {cap:Option Nat} {rows:List (List V)} (a:Rows r h (.sl b o n cap) rows):∃f ap sz t,T.get b h.t=some (.cells r f ap sz t):=by
 cases a with
 |row _ hob _ _ _ _=>exact ⟨_,_,_,_,hob⟩
section
variable {ev:Ev} {h:Heap} {x:A} {lo hi mx:Option A} {r b o n i j m:Nat}
theorem L.ssl {rows:List (List V)} (hx:ev x= .sl b o n none) (a:Rows r h (.sl b o n none) rows) (hhi:bg hi ev n=some j) (hlo:bg lo ev 0=some i) (hij:i≤j) (hjn:j≤n):light (.ssl r x lo hi none) ev h= .val (.sl b (o+i * r) (j - i) none):=by
 obtain ⟨f,ap,sz,t,hob⟩:=a.yA
 show (match ev x with
  | .slN=>match bg hi ev 0,bg lo ev 0,bg none ev 0 with
    |some 0,some 0,some 0=>LR.val .slN
    |_,_,_=> .bad
  | .sl b o n cap=>match bg hi ev n,bg lo ev 0 with
    |some j,some i=>qy r b o n cap i j (Option.rec none (fun x=>some (ev x).asNat) none) h
    |_,_=> .bad
  |_=> .bad)=_
 rw [hx]
 simp only [hhi,hlo]
 show qy r b o n none i j none h=_
 unfold qy
 simp only [Heap.obj,hob]
 have e1:(r.beq r&&(i.ble j&&(j.ble n||(Nat.add o (Nat.mul j r)).ble sz)))=true:=by
  rw [Nat.beq_refl,show i.ble j=true from Nat.ble_eq_true_of_le hij,show j.ble n=true from Nat.ble_eq_true_of_le hjn];rfl
 rw [e1,cond_true]
 unfold slF
 simp
theorem L.sslM {mxa:A} (hx:ev x= .sl b o n none) (hhi:bg hi ev n=some j) (hlo:bg lo ev 0=some i) (hm:(ev mxa).asNat=some m) (h0:0<n) (hij:i≤j) (hjm:j≤m) (hmn:m≤n) (him:i<m):light (.ssl r x lo hi (some mxa)) ev h= .val (.sl b (o+i * r) (j - i) (some (m - i))):=by
 show (match ev x with
  | .slN=>match bg hi ev 0,bg lo ev 0,bg (some mxa) ev 0 with
    |some 0,some 0,some 0=>LR.val .slN
    |_,_,_=> .bad
  | .sl b o n cap=>match bg hi ev n,bg lo ev 0 with
    |some j,some i=>qy r b o n cap i j (Option.rec none (fun x=>some (ev x).asNat) (some mxa)) h
    |_,_=> .bad
  |_=> .bad)=_
 rw [hx]
 simp only [hhi,hlo,hm]
 unfold qy
 have e1:(Nat.blt 0 n&&(i.ble j&&(j.ble m&&m.ble n)))=true:=by
  rw [show Nat.blt 0 n=true from by rw [eH];simpa using h0,show i.ble j=true from Nat.ble_eq_true_of_le hij,show j.ble m=true from Nat.ble_eq_true_of_le hjm,show m.ble n=true from Nat.ble_eq_true_of_le hmn];rfl
 simp only [e1,cond_true]
 unfold qx slF
 have e2:(Nat.sub m i).beq 0=false:=by
  rw [je]
  exact decide_eq_false (show ¬(m - i=0) by omega)
 simp only [force_eq]
 rw [e2];rfl
end
section
variable {c:Ctx} {Q:QT} {env:Env} {h:Heap} {fs:List Fact} {vs:List V} {l:List Opr} {i j:D8} {bs:List Nat} {f r:Nat} {v xv:V} {rows new:List (List V)}
theorem WO.clearU {b n k m:Nat} {cap cap':Option Nat} {x:A} {z:List V} (st:St (.acu bs f r (.sl b 0 n cap) rows::fs) h) (hx:x.ev vs env= .sl b (0+k * r) m cap') (hr:0<r) (hz:z.length=r) (hm:0<m) (hk:k+m=rows.length)
  (K:∀h1,St (.acu bs f r (.sl b 0 n cap) (rows.take k++List.replicate m z)::fs) h1→WO c l Q (un::vs) env h1):WO c (.p (.H (.clear z x))::l) Q vs env h:=by
 obtain ⟨h',e,s'⟩:=st.putU hr (i:=k) (k:=m) (new:=List.replicate m z) hm (by simp) (fun row hm=>by rw [(List.mem_replicate.1 hm).2];exact hz) (by omega)
 refine WO.act (fun call=> ?_) (K h' ?_)
 · show Dq z x call (fun a=>a.ev vs env) h=_
   have hx':(fun a:A=>a.ev vs env) x= .sl b (0+k * r) m cap':=hx
   unfold Dq
   rw [hx']
   show h.bA b (0+k * r) (Nat.mul m (bO z)) (rep m z) .bad (fun h=>OR.ok un h)=_
   rw [eG,hz,Je,Nat.zero_add]
   exact e _ _
 · rw [List.drop_of_length_le (by omega),List.append_nil] at s';exact s'
end
def SR (l:List (List UInt8)):List (List V):=l.map fun s=>[L.str s]
theorem bY (l:List (List UInt8)):(SR l).length=l.length:=List.length_map _
theorem mJ {l:List (List UInt8)} {i:Nat} {s:List UInt8} (h:l[i]? =some s):(SR l)[i]? =some [L.str s]:=by unfold SR;rw [List.getElem?_map,h];rfl
theorem Al (l m:List (List UInt8)):SR (l++m)=SR l++SR m:=List.map_append
theorem xO (l:List (List UInt8)) (i:Nat) (s:List UInt8):(SR l).set i [L.str s]=SR (l.set i s):=by unfold SR;rw [List.map_set]
theorem SR_take (l:List (List UInt8)) (i:Nat):(SR l).take i=SR (l.take i):=by unfold SR;rw [List.map_take]
namespace Lab
theorem zh:∀(l:List Txt) (y:Txt),uniq (l++[y])=if l.getLast? =some y then uniq l else uniq l++[y]
 |[],y=>by simp [uniq]
 |[x],y=>by
  by_cases h:x=y
  · subst h;simp [uniq]
  · simp [uniq,h]
 |x::x2::l,y=>by
  have ih:=zh (x2::l) y
  have e:(x::x2::l).getLast? =(x2::l).getLast? :=by simp [List.getLast?_cons_cons]
  rw [e]
  by_cases h:x=x2
  · rw [show uniq (x::x2::l++[y])=uniq (x2::l++[y]) from if_pos h,ih,show uniq (x::x2::l)=uniq (x2::l) from if_pos h]
  · rw [show uniq (x::x2::l++[y])=x::uniq (x2::l++[y]) from if_neg h,ih,show uniq (x::x2::l)=x::uniq (x2::l) from if_neg h]
    split<;>rfl
theorem pX {S:List Txt} {m:Nat} {x y:Txt} (hx:S[m]? =some x) (hy:S[m+1]? =some y):uniq (S.take (m+2))=if y=x then uniq (S.take (m+1)) else uniq (S.take (m+1))++[y]:=by
 have e1:S.take (m+2)=S.take (m+1)++[y]:=by
  rw [show m+2=(m+1)+1 from rfl,List.take_add_one,hy];rfl
 have e2:(S.take (m+1)).getLast? =some x:=by
  rw [List.take_add_one,hx];simp
 rw [e1,zh,e2]
 by_cases h:y=x
 · subst h;simp
 · rw [if_neg h,if_neg (fun e=>h (Option.some.inj e).symm)]
structure rX (S R:List Txt) (k j q:Nat):Prop where
 k1:1≤k
 j1:1≤j
 le:k+j≤S.length
 len:R.length=S.length
 qe:q=(uniq (S.take (k+j))).length
 tk:R.take q=uniq (S.take (k+j))
 dr:R.drop (k+j - 1)=S.drop (k+j - 1)
 ql:q+1≤k+j
theorem rX.start {S:List Txt} {k:Nat} {x:Txt} (hk:1≤k) (hu:uniq (S.take k)=S.take k) (hx:S[k]? =some x) (hy:S[k - 1]? =some x):rX S S k 1 k:=by
 obtain ⟨m,rfl⟩:∃m,k=m+1:=⟨k - 1,by omega⟩
 have hlt:=(List.getElem?_eq_some_iff.1 hx).1
 have e:uniq (S.take (m+1+1))=S.take (m+1):=by rw [pX (by simpa using hy) hx,if_pos rfl,hu]
 exact ⟨hk,Nat.le_refl _,by omega,rfl,by rw [e,List.length_take];omega,e.symm,rfl,by omega⟩
theorem rX.at {S R:List Txt} {k j q i:Nat} (c:rX S R k j q) (hi:k+j - 1≤i):R[i]? =S[i]? :=by
 have:=congrArg (fun l:List Txt=>l[i - (k+j - 1)]?) c.dr
 simp only [List.getElem?_drop] at this
 rw [show k+j - 1+(i - (k+j - 1))=i by omega] at this;exact this
theorem rX.skip {S R:List Txt} {k j q:Nat} {x:Txt} (c:rX S R k j q) (hx:S[k+j]? =some x) (hy:S[k+j - 1]? =some x):rX S R k (j+1) q:=by
 have hlt:=(List.getElem?_eq_some_iff.1 hx).1
 have h1:=c.j1
 obtain ⟨m,hm⟩:∃m,k+j=m+1:=⟨k+j - 1,by omega⟩
 have e:uniq (S.take (k+(j+1)))=uniq (S.take (k+j)):=by
  rw [show k+(j+1)=m+2 by omega,pX (x:=x) (by rw [show m=k+j - 1 by omega];exact hy) (by rw [←hm];exact hx),if_pos rfl,hm]
 refine ⟨c.k1,by omega,by omega,c.len,by rw [e];exact c.qe,by rw [e];exact c.tk, ?_,by have:=c.ql;omega⟩
 have:=congrArg (List.drop 1) c.dr
 rw [List.drop_drop,List.drop_drop] at this
 rw [show k+(j+1) - 1=k+j - 1+1 by omega];exact this
theorem rX.put {S R:List Txt} {k j q:Nat} {x y:Txt} (c:rX S R k j q) (hx:S[k+j]? =some x) (hy:S[k+j - 1]? =some y) (hne:x≠y):rX S (R.set q x) k (j+1) (q+1):=by
 have hlt:=(List.getElem?_eq_some_iff.1 hx).1
 have h1:=c.j1
 have hq:=c.ql
 have hl:=c.len
 obtain ⟨m,hm⟩:∃m,k+j=m+1:=⟨k+j - 1,by omega⟩
 have e:uniq (S.take (k+(j+1)))=uniq (S.take (k+j))++[x]:=by
  rw [show k+(j+1)=m+2 by omega,pX (x:=y) (by rw [show m=k+j - 1 by omega];exact hy) (by rw [←hm];exact hx),if_neg hne,hm]
 refine ⟨c.k1,by omega,by omega,by rw [List.length_set,c.len],by rw [e,List.length_append,←c.qe];rfl, ?_, ?_,by omega⟩
 · rw [e,←c.tk,List.take_add_one,List.take_set_of_le (Nat.le_refl _),List.getElem?_set,if_pos rfl,if_pos (by omega)];rfl
 · have:=congrArg (List.drop 1) c.dr
   rw [List.drop_drop,List.drop_drop] at this
   rw [show k+(j+1) - 1=k+j - 1+1 by omega,List.drop_set_of_lt (by omega)];exact this
theorem rX.done {S R:List Txt} {k j q:Nat} (c:rX S R k j q) (h:S.length≤k+j):q=(uniq S).length∧R.take q=uniq S∧q<S.length:=by
 have e:S.take (k+j)=S:=List.take_of_length_le h
 have h1:=c.qe;have h2:=c.tk
 rw [e] at h1 h2
 exact ⟨h1,h2,by have:=c.ql;have:=c.le;omega⟩
theorem Ip {S:List Txt} {k:Nat} {x y:Txt} (hk:1≤k) (hu:uniq (S.take k)=S.take k) (hx:S[k]? =some x) (hy:S[k - 1]? =some y) (hne:x≠y):uniq (S.take (k+1))=S.take (k+1):=by
 obtain ⟨m,rfl⟩:∃m,k=m+1:=⟨k - 1,by omega⟩
 rw [pX (by simpa using hy) hx,if_neg hne,hu,List.take_add_one (i:=m+1),hx];rfl
theorem Kr (S:List Txt):uniq (S.take 1)=S.take 1:=by cases S<;>simp [uniq]
end Lab
end
end Go.Eng
