/- Part of a proof of a law: rules of an evaluator, contracts, plain laws. No condition of its own. -/
import Derived.Test.YtmcjcbldmoijiaaGreatDoorSymC
import Derived.Test.YtmcjcbldmoijiaaGreatDoorEngD
import Derived.Test.YtmcjcbldmoijiaaGreatDoorSymB
set_option linter.unusedVariables false
set_option linter.unusedSimpArgs false
namespace Go.Eng
noncomputable section
theorem ak.turn {x y:Fact} {fs:List Fact} {h aB:ag} (s:ak (x::fs) h) (hw:qn aB) (hn:h.next≤aB.next) (hi:x.c7=[]) (tR:y.c7=[])
  (Rm:∀b,b<h.next→b∉x.own→T.get b aB.t=T.get b h.t) (z1:∀b,b<h.next→b∉x.own→T.get b aB.bJ=T.get b h.bJ)
  (yv:∀b∈y.own,b∈x.own∨h.next≤b) (aax:y.own.Nodup) (b4:∀Z,y.holds Z aB):ak (y::fs) aB:=by
 obtain ⟨Z,s⟩:=s
 have Ax:∀b∈x.own,¬Z b∧8≤b:=fun b hb=>s.jw b (by rw [gq];exact List.mem_append_left _ hb)
 have Bi:=s.hJ
 rw [gq,List.nodup_append] at Bi
 obtain ⟨_,eP,Rn⟩:=Bi
 have hz:∀b,Z b→T.get b aB.t=T.get b h.t:=fun b hb=>Rm b (wT s hb) fun hm=>(Ax b hm).1 hb
 have hlt:∀b∈owns fs,b<h.next:=fun b hb=>vp s (by rw [gq];exact List.mem_append_right _ hb)
 have fB:∀b∈owns fs,b∉x.own:=fun b hb hm=>Rn b hm b hb rfl
 have rj:∀b∈bJ fs,b<h.next:=fun b hb=>Lz s (by rw [kn];exact List.mem_append_right _ hb)
 have pd:∀b∈bJ fs,b∉x.own:=fun b hb hm=>s.dC b (by rw [gq];exact List.mem_append_left _ hm) (by rw [kn];exact List.mem_append_right _ hb)
 refine ⟨Z,hw,fun b hb=>by rw [hz b hb];exact s.z b hb,fun b hb=> ?_, ?_, ?_,fun b hb hf=> ?_,fun w vz=> ?_⟩
 · rw [gq] at hb
   rcases List.mem_append.1 hb with hb|hb
   · rcases yv b hb with hb|hb
     · exact Ax b hb
     · exact ⟨fun e=>absurd (wT s e) (by omega),by have:=s.wf.lim;omega⟩
   · exact s.jw b (by rw [gq];exact List.mem_append_right _ hb)
 · rw [gq]
   refine List.nodup_append.2 ⟨aax,eP,fun a ha b hb e=> ?_⟩
   subst e
   rcases yv a ha with ha|ha
   · exact Rn a ha a hb rfl
   · have:=hlt a hb;omega
 · rw [kn,tR];have:=s.lV;rw [kn,hi] at this;exact this
 · rw [kn,tR] at hf
   rw [gq] at hb
   rcases List.mem_append.1 hb with hb|hb
   · rcases yv b hb with hb|hb
     · exact s.dC b (by rw [gq];exact List.mem_append_left _ hb) (by rw [kn];exact List.mem_append_right _ hf)
     · have:=rj b hf;omega
   · exact s.dC b (by rw [gq];exact List.mem_append_right _ hb) (by rw [kn];exact List.mem_append_right _ hf)
 · rcases List.mem_cons.1 vz with rfl|vz
   · exact b4 Z
   · exact Fact.stay (s.all w (by simp [vz])) (fun b hb=>⟨hb,hz b hb⟩) (fun b hb=>Rm b (hlt b (vq vz hb)) (fB b (vq vz hb))) (fun b hb=>z1 b (hlt b (vq vz hb)) (fB b (vq vz hb))) fun g hg=>z1 g (rj g (LB vz hg)) (pd g (LB vz hg))
theorem ak.w9 {fs:List Fact} {h:ag} (s:ak fs h) (k:Nat) {bs:List Nat} {f r:Nat} {v:V} {rows:List (List V)} (hk:fs[k]? =some (.cX bs f r v rows)):jv bs f r h v rows:=by
 obtain ⟨Z,s⟩:=s
 exact (s.all (.cX bs f r v rows) (List.mem_of_getElem? hk)).1
theorem jv.rows {bs:List Nat} {f r:Nat} {h:ag} {v:V} {rows:List (List V)} (hr:0<r) (a:jv bs f r h v rows):Rows r h v rows:=by
 cases a with
 |nil=>exact .nil
 |row ge hb hf aO dh len mem=>
  refine .row hr aO (Nat.zero_mod r) (fun i row aq=> ?_) (by rw [Nat.zero_add];exact Nat.mul_le_mul_right _ (by omega)) fun row hm=>len row (List.mem_append_left _ hm)
  rw [Nat.zero_div,Nat.zero_add]
  refine dh i row ?_
  rw [List.getElem?_append_left (List.getElem?_eq_some_iff.1 aq).1];exact aq
theorem ak.ib {fs:List Fact} {h:ag} (s:ak fs h) (k:Nat) {bs:List Nat} {f r:Nat} {v:V} {rows:List (List V)} (hk:fs[k]? =some (.cX bs f r v rows)) (hr:0<r):Rows r h v rows:=(s.w9 k hk).rows hr
theorem ak.xa {fs:List Fact} {h:ag} (s:ak fs h) (r:Nat):ak (.cX [] 0 r .U []::fs) h:=by
 obtain ⟨Z,s⟩:=s
 refine ⟨Z,s.wf,s.z,s.jw,s.hJ,s.lV,s.dC,fun x hx=> ?_⟩
 rcases List.mem_cons.1 hx with rfl|hx
 · exact ⟨.nil rfl,fun b hb=>by simp at hb⟩
 · exact s.all x hx
theorem ak.Bj {fs:List Fact} {h:ag} {bs:List Nat} {f r:Nat} {v:V} {rows:List (List V)} (s:ak (.cX bs f r v rows::fs) h) (hr:0<r):ak (.ay (fun h=>Rows r h v rows)::fs) h:=by
 obtain ⟨Z,s⟩:=s
 obtain ⟨a,sr⟩:=s.all (.cX bs f r v rows) (by simp)
 have fB:∀b∈bs,b∉owns fs:=fun b hb hm=>by
  have:=s.hJ;rw [gq,List.nodup_append] at this
  exact this.2.2 b hb b hm rfl
 refine ⟨fun b=>Z b∨b∈bs,s.wf,fun b hb=>hb.elim (s.z b) (sr b),fun b hb=>⟨fun e=>e.elim (s.jw b (by rw [gq];exact List.mem_append_right _ hb)).1 fun hm=>fB b hm hb,(s.jw b (by rw [gq];exact List.mem_append_right _ hb)).2⟩, ?_,s.lV,fun b hb hf=>s.dC b (by rw [gq];exact List.mem_append_right _ hb) hf,fun x hx=> ?_⟩
 · have:=s.hJ;rw [gq,List.nodup_append] at this
   exact this.2.1
 · rcases List.mem_cons.1 hx with rfl|hx
   · intro aB hz
     cases a with
     |nil=>exact .nil
     |row ge hb hf aO dh len mem=>
      refine .row hr ((hz _ (.inr hb)).trans aO) (Nat.zero_mod r) (fun i row aq=> ?_) (by rw [Nat.zero_add];exact Nat.mul_le_mul_right _ (by omega)) fun row hm=>len row (List.mem_append_left _ hm)
      rw [Nat.zero_div,Nat.zero_add]
      refine dh i row ?_
      rw [List.getElem?_append_left (List.getElem?_eq_some_iff.1 aq).1];exact aq
   · exact Fact.stay (s.all x (by simp [hx])) (fun b hb=>⟨.inl hb,rfl⟩) (fun _ _=>rfl) (fun _ _=>rfl) fun _ _=>rfl
theorem jv.cut {bs:List Nat} {f r b m n:Nat} {h:ag} {cap:Option Nat} {rows:List (List V)} (a:jv bs f r h (.av b m n cap) rows) {k:Nat} (hk:k≤n):jv bs f r h (.av b m k cap) (rows.take k):=by
 cases a with
 |row ge hb hf aO dh len mem=>
  rename_i ap hid t
  have e:(rows.take k).length=k:=by rw [List.length_take];omega
  have:=jv.row (rows:=rows.take k) (hid:=rows.drop k++hid) (ap:=ap) (t:=t) (bs:=bs) (f:=f) (r:=r) (h:=h) ge hb hf (by rw [aO];congr 3;simp;omega) (fun i row aq=>dh i row (by rw [←List.append_assoc,List.take_append_drop] at aq;exact aq)) (fun row hm=>len row (by rw [←List.append_assoc,List.take_append_drop] at hm;exact hm)) mem
  rw [e] at this;exact this
theorem ak.Ro {fs:List Fact} {h:ag} {bs:List Nat} {f r b m n:Nat} {cap:Option Nat} {rows:List (List V)} (s:ak (.cX bs f r (.av b m n cap) rows::fs) h) {k:Nat} (hk:k≤n):ak (.cX bs f r (.av b m k cap) (rows.take k)::fs) h:=by
 obtain ⟨Z,s⟩:=s
 refine ⟨Z,s.wf,s.z,s.jw,s.hJ,s.lV,s.dC,fun x hx=> ?_⟩
 rcases List.mem_cons.1 hx with rfl|hx
 · obtain ⟨a,hz⟩:=s.all (.cX bs f r (.av b m n cap) rows) (by simp)
   exact ⟨a.cut hk,hz⟩
 · exact s.all x (by simp [hx])
theorem Mf (bH aq but:Nat):∀(l:List Nat) (h:ag) (b:Nat),b∉l→T.get b (lg bH aq but l h).t=T.get b h.t
 |[],_,_,_=>rfl
 |m::l,h,b,hb=>by
  have h1:b≠m:=fun e=>hb (by rw [e];simp)
  have h2:b∉l:=fun e=>hb (by simp [e])
  rw [lg,Mf bH aq but l _ b h2]
  split
  · rfl
  · unfold u3 tm Obj.cells? ag.obj
    cases T.get m h.t with
    |none=>rfl
    |some aO=>
     cases aO with
     |cells r f a n t=>
      simp only
      cases (a.blt aq&&bH.blt (Nat.add a n)) with
      |false=>rfl
      |true=>simp only [sk,id];rw [T.fJ (Nat.zero_le _) (Nat.zero_le _),if_neg h1]
     |_=>rfl
theorem Rp (bH aq but:Nat) (l:List Nat) (h:ag) (b:Nat):T.get b (lg bH aq but l h).t≠none↔T.get b h.t≠none:=by
 rcases Ai bH aq but l h (fun _ _=>Nat.zero_le _) with ⟨h1,_⟩|cy
 · rcases h1.at_ b (Nat.zero_le _) with e|⟨e,bu⟩
   · rw [e]
   · rw [e];simp [bu]
 · exact absurd (Nat.zero_le _) cy
theorem aay {h:ag} {f bH aq but b:Nat} (hm:∀F,T.get f h.bJ=some F→b∉F.mem):T.get b (lR h f bH aq but).t=T.get b h.t:=by
 unfold lR
 cases e:T.get f h.bJ with
 |none=>rfl
 |some F=>exact Mf bH aq but F.mem h b (hm F e)
theorem aaz (h:ag) (f bH aq but b:Nat):T.get b (lR h f bH aq but).t≠none↔T.get b h.t≠none:=by
 unfold lR
 cases T.get f h.bJ with
 |none=>exact Iff.rfl
 |some F=>exact Rp bH aq but F.mem h b
theorem aaA {r i k:Nat} {new:List (List V)} (hr:0<r) (hk:0<k) (hn:new.length=k) (au:∀row∈new,row.length=r) (t:T (List V)):
  ∃hY,(∀{R:Type} (d:R) (c:T (List V)→R),over d r (i * r) (k * r) new.flatten t c=c hY)∧∀j,T.get j hY=if i≤j∧j<i+k then new[j - i]? else T.get j t:=by
 have hm:(i * r).mod r=0:=Nat.mul_mod_left i r
 have aX:(i * r).div r=i:=Nat.mul_div_cancel i hr
 by_cases h1:k=1
 · subst h1
   obtain ⟨row,rfl⟩:=List.length_eq_one_iff.1 hn
   have dh:row.length=r:=au row (by simp)
   refine ⟨T.set i row t,fun d c=> ?_,fun j=> ?_⟩
   · unfold over
     rw [hm,show ((1 * r).beq r&&Nat.beq 0 0)=true by rw [Nat.one_mul,Nat.beq_refl];rfl,cond_true,nE,aX]
     simp
   · rw [T.fJ (Nat.zero_le _) (Nat.zero_le _)]
     by_cases e:j=i
     · subst e;simp
     · rw [if_neg e,if_neg (by omega)]
 · refine ⟨e4 r k i new.flatten t,fun d c=> ?_,fun j=> ?_⟩
   · unfold over
     have aT:(k * r).beq r=false:=by
      rw [jr];have:k * r≠r:=fun e=>h1 (Nat.eq_of_mul_eq_mul_right hr (e.trans (Nat.one_mul r).symm));simp [this]
     have bu:(Nat.add 0 (k * r)).ble r=false:=by
      rw [fa]
      have:¬0+k * r≤r:=by
       have:2 * r≤k * r:=Nat.mul_le_mul_right _ (by omega)
       omega
      simpa using this
     have dH:(k * r).mod r=0:=Nat.mul_mod_left k r
     have gC:(k * r).div r=k:=Nat.mul_div_cancel k hr
     rw [hm,aT,bu,dH,gC,aX]
     simp
   · rw [q9 r _ _ _ t j (by omega) (by omega)]
     by_cases aV:i≤j∧j<i+k
     · rw [if_pos aV,if_pos aV]
       have hlt:j - i<new.length:=by omega
       rw [List.getElem?_eq_getElem hlt,wU (j - i) au (List.getElem?_eq_getElem hlt)]
     · rw [if_neg aV,if_neg aV]
theorem ak.Ef {fs:List Fact} {h:ag} {bs:List Nat} {f r b m n:Nat} {cap:Option Nat} {rows new:List (List V)} (s:ak (.cX bs f r (.av b m n cap) rows::fs) h) (hr:0<r) {i k:Nat} (hk:0<k) (nb:new.length=k) (au:∀row∈new,row.length=r) (aq:i+k≤rows.length):
  ∃aB,(∀{R:Type} (d:R) (K:ag→R),h.ef b (i * r) (k * r) new.flatten d K=K aB)∧ak (.cX bs f r (.av b m n cap) (rows.take i++new++rows.drop (i+k))::fs) aB:=by
 obtain ⟨a,sr⟩:jv bs f r h (.av b m n cap) rows∧∀b∈bs,T.get b h.t≠none:=by
  obtain ⟨Z,s⟩:=s
  exact s.all (.cX bs f r (.av b m n cap) rows) (by simp)
 have u2:=s.wf
 cases a with
 |row ge hb hf aO dh len mem=>
  rename_i ap hid t
  obtain ⟨hY,oy,na⟩:=aaA (i:=i) hr hk nb au t
  have hlen:(rows.take i++new++rows.drop (i+k)).length=rows.length:=by simp;omega
  let h1:=lR h f (ap+i * r) (ap+i * r+k * r) b
  have rj:mV h h1:=(J5 h f _ _ b (fun _ _ _ _=>Nat.zero_le _) (Nat.zero_le _)).1
  refine ⟨⟨T.set b (.cells r f ap ((rows.length+hid.length) * r) hY) h1.t,h.next,h.bJ,h.ds,h.bI⟩,fun d K=> ?_, ?_⟩
  · unfold ag.ef
    have ja:(k * r).beq 0=false:=by rw [jr];have:0<k * r:=Nat.mul_pos hk hr;simp;omega
    rw [ja,show b.blt 8=false by rw [gG];simpa using ge,show h.obj b=_ from aO]
    show (bif (Nat.add (i * r) (k * r)).ble ((rows.length+hid.length) * r) then over d r (i * r) (k * r) new.flatten t (fun rows'=>h.uU f (Nat.add ap (i * r)) (Nat.add (Nat.add ap (i * r)) (k * r)) b fun h=>h.kG b (.cells r f ap ((rows.length+hid.length) * r) rows') K) else d)=_
    have aT:(Nat.add (i * r) (k * r)).ble ((rows.length+hid.length) * r)=true:=by
     rw [fa]
     have:i * r+k * r≤(rows.length+hid.length) * r:=by rw [←Nat.add_mul];exact Nat.mul_le_mul_right _ (by omega)
     simpa using this
    rw [aT,cond_true,oy,OQ,sk]
    show K ⟨T.set b _ h1.t,h1.next,h1.bJ,h1.ds,h1.bI⟩=_
    rw [rj.next,rj.bJ,rj.ds,rj.bI]
  · have Mg:∀c,T.get c (T.set b (.cells r f ap ((rows.length+hid.length) * r) hY) h1.t)=if c=b then some (.cells r f ap ((rows.length+hid.length) * r) hY) else T.get c h1.t:=fun c=>T.fJ (Nat.zero_le _) (Nat.zero_le _) ..
    have Rq:∀c,T.get c (T.set b (.cells r f ap ((rows.length+hid.length) * r) hY) h1.t)≠none↔T.get c h.t≠none:=fun c=>by
     rw [Mg]
     by_cases e:c=b
     · subst e;rw [if_pos rfl];simp [aO]
     · rw [if_neg e];exact aaz h f _ _ b c
    have hnd:bs.Nodup:=by
     obtain ⟨Z,s⟩:=s
     have:=s.hJ;rw [gq,List.nodup_append] at this
     exact this.1
    refine s.turn ⟨fun c ax=>u2.t c ((Rq c).1 ax),u2.f,u2.lim⟩ (Nat.le_refl _) rfl rfl (fun c ax hm=> ?_) (fun _ _ _=>rfl) (fun c ax=> .inl ax) hnd fun Z=>⟨?_,fun c ax=>(Rq c).2 (sr c ax)⟩
    · show T.get c (T.set b _ h1.t)=_
      rw [Mg,if_neg (fun e=>hm (by rw [e];exact hb))]
      exact aay fun F cj sl=>hm (mem F cj c sl)
    · have:=jv.row (bs:=bs) (f:=f) (r:=r) (ap:=ap) (hid:=hid) (t:=hY) (h:=⟨T.set b (.cells r f ap ((rows.length+hid.length) * r) hY) h1.t,h.next,h.bJ,h.ds,h.bI⟩) (rows:=rows.take i++new++rows.drop (i+k)) ge hb hf (by rw [hlen];exact (Mg b).trans (if_pos rfl)) (fun j row aV=> ?_) (fun row hm=> ?_) mem
      · rw [hlen] at this;exact this
      · rw [na]
        rw [List.append_assoc,List.append_assoc] at aV
        by_cases c1:j<i
        · rw [if_neg (by omega)]
          rw [List.getElem?_append_left (by rw [List.length_take];omega),List.getElem?_take_of_lt c1] at aV
          exact dh j row (by rw [List.getElem?_append_left (by omega)];exact aV)
        · rw [List.getElem?_append_right (by rw [List.length_take];omega),List.length_take,Nat.min_eq_left (by omega)] at aV
          by_cases c2:j<i+k
          · rw [if_pos ⟨by omega,c2⟩]
            rw [List.getElem?_append_left (by omega)] at aV
            exact aV.symm▸rfl
          · rw [if_neg (by omega)]
            rw [List.getElem?_append_right (by omega),nb] at aV
            refine dh j row ?_
            by_cases cI:j<rows.length
            · rw [List.getElem?_append_left (by rw [List.length_drop];omega),List.getElem?_drop] at aV
              rw [List.getElem?_append_left cI,←aV];congr 1;omega
            · rw [List.getElem?_append_right (by rw [List.length_drop];omega),List.length_drop] at aV
              rw [List.getElem?_append_right (by omega),←aV];congr 1;omega
      · rcases List.mem_append.1 hm with hm|hm
        · rcases List.mem_append.1 hm with hm|hm
          · rcases List.mem_append.1 hm with hm|hm
            · exact len row (List.mem_append_left _ (List.mem_of_mem_take hm))
            · exact au row hm
          · exact len row (List.mem_append_left _ (List.mem_of_mem_drop hm))
        · exact len row (List.mem_append_right _ hm)
end
end Go.Eng
namespace Go.Eng
noncomputable section
theorem ak.HH {fs:List Fact} {h:ag} {bs:List Nat} {f r:Nat} {v:V} {rows:List (List V)} (s:ak (.cX bs f r v rows::fs) h):bs.Nodup∧(∀b∈bs,T.get b h.t≠none)∧jv bs f r h v rows:=by
 obtain ⟨Z,s⟩:=s
 have:=s.hJ;rw [gq,List.nodup_append] at this
 obtain ⟨a,hz⟩:=s.all (.cX bs f r v rows) (by simp)
 exact ⟨this.1,hz,a⟩
theorem ak.aaB {fs:List Fact} {h:ag} {bs:List Nat} {f r:Nat} {v v':V} {rows rows':List (List V)} (s:ak (.cX bs f r v rows::fs) h) (ha:jv bs f r h v' rows'):ak (.cX bs f r v' rows'::fs) h:=by
 obtain ⟨Z,s⟩:=s
 refine ⟨Z,s.wf,s.z,s.jw,s.hJ,s.lV,s.dC,fun x hx=> ?_⟩
 rcases List.mem_cons.1 hx with rfl|hx
 · exact ⟨ha,(s.all (.cX bs f r v rows) (by simp)).2⟩
 · exact s.all x (by simp [hx])
theorem aaC (h:ag) (b f ap bo e top:Nat):(js h b f ap bo e top).next=h.next∧(js h b f ap bo e top).ds=h.ds∧(js h b f ap bo e top).bI=h.bI:=by
 unfold js;split<;>exact ⟨rfl,rfl,rfl⟩
theorem aaD (h:ag) (b f ap bo e top k:Nat) (hk:k≠f):T.get k (js h b f ap bo e top).bJ=T.get k h.bJ:=by
 unfold js;split<;>exact (T.fJ (Nat.zero_le _) (Nat.zero_le _) ..).trans (if_neg hk)
theorem aaE {h:ag} {b f ap bo e top k:Nat} (hb:k≠b) (hm:∀F,T.get f h.bJ=some F→k∉F.mem):T.get k (js h b f ap bo e top).t=T.get k h.t:=by
 unfold js
 split
 · show T.get k (if e<ap+bo then (⟨T.set b .dead h.t,h.next,h.bJ,h.ds,h.bI⟩:ag) else h).t=_
   split
   · exact (T.fJ (Nat.zero_le _) (Nat.zero_le _) ..).trans (if_neg hb)
   · rfl
 · rename_i F cj
   show T.get k (if F.last≤e then h else lg e (F.last+top) h.next F.mem h).t=_
   split
   · rfl
   · exact Mf _ _ _ _ _ _ (hm F cj)
theorem aaF {h:ag} {b f ap bo e top:Nat} (hb:T.get b h.t≠none) (k:Nat):T.get k (js h b f ap bo e top).t≠none↔T.get k h.t≠none:=by
 unfold js
 split
 · show T.get k (if e<ap+bo then (⟨T.set b .dead h.t,h.next,h.bJ,h.ds,h.bI⟩:ag) else h).t≠none↔_
   split
   · show T.get k (T.set b .dead h.t)≠none↔_
     rw [T.fJ (Nat.zero_le _) (Nat.zero_le _)]
     by_cases e:k=b
     · subst e;simp [hb]
     · rw [if_neg e]
   · exact Iff.rfl
 · rename_i F cj
   show T.get k (if F.last≤e then h else lg e (F.last+top) h.next F.mem h).t≠none↔_
   split
   · exact Iff.rfl
   · exact Rp _ _ _ _ _ _
theorem aaG (h:ag) (b f ap bo e top:Nat):∃F,T.get f (js h b f ap bo e top).bJ=some F∧∀m∈F.mem,m=h.next∨m=b∨∃cW,T.get f h.bJ=some cW∧m∈cW.mem:=by
 unfold js
 split
 · exact ⟨_,T.Ab _ _ _,fun m hm=>by simp at hm;rcases hm with h|h<;>simp [h]⟩
 · rename_i F cj
   exact ⟨_,T.Ab _ _ _,fun m hm=>by
    rcases List.mem_cons.1 hm with h|h
    · exact .inl h
    · exact .inr (.inr ⟨F,cj,h⟩)⟩
theorem ak.HI {fs:List Fact} {h:ag} {bs:List Nat} {f r bytes:Nat} {v:V} {rows new:List (List V)} (s:ak (.cX bs f r v rows::fs) h) (hr:0<r) (au:∀row∈new,row.length=r) (fx:(rows.length+new.length) * bytes≤1099511627776):
  ∃rF dG v' aB,gk h r bytes v new.flatten new.length= .ok v' aB∧ak (.cX rF dG r v' (rows++new)::fs) aB:=by
 obtain ⟨hnd,sr,a⟩:=s.HH
 have w:=s.wf
 by_cases yw:new.length=0
 · obtain rfl:new=[]:=by simpa using yw
   refine ⟨bs,f,v,h, ?_,by rw [List.append_nil];exact s⟩
   cases a with
   |nil=>rfl
   |row a=>rfl
 have j7:Nat.beq new.length 0=false:=by
  cases e:Nat.beq new.length 0 with
  |false=>rfl
  |true=>exact absurd (Nat.eq_of_beq_eq_true e) yw
 have hfn:T.get h.next h.bJ=none:=by
  cases e:T.get h.next h.bJ with
  |none=>rfl
  |some F=>have:=w.f h.next (by rw [e];simp);omega
 have aiO:T.get h.next h.t=none:=by
  cases e:T.get h.next h.t with
  |none=>rfl
  |some F=>have:=w.t h.next (by rw [e];simp);omega
 cases a with
 |nil aaH=>
  subst aaH
  have hok:fv (.cells r h.next 0 (new.length * r) (e4 r new.length 0 new.flatten T.e))=true:=by show Nat.blt 0 r=true;rw [gG];simpa using hr
  refine ⟨[h.next],h.next, .av h.next 0 new.length none,h.add (.cells r h.next 0 (new.length * r) (e4 r new.length 0 new.flatten T.e)), ?_, ?_⟩
  · unfold gk
    have h1:(Nat.mul new.length bytes).ble 1099511627776=true:=by
     rw [fa];have:new.length * bytes≤1099511627776:=by simpa using fx
     simpa using this
    simp only [j7,cond_false,h1,cond_true,force_eq,iI]
    show (Bool.rec .bad (h.la (.cells r h.next 0 (Nat.mul new.length r) (e4 r new.length 0 new.flatten T.e)) fun h2=> .ok (.av h.next 0 new.length none) h2) (fv (.cells r h.next 0 (Nat.mul new.length r) (e4 r new.length 0 new.flatten T.e))):bg)=_
    rw [show fv (.cells r h.next 0 (Nat.mul new.length r) (e4 r new.length 0 new.flatten T.e))=true from hok,oA];rfl
  · refine s.turn (Fr.add h _ |>.wf w) (Nat.le_succ _) rfl rfl (fun b hb _=>AQ hb) (fun _ _ _=>rfl) (fun b hb=> .inr (by simp [Fact.own] at hb;omega)) (by simp [Fact.own]) fun Z=>⟨?_,fun b hb=> ?_⟩
    · have:=jv.row (bs:=[h.next]) (f:=h.next) (r:=r) (h:=h.add (.cells r h.next 0 (new.length * r) (e4 r new.length 0 new.flatten T.e))) (rows:=new) (hid:=[]) w.lim (by simp) (by simp) (by rw [vn,List.length_nil,Nat.add_zero]) (fun i row aq=> ?_) (fun row hm=>au row (by simpa using hm)) (fun F cj=> ?_)
      · rw [List.nil_append];exact this
      · rw [List.append_nil] at aq
        rw [q9 r _ 0 _ T.e i (by omega) (by omega),if_pos ⟨by omega,by have:=(List.getElem?_eq_some_iff.1 aq).1;omega⟩,Nat.sub_zero,wU i au aq]
      · have cj:T.get h.next h.bJ=some F:=cj
        rw [hfn] at cj;cases cj
    · have:b=h.next:=by simpa using hb
      subst this;rw [vn];simp
 |row ge hb hf aO dh len mem=>
  rename_i b ap hid t
  have ja:∀X:bg,(bif (Nat.mul (Nat.add rows.length new.length) bytes).ble 1099511627776&&Nat.ble 8 b then X else .bad)=X:=fun X=>by
   have h1:(Nat.mul (Nat.add rows.length new.length) bytes).ble 1099511627776=true:=by rw [fa];simpa using fx
   have h2:Nat.ble 8 b=true:=Nat.ble_eq_true_of_le ge
   rw [h1,h2];rfl
  have aaI:gk h r bytes (.av b 0 rows.length none) new.flatten new.length=(bif (Nat.add 0 (Nat.mul (Nat.add rows.length new.length) r)).ble ((rows.length+hid.length) * r) then h.ef b (Nat.add 0 (Nat.mul rows.length r)) (Nat.mul new.length r) new.flatten bg.bad fun h=>bg.ok (.av b 0 (Nat.add rows.length new.length) none) h
        else bif (Nat.add 0 (Nat.mul rows.length r)).ble ((rows.length+hid.length) * r) then
         grown h b f ap ((rows.length+hid.length) * r) (Nat.add (Nat.add ap 0) (Nat.mul rows.length r)) (Nat.add (Nat.add ap 0) (Nat.mul (Nat.add rows.length new.length) r)) fun bj=>gQ r new.length rows.length new.flatten t fun t=>mk bj (.cells r f ap (Nat.mul (Nat.add rows.length new.length) r) t) (.av h.next 0 (Nat.add rows.length new.length) none)
        else .bad):=by
   unfold gk Go.Eng.q3
   simp only [j7,cond_false,force_eq]
   rw [ja]
   show (Obj.cells? .bad _ (h.obj b):bg)=_
   rw [show h.obj b=some (.cells r f ap ((rows.length+hid.length) * r) t) from aO]
   have c1:(r.beq r&&(Nat.mod 0 r).beq 0)=true:=by
    have:Nat.mod 0 r=0:=Nat.zero_mod r
    rw [this,Nat.beq_refl];rfl
   show (bif (r.beq r&&(Nat.mod 0 r).beq 0) then _ else _)=_
   rw [c1,cond_true];rfl
  rw [aaI]
  by_cases hin:new.length≤hid.length
  · have c2:(Nat.add 0 (Nat.mul (Nat.add rows.length new.length) r)).ble ((rows.length+hid.length) * r)=true:=by
     rw [fa]
     have:0+(rows.length+new.length) * r≤(rows.length+hid.length) * r:=by rw [Nat.zero_add];exact Nat.mul_le_mul_right _ (by omega)
     simpa using this
    rw [c2,cond_true]
    have wide:jv bs f r h (.av b 0 (rows++hid).length none) (rows++hid):=jv.row (hid:=[]) ge hb hf (by rw [aO];congr 3;simp) (by rw [List.append_nil];exact dh) (by rw [List.append_nil];exact len) mem
    have s1:=s.aaB wide
    obtain ⟨aB,e5,s2⟩:=s1.Ef hr (i:=rows.length) (k:=new.length) (by omega) rfl au (by simp;omega)
    refine ⟨bs,f, .av b 0 (rows.length+new.length) none,aB, ?_, ?_⟩
    · show h.ef b (0+rows.length * r) (new.length * r) new.flatten bg.bad (fun h=>bg.ok (.av b 0 (rows.length+new.length) none) h)=_
      rw [Nat.zero_add,e5]
    · have gb:=s2.Ro (k:=rows.length+new.length) (by simp;omega)
      have e:((rows++hid).take rows.length++new++(rows++hid).drop (rows.length+new.length)).take (rows.length+new.length)=rows++new:=by
       rw [List.take_left' rfl,List.take_left' (by simp)]
      rw [e] at gb;exact gb
  · have c2:(Nat.add 0 (Nat.mul (Nat.add rows.length new.length) r)).ble ((rows.length+hid.length) * r)=false:=by
     rw [fa]
     have:¬(0+(rows.length+new.length) * r≤(rows.length+hid.length) * r):=by
      rw [Nat.zero_add];intro ax
      have:=Nat.le_of_mul_le_mul_right ax hr
      omega
     simpa using this
    have cI:(Nat.add 0 (Nat.mul rows.length r)).ble ((rows.length+hid.length) * r)=true:=by
     rw [fa]
     have:0+rows.length * r≤(rows.length+hid.length) * r:=by rw [Nat.zero_add];exact Nat.mul_le_mul_right _ (by omega)
     simpa using this
    rw [c2,cond_false,cI,cond_true,OU _ _ _ _ _ _ _ _ (fun _ _ _ _=>Nat.zero_le _) (Nat.zero_le _),iI]
    generalize hg:js h b f ap ((rows.length+hid.length) * r) (Nat.add (Nat.add ap 0) (Nat.mul rows.length r)) (Nat.add (Nat.add ap 0) (Nat.mul (Nat.add rows.length new.length) r))=g
    have g1:=aaC h b f ap ((rows.length+hid.length) * r) (Nat.add (Nat.add ap 0) (Nat.mul rows.length r)) (Nat.add (Nat.add ap 0) (Nat.mul (Nat.add rows.length new.length) r))
    have g2:=aaD h b f ap ((rows.length+hid.length) * r) (Nat.add (Nat.add ap 0) (Nat.mul rows.length r)) (Nat.add (Nat.add ap 0) (Nat.mul (Nat.add rows.length new.length) r))
    have g3:= @aaE h b f ap ((rows.length+hid.length) * r) (Nat.add (Nat.add ap 0) (Nat.mul rows.length r)) (Nat.add (Nat.add ap 0) (Nat.mul (Nat.add rows.length new.length) r))
    have g4:= @aaF h b f ap ((rows.length+hid.length) * r) (Nat.add (Nat.add ap 0) (Nat.mul rows.length r)) (Nat.add (Nat.add ap 0) (Nat.mul (Nat.add rows.length new.length) r)) (sr b hb)
    obtain ⟨F,g5,g6⟩:=aaG h b f ap ((rows.length+hid.length) * r) (Nat.add (Nat.add ap 0) (Nat.mul rows.length r)) (Nat.add (Nat.add ap 0) (Nat.mul (Nat.add rows.length new.length) r))
    rw [hg] at g1 g2 g3 g4 g5
    have aC:fv (.cells r f ap (Nat.mul (Nat.add rows.length new.length) r) (e4 r new.length rows.length new.flatten t))=true:=by show Nat.blt 0 r=true;rw [gG];simpa using hr
    have xb:∀c∈bs,c<h.next:=fun c ax=>w.t c (sr c ax)
    refine ⟨h.next::bs,f, .av h.next 0 (rows.length+new.length) none,g.add (.cells r f ap ((rows.length+new.length) * r) (e4 r new.length rows.length new.flatten t)), ?_, ?_⟩
    · show (Bool.rec .bad (g.la (.cells r f ap (Nat.mul (Nat.add rows.length new.length) r) (e4 r new.length rows.length new.flatten t)) fun h2=> .ok (.av h.next 0 (Nat.add rows.length new.length) none) h2) (fv (.cells r f ap (Nat.mul (Nat.add rows.length new.length) r) (e4 r new.length rows.length new.flatten t))):bg)=_
      rw [aC,oA];rfl
    · have aaJ:g.next=h.next:=g1.1
      have HJ:∀k,T.get k (g.add (.cells r f ap ((rows.length+new.length) * r) (e4 r new.length rows.length new.flatten t))).t=if k=h.next then some (.cells r f ap ((rows.length+new.length) * r) (e4 r new.length rows.length new.flatten t)) else T.get k g.t:=fun k=>by rw [Dp,aaJ]
      have bO:∀k,k<h.next→k≠h.next:=fun k hk=>by omega
      refine s.turn ⟨fun k hk=> ?_,fun k hk=> ?_, ?_⟩ (by show h.next≤g.next+1;omega) rfl rfl (fun k hk hm=> ?_) (fun k hk hm=> ?_) (fun k hk=> ?_) ?_ fun Z=>⟨?_,fun k hk=> ?_⟩
      · show k<g.next+1
        rw [HJ] at hk
        by_cases e:k=h.next
        · omega
        · rw [if_neg e] at hk
          have:=w.t k ((g4 k).1 hk);omega
      · show k<g.next+1
        have hk:T.get k g.bJ≠none:=hk
        by_cases e:k=f
        · have:=xb f hf;omega
        · rw [g2 k e] at hk;have:=w.f k hk;omega
      · show 8≤g.next+1
        have:=w.lim;omega
      · rw [HJ,if_neg (bO k hk)]
        exact g3 (fun e=>hm (by rw [e];exact hb)) fun F cj sl=>hm (mem F cj k sl)
      · exact g2 k fun e=>hm (by rw [e];exact hf)
      · rcases List.mem_cons.1 hk with rfl|hk
        · exact .inr (Nat.le_refl _)
        · exact .inl hk
      · exact List.nodup_cons.2 ⟨fun hm=>by have:=xb _ hm;omega,hnd⟩
      · have hlen:(rows++new).length=rows.length+new.length:=by simp
        have:=jv.row (bs:=h.next::bs) (f:=f) (r:=r) (ap:=ap) (h:=g.add (.cells r f ap ((rows.length+new.length) * r) (e4 r new.length rows.length new.flatten t))) (b:=h.next) (rows:=rows++new) (hid:=[]) w.lim (by simp) (by simp [hf]) (by rw [HJ,if_pos rfl,hlen];rfl) (fun i row aq=> ?_) (fun row hm=> ?_) (fun F' mg m hm=> ?_)
        · rw [hlen] at this;exact this
        · rw [List.append_nil] at aq
          rw [q9 r _ _ _ t i (by omega) (by omega)]
          have oH:=(List.getElem?_eq_some_iff.1 aq).1
          rw [hlen] at oH
          by_cases hlt:i<rows.length
          · rw [if_neg (by omega)]
            rw [List.getElem?_append_left hlt] at aq
            exact dh i row (by rw [List.getElem?_append_left hlt];exact aq)
          · rw [if_pos ⟨by omega,by omega⟩]
            rw [List.getElem?_append_right (by omega)] at aq
            rw [wU _ au aq]
        · rw [List.append_nil] at hm
          rcases List.mem_append.1 hm with hm|hm
          · exact len row (List.mem_append_left _ hm)
          · exact au row hm
        · have mg:T.get f g.bJ=some F':=mg
          rw [g5] at mg;cases mg
          rcases g6 m hm with rfl|rfl|⟨cW,km,yw⟩
          · simp
          · simp [hb]
          · exact List.mem_cons_of_mem _ (mem cW km m yw)
      · rw [HJ]
        rcases List.mem_cons.1 hk with rfl|hk
        · rw [if_pos rfl];simp
        · rw [if_neg (bO k (xb k hk))];exact (g4 k).2 (sr k hk)
section
variable {c:Ctx} {Q:jd} {env:Env} {h:ag} {fs:List Fact} {vs:List V} {l:List dp} {i j:bx} {bs:List Nat} {f r bytes:Nat} {v hP:V} {rows new:List (List V)}
theorem I.Mh {s x:A} (st:ak (.cX bs f r v rows::fs) h) (aC:s.ev vs env=v) (hx:x.ev vs env=hP) (hn:Rows r h hP new) (hr:0<r) (fx:(rows.length+new.length) * bytes≤1099511627776)
  (K:∀rF dG v' h1,ak (.cX rF dG r v' (rows++new)::fs) h1→I c l Q (v'::vs) env h1):I c (.p (.H (.append r bytes s x))::l) Q vs env h:=by
 have au:∀row∈new,row.length=r:=by
  cases hn with
  |nil=>intro row hm;simp at hm
  |row _ _ _ _ _ hlen=>exact hlen
 obtain ⟨rF,dG,v',aB,e,en⟩:=st.HI hr au fx
 exact I.act (fun _=>L.append (ev:=fun a=>a.ev vs env) aC hx hn e) (K _ _ _ _ en)
theorem I.HK {s x:A} (st:ak (.cX bs f r v rows::fs) h) (aC:s.ev vs env=v) (hx:x.ev vs env=hP) (hn:Rows r h hP new) (hr:0<r) (fx:(rows.length+new.length) * bytes≤1099511627776)
  (K:∀rF dG v' h1,ak (.cX rF dG r v' (rows++new)::fs) h1→I c l Q (v'::vs) (Env.set i j v' env) h1):I c (.s i j (.H (.append r bytes s x))::l) Q vs env h:=by
 have au:∀row∈new,row.length=r:=by
  cases hn with
  |nil=>intro row hm;simp at hm
  |row _ _ _ _ _ hlen=>exact hlen
 obtain ⟨rF,dG,v',aB,e,en⟩:=st.HI hr au fx
 exact I.GY (fun _=>L.append (ev:=fun a=>a.ev vs env) aC hx hn e) (K _ _ _ _ en)
theorem ak.aaK {b m n k:Nat} {cap:Option Nat} {cs:List V} (s:ak (.cX bs f r (.av b m n cap) rows::fs) h) (hr:0<r) (hk:k<rows.length) (ax:cs.length=r):
  ∃aB,(∀{R:Type} (d:R) (K:ag→R),h.ef b (k * r) r cs d K=K aB)∧ak (.cX bs f r (.av b m n cap) (rows.set k cs)::fs) aB:=by
 obtain ⟨aB,e,en⟩:=s.Ef hr (i:=k) (k:=1) (new:=[cs]) (by omega) rfl (by simpa using ax) (by omega)
 refine ⟨aB,fun d K=> ?_, ?_⟩
 · have:=e d K
   rw [Nat.one_mul] at this
   simpa using this
 · rw [List.set_eq_take_append_cons_drop,if_pos hk,←List.singleton_append (x:=cs),←List.append_assoc];exact en
theorem I.vA {b n k:Nat} {cap:Option Nat} {x y:A} {cs:List V} (st:ak (.cX bs f r (.av b 0 n cap) rows::fs) h) (hx:x.ev vs env= .ptr b (0+k * r)) (hy:(y.ev vs env).dY=some cs) (hr:0<r) (hk:k<rows.length) (ax:cs.length=r)
  (K:∀h1,ak (.cX bs f r (.av b 0 n cap) (rows.set k cs)::fs) h1→I c l Q (un::vs) env h1):I c (.p (.H (.store r x y))::l) Q vs env h:=by
 obtain ⟨aB,e,en⟩:=st.aaK hr hk ax
 refine I.act (fun call=> ?_) (K aB en)
 show (Option.rec .bad (fun p=>Option.rec .bad (fun l=>Bool.rec .bad (h.ef p.1 p.2 r l .bad fun h=> .ok un h) ((cZ l).beq r)) (y.ev vs env).dY) (x.ev vs env).mM:bg)=_
 rw [hx,hy]
 show (Bool.rec .bad (h.ef b (0+k * r) r cs .bad fun h=>bg.ok un h) ((cZ cs).beq r):bg)=_
 rw [me,ax,Nat.beq_refl]
 show h.ef b (0+k * r) r cs .bad (fun h=>bg.ok un h)=_
 rw [Nat.zero_add,e]
end
theorem Mi:∀ss:List (List UInt8),(ss.map fun s=>[L.str s]).flatten=ss.map hB
 |[]=>rfl
 |a::l=>by rw [List.map_cons,List.flatten_cons,Mi l];rfl
theorem Rr {c:Ctx} {f0:Nat} (ax:∀args h r,ua f0 f0 args h=r→r≠.bad→iL c f0 args h r) {fs:List Fact} {h:ag} {bs:List Nat} {f:Nat} {v:V} {ss:List (List UInt8)} (hn:ss.length<4294967296) (st:ak (.cX bs f 1 v (ss.map fun s=>[L.str s])::fs) h):
  bU c f0 [v] h fun _ h1=>ak (.cX bs f 1 v ((jD ss).map fun s=>[L.str s])::fs) h1:=by
 obtain ⟨_,_,a⟩:=st.HH
 have hf:f0.beq f0=true:=Nat.beq_refl _
 have yg:=a.rows (by decide)
 generalize cA:(ss.map fun s=>[L.str s])=R at st a yg
 cases a with
 |nil=>
  obtain rfl:ss=[]:=by simpa using cA
  refine ⟨.dD [],h,ax _ _ _ ?_ (by simp),st⟩
  unfold ua;rw [hf]
 |row ge hb Kb aO dh len mem=>
  rename_i b ap hid t
  have Eg:R.length=ss.length:=by rw [←cA,List.length_map]
  have Mj:h.load b 0 R.length=some (ss.map hB):=by
   have:=yg.Dr
   rw [show Nat.mul R.length 1=R.length from Nat.mul_one _] at this
   rw [this,←cA,Mi]
  have aaL:∀l:List (List UInt8),pt (l.map hB)=true:=fun l=>by
   induction l with
   |nil=>rfl
   |cons a l bt=>exact bt
  have hj:(jD ss).length=ss.length:=(w8 ss).length_eq
  have hlt:(R.length).blt 4294967296=true:=by rw [gG];simp;omega
  by_cases h0:ss.length=0
  · obtain rfl:ss=[]:=by simpa using h0
    obtain rfl:R=[]:=by simpa using cA.symm
    refine ⟨.dD [],h,ax _ _ _ ?_ (by simp),st⟩
    unfold ua;rw [hf]
    show (Option.rec .bad (fun l=>Bool.rec .bad (h.ef b 0 0 (nU l) .bad fun h=> .ok (.dD []) h) ((pt l).and (Nat.blt 0 4294967296))) (h.load b 0 0):bg)=_
    rfl
  · obtain ⟨aB,e,en⟩:=st.Ef (i:=0) (k:=ss.length) (new:=(jD ss).map fun s=>[L.str s]) (by decide) (by omega) (by rw [List.length_map,hj]) (fun row hm=>by obtain ⟨s,_,rfl⟩:=List.mem_map.1 hm;rfl) (by omega)
    refine ⟨.dD [],aB,ax _ _ _ ?_ (by simp), ?_⟩
    · unfold ua;rw [hf]
      show (Option.rec .bad (fun l=>Bool.rec .bad (h.ef b 0 R.length (nU l) .bad fun h=> .ok (.dD []) h) ((pt l).and ((R.length).blt 4294967296))) (h.load b 0 R.length):bg)=_
      rw [Mj]
      show (Bool.rec .bad (h.ef b 0 R.length (nU (ss.map hB)) .bad fun h=> .ok (.dD []) h) ((pt (ss.map hB)).and ((R.length).blt 4294967296)):bg)=_
      rw [aaL,hlt]
      show h.ef b 0 R.length (nU (ss.map hB)) .bad (fun h=>bg.ok (.dD []) h)=_
      have:=e (.bad:bg) (fun h=> .ok (.dD []) h)
      rw [Nat.zero_mul,Nat.mul_one] at this
      rw [Md,Eg]
      rw [Mi] at this;exact this
    · have dH:R.take 0++((jD ss).map fun s=>[L.str s])++R.drop (0+ss.length)=(jD ss).map fun s=>[L.str s]:=by
       rw [Nat.zero_add,List.drop_of_length_le (by omega)];simp
      rw [dH] at en;exact en
end
end Go.Eng
namespace Go.Eng
noncomputable section
def vB (b:Nat) (row:List Bool):Fact:= .nT b 1 (row.map fun x=>[.bool x])
def hD (bs:List Nat) (M:List (List Bool)):List Fact:=List.zipWith vB bs M
def mw (aO rG n:Nat) (bs:List Nat) (h:ag):Prop:=∀a b,bs[a]? =some b→∃cap,h.eZ aO (rG+a * 1)=some (.av b 0 n cap)
structure fg (n:Nat) (M:List (List Bool)):Prop where
 len:M.length=n
 row:∀r∈M,r.length=n
theorem fg.at {n:Nat} {M:List (List Bool)} (s:fg n M) {a:Nat} (ha:a<n):∃r,M[a]? =some r∧r.length=n:=
 ⟨M[a]'(by rw [s.len];exact ha),List.getElem?_eq_getElem (by rw [s.len];exact ha),s.row _ (List.getElem_mem _)⟩
theorem Mk {bs:List Nat} {M:List (List Bool)} {a b:Nat} {r:List Bool} (hb:bs[a]? =some b) (hr:M[a]? =some r):(hD bs M)[a]? =some (vB b r):=by
 unfold hD;rw [List.getElem?_zipWith,hb,hr]
theorem aaM {bs:List Nat} {M:List (List Bool)} {a b:Nat} (r:List Bool) (hb:bs[a]? =some b):(hD bs M).set a (vB b r)=hD bs (M.set a r):=by
 unfold hD
 apply List.ext_getElem?
 intro i
 rw [List.getElem?_zipWith]
 by_cases e:a=i
 · subst e
   rw [List.getElem?_set,if_pos rfl,hb]
   by_cases au:a<M.length
   · rw [if_pos (by rw [List.length_zipWith];have:=(List.getElem?_eq_some_iff.1 hb).1;omega),List.getElem?_set,if_pos rfl,if_pos au]
   · rw [if_neg (by simp [List.length_zipWith];omega),List.getElem?_set,if_pos rfl,if_neg au]
 · rw [List.getElem?_set,if_neg e,List.getElem?_zipWith,List.getElem?_set,if_neg e]
theorem aaN {h:ag} {b:Nat} {row:List Bool} (a:Rows 1 h (.av b 0 (row.map fun x=>[V.bool x]).length none) (row.map fun x=>[V.bool x])) {j:Nat} {x:Bool} (aV:row[j]? =some x):h.eZ b (0+j * 1)=some (.bool x):=
 a.eZ (by rw [List.getElem?_map,aV];rfl)
theorem Rs {fs:List Fact} {h:ag} {aO rG n:Nat} {bs:List Nat} {M:List (List Bool)} (st:ak (.ay (mw aO rG n bs)::(hD bs M++fs)) h) {a b:Nat} {r:List Bool} (hb:bs[a]? =some b) (hr:M[a]? =some r):
  (∃cap,h.eZ aO (rG+a * 1)=some (.av b 0 n cap))∧∀j x,r[j]? =some x→h.eZ b (0+j * 1)=some (.bool x):=by
 refine ⟨st.aS 0 rfl a b hb,fun j x aV=> ?_⟩
 have s2:=st.tail.at_ (Mk hb hr)
 exact aaN (s2.Q9 0 rfl) aV
theorem aaO {fs:List Fact} {h:ag} {aO rG n:Nat} {bs:List Nat} {M:List (List Bool)} (st:ak (.ay (mw aO rG n bs)::(hD bs M++fs)) h) {a b j:Nat} {r:List Bool} (hb:bs[a]? =some b) (hr:M[a]? =some r) (aV:j<r.length) (x:Bool):
  ∃t,8≤b∧T.get b h.t=some (.cells 1 b 0 (r.length * 1) t)∧T.get b h.bJ=none∧ak (.ay (mw aO rG n bs)::(hD bs (M.set a (r.set j x))++fs)) (h.put b (.cells 1 b 0 (r.length * 1) (T.set j [.bool x] t))):=by
 have s1:ak (hD bs M++ .ay (mw aO rG n bs)::fs) h:=st.Rb
 have s2:=s1.at_ (Mk hb hr)
 obtain ⟨t,gw,h1,h2,gb⟩:=ak.Re (v:= .bool x) s2 (i:=j) (by simpa using aV)
 have au:(r.map fun x=>[V.bool x]).length=r.length:=List.length_map ..
 rw [au] at h1 gb
 refine ⟨t,gw,h1,h2, ?_⟩
 have e:(r.map fun x=>[V.bool x]).set j [.bool x]=(r.set j x).map fun x=>[V.bool x]:=by rw [List.map_set]
 rw [e] at gb
 have jo:ak ((hD bs M).set a (vB b (r.set j x))++ .ay (mw aO rG n bs)::fs) _:=ak.back (y:=vB b (r.set j x)) gb (Mk hb hr)
 rw [aaM _ hb] at jo
 exact jo.out
namespace Lab
def cD (M:List (List Bool)) (a b:Nat):Bool:=((M[a]?.getD [])[b]?).getD false
def pw (r s:List Bool):List Bool:=List.zipWith (·||·) r s
def rH (k:Nat) (M:List (List Bool)) (row:List Bool):List Bool:=if (row[k]?).getD false then pw row (M[k]?.getD []) else row
def sN (M:List (List Bool)) (k:Nat):List (List Bool):=M.map (rH k M)
def closed (n:Nat) (M:List (List Bool)):List (List Bool):=(List.range n).foldl sN M
def jE (k a:Nat) (M:List (List Bool)):List (List Bool):=(M.take a).map (rH k M)++M.drop a
def qy (b:Nat) (r s:List Bool):List Bool:=(pw r s).take b++r.drop b
theorem Rt (r:List Bool):pw r r=r:=by
 unfold pw
 induction r with
 |nil=>rfl
 |cons a r bt=>rw [List.zipWith_cons_cons,bt];cases a<;>rfl
theorem yW {r s:List Bool} {n:Nat} (hr:r.length=n) (aC:s.length=n):(pw r s).length=n:=by unfold pw;rw [List.length_zipWith,hr,aC,Nat.min_self]
theorem aaP {k n:Nat} {M:List (List Bool)} {row:List Bool} (s:fg n M) (hk:k<n) (hr:row.length=n):(rH k M row).length=n:=by
 obtain ⟨r,h1,h2⟩:=s.at hk
 unfold rH
 rw [h1]
 split
 · exact yW hr h2
 · exact hr
theorem aaQ {k n:Nat} {M:List (List Bool)} (s:fg n M) (hk:k<n):fg n (sN M k):=by
 refine ⟨by unfold sN;rw [List.length_map,s.len],fun r hr=> ?_⟩
 obtain ⟨r0,h0,rfl⟩:=List.mem_map.1 hr
 exact aaP s hk (s.row r0 h0)
theorem Ml (n:Nat) (M:List (List Bool)):closed (n+1) M=sN (closed n M) n:=by
 unfold closed;rw [List.range_succ,List.foldl_append];rfl
theorem Bk {n:Nat} {M:List (List Bool)} (s:fg n M):∀k,k≤n→fg n (closed k M)
 |0,_=>s
 |k+1,h=>by rw [Ml];exact aaQ (Bk s k (by omega)) (by omega)
theorem aaR (k:Nat) (M:List (List Bool)):jE k 0 M=M:=by unfold jE;simp
theorem aaS {k n:Nat} {M:List (List Bool)} (s:fg n M):jE k n M=sN M k:=by
 unfold jE sN
 rw [List.take_of_length_le (by rw [s.len];exact Nat.le_refl _),List.drop_of_length_le (by rw [s.len];exact Nat.le_refl _),List.append_nil]
theorem Eh {k a i n:Nat} {M:List (List Bool)} (s:fg n M) (ha:a≤n):(jE k a M)[i]? =(M[i]?).map fun r=>if i<a then rH k M r else r:=by
 unfold jE
 by_cases h:i<a
 · rw [List.getElem?_append_left (by rw [List.length_map,List.length_take,s.len];omega),List.getElem?_map,List.getElem?_take_of_lt h]
   cases M[i]? with
   |none=>rfl
   |some r=>simp [h]
 · rw [List.getElem?_append_right (by rw [List.length_map,List.length_take,s.len];omega),List.length_map,List.length_take,s.len,List.getElem?_drop]
   have:a+(i - min a n)=i:=by omega
   rw [this]
   cases M[i]? with
   |none=>rfl
   |some r=>simp [h]
theorem aaT {k a n:Nat} {M:List (List Bool)} {r:List Bool} (s:fg n M) (ha:a<n) (hr:M[a]? =some r):(jE k a M).set a (rH k M r)=jE k (a+1) M:=by
 apply List.ext_getElem?
 intro i
 rw [List.getElem?_set,Eh s (by omega)]
 have hlen:(jE k a M).length=n:=by unfold jE;rw [List.length_append,List.length_map,List.length_take,List.length_drop,s.len];omega
 by_cases e:a=i
 · subst e
   rw [if_pos rfl,hlen,if_pos ha,Eh s (by omega),hr];simp
 · rw [if_neg e,Eh s (by omega)]
   cases M[i]? with
   |none=>rfl
   |some q=>simp;congr 1;simp;omega
theorem aaU {k:Nat} {M:List (List Bool)} {r:List Bool} (hr:M[k]? =some r):rH k M r=r:=by
 unfold rH;rw [hr];split
 · exact Rt r
 · rfl
theorem aaV (r s:List Bool):qy 0 r s=r:=by unfold qy;simp
theorem aaW {n:Nat} {r s:List Bool} (hr:r.length=n) (aC:s.length=n):qy n r s=pw r s:=by
 unfold qy;rw [List.take_of_length_le (by rw [yW hr aC];exact Nat.le_refl _),List.drop_of_length_le (by rw [hr];exact Nat.le_refl _),List.append_nil]
theorem Ru {b n:Nat} {r s:List Bool} (hr:r.length=n) (aC:s.length=n) (hb:b≤n):(qy b r s).length=n:=by
 unfold qy;rw [List.length_append,List.length_take,List.length_drop,yW hr aC,hr];omega
theorem HL {b n i:Nat} {r s:List Bool} (hr:r.length=n) (aC:s.length=n) (hb:b≤n):(qy b r s)[i]? =if i<b then (pw r s)[i]? else r[i]? :=by
 unfold qy
 by_cases h:i<b
 · rw [if_pos h,List.getElem?_append_left (by rw [List.length_take,yW hr aC];omega),List.getElem?_take_of_lt h]
 · rw [if_neg h,List.getElem?_append_right (by rw [List.length_take,yW hr aC];omega),List.length_take,yW hr aC,List.getElem?_drop]
   congr 1;omega
theorem aaX {b n:Nat} {r s:List Bool} {x y:Bool} (hr:r.length=n) (aC:s.length=n) (hb:b<n) (hx:r[b]? =some x) (hy:s[b]? =some y):(qy b r s).set b (x||y)=qy (b+1) r s:=by
 apply List.ext_getElem?
 intro i
 rw [List.getElem?_set,Ru hr aC (by omega),HL hr aC (by omega),HL hr aC (by omega)]
 by_cases e:b=i
 · subst e
   rw [if_pos rfl,if_pos hb,if_pos (by omega)]
   unfold pw;rw [List.getElem?_zipWith,hx,hy]
 · rw [if_neg e]
   by_cases h:i<b
   · rw [if_pos h,if_pos (by omega)]
   · rw [if_neg h,if_neg (by omega)]
theorem aaY (b:Nat) (r:List Bool):qy b r r=r:=by unfold qy;rw [Rt,List.take_append_drop]
end Lab
end
end Go.Eng
namespace Go.Eng
noncomputable section
def sO (x:Nat):List V:=[.int .i64 (x:Int)]
def nm (h:ag):List (List Nat)→List V→Prop
 |[],[]=>True
 |r::J,v::vs=>Rows 1 h v (r.map sO)∧nm h J vs
 |_,_=>False
theorem nm.snoc {h:ag}:∀{J:List (List Nat)} {vs:List V} {r:List Nat} {v:V},nm h J vs→Rows 1 h v (r.map sO)→nm h (J++[r]) (vs++[v])
 |[],[],_,_,_,hr=>⟨hr,trivial⟩
 |[],_::_,_,_,h,_=>h.elim
 |_::_,[],_,_,h,_=>h.elim
 |_::_,_::_,_,_,h,hr=>⟨h.1,h.2.snoc hr⟩
theorem nm.len {h:ag}:∀{J:List (List Nat)} {vs:List V},nm h J vs→vs.length=J.length
 |[],[],_=>rfl
 |[],_::_,h=>h.elim
 |_::_,[],h=>h.elim
 |_::_,_::_,h=>by simp [h.2.len]
theorem nm.at {h:ag}:∀{J:List (List Nat)} {vs:List V},nm h J vs→∀{i:Nat} {r:List Nat},J[i]? =some r→∃v,vs[i]? =some v∧Rows 1 h v (r.map sO)
 |[],[],_,i,r,aq=>by simp at aq
 |[],_::_,h,_,_,_=>h.elim
 |_::_,[],h,_,_,_=>h.elim
 |a::J,v::vs,h,0,r,aq=>by simp at aq;subst aq;exact ⟨v,rfl,h.1⟩
 |a::J,v::vs,h,i+1,r,aq=>by
  obtain ⟨w,h1,h2⟩:=h.2.at (i:=i) (r:=r) (by simpa using aq)
  exact ⟨w,by simpa using h1,h2⟩
def px (h:ag) (v:V) (J:List (List Nat)):Prop:=∃vs:List V,Rows 1 h v (vs.map fun x=>[x])∧nm h J vs
theorem ak.nn {fs:List Fact} {h:ag} {P:ag→Prop} (s:ak fs h) (hp:∀h,P h):ak (.ay P::fs) h:=(ak.pure s (Q:=True) trivial).fD fun h _=>hp h
namespace Lab
def lower (n:Nat) (le:Nat→Nat→Bool) (is:Nat→Bool) (x:Nat):Bool:=(List.range n).all fun d=> !is d||le x d
def least (n:Nat) (le:Nat→Nat→Bool) (is:Nat→Bool):Option Nat:=(List.range n).find? fun x=>is x&&lower n le is x
def join (n:Nat) (M:List (List Bool)) (a b:Nat):Option Nat:=least n (cD M) fun x=>cD M a x&&cD M b x
def meet (n:Nat) (M:List (List Bool)) (a b:Nat):Option Nat:=least n (fun x y=>cD M y x) fun x=>cD M x a&&cD M x b
def Ei (n:Nat) (M:List (List Bool)) (a b:Nat):Bool:= !(decide (a≠b)&&(cD M a b&&cD M b a))&&((join n M a b).isSome&&(meet n M a b).isSome)
def my (n:Nat) (M:List (List Bool)) (a k:Nat):List Nat:=(List.range k).map fun b=>(join n M a b).getD 0
def xc (n:Nat) (M:List (List Bool)) (a k:Nat):List Nat:=(List.range k).map fun b=>(meet n M a b).getD 0
def kr (n:Nat) (M:List (List Bool)) (k:Nat):List (List Nat):=(List.range k).map fun a=>my n M a n
def rI (n:Nat) (M:List (List Bool)) (k:Nat):List (List Nat):=(List.range k).map fun a=>xc n M a n
def Mm (n:Nat) (M:List (List Bool)) (a k:Nat):Bool:=(List.range k).all fun b=>Ei n M a b
def py (n:Nat) (M:List (List Bool)) (k:Nat):Bool:=(List.range k).all fun a=>Mm n M a n
def low (n:Nat) (M:List (List Bool)):Option Nat:=least n (cD M) fun _=>true
def high (n:Nat) (M:List (List Bool)):Option Nat:=least n (fun x y=>cD M y x) fun _=>true
def complete (n:Nat) (M:List (List Bool)):Option (Nat×Nat):=if py n M n&&((low n M).isSome&&(high n M).isSome) then some ((low n M).getD 0,(high n M).getD 0) else none
theorem aaZ (n:Nat) (M:List (List Bool)) (a k:Nat):my n M a (k+1)=my n M a k++[(join n M a k).getD 0]:=by unfold my;rw [List.range_succ,List.map_append];rfl
theorem aa0 (n:Nat) (M:List (List Bool)) (k:Nat):kr n M (k+1)=kr n M k++[my n M k n]:=by unfold kr;rw [List.range_succ,List.map_append];rfl
end Lab
end
end Go.Eng
namespace Go.Eng
noncomputable section
namespace Lab
theorem yX {M:List (List Bool)} {a:Nat} {r:List Bool} (h:M[a]? =some r) (b:Nat):cD M a b=(r[b]?).getD false:=by unfold cD;rw [h];rfl
theorem HM {M:List (List Bool)} {a:Nat} (h:M[a]? =none) (b:Nat):cD M a b=false:=by unfold cD;rw [h];rfl
theorem Mn {n:Nat} {M:List (List Bool)} (s:fg n M) {a b:Nat} (h:cD M a b=true):a<n∧b<n:=by
 cases ha:M[a]? with
 |none=>rw [HM ha] at h;cases h
 |some r=>
  rw [yX ha] at h
  obtain ⟨h1,rfl⟩:=List.getElem?_eq_some_iff.1 ha
  refine ⟨s.len▸h1, ?_⟩
  rcases Nat.lt_or_ge b (M[a].length) with hb|hb
  · rw [s.row _ (List.getElem_mem h1)] at hb;exact hb
  · rw [List.getElem?_eq_none hb] at h;cases h
theorem aa1 {n k:Nat} {M:List (List Bool)} (s:fg n M) (hk:k<n) (a b:Nat):cD (sN M k) a b=(cD M a b||(cD M a k&&cD M k b)):=by
 obtain ⟨eQ,uc,aa2⟩:=s.at hk
 cases ha:M[a]? with
 |none=>
  have:(sN M k)[a]? =none:=by unfold sN;rw [List.getElem?_map,ha];rfl
  rw [HM this,HM ha,HM ha];rfl
 |some r=>
  have au:r.length=n:=s.row r (List.mem_of_getElem? ha)
  have:(sN M k)[a]? =some (rH k M r):=by unfold sN;rw [List.getElem?_map,ha];rfl
  rw [yX this,yX ha,yX ha,yX uc]
  unfold rH
  rw [uc]
  by_cases hb:b<n
  · obtain ⟨x,hx⟩:∃x,r[b]? =some x:=⟨r[b]'(by omega),List.getElem?_eq_getElem (by omega)⟩
    obtain ⟨y,hy⟩:∃y,eQ[b]? =some y:=⟨eQ[b]'(by omega),List.getElem?_eq_getElem (by omega)⟩
    cases (r[k]?).getD false with
    |false=>simp
    |true=>
     simp only [if_true,Option.getD_some]
     unfold pw
     rw [List.getElem?_zipWith,hx,hy];rfl
  · have aT:r[b]? =none:=List.getElem?_eq_none (by omega)
    have bu:eQ[b]? =none:=List.getElem?_eq_none (by omega)
    rw [aT,bu]
    split
    · have:(pw r ((some eQ).getD []))[b]? =none:=List.getElem?_eq_none (by rw [yW au (by exact aa2)];omega)
      rw [this];simp
    · rw [aT];simp
theorem Rv {n:Nat} {M:List (List Bool)} (s:fg n M):∀k,k≤n→∀j,j<k→∀a b,cD (closed k M) a j=true→cD (closed k M) j b=true→cD (closed k M) a b=true
 |0,_,j,aV,_,_,_,_=>absurd aV (by omega)
 |k+1,hk,j,aV,a,b,h1,h2=>by
  have aa3:=Bk s k (by omega)
  have bt:=Rv s k (by omega)
  simp only [Ml,aa1 aa3 (show k<n by omega),Bool.or_eq_true,Bool.and_eq_true] at h1 h2 ⊢
  by_cases e:j=k
  · subst e
    have h1:cD (closed j M) a j=true:=by rcases h1 with h|h;exact h;exact h.1
    have h2:cD (closed j M) j b=true:=by rcases h2 with h|h;exact h;exact h.2
    exact .inr ⟨h1,h2⟩
  · have Mp:j<k:=by omega
    rcases h1 with h1|⟨h1,jR⟩<;>rcases h2 with h2|⟨h2,Ah⟩
    · exact .inl (bt j Mp a b h1 h2)
    · exact .inr ⟨bt j Mp a k h1 h2,Ah⟩
    · exact .inr ⟨h1,bt j Mp k b jR h2⟩
    · exact .inr ⟨h1,Ah⟩
theorem aa4 {n:Nat} {M:List (List Bool)} (s:fg n M) {a b c:Nat} (h1:cD (closed n M) a b=true) (h2:cD (closed n M) b c=true):cD (closed n M) a c=true:=
 Rv s n (Nat.le_refl _) b (Mn (Bk s n (Nat.le_refl _)) h1).2 a c h1 h2
abbrev aL:=List UInt8
def uniq:List aL→List aL
 |[]=>[]
 |x::l=>match l with
  |[]=>[x]
  |y::_=>if x=y then uniq l else x::uniq l
theorem HN:∀(l:List aL) (z:aL),z∈uniq l↔z∈l
 |[],z=>Iff.rfl
 |[x],z=>Iff.rfl
 |x::y::l,z=>by
  have bt:=HN (y::l) z
  by_cases h:x=y
  · rw [show uniq (x::y::l)=uniq (y::l) from if_pos h,bt,h];simp
  · rw [show uniq (x::y::l)=x::uniq (y::l) from if_neg h,List.mem_cons,bt];simp
theorem Rw:∀l:List aL,(uniq l).length≤l.length
 |[]=>Nat.le_refl _
 |[x]=>Nat.le_refl _
 |x::y::l=>by
  have bt:=Rw (y::l)
  by_cases h:x=y
  · rw [show uniq (x::y::l)=uniq (y::l) from if_pos h];simp at bt ⊢;omega
  · rw [show uniq (x::y::l)=x::uniq (y::l) from if_neg h];simp at bt ⊢;omega
theorem lt_of_le_ne {x y:aL} (h:x≤y) (hn:x≠y):x<y:=by
 rcases List.le_iff_lt_or_eq.1 h with h|h
 · exact h
 · exact absurd h hn
theorem Mq:∀l:List aL,l.Pairwise (·≤·)→(uniq l).Pairwise (·<·)
 |[],_=>List.Pairwise.nil
 |[x],_=>by simp [uniq]
 |x::y::l,h=>by
  obtain ⟨h1,h2⟩:=List.pairwise_cons.1 h
  have bt:=Mq (y::l) h2
  by_cases e:x=y
  · rw [show uniq (x::y::l)=uniq (y::l) from if_pos e];exact bt
  · rw [show uniq (x::y::l)=x::uniq (y::l) from if_neg e]
    refine List.pairwise_cons.2 ⟨fun z hz=> ?_,bt⟩
    have hz:=(HN _ _).1 hz
    have HO:x<y:=lt_of_le_ne (h1 y (by simp)) e
    rcases List.mem_cons.1 hz with rfl|hz
    · exact HO
    · exact List.not_le.1 fun aa5=>List.not_le.2 HO (List.le_trans ((List.pairwise_cons.1 h2).1 z hz) aa5)
theorem Rx:∀{a b:List aL},a.Pairwise (·<·)→b.Pairwise (·<·)→(∀z,z∈a↔z∈b)→a=b
 |[],[],_,_,_=>rfl
 |[],y::b,_,_,h=>absurd ((h y).2 (by simp)) (by simp)
 |x::a,[],_,_,h=>absurd ((h x).1 (by simp)) (by simp)
 |x::a,y::b,ha,hb,h=>by
  obtain ⟨a1,a2⟩:=List.pairwise_cons.1 ha
  obtain ⟨fw,fl⟩:=List.pairwise_cons.1 hb
  have HO:x=y:=by
   rcases List.mem_cons.1 ((h x).1 (by simp)) with e|e
   · exact e
   · rcases List.mem_cons.1 ((h y).2 (by simp)) with bN|bN
     · exact bN.symm
     · exact absurd (List.lt_trans (fw x e) (a1 y bN)) (List.lt_irrefl _)
  subst HO
  congr 1
  refine Rx a2 fl fun z=>⟨fun hz=> ?_,fun hz=> ?_⟩
  · rcases List.mem_cons.1 ((h z).1 (by simp [hz])) with e|e
    · subst e;exact absurd (a1 z hz) (List.lt_irrefl _)
    · exact e
  · rcases List.mem_cons.1 ((h z).2 (by simp [hz])) with e|e
    · subst e;exact absurd (fw z hz) (List.lt_irrefl _)
    · exact e
def raw (l:List (aL×aL)):List aL:=l.flatMap fun p=>if p.2=[] then [p.1] else [p.1,p.2]
def names (l:List (aL×aL)):List aL:=uniq (jD (raw l))
theorem HP (l:List (aL×aL)) (z:aL):z∈names l↔z∈raw l:=(HN _ z).trans (w8 _).mem_iff
theorem aa6 (l:List (aL×aL)):(names l).Pairwise (·<·):=Mq _ (HG _)
def unit (n:Nat):List (List Bool):=(List.range n).map fun a=>(List.replicate n false).set a true
def put (M:List (List Bool)) (i j:Nat):List (List Bool):=M.set i ((M[i]?.getD []).set j true)
def yY (ns:List aL) (M:List (List Bool)) (p:aL×aL):List (List Bool):=if p.2=[] then M else put M (ns.idxOf p.1) (ns.idxOf p.2)
def table (ns:List aL) (l:List (aL×aL)):List (List Bool):=l.foldl (yY ns) (unit ns.length)
theorem aa7 (n:Nat):fg n (unit n):=⟨by simp [unit],fun r hr=>by
 obtain ⟨a,_,rfl⟩:=List.mem_map.1 hr
 simp⟩
theorem aa8 {n:Nat} {M:List (List Bool)} (s:fg n M) {i j:Nat}:fg n (put M i j):=by
 refine ⟨by simp [put,s.len],fun r hr=> ?_⟩
 unfold put at hr
 cases h:M[i]? with
 |none=>
  rw [List.set_eq_of_length_le (by rw [List.getElem?_eq_none_iff] at h;exact h)] at hr
  exact s.row r hr
 |some q=>
  rw [h] at hr
  rcases List.mem_or_eq_of_mem_set hr with hr|rfl
  · exact s.row r hr
  · simp [s.row q (List.mem_of_getElem? h)]
theorem aa9 {n:Nat} {M:List (List Bool)} {ns:List aL} (s:fg n M) (p:aL×aL):fg n (yY ns M p):=by
 unfold yY;split
 · exact s
 · exact aa8 s
theorem Ry {n:Nat} {ns:List aL}:∀(l:List (aL×aL)) {M:List (List Bool)},fg n M→fg n (l.foldl (yY ns) M)
 |[],_,s=>s
 |p::l,_,s=>Ry l (aa9 s p)
theorem Mr (ns:List aL) (l:List (aL×aL)):fg ns.length (table ns l):=Ry l (aa7 _)
theorem Rz {l:List (aL×aL)} {p:aL×aL} (hp:p∈l):p.1∈raw l∧(p.2≠[]→p.2∈raw l):=by
 unfold raw
 constructor
 · exact List.mem_flatMap.2 ⟨p,hp,by split<;>simp⟩
 · intro h;exact List.mem_flatMap.2 ⟨p,hp,by rw [if_neg h];simp⟩
theorem abb {l:List (aL×aL)}:∀p∈l,p.2≠[]→p.1∈names l∧p.2∈names l:=fun p hp h=>⟨(HP l _).2 (Rz hp).1,(HP l _).2 ((Rz hp).2 h)⟩
def order (l:List (aL×aL)):List (List Bool):=closed (names l).length (table (names l) l)
def made (l:List (aL×aL)):Nat×Option (Nat×Nat):=
 if (names l).length=0 then (13,none) else if 12<(names l).length then (14,none) else match complete (names l).length (order l) with
  |none=>(13,none)
  |some x=>(0,some x)
theorem RA {l:List (aL×aL)} (h:(names l).length=0):made l=(13,none):=if_pos h
theorem Bl {l:List (aL×aL)} (h:12<(names l).length):made l=(14,none):=by unfold made;rw [if_neg (by omega),if_pos h]
theorem RB {l:List (aL×aL)} (h0:¬(names l).length=0) (h1:¬12<(names l).length) (h:complete (names l).length (order l)=none):made l=(13,none):=by unfold made;rw [if_neg h0,if_neg h1,h]
theorem RC {l:List (aL×aL)} {x:Nat×Nat} (h0:¬(names l).length=0) (h1:¬12<(names l).length) (h:complete (names l).length (order l)=some x):made l=(0,some x):=by unfold made;rw [if_neg h0,if_neg h1,h]
end Lab
end
end Go.Eng
namespace Go.Eng
noncomputable section
theorem Rows.vB {r b o n:Nat} {h:ag} {cap:Option Nat} {rows:List (List V)} (a:Rows r h (.av b o n cap) rows):∃f ap bo t,T.get b h.t=some (.cells r f ap bo t):=by
 cases a with
 |row _ dP _ _ _ _=>exact ⟨_,_,_,_,dP⟩
section
variable {ev:dM} {h:ag} {x:A} {bH aq mx:Option A} {r b o n i j m:Nat}
theorem L.kF {rows:List (List V)} (hx:ev x= .av b o n none) (a:Rows r h (.av b o n none) rows) (Ms:ek aq ev n=some j) (Ec:ek bH ev 0=some i) (vo:i≤j) (mT:j≤n):light (.kF r x bH aq none) ev h= .val (.av b (o+i * r) (j - i) none):=by
 obtain ⟨f,ap,bo,t,dP⟩:=a.vB
 show (match ev x with
  | .U=>match ek aq ev 0,ek bH ev 0,ek none ev 0 with
    |some 0,some 0,some 0=>bM.val .U
    |_,_,_=> .bad
  | .av b o n cap=>match ek aq ev n,ek bH ev 0 with
    |some j,some i=>ov r b o n cap i j (Option.rec none (fun x=>some (ev x).asNat) none) h
    |_,_=> .bad
  |_=> .bad)=_
 rw [hx]
 simp only [Ms,Ec]
 show ov r b o n none i j none h=_
 unfold ov
 simp only [ag.obj,dP]
 have aT:(r.beq r&&(i.ble j&&(j.ble n||(Nat.add o (Nat.mul j r)).ble bo)))=true:=by
  rw [Nat.beq_refl,show i.ble j=true from Nat.ble_eq_true_of_le vo,show j.ble n=true from Nat.ble_eq_true_of_le mT];rfl
 rw [aT,cond_true]
 unfold uV
 simp
theorem L.abd {HQ:A} (hx:ev x= .av b o n none) (Ms:ek aq ev n=some j) (Ec:ek bH ev 0=some i) (hm:(ev HQ).asNat=some m) (h0:0<n) (vo:i≤j) (OM:j≤m) (abe:m≤n) (aiP:i<m):light (.kF r x bH aq (some HQ)) ev h= .val (.av b (o+i * r) (j - i) (some (m - i))):=by
 show (match ev x with
  | .U=>match ek aq ev 0,ek bH ev 0,ek (some HQ) ev 0 with
    |some 0,some 0,some 0=>bM.val .U
    |_,_,_=> .bad
  | .av b o n cap=>match ek aq ev n,ek bH ev 0 with
    |some j,some i=>ov r b o n cap i j (Option.rec none (fun x=>some (ev x).asNat) (some HQ)) h
    |_,_=> .bad
  |_=> .bad)=_
 rw [hx]
 simp only [Ms,Ec,hm]
 unfold ov
 have aT:(Nat.blt 0 n&&(i.ble j&&(j.ble m&&m.ble n)))=true:=by
  rw [show Nat.blt 0 n=true from by rw [gG];simpa using h0,show i.ble j=true from Nat.ble_eq_true_of_le vo,show j.ble m=true from Nat.ble_eq_true_of_le OM,show m.ble n=true from Nat.ble_eq_true_of_le abe];rfl
 simp only [aT,cond_true]
 unfold ou uV
 have bu:(Nat.sub m i).beq 0=false:=by
  rw [jr]
  exact decide_eq_false (show ¬(m - i=0) by omega)
 simp only [force_eq]
 rw [bu];rfl
end
section
variable {c:Ctx} {Q:jd} {env:Env} {h:ag} {fs:List Fact} {vs:List V} {l:List dp} {i j:bx} {bs:List Nat} {f r:Nat} {v hP:V} {rows new:List (List V)}
theorem I.abf {b n k m:Nat} {cap Dt:Option Nat} {x:A} {z:List V} (st:ak (.cX bs f r (.av b 0 n cap) rows::fs) h) (hx:x.ev vs env= .av b (0+k * r) m Dt) (hr:0<r) (hz:z.length=r) (hm:0<m) (hk:k+m=rows.length)
  (K:∀h1,ak (.cX bs f r (.av b 0 n cap) (rows.take k++List.replicate m z)::fs) h1→I c l Q (un::vs) env h1):I c (.p (.H (.clear z x))::l) Q vs env h:=by
 obtain ⟨aB,e,en⟩:=st.Ef hr (i:=k) (k:=m) (new:=List.replicate m z) hm (by simp) (fun row hm=>by rw [(List.mem_replicate.1 hm).2];exact hz) (by omega)
 refine I.act (fun call=> ?_) (K aB ?_)
 · show JO z x call (fun a=>a.ev vs env) h=_
   have iJ:(fun a:A=>a.ev vs env) x= .av b (0+k * r) m Dt:=hx
   unfold JO
   rw [iJ]
   show h.ef b (0+k * r) (Nat.mul m (cZ z)) (rep m z) .bad (fun h=>bg.ok un h)=_
   rw [me,hz,OC,Nat.zero_add]
   exact e _ _
 · rw [List.drop_of_length_le (by omega),List.append_nil] at en;exact en
end
def SR (l:List (List UInt8)):List (List V):=l.map fun s=>[L.str s]
theorem eM (l:List (List UInt8)):(SR l).length=l.length:=List.length_map _
theorem oM {l:List (List UInt8)} {i:Nat} {s:List UInt8} (h:l[i]? =some s):(SR l)[i]? =some [L.str s]:=by unfold SR;rw [List.getElem?_map,h];rfl
theorem nV (l m:List (List UInt8)):SR (l++m)=SR l++SR m:=List.map_append
theorem vC (l:List (List UInt8)) (i:Nat) (s:List UInt8):(SR l).set i [L.str s]=SR (l.set i s):=by unfold SR;rw [List.map_set]
theorem abg (l:List (List UInt8)) (i:Nat):(SR l).take i=SR (l.take i):=by unfold SR;rw [List.map_take]
namespace Lab
theorem RD:∀(l:List aL) (y:aL),uniq (l++[y])=if l.getLast? =some y then uniq l else uniq l++[y]
 |[],y=>by simp [uniq]
 |[x],y=>by
  by_cases h:x=y
  · subst h;simp [uniq]
  · simp [uniq,h]
 |x::b2::l,y=>by
  have bt:=RD (b2::l) y
  have e:(x::b2::l).getLast? =(b2::l).getLast? :=by simp [List.getLast?_cons_cons]
  rw [e]
  by_cases h:x=b2
  · rw [show uniq (x::b2::l++[y])=uniq (b2::l++[y]) from if_pos h,bt,show uniq (x::b2::l)=uniq (b2::l) from if_pos h]
  · rw [show uniq (x::b2::l++[y])=x::uniq (b2::l++[y]) from if_neg h,bt,show uniq (x::b2::l)=x::uniq (b2::l) from if_neg h]
    split<;>rfl
theorem HR {S:List aL} {m:Nat} {x y:aL} (hx:S[m]? =some x) (hy:S[m+1]? =some y):uniq (S.take (m+2))=if y=x then uniq (S.take (m+1)) else uniq (S.take (m+1))++[y]:=by
 have aT:S.take (m+2)=S.take (m+1)++[y]:=by
  rw [show m+2=(m+1)+1 from rfl,List.take_add_one,hy];rfl
 have bu:(S.take (m+1)).getLast? =some x:=by
  rw [List.take_add_one,hx];simp
 rw [aT,RD,bu]
 by_cases h:y=x
 · subst h;simp
 · rw [if_neg h,if_neg (fun e=>h (Option.some.inj e).symm)]
structure pz (S R:List aL) (k j q:Nat):Prop where
 cH:1≤k
 o7:1≤j
 le:k+j≤S.length
 len:R.length=S.length
 Mt:q=(uniq (S.take (k+j))).length
 Mu:R.take q=uniq (S.take (k+j))
 Mv:R.drop (k+j - 1)=S.drop (k+j - 1)
 Ej:q+1≤k+j
theorem pz.start {S:List aL} {k:Nat} {x:aL} (hk:1≤k) (hu:uniq (S.take k)=S.take k) (hx:S[k]? =some x) (hy:S[k - 1]? =some x):pz S S k 1 k:=by
 obtain ⟨m,rfl⟩:∃m,k=m+1:=⟨k - 1,by omega⟩
 have hlt:=(List.getElem?_eq_some_iff.1 hx).1
 have e:uniq (S.take (m+1+1))=S.take (m+1):=by rw [HR (by simpa using hy) hx,if_pos rfl,hu]
 exact ⟨hk,Nat.le_refl _,by omega,rfl,by rw [e,List.length_take];omega,e.symm,rfl,by omega⟩
theorem pz.at {S R:List aL} {k j q i:Nat} (c:pz S R k j q) (aq:k+j - 1≤i):R[i]? =S[i]? :=by
 have:=congrArg (fun l:List aL=>l[i - (k+j - 1)]?) c.Mv
 simp only [List.getElem?_drop] at this
 rw [show k+j - 1+(i - (k+j - 1))=i by omega] at this;exact this
theorem pz.skip {S R:List aL} {k j q:Nat} {x:aL} (c:pz S R k j q) (hx:S[k+j]? =some x) (hy:S[k+j - 1]? =some x):pz S R k (j+1) q:=by
 have hlt:=(List.getElem?_eq_some_iff.1 hx).1
 have h1:=c.o7
 obtain ⟨m,hm⟩:∃m,k+j=m+1:=⟨k+j - 1,by omega⟩
 have e:uniq (S.take (k+(j+1)))=uniq (S.take (k+j)):=by
  rw [show k+(j+1)=m+2 by omega,HR (x:=x) (by rw [show m=k+j - 1 by omega];exact hy) (by rw [←hm];exact hx),if_pos rfl,hm]
 refine ⟨c.cH,by omega,by omega,c.len,by rw [e];exact c.Mt,by rw [e];exact c.Mu, ?_,by have:=c.Ej;omega⟩
 have:=congrArg (List.drop 1) c.Mv
 rw [List.drop_drop,List.drop_drop] at this
 rw [show k+(j+1) - 1=k+j - 1+1 by omega];exact this
theorem pz.put {S R:List aL} {k j q:Nat} {x y:aL} (c:pz S R k j q) (hx:S[k+j]? =some x) (hy:S[k+j - 1]? =some y) (bO:x≠y):pz S (R.set q x) k (j+1) (q+1):=by
 have hlt:=(List.getElem?_eq_some_iff.1 hx).1
 have h1:=c.o7
 have bC:=c.Ej
 have au:=c.len
 obtain ⟨m,hm⟩:∃m,k+j=m+1:=⟨k+j - 1,by omega⟩
 have e:uniq (S.take (k+(j+1)))=uniq (S.take (k+j))++[x]:=by
  rw [show k+(j+1)=m+2 by omega,HR (x:=y) (by rw [show m=k+j - 1 by omega];exact hy) (by rw [←hm];exact hx),if_neg bO,hm]
 refine ⟨c.cH,by omega,by omega,by rw [List.length_set,c.len],by rw [e,List.length_append,←c.Mt];rfl, ?_, ?_,by omega⟩
 · rw [e,←c.Mu,List.take_add_one,List.take_set_of_le (Nat.le_refl _),List.getElem?_set,if_pos rfl,if_pos (by omega)];rfl
 · have:=congrArg (List.drop 1) c.Mv
   rw [List.drop_drop,List.drop_drop] at this
   rw [show k+(j+1) - 1=k+j - 1+1 by omega,List.drop_set_of_lt (by omega)];exact this
theorem pz.done {S R:List aL} {k j q:Nat} (c:pz S R k j q) (h:S.length≤k+j):q=(uniq S).length∧R.take q=uniq S∧q<S.length:=by
 have e:S.take (k+j)=S:=List.take_of_length_le h
 have h1:=c.Mt;have h2:=c.Mu
 rw [e] at h1 h2
 exact ⟨h1,h2,by have:=c.Ej;have:=c.le;omega⟩
theorem abh {S:List aL} {k:Nat} {x y:aL} (hk:1≤k) (hu:uniq (S.take k)=S.take k) (hx:S[k]? =some x) (hy:S[k - 1]? =some y) (bO:x≠y):uniq (S.take (k+1))=S.take (k+1):=by
 obtain ⟨m,rfl⟩:∃m,k=m+1:=⟨k - 1,by omega⟩
 rw [HR (by simpa using hy) hx,if_neg bO,hu,List.take_add_one (i:=m+1),hx];rfl
theorem abi (S:List aL):uniq (S.take 1)=S.take 1:=by cases S<;>simp [uniq]
end Lab
end
end Go.Eng
namespace Go.Eng
noncomputable section
def RE:Nat→List (Lab.aL×V)→List qW
 |_,[]=>[]
 |i,p::ks=>⟨L.str p.1,p.2,i⟩::RE (i+1) ks
def abj (h:ag) (b:Nat) (ks:List (Lab.aL×V)):Prop:=T.get b h.t=some (.map (RE 0 ks) ks.length)
end
end Go.Eng
namespace Go.Eng
noncomputable section
def RF (h:ag):List (List Lab.aL)→List V→Prop
 |[],[]=>True
 |r::J,v::vs=>(Rows 1 h v (SR r)∧(r=[]→v= .U))∧RF h J vs
 |_,_=>False
abbrev np:=List (Lab.aL×List Lab.aL)
def abk (G:np):List (List Lab.aL):=G.map fun p=>p.2
end
end Go.Eng
namespace Go.Eng
noncomputable section
def xd (G:np):List Lab.aL:=G.map fun p=>p.1
def abl (N l:List Lab.aL):List Lab.aL:=l.filter fun t=>decide (t∈N)
def Mw (G:np):np:=G.map fun p=>(p.1,abl (xd G) p.2)
structure aiQ (G:np):Prop where
 dC:(xd G).Nodup
 abm:G.length≤8
 to:∀p∈G,p.2.length≤64
structure aiR (h:ag) (m:Nat) (W:np) (vs:List V):Prop where
 map:abj h m (List.zip (xd W) vs)
 rows:RF h (abk W) vs
end
end Go.Eng
namespace Go.Eng
noncomputable section
def Ek (W:np) (x:Lab.aL):List Lab.aL:=match W with
 |[]=>[]
 |p::W=>if p.1=x then p.2 else Ek W x
inductive Reach (W:np) (x:Lab.aL):Lab.aL→Prop
 |one {y:Lab.aL}:y∈Ek W x→Reach W x y
 |step {z y:Lab.aL}:Reach W x z→y∈Ek W z→Reach W x y
structure aiS (W:np):Prop where
 abm:W.length≤8
 to:∀p∈W,p.2.length≤64
 abn:∀p∈W,∀y∈p.2,y∈xd W
structure aiT (W:np) (x:Lab.aL) (S El:List Lab.aL):Prop where
 dC:S.Nodup
 abn:∀y∈S,y∈xd W
 aiU:∀y∈El,y∈xd W
 len:El.length≤(S.length+1) * 64
 af:∀y∈S,Reach W x y
 ly:∀y∈El,Reach W x y
 dj:∀y∈Ek W x,y∈S∨y∈El
 c1:∀z∈S,∀y∈Ek W z,y∈S∨y∈El
end
end Go.Eng
namespace Go.Eng
noncomputable section
theorem L.abo {ev:dM} {h:ag} {x y:A} {b o n:Nat} {cap:Option Nat} (hx:ev x= .av b o n cap) (hy:ev y= .U):light (.eq false .av x y) ev h= .val (.bool false):=by
 show (Option.rec .bad (fun b=> .val (.bool (b !=false))) (c4.eq .av (ev x) (ev y)):bM)=_
 rw [hx,hy];rfl
theorem L.RG {ev:dM} {h:ag} {x y:A} (hx:ev x= .U) (hy:ev y= .U):light (.eq false .av x y) ev h= .val (.bool true):=by
 show (Option.rec .bad (fun b=> .val (.bool (b !=false))) (c4.eq .av (ev x) (ev y)):bM)=_
 rw [hx,hy];rfl
section
variable {c:Ctx} {Q:jd} {env:Env} {h:ag} {fs:List Fact} {l:List dp} {vs:List V} {i j:bx}
theorem I.abp {r n:Nat} {zero:List V} {aQ:List (Nat×Nat×A)} {rows:List (List V)} (st:ak fs h) (hf:fill aQ (fun a=>a.ev vs env) (rep n zero)=some rows.flatten) (hr:0<r) (hn:rows.length=n) (au:∀row∈rows,row.length=r)
  (K:∀b h1,8≤b→ak (.ay (fun h=>Rows r h (.av b 0 n (some n)) rows)::fs) h1→I c l Q (.av b 0 n (some n)::vs) env h1):I c (.p (.L (.fA r n zero aQ))::l) Q vs env h:=
 I.new (L.fA hf) (AV hr) (K _ _ st.wf.lim (st.frozen _ fun _ hg=>Ds hr hn au hg))
end
end
end Go.Eng
