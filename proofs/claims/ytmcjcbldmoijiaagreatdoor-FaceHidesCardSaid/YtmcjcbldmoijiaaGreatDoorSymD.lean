/- Part of a proof of a law: rules of an evaluator, contracts, plain laws. No condition of its own. -/
import Derived.Test.YtmcjcbldmoijiaaGreatDoorSymC
import Derived.Test.YtmcjcbldmoijiaaGreatDoorEngD
import Derived.Test.YtmcjcbldmoijiaaGreatDoorSymB
set_option linter.unusedVariables false
set_option linter.unusedSimpArgs false
namespace Go.Eng
noncomputable section
theorem aq.turn {x y:Fact} {fs:List Fact} {h ax:ae} (s:aq (x::fs) h) (hw:po ax) (hn:h.next≤ax.next) (gC:x.cO=[]) (sT:y.cO=[])
  (Po:∀b,b<h.next→b∉x.own→T.get b ax.t=T.get b h.t) (yO:∀b,b<h.next→b∉x.own→T.get b ax.bA=T.get b h.bA)
  (xl:∀b∈y.own,b∈x.own∨h.next≤b) (YU:y.own.Nodup) (bQ:∀Z,y.holds Z ax):aq (y::fs) ax:=by
 obtain ⟨Z,s⟩:=s
 have zd:∀b∈x.own,¬Z b∧8≤b:=fun b hb=>s.iy b (by rw [eW];exact List.mem_append_left _ hb)
 have zO:=s.eG
 rw [eW,List.nodup_append] at zO
 obtain ⟨_,kc,Pp⟩:=zO
 have hz:∀b,Z b→T.get b ax.t=T.get b h.t:=fun b hb=>Po b (vz s hb) fun hm=>(zd b hm).1 hb
 have hlt:∀b∈owns fs,b<h.next:=fun b hb=>uk s (by rw [eW];exact List.mem_append_right _ hb)
 have e2:∀b∈owns fs,b∉x.own:=fun b hb hm=>Pp b hm b hb rfl
 have k2:∀b∈bA fs,b<h.next:=fun b hb=>JI s (by rw [iK];exact List.mem_append_right _ hb)
 have oh:∀b∈bA fs,b∉x.own:=fun b hb hm=>s.dd b (by rw [eW];exact List.mem_append_left _ hm) (by rw [iK];exact List.mem_append_right _ hb)
 refine ⟨Z,hw,fun b hb=>by rw [hz b hb];exact s.z b hb,fun b hb=> ?_, ?_, ?_,fun b hb hf=> ?_,fun w uw=> ?_⟩
 · rw [eW] at hb
   rcases List.mem_append.1 hb with hb|hb
   · rcases xl b hb with hb|hb
     · exact zd b hb
     · exact ⟨fun e=>absurd (vz s e) (by omega),by have:=s.wf.lim;omega⟩
   · exact s.iy b (by rw [eW];exact List.mem_append_right _ hb)
 · rw [eW]
   refine List.nodup_append.2 ⟨YU,kc,fun a ha b hb e=> ?_⟩
   subst e
   rcases xl a ha with ha|ha
   · exact Pp a ha a hb rfl
   · have:=hlt a hb;omega
 · rw [iK,sT];have:=s.kD;rw [iK,gC] at this;exact this
 · rw [iK,sT] at hf
   rw [eW] at hb
   rcases List.mem_append.1 hb with hb|hb
   · rcases xl b hb with hb|hb
     · exact s.dd b (by rw [eW];exact List.mem_append_left _ hb) (by rw [iK];exact List.mem_append_right _ hf)
     · have:=k2 b hf;omega
   · exact s.dd b (by rw [eW];exact List.mem_append_right _ hb) (by rw [iK];exact List.mem_append_right _ hf)
 · rcases List.mem_cons.1 uw with rfl|uw
   · exact bQ Z
   · exact Fact.stay (s.all w (by simp [uw])) (fun b hb=>⟨hb,hz b hb⟩) (fun b hb=>Po b (hlt b (um uw hb)) (e2 b (um uw hb))) (fun b hb=>yO b (hlt b (um uw hb)) (e2 b (um uw hb))) fun g hg=>yO g (k2 g (JK uw hg)) (oh g (JK uw hg))
theorem aq.xM {fs:List Fact} {h:ae} (s:aq fs h) (k:Nat) {bs:List Nat} {f r:Nat} {v:V} {rows:List (List V)} (hk:fs[k]? =some (.cS bs f r v rows)):ia bs f r h v rows:=by
 obtain ⟨Z,s⟩:=s
 exact (s.all (.cS bs f r v rows) (List.mem_of_getElem? hk)).1
theorem ia.rows {bs:List Nat} {f r:Nat} {h:ae} {v:V} {rows:List (List V)} (hr:0<r) (a:ia bs f r h v rows):Rows r h v rows:=by
 cases a with
 |nil=>exact .nil
 |row ge hb hf aG cF len mem=>
  refine .row hr aG (Nat.zero_mod r) (fun i row ag=> ?_) (by rw [Nat.zero_add];exact Nat.mul_le_mul_right _ (by omega)) fun row hm=>len row (List.mem_append_left _ hm)
  rw [Nat.zero_div,Nat.zero_add]
  refine cF i row ?_
  rw [List.getElem?_append_left (List.getElem?_eq_some_iff.1 ag).1];exact ag
theorem aq.jK {fs:List Fact} {h:ae} (s:aq fs h) (k:Nat) {bs:List Nat} {f r:Nat} {v:V} {rows:List (List V)} (hk:fs[k]? =some (.cS bs f r v rows)) (hr:0<r):Rows r h v rows:=(s.xM k hk).rows hr
theorem aq.xN {fs:List Fact} {h:ae} (s:aq fs h) (r:Nat):aq (.cS [] 0 r .U []::fs) h:=by
 obtain ⟨Z,s⟩:=s
 refine ⟨Z,s.wf,s.z,s.iy,s.eG,s.kD,s.dd,fun x hx=> ?_⟩
 rcases List.mem_cons.1 hx with rfl|hx
 · exact ⟨.nil rfl,fun b hb=>by simp at hb⟩
 · exact s.all x hx
theorem aq.CC {fs:List Fact} {h:ae} {bs:List Nat} {f r:Nat} {v:V} {rows:List (List V)} (s:aq (.cS bs f r v rows::fs) h) (hr:0<r):aq (.aE (fun h=>Rows r h v rows)::fs) h:=by
 obtain ⟨Z,s⟩:=s
 obtain ⟨a,pc⟩:=s.all (.cS bs f r v rows) (by simp)
 have e2:∀b∈bs,b∉owns fs:=fun b hb hm=>by
  have:=s.eG;rw [eW,List.nodup_append] at this
  exact this.2.2 b hb b hm rfl
 refine ⟨fun b=>Z b∨b∈bs,s.wf,fun b hb=>hb.elim (s.z b) (pc b),fun b hb=>⟨fun e=>e.elim (s.iy b (by rw [eW];exact List.mem_append_right _ hb)).1 fun hm=>e2 b hm hb,(s.iy b (by rw [eW];exact List.mem_append_right _ hb)).2⟩, ?_,s.kD,fun b hb hf=>s.dd b (by rw [eW];exact List.mem_append_right _ hb) hf,fun x hx=> ?_⟩
 · have:=s.eG;rw [eW,List.nodup_append] at this
   exact this.2.1
 · rcases List.mem_cons.1 hx with rfl|hx
   · intro ax hz
     cases a with
     |nil=>exact .nil
     |row ge hb hf aG cF len mem=>
      refine .row hr ((hz _ (.inr hb)).trans aG) (Nat.zero_mod r) (fun i row ag=> ?_) (by rw [Nat.zero_add];exact Nat.mul_le_mul_right _ (by omega)) fun row hm=>len row (List.mem_append_left _ hm)
      rw [Nat.zero_div,Nat.zero_add]
      refine cF i row ?_
      rw [List.getElem?_append_left (List.getElem?_eq_some_iff.1 ag).1];exact ag
   · exact Fact.stay (s.all x (by simp [hx])) (fun b hb=>⟨.inl hb,rfl⟩) (fun _ _=>rfl) (fun _ _=>rfl) fun _ _=>rfl
theorem ia.cut {bs:List Nat} {f r b m n:Nat} {h:ae} {cap:Option Nat} {rows:List (List V)} (a:ia bs f r h (.au b m n cap) rows) {k:Nat} (hk:k≤n):ia bs f r h (.au b m k cap) (rows.take k):=by
 cases a with
 |row ge hb hf aG cF len mem=>
  rename_i ap hid t
  have e:(rows.take k).length=k:=by rw [List.length_take];omega
  have:=ia.row (rows:=rows.take k) (hid:=rows.drop k++hid) (ap:=ap) (t:=t) (bs:=bs) (f:=f) (r:=r) (h:=h) ge hb hf (by rw [aG];congr 3;simp;omega) (fun i row ag=>cF i row (by rw [←List.append_assoc,List.take_append_drop] at ag;exact ag)) (fun row hm=>len row (by rw [←List.append_assoc,List.take_append_drop] at hm;exact hm)) mem
  rw [e] at this;exact this
theorem aq.Pq {fs:List Fact} {h:ae} {bs:List Nat} {f r b m n:Nat} {cap:Option Nat} {rows:List (List V)} (s:aq (.cS bs f r (.au b m n cap) rows::fs) h) {k:Nat} (hk:k≤n):aq (.cS bs f r (.au b m k cap) (rows.take k)::fs) h:=by
 obtain ⟨Z,s⟩:=s
 refine ⟨Z,s.wf,s.z,s.iy,s.eG,s.kD,s.dd,fun x hx=> ?_⟩
 rcases List.mem_cons.1 hx with rfl|hx
 · obtain ⟨a,hz⟩:=s.all (.cS bs f r (.au b m n cap) rows) (by simp)
   exact ⟨a.cut hk,hz⟩
 · exact s.all x (by simp [hx])
theorem Ki (br ag but:Nat):∀(l:List Nat) (h:ae) (b:Nat),b∉l→T.get b (ku br ag but l h).t=T.get b h.t
 |[],_,_,_=>rfl
 |m::l,h,b,hb=>by
  have h1:b≠m:=fun e=>hb (by rw [e];simp)
  have h2:b∉l:=fun e=>hb (by simp [e])
  rw [ku,Ki br ag but l _ b h2]
  split
  · rfl
  · unfold tK sj Obj.cells? ae.obj
    cases T.get m h.t with
    |none=>rfl
    |some aG=>
     cases aG with
     |cells r f a n t=>
      simp only
      cases (a.blt ag&&br.blt (Nat.add a n)) with
      |false=>rfl
      |true=>simp only [qc,id];rw [T.eU (Nat.zero_le _) (Nat.zero_le _),if_neg h1]
     |_=>rfl
theorem Pr (br ag but:Nat) (l:List Nat) (h:ae) (b:Nat):T.get b (ku br ag but l h).t≠none↔T.get b h.t≠none:=by
 rcases y1 br ag but l h (fun _ _=>Nat.zero_le _) with ⟨h1,_⟩|cc
 · rcases h1.at_ b (Nat.zero_le _) with e|⟨e,bl⟩
   · rw [e]
   · rw [e];simp [bl]
 · exact absurd (Nat.zero_le _) cc
theorem Ps {h:ae} {f br ag but b:Nat} (hm:∀F,T.get f h.bA=some F→b∉F.mem):T.get b (kv h f br ag but).t=T.get b h.t:=by
 unfold kv
 cases e:T.get f h.bA with
 |none=>rfl
 |some F=>exact Ki br ag but F.mem h b (hm F e)
theorem Pt (h:ae) (f br ag but b:Nat):T.get b (kv h f br ag but).t≠none↔T.get b h.t≠none:=by
 unfold kv
 cases T.get f h.bA with
 |none=>exact Iff.rfl
 |some F=>exact Pr br ag but F.mem h b
theorem YV {r i k:Nat} {new:List (List V)} (hr:0<r) (hk:0<k) (hn:new.length=k) (ar:∀row∈new,row.length=r) (t:T (List V)):
  ∃gW,(∀{R:Type} (d:R) (c:T (List V)→R),over d r (i * r) (k * r) new.flatten t c=c gW)∧∀j,T.get j gW=if i≤j∧j<i+k then new[j - i]? else T.get j t:=by
 have hm:(i * r).mod r=0:=Nat.mul_mod_left i r
 have aQ:(i * r).div r=i:=Nat.mul_div_cancel i hr
 by_cases h1:k=1
 · subst h1
   obtain ⟨row,rfl⟩:=List.length_eq_one_iff.1 hn
   have cF:row.length=r:=ar row (by simp)
   refine ⟨T.set i row t,fun d c=> ?_,fun j=> ?_⟩
   · unfold over
     rw [hm,show ((1 * r).beq r&&Nat.beq 0 0)=true by rw [Nat.one_mul,Nat.beq_refl];rfl,cond_true,l4,aQ]
     simp
   · rw [T.eU (Nat.zero_le _) (Nat.zero_le _)]
     by_cases e:j=i
     · subst e;simp
     · rw [if_neg e,if_neg (by omega)]
 · refine ⟨eC r k i new.flatten t,fun d c=> ?_,fun j=> ?_⟩
   · unfold over
     have aS:(k * r).beq r=false:=by
      rw [h5];have:k * r≠r:=fun e=>h1 (Nat.eq_of_mul_eq_mul_right hr (e.trans (Nat.one_mul r).symm));simp [this]
     have bl:(Nat.add 0 (k * r)).ble r=false:=by
      rw [ew]
      have:¬0+k * r≤r:=by
       have:2 * r≤k * r:=Nat.mul_le_mul_right _ (by omega)
       omega
      simpa using this
     have df:(k * r).mod r=0:=Nat.mul_mod_left k r
     have fZ:(k * r).div r=k:=Nat.mul_div_cancel k hr
     rw [hm,aS,bl,df,fZ,aQ]
     simp
   · rw [qb r _ _ _ t j (by omega) (by omega)]
     by_cases aR:i≤j∧j<i+k
     · rw [if_pos aR,if_pos aR]
       have hlt:j - i<new.length:=by omega
       rw [List.getElem?_eq_getElem hlt,uo (j - i) ar (List.getElem?_eq_getElem hlt)]
     · rw [if_neg aR,if_neg aR]
theorem aq.CD {fs:List Fact} {h:ae} {bs:List Nat} {f r b m n:Nat} {cap:Option Nat} {rows new:List (List V)} (s:aq (.cS bs f r (.au b m n cap) rows::fs) h) (hr:0<r) {i k:Nat} (hk:0<k) (me:new.length=k) (ar:∀row∈new,row.length=r) (ag:i+k≤rows.length):
  ∃ax,(∀{R:Type} (d:R) (K:ae→R),h.dB b (i * r) (k * r) new.flatten d K=K ax)∧aq (.cS bs f r (.au b m n cap) (rows.take i++new++rows.drop (i+k))::fs) ax:=by
 obtain ⟨a,pc⟩:ia bs f r h (.au b m n cap) rows∧∀b∈bs,T.get b h.t≠none:=by
  obtain ⟨Z,s⟩:=s
  exact s.all (.cS bs f r (.au b m n cap) rows) (by simp)
 have o1:=s.wf
 cases a with
 |row ge hb hf aG cF len mem=>
  rename_i ap hid t
  obtain ⟨gW,nB,mc⟩:=YV (i:=i) hr hk me ar t
  have hlen:(rows.take i++new++rows.drop (i+k)).length=rows.length:=by simp;omega
  let h1:=kv h f (ap+i * r) (ap+i * r+k * r) b
  have k2:lr h h1:=(Ee h f _ _ b (fun _ _ _ _=>Nat.zero_le _) (Nat.zero_le _)).1
  refine ⟨⟨T.set b (.cells r f ap ((rows.length+hid.length) * r) gW) h1.t,h.next,h.bA,h.ds,h.bO⟩,fun d K=> ?_, ?_⟩
  · unfold ae.dB
    have iv:(k * r).beq 0=false:=by rw [h5];have:0<k * r:=Nat.mul_pos hk hr;simp;omega
    rw [iv,show b.blt 8=false by rw [fY];simpa using ge,show h.obj b=_ from aG]
    show (bif (Nat.add (i * r) (k * r)).ble ((rows.length+hid.length) * r) then over d r (i * r) (k * r) new.flatten t (fun rows'=>h.q7 f (Nat.add ap (i * r)) (Nat.add (Nat.add ap (i * r)) (k * r)) b fun h=>h.jw b (.cells r f ap ((rows.length+hid.length) * r) rows') K) else d)=_
    have aS:(Nat.add (i * r) (k * r)).ble ((rows.length+hid.length) * r)=true:=by
     rw [ew]
     have:i * r+k * r≤(rows.length+hid.length) * r:=by rw [←Nat.add_mul];exact Nat.mul_le_mul_right _ (by omega)
     simpa using this
    rw [aS,cond_true,nB,H6,qc]
    show K ⟨T.set b _ h1.t,h1.next,h1.bA,h1.ds,h1.bO⟩=_
    rw [k2.next,k2.bA,k2.ds,k2.bO]
  · have xO:∀c,T.get c (T.set b (.cells r f ap ((rows.length+hid.length) * r) gW) h1.t)=if c=b then some (.cells r f ap ((rows.length+hid.length) * r) gW) else T.get c h1.t:=fun c=>T.eU (Nat.zero_le _) (Nat.zero_le _) ..
    have CF:∀c,T.get c (T.set b (.cells r f ap ((rows.length+hid.length) * r) gW) h1.t)≠none↔T.get c h.t≠none:=fun c=>by
     rw [xO]
     by_cases e:c=b
     · subst e;rw [if_pos rfl];simp [aG]
     · rw [if_neg e];exact Pt h f _ _ b c
    have hnd:bs.Nodup:=by
     obtain ⟨Z,s⟩:=s
     have:=s.eG;rw [eW,List.nodup_append] at this
     exact this.1
    refine s.turn ⟨fun c av=>o1.t c ((CF c).1 av),o1.f,o1.lim⟩ (Nat.le_refl _) rfl rfl (fun c av hm=> ?_) (fun _ _ _=>rfl) (fun c av=> .inl av) hnd fun Z=>⟨?_,fun c av=>(CF c).2 (pc c av)⟩
    · show T.get c (T.set b _ h1.t)=_
      rw [xO,if_neg (fun e=>hm (by rw [e];exact hb))]
      exact Ps fun F b1 o3=>hm (mem F b1 c o3)
    · have:=ia.row (bs:=bs) (f:=f) (r:=r) (ap:=ap) (hid:=hid) (t:=gW) (h:=⟨T.set b (.cells r f ap ((rows.length+hid.length) * r) gW) h1.t,h.next,h.bA,h.ds,h.bO⟩) (rows:=rows.take i++new++rows.drop (i+k)) ge hb hf (by rw [hlen];exact (xO b).trans (if_pos rfl)) (fun j row aR=> ?_) (fun row hm=> ?_) mem
      · rw [hlen] at this;exact this
      · rw [mc]
        rw [List.append_assoc,List.append_assoc] at aR
        by_cases c1:j<i
        · rw [if_neg (by omega)]
          rw [List.getElem?_append_left (by rw [List.length_take];omega),List.getElem?_take_of_lt c1] at aR
          exact cF j row (by rw [List.getElem?_append_left (by omega)];exact aR)
        · rw [List.getElem?_append_right (by rw [List.length_take];omega),List.length_take,Nat.min_eq_left (by omega)] at aR
          by_cases c2:j<i+k
          · rw [if_pos ⟨by omega,c2⟩]
            rw [List.getElem?_append_left (by omega)] at aR
            exact aR.symm▸rfl
          · rw [if_neg (by omega)]
            rw [List.getElem?_append_right (by omega),me] at aR
            refine cF j row ?_
            by_cases cG:j<rows.length
            · rw [List.getElem?_append_left (by rw [List.length_drop];omega),List.getElem?_drop] at aR
              rw [List.getElem?_append_left cG,←aR];congr 1;omega
            · rw [List.getElem?_append_right (by rw [List.length_drop];omega),List.length_drop] at aR
              rw [List.getElem?_append_right (by omega),←aR];congr 1;omega
      · rcases List.mem_append.1 hm with hm|hm
        · rcases List.mem_append.1 hm with hm|hm
          · rcases List.mem_append.1 hm with hm|hm
            · exact len row (List.mem_append_left _ (List.mem_of_mem_take hm))
            · exact ar row hm
          · exact len row (List.mem_append_left _ (List.mem_of_mem_drop hm))
        · exact len row (List.mem_append_right _ hm)
end
end Go.Eng
namespace Go.Eng
noncomputable section
theorem aq.FV {fs:List Fact} {h:ae} {bs:List Nat} {f r:Nat} {v:V} {rows:List (List V)} (s:aq (.cS bs f r v rows::fs) h):bs.Nodup∧(∀b∈bs,T.get b h.t≠none)∧ia bs f r h v rows:=by
 obtain ⟨Z,s⟩:=s
 have:=s.eG;rw [eW,List.nodup_append] at this
 obtain ⟨a,hz⟩:=s.all (.cS bs f r v rows) (by simp)
 exact ⟨this.1,hz,a⟩
theorem aq.YW {fs:List Fact} {h:ae} {bs:List Nat} {f r:Nat} {v v':V} {rows rows':List (List V)} (s:aq (.cS bs f r v rows::fs) h) (ha:ia bs f r h v' rows'):aq (.cS bs f r v' rows'::fs) h:=by
 obtain ⟨Z,s⟩:=s
 refine ⟨Z,s.wf,s.z,s.iy,s.eG,s.kD,s.dd,fun x hx=> ?_⟩
 rcases List.mem_cons.1 hx with rfl|hx
 · exact ⟨ha,(s.all (.cS bs f r v rows) (by simp)).2⟩
 · exact s.all x (by simp [hx])
theorem YX (h:ae) (b f ap bk e top:Nat):(iH h b f ap bk e top).next=h.next∧(iH h b f ap bk e top).ds=h.ds∧(iH h b f ap bk e top).bO=h.bO:=by
 unfold iH;split<;>exact ⟨rfl,rfl,rfl⟩
theorem YY (h:ae) (b f ap bk e top k:Nat) (hk:k≠f):T.get k (iH h b f ap bk e top).bA=T.get k h.bA:=by
 unfold iH;split<;>exact (T.eU (Nat.zero_le _) (Nat.zero_le _) ..).trans (if_neg hk)
theorem YZ {h:ae} {b f ap bk e top k:Nat} (hb:k≠b) (hm:∀F,T.get f h.bA=some F→k∉F.mem):T.get k (iH h b f ap bk e top).t=T.get k h.t:=by
 unfold iH
 split
 · show T.get k (if e<ap+bk then (⟨T.set b .dead h.t,h.next,h.bA,h.ds,h.bO⟩:ae) else h).t=_
   split
   · exact (T.eU (Nat.zero_le _) (Nat.zero_le _) ..).trans (if_neg hb)
   · rfl
 · rename_i F b1
   show T.get k (if F.last≤e then h else ku e (F.last+top) h.next F.mem h).t=_
   split
   · rfl
   · exact Ki _ _ _ _ _ _ (hm F b1)
theorem Y0 {h:ae} {b f ap bk e top:Nat} (hb:T.get b h.t≠none) (k:Nat):T.get k (iH h b f ap bk e top).t≠none↔T.get k h.t≠none:=by
 unfold iH
 split
 · show T.get k (if e<ap+bk then (⟨T.set b .dead h.t,h.next,h.bA,h.ds,h.bO⟩:ae) else h).t≠none↔_
   split
   · show T.get k (T.set b .dead h.t)≠none↔_
     rw [T.eU (Nat.zero_le _) (Nat.zero_le _)]
     by_cases e:k=b
     · subst e;simp [hb]
     · rw [if_neg e]
   · exact Iff.rfl
 · rename_i F b1
   show T.get k (if F.last≤e then h else ku e (F.last+top) h.next F.mem h).t≠none↔_
   split
   · exact Iff.rfl
   · exact Pr _ _ _ _ _ _
theorem Y1 (h:ae) (b f ap bk e top:Nat):∃F,T.get f (iH h b f ap bk e top).bA=some F∧∀m∈F.mem,m=h.next∨m=b∨∃cD,T.get f h.bA=some cD∧m∈cD.mem:=by
 unfold iH
 split
 · exact ⟨_,T.yT _ _ _,fun m hm=>by simp at hm;rcases hm with h|h<;>simp [h]⟩
 · rename_i F b1
   exact ⟨_,T.yT _ _ _,fun m hm=>by
    rcases List.mem_cons.1 hm with h|h
    · exact .inl h
    · exact .inr (.inr ⟨F,b1,h⟩)⟩
theorem aq.CG {fs:List Fact} {h:ae} {bs:List Nat} {f r bytes:Nat} {v:V} {rows new:List (List V)} (s:aq (.cS bs f r v rows::fs) h) (hr:0<r) (ar:∀row∈new,row.length=r) (eI:(rows.length+new.length) * bytes≤1099511627776):
  ∃qy c5 v' ax,fH h r bytes v new.flatten new.length= .ok v' ax∧aq (.cS qy c5 r v' (rows++new)::fs) ax:=by
 obtain ⟨hnd,pc,a⟩:=s.FV
 have w:=s.wf
 by_cases xm:new.length=0
 · obtain rfl:new=[]:=by simpa using xm
   refine ⟨bs,f,v,h, ?_,by rw [List.append_nil];exact s⟩
   cases a with
   |nil=>rfl
   |row a=>rfl
 have jy:Nat.beq new.length 0=false:=by
  cases e:Nat.beq new.length 0 with
  |false=>rfl
  |true=>exact absurd (Nat.eq_of_beq_eq_true e) xm
 have hfn:T.get h.next h.bA=none:=by
  cases e:T.get h.next h.bA with
  |none=>rfl
  |some F=>have:=w.f h.next (by rw [e];simp);omega
 have agS:T.get h.next h.t=none:=by
  cases e:T.get h.next h.t with
  |none=>rfl
  |some F=>have:=w.t h.next (by rw [e];simp);omega
 cases a with
 |nil Y2=>
  subst Y2
  have hok:eT (.cells r h.next 0 (new.length * r) (eC r new.length 0 new.flatten T.e))=true:=by show Nat.blt 0 r=true;rw [fY];simpa using hr
  refine ⟨[h.next],h.next, .au h.next 0 new.length none,h.add (.cells r h.next 0 (new.length * r) (eC r new.length 0 new.flatten T.e)), ?_, ?_⟩
  · unfold fH
    have h1:(Nat.mul new.length bytes).ble 1099511627776=true:=by
     rw [ew];have:new.length * bytes≤1099511627776:=by simpa using eI
     simpa using this
    simp only [jy,cond_false,h1,cond_true,force_eq,h6]
    show (Bool.rec .bad (h.kq (.cells r h.next 0 (Nat.mul new.length r) (eC r new.length 0 new.flatten T.e)) fun h2=> .ok (.au h.next 0 new.length none) h2) (eT (.cells r h.next 0 (Nat.mul new.length r) (eC r new.length 0 new.flatten T.e))):a7)=_
    rw [show eT (.cells r h.next 0 (Nat.mul new.length r) (eC r new.length 0 new.flatten T.e))=true from hok,nD];rfl
  · refine s.turn (Fr.add h _ |>.wf w) (Nat.le_succ _) rfl rfl (fun b hb _=>zr hb) (fun _ _ _=>rfl) (fun b hb=> .inr (by simp [Fact.own] at hb;omega)) (by simp [Fact.own]) fun Z=>⟨?_,fun b hb=> ?_⟩
    · have:=ia.row (bs:=[h.next]) (f:=h.next) (r:=r) (h:=h.add (.cells r h.next 0 (new.length * r) (eC r new.length 0 new.flatten T.e))) (rows:=new) (hid:=[]) w.lim (by simp) (by simp) (by rw [sS,List.length_nil,Nat.add_zero]) (fun i row ag=> ?_) (fun row hm=>ar row (by simpa using hm)) (fun F b1=> ?_)
      · rw [List.nil_append];exact this
      · rw [List.append_nil] at ag
        rw [qb r _ 0 _ T.e i (by omega) (by omega),if_pos ⟨by omega,by have:=(List.getElem?_eq_some_iff.1 ag).1;omega⟩,Nat.sub_zero,uo i ar ag]
      · have b1:T.get h.next h.bA=some F:=b1
        rw [hfn] at b1;cases b1
    · have:b=h.next:=by simpa using hb
      subst this;rw [sS];simp
 |row ge hb hf aG cF len mem=>
  rename_i b ap hid t
  have iv:∀X:a7,(bif (Nat.mul (Nat.add rows.length new.length) bytes).ble 1099511627776&&Nat.ble 8 b then X else .bad)=X:=fun X=>by
   have h1:(Nat.mul (Nat.add rows.length new.length) bytes).ble 1099511627776=true:=by rw [ew];simpa using eI
   have h2:Nat.ble 8 b=true:=Nat.ble_eq_true_of_le ge
   rw [h1,h2];rfl
  have Y3:fH h r bytes (.au b 0 rows.length none) new.flatten new.length=(bif (Nat.add 0 (Nat.mul (Nat.add rows.length new.length) r)).ble ((rows.length+hid.length) * r) then h.dB b (Nat.add 0 (Nat.mul rows.length r)) (Nat.mul new.length r) new.flatten a7.bad fun h=>a7.ok (.au b 0 (Nat.add rows.length new.length) none) h
        else bif (Nat.add 0 (Nat.mul rows.length r)).ble ((rows.length+hid.length) * r) then
         grown h b f ap ((rows.length+hid.length) * r) (Nat.add (Nat.add ap 0) (Nat.mul rows.length r)) (Nat.add (Nat.add ap 0) (Nat.mul (Nat.add rows.length new.length) r)) fun a6=>gl r new.length rows.length new.flatten t fun t=>mk a6 (.cells r f ap (Nat.mul (Nat.add rows.length new.length) r) t) (.au h.next 0 (Nat.add rows.length new.length) none)
        else .bad):=by
   unfold fH Go.Eng.p5
   simp only [jy,cond_false,force_eq]
   rw [iv]
   show (Obj.cells? .bad _ (h.obj b):a7)=_
   rw [show h.obj b=some (.cells r f ap ((rows.length+hid.length) * r) t) from aG]
   have c1:(r.beq r&&(Nat.mod 0 r).beq 0)=true:=by
    have:Nat.mod 0 r=0:=Nat.zero_mod r
    rw [this,Nat.beq_refl];rfl
   show (bif (r.beq r&&(Nat.mod 0 r).beq 0) then _ else _)=_
   rw [c1,cond_true];rfl
  rw [Y3]
  by_cases hin:new.length≤hid.length
  · have c2:(Nat.add 0 (Nat.mul (Nat.add rows.length new.length) r)).ble ((rows.length+hid.length) * r)=true:=by
     rw [ew]
     have:0+(rows.length+new.length) * r≤(rows.length+hid.length) * r:=by rw [Nat.zero_add];exact Nat.mul_le_mul_right _ (by omega)
     simpa using this
    rw [c2,cond_true]
    have wide:ia bs f r h (.au b 0 (rows++hid).length none) (rows++hid):=ia.row (hid:=[]) ge hb hf (by rw [aG];congr 3;simp) (by rw [List.append_nil];exact cF) (by rw [List.append_nil];exact len) mem
    have s1:=s.YW wide
    obtain ⟨ax,eD,s2⟩:=s1.CD hr (i:=rows.length) (k:=new.length) (by omega) rfl ar (by simp;omega)
    refine ⟨bs,f, .au b 0 (rows.length+new.length) none,ax, ?_, ?_⟩
    · show h.dB b (0+rows.length * r) (new.length * r) new.flatten a7.bad (fun h=>a7.ok (.au b 0 (rows.length+new.length) none) h)=_
      rw [Nat.zero_add,eD]
    · have fw:=s2.Pq (k:=rows.length+new.length) (by simp;omega)
      have e:((rows++hid).take rows.length++new++(rows++hid).drop (rows.length+new.length)).take (rows.length+new.length)=rows++new:=by
       rw [List.take_left' rfl,List.take_left' (by simp)]
      rw [e] at fw;exact fw
  · have c2:(Nat.add 0 (Nat.mul (Nat.add rows.length new.length) r)).ble ((rows.length+hid.length) * r)=false:=by
     rw [ew]
     have:¬(0+(rows.length+new.length) * r≤(rows.length+hid.length) * r):=by
      rw [Nat.zero_add];intro av
      have:=Nat.le_of_mul_le_mul_right av hr
      omega
     simpa using this
    have cG:(Nat.add 0 (Nat.mul rows.length r)).ble ((rows.length+hid.length) * r)=true:=by
     rw [ew]
     have:0+rows.length * r≤(rows.length+hid.length) * r:=by rw [Nat.zero_add];exact Nat.mul_le_mul_right _ (by omega)
     simpa using this
    rw [c2,cond_false,cG,cond_true,MM _ _ _ _ _ _ _ _ (fun _ _ _ _=>Nat.zero_le _) (Nat.zero_le _),h6]
    generalize hg:iH h b f ap ((rows.length+hid.length) * r) (Nat.add (Nat.add ap 0) (Nat.mul rows.length r)) (Nat.add (Nat.add ap 0) (Nat.mul (Nat.add rows.length new.length) r))=g
    have g1:=YX h b f ap ((rows.length+hid.length) * r) (Nat.add (Nat.add ap 0) (Nat.mul rows.length r)) (Nat.add (Nat.add ap 0) (Nat.mul (Nat.add rows.length new.length) r))
    have g2:=YY h b f ap ((rows.length+hid.length) * r) (Nat.add (Nat.add ap 0) (Nat.mul rows.length r)) (Nat.add (Nat.add ap 0) (Nat.mul (Nat.add rows.length new.length) r))
    have g3:= @YZ h b f ap ((rows.length+hid.length) * r) (Nat.add (Nat.add ap 0) (Nat.mul rows.length r)) (Nat.add (Nat.add ap 0) (Nat.mul (Nat.add rows.length new.length) r))
    have g4:= @Y0 h b f ap ((rows.length+hid.length) * r) (Nat.add (Nat.add ap 0) (Nat.mul rows.length r)) (Nat.add (Nat.add ap 0) (Nat.mul (Nat.add rows.length new.length) r)) (pc b hb)
    obtain ⟨F,g5,g6⟩:=Y1 h b f ap ((rows.length+hid.length) * r) (Nat.add (Nat.add ap 0) (Nat.mul rows.length r)) (Nat.add (Nat.add ap 0) (Nat.mul (Nat.add rows.length new.length) r))
    rw [hg] at g1 g2 g3 g4 g5
    have ay:eT (.cells r f ap (Nat.mul (Nat.add rows.length new.length) r) (eC r new.length rows.length new.flatten t))=true:=by show Nat.blt 0 r=true;rw [fY];simpa using hr
    have vM:∀c∈bs,c<h.next:=fun c av=>w.t c (pc c av)
    refine ⟨h.next::bs,f, .au h.next 0 (rows.length+new.length) none,g.add (.cells r f ap ((rows.length+new.length) * r) (eC r new.length rows.length new.flatten t)), ?_, ?_⟩
    · show (Bool.rec .bad (g.kq (.cells r f ap (Nat.mul (Nat.add rows.length new.length) r) (eC r new.length rows.length new.flatten t)) fun h2=> .ok (.au h.next 0 (Nat.add rows.length new.length) none) h2) (eT (.cells r f ap (Nat.mul (Nat.add rows.length new.length) r) (eC r new.length rows.length new.flatten t))):a7)=_
      rw [ay,nD];rfl
    · have Y4:g.next=h.next:=g1.1
      have FW:∀k,T.get k (g.add (.cells r f ap ((rows.length+new.length) * r) (eC r new.length rows.length new.flatten t))).t=if k=h.next then some (.cells r f ap ((rows.length+new.length) * r) (eC r new.length rows.length new.flatten t)) else T.get k g.t:=fun k=>by rw [B1,Y4]
      have bG:∀k,k<h.next→k≠h.next:=fun k hk=>by omega
      refine s.turn ⟨fun k hk=> ?_,fun k hk=> ?_, ?_⟩ (by show h.next≤g.next+1;omega) rfl rfl (fun k hk hm=> ?_) (fun k hk hm=> ?_) (fun k hk=> ?_) ?_ fun Z=>⟨?_,fun k hk=> ?_⟩
      · show k<g.next+1
        rw [FW] at hk
        by_cases e:k=h.next
        · omega
        · rw [if_neg e] at hk
          have:=w.t k ((g4 k).1 hk);omega
      · show k<g.next+1
        have hk:T.get k g.bA≠none:=hk
        by_cases e:k=f
        · have:=vM f hf;omega
        · rw [g2 k e] at hk;have:=w.f k hk;omega
      · show 8≤g.next+1
        have:=w.lim;omega
      · rw [FW,if_neg (bG k hk)]
        exact g3 (fun e=>hm (by rw [e];exact hb)) fun F b1 o3=>hm (mem F b1 k o3)
      · exact g2 k fun e=>hm (by rw [e];exact hf)
      · rcases List.mem_cons.1 hk with rfl|hk
        · exact .inr (Nat.le_refl _)
        · exact .inl hk
      · exact List.nodup_cons.2 ⟨fun hm=>by have:=vM _ hm;omega,hnd⟩
      · have hlen:(rows++new).length=rows.length+new.length:=by simp
        have:=ia.row (bs:=h.next::bs) (f:=f) (r:=r) (ap:=ap) (h:=g.add (.cells r f ap ((rows.length+new.length) * r) (eC r new.length rows.length new.flatten t))) (b:=h.next) (rows:=rows++new) (hid:=[]) w.lim (by simp) (by simp [hf]) (by rw [FW,if_pos rfl,hlen];rfl) (fun i row ag=> ?_) (fun row hm=> ?_) (fun F' lv m hm=> ?_)
        · rw [hlen] at this;exact this
        · rw [List.append_nil] at ag
          rw [qb r _ _ _ t i (by omega) (by omega)]
          have ot:=(List.getElem?_eq_some_iff.1 ag).1
          rw [hlen] at ot
          by_cases hlt:i<rows.length
          · rw [if_neg (by omega)]
            rw [List.getElem?_append_left hlt] at ag
            exact cF i row (by rw [List.getElem?_append_left hlt];exact ag)
          · rw [if_pos ⟨by omega,by omega⟩]
            rw [List.getElem?_append_right (by omega)] at ag
            rw [uo _ ar ag]
        · rw [List.append_nil] at hm
          rcases List.mem_append.1 hm with hm|hm
          · exact len row (List.mem_append_left _ hm)
          · exact ar row hm
        · have lv:T.get f g.bA=some F':=lv
          rw [g5] at lv;cases lv
          rcases g6 m hm with rfl|rfl|⟨cD,jJ,xm⟩
          · simp
          · simp [hb]
          · exact List.mem_cons_of_mem _ (mem cD jJ m xm)
      · rw [FW]
        rcases List.mem_cons.1 hk with rfl|hk
        · rw [if_pos rfl];simp
        · rw [if_neg (bG k (vM k hk))];exact (g4 k).2 (pc k hk)
section
variable {c:Ctx} {Q:hX} {env:Env} {h:ae} {fs:List Fact} {vs:List V} {l:List eA} {i j:bp} {bs:List Nat} {f r bytes:Nat} {v fN:V} {rows new:List (List V)}
theorem I.Kj {s x:A} (st:aq (.cS bs f r v rows::fs) h) (ay:s.ev vs env=v) (hx:x.ev vs env=fN) (hn:Rows r h fN new) (hr:0<r) (eI:(rows.length+new.length) * bytes≤1099511627776)
  (K:∀qy c5 v' h1,aq (.cS qy c5 r v' (rows++new)::fs) h1→I c l Q (v'::vs) env h1):I c (.p (.H (.append r bytes s x))::l) Q vs env h:=by
 have ar:∀row∈new,row.length=r:=by
  cases hn with
  |nil=>intro row hm;simp at hm
  |row _ _ _ _ _ hlen=>exact hlen
 obtain ⟨qy,c5,v',ax,e,dE⟩:=st.CG hr ar eI
 exact I.act (fun _=>L.append (ev:=fun a=>a.ev vs env) ay hx hn e) (K _ _ _ _ dE)
theorem I.Pu {s x:A} (st:aq (.cS bs f r v rows::fs) h) (ay:s.ev vs env=v) (hx:x.ev vs env=fN) (hn:Rows r h fN new) (hr:0<r) (eI:(rows.length+new.length) * bytes≤1099511627776)
  (K:∀qy c5 v' h1,aq (.cS qy c5 r v' (rows++new)::fs) h1→I c l Q (v'::vs) (Env.set i j v' env) h1):I c (.s i j (.H (.append r bytes s x))::l) Q vs env h:=by
 have ar:∀row∈new,row.length=r:=by
  cases hn with
  |nil=>intro row hm;simp at hm
  |row _ _ _ _ _ hlen=>exact hlen
 obtain ⟨qy,c5,v',ax,e,dE⟩:=st.CG hr ar eI
 exact I.E2 (fun _=>L.append (ev:=fun a=>a.ev vs env) ay hx hn e) (K _ _ _ _ dE)
theorem aq.Y5 {b m n k:Nat} {cap:Option Nat} {cs:List V} (s:aq (.cS bs f r (.au b m n cap) rows::fs) h) (hr:0<r) (hk:k<rows.length) (av:cs.length=r):
  ∃ax,(∀{R:Type} (d:R) (K:ae→R),h.dB b (k * r) r cs d K=K ax)∧aq (.cS bs f r (.au b m n cap) (rows.set k cs)::fs) ax:=by
 obtain ⟨ax,e,dE⟩:=s.CD hr (i:=k) (k:=1) (new:=[cs]) (by omega) rfl (by simpa using av) (by omega)
 refine ⟨ax,fun d K=> ?_, ?_⟩
 · have:=e d K
   rw [Nat.one_mul] at this
   simpa using this
 · rw [List.set_eq_take_append_cons_drop,if_pos hk,←List.singleton_append (x:=cs),←List.append_assoc];exact dE
theorem I.CH {b n k:Nat} {cap:Option Nat} {x y:A} {cs:List V} (st:aq (.cS bs f r (.au b 0 n cap) rows::fs) h) (hx:x.ev vs env= .ptr b (0+k * r)) (hy:(y.ev vs env).dA=some cs) (hr:0<r) (hk:k<rows.length) (av:cs.length=r)
  (K:∀h1,aq (.cS bs f r (.au b 0 n cap) (rows.set k cs)::fs) h1→I c l Q (un::vs) env h1):I c (.p (.H (.store r x y))::l) Q vs env h:=by
 obtain ⟨ax,e,dE⟩:=st.Y5 hr hk av
 refine I.act (fun call=> ?_) (K ax dE)
 show (Option.rec .bad (fun p=>Option.rec .bad (fun l=>Bool.rec .bad (h.dB p.1 p.2 r l .bad fun h=> .ok un h) ((cI l).beq r)) (y.ev vs env).dA) (x.ev vs env).lo:a7)=_
 rw [hx,hy]
 show (Bool.rec .bad (h.dB b (0+k * r) r cs .bad fun h=>a7.ok un h) ((cI cs).beq r):a7)=_
 rw [kX,av,Nat.beq_refl]
 show h.dB b (0+k * r) r cs .bad (fun h=>a7.ok un h)=_
 rw [Nat.zero_add,e]
end
theorem Kk:∀ss:List (List UInt8),(ss.map fun s=>[L.str s]).flatten=ss.map gF
 |[]=>rfl
 |a::l=>by rw [List.map_cons,List.flatten_cons,Kk l];rfl
theorem Pv {c:Ctx} {f0:Nat} (av:∀args h r,s0 f0 f0 args h=r→r≠.bad→h9 c f0 args h r) {fs:List Fact} {h:ae} {bs:List Nat} {f:Nat} {v:V} {ss:List (List UInt8)} (hn:ss.length<4294967296) (st:aq (.cS bs f 1 v (ss.map fun s=>[L.str s])::fs) h):
  bT c f0 [v] h fun _ h1=>aq (.cS bs f 1 v ((iz ss).map fun s=>[L.str s])::fs) h1:=by
 obtain ⟨_,_,a⟩:=st.FV
 have hf:f0.beq f0=true:=Nat.beq_refl _
 have w8:=a.rows (by decide)
 generalize cz:(ss.map fun s=>[L.str s])=R at st a w8
 cases a with
 |nil=>
  obtain rfl:ss=[]:=by simpa using cz
  refine ⟨.dh [],h,av _ _ _ ?_ (by simp),st⟩
  unfold s0;rw [hf]
 |row ge hb Ic aG cF len mem=>
  rename_i b ap hid t
  have CI:R.length=ss.length:=by rw [←cz,List.length_map]
  have Kl:h.load b 0 R.length=some (ss.map gF):=by
   have:=w8.B4
   rw [show Nat.mul R.length 1=R.length from Nat.mul_one _] at this
   rw [this,←cz,Kk]
  have Y6:∀l:List (List UInt8),ox (l.map gF)=true:=fun l=>by
   induction l with
   |nil=>rfl
   |cons a l bm=>exact bm
  have gD:(iz ss).length=ss.length:=(uv ss).length_eq
  have hlt:(R.length).blt 4294967296=true:=by rw [fY];simp;omega
  by_cases h0:ss.length=0
  · obtain rfl:ss=[]:=by simpa using h0
    obtain rfl:R=[]:=by simpa using cz.symm
    refine ⟨.dh [],h,av _ _ _ ?_ (by simp),st⟩
    unfold s0;rw [hf]
    show (Option.rec .bad (fun l=>Bool.rec .bad (h.dB b 0 0 (mW l) .bad fun h=> .ok (.dh []) h) ((ox l).and (Nat.blt 0 4294967296))) (h.load b 0 0):a7)=_
    rfl
  · obtain ⟨ax,e,dE⟩:=st.CD (i:=0) (k:=ss.length) (new:=(iz ss).map fun s=>[L.str s]) (by decide) (by omega) (by rw [List.length_map,gD]) (fun row hm=>by obtain ⟨s,_,rfl⟩:=List.mem_map.1 hm;rfl) (by omega)
    refine ⟨.dh [],ax,av _ _ _ ?_ (by simp), ?_⟩
    · unfold s0;rw [hf]
      show (Option.rec .bad (fun l=>Bool.rec .bad (h.dB b 0 R.length (mW l) .bad fun h=> .ok (.dh []) h) ((ox l).and ((R.length).blt 4294967296))) (h.load b 0 R.length):a7)=_
      rw [Kl]
      show (Bool.rec .bad (h.dB b 0 R.length (mW (ss.map gF)) .bad fun h=> .ok (.dh []) h) ((ox (ss.map gF)).and ((R.length).blt 4294967296)):a7)=_
      rw [Y6,hlt]
      show h.dB b 0 R.length (mW (ss.map gF)) .bad (fun h=>a7.ok (.dh []) h)=_
      have:=e (.bad:a7) (fun h=> .ok (.dh []) h)
      rw [Nat.zero_mul,Nat.mul_one] at this
      rw [Kf,CI]
      rw [Kk] at this;exact this
    · have df:R.take 0++((iz ss).map fun s=>[L.str s])++R.drop (0+ss.length)=(iz ss).map fun s=>[L.str s]:=by
       rw [Nat.zero_add,List.drop_of_length_le (by omega)];simp
      rw [df] at dE;exact dE
end
end Go.Eng
namespace Go.Eng
noncomputable section
def ux (b:Nat) (row:List Bool):Fact:= .mV b 1 (row.map fun x=>[.bool x])
def gH (bs:List Nat) (M:List (List Bool)):List Fact:=List.zipWith ux bs M
def lH (aG qz n:Nat) (bs:List Nat) (h:ae):Prop:=∀a b,bs[a]? =some b→∃cap,h.eb aG (qz+a * 1)=some (.au b 0 n cap)
structure eJ (n:Nat) (M:List (List Bool)):Prop where
 len:M.length=n
 row:∀r∈M,r.length=n
theorem eJ.at {n:Nat} {M:List (List Bool)} (s:eJ n M) {a:Nat} (ha:a<n):∃r,M[a]? =some r∧r.length=n:=
 ⟨M[a]'(by rw [s.len];exact ha),List.getElem?_eq_getElem (by rw [s.len];exact ha),s.row _ (List.getElem_mem _)⟩
theorem Km {bs:List Nat} {M:List (List Bool)} {a b:Nat} {r:List Bool} (hb:bs[a]? =some b) (hr:M[a]? =some r):(gH bs M)[a]? =some (ux b r):=by
 unfold gH;rw [List.getElem?_zipWith,hb,hr]
theorem Y7 {bs:List Nat} {M:List (List Bool)} {a b:Nat} (r:List Bool) (hb:bs[a]? =some b):(gH bs M).set a (ux b r)=gH bs (M.set a r):=by
 unfold gH
 apply List.ext_getElem?
 intro i
 rw [List.getElem?_zipWith]
 by_cases e:a=i
 · subst e
   rw [List.getElem?_set,if_pos rfl,hb]
   by_cases ar:a<M.length
   · rw [if_pos (by rw [List.length_zipWith];have:=(List.getElem?_eq_some_iff.1 hb).1;omega),List.getElem?_set,if_pos rfl,if_pos ar]
   · rw [if_neg (by simp [List.length_zipWith];omega),List.getElem?_set,if_pos rfl,if_neg ar]
 · rw [List.getElem?_set,if_neg e,List.getElem?_zipWith,List.getElem?_set,if_neg e]
theorem Y8 {h:ae} {b:Nat} {row:List Bool} (a:Rows 1 h (.au b 0 (row.map fun x=>[V.bool x]).length none) (row.map fun x=>[V.bool x])) {j:Nat} {x:Bool} (aR:row[j]? =some x):h.eb b (0+j * 1)=some (.bool x):=
 a.eb (by rw [List.getElem?_map,aR];rfl)
theorem Pw {fs:List Fact} {h:ae} {aG qz n:Nat} {bs:List Nat} {M:List (List Bool)} (st:aq (.aE (lH aG qz n bs)::(gH bs M++fs)) h) {a b:Nat} {r:List Bool} (hb:bs[a]? =some b) (hr:M[a]? =some r):
  (∃cap,h.eb aG (qz+a * 1)=some (.au b 0 n cap))∧∀j x,r[j]? =some x→h.eb b (0+j * 1)=some (.bool x):=by
 refine ⟨st.bt 0 rfl a b hb,fun j x aR=> ?_⟩
 have s2:=st.tail.at_ (Km hb hr)
 exact Y8 (s2.Pa 0 rfl) aR
theorem Y9 {fs:List Fact} {h:ae} {aG qz n:Nat} {bs:List Nat} {M:List (List Bool)} (st:aq (.aE (lH aG qz n bs)::(gH bs M++fs)) h) {a b j:Nat} {r:List Bool} (hb:bs[a]? =some b) (hr:M[a]? =some r) (aR:j<r.length) (x:Bool):
  ∃t,8≤b∧T.get b h.t=some (.cells 1 b 0 (r.length * 1) t)∧T.get b h.bA=none∧aq (.aE (lH aG qz n bs)::(gH bs (M.set a (r.set j x))++fs)) (h.put b (.cells 1 b 0 (r.length * 1) (T.set j [.bool x] t))):=by
 have s1:aq (gH bs M++ .aE (lH aG qz n bs)::fs) h:=st.Pc
 have s2:=s1.at_ (Km hb hr)
 obtain ⟨t,fB,h1,h2,fw⟩:=aq.Pg (v:= .bool x) s2 (i:=j) (by simpa using aR)
 have ar:(r.map fun x=>[V.bool x]).length=r.length:=List.length_map ..
 rw [ar] at h1 fw
 refine ⟨t,fB,h1,h2, ?_⟩
 have e:(r.map fun x=>[V.bool x]).set j [.bool x]=(r.set j x).map fun x=>[V.bool x]:=by rw [List.map_set]
 rw [e] at fw
 have iG:aq ((gH bs M).set a (ux b (r.set j x))++ .aE (lH aG qz n bs)::fs) _:=aq.back (y:=ux b (r.set j x)) fw (Km hb hr)
 rw [Y7 _ hb] at iG
 exact iG.out
namespace Lab
def cf (M:List (List Bool)) (a b:Nat):Bool:=((M[a]?.getD [])[b]?).getD false
def oy (r s:List Bool):List Bool:=List.zipWith (·||·) r s
def qA (k:Nat) (M:List (List Bool)) (row:List Bool):List Bool:=if (row[k]?).getD false then oy row (M[k]?.getD []) else row
def rI (M:List (List Bool)) (k:Nat):List (List Bool):=M.map (qA k M)
def closed (n:Nat) (M:List (List Bool)):List (List Bool):=(List.range n).foldl rI M
def iQ (k a:Nat) (M:List (List Bool)):List (List Bool):=(M.take a).map (qA k M)++M.drop a
def pC (b:Nat) (r s:List Bool):List Bool:=(oy r s).take b++r.drop b
theorem Px (r:List Bool):oy r r=r:=by
 unfold oy
 induction r with
 |nil=>rfl
 |cons a r bm=>rw [List.zipWith_cons_cons,bm];cases a<;>rfl
theorem xP {r s:List Bool} {n:Nat} (hr:r.length=n) (ay:s.length=n):(oy r s).length=n:=by unfold oy;rw [List.length_zipWith,hr,ay,Nat.min_self]
theorem Za {k n:Nat} {M:List (List Bool)} {row:List Bool} (s:eJ n M) (hk:k<n) (hr:row.length=n):(qA k M row).length=n:=by
 obtain ⟨r,h1,h2⟩:=s.at hk
 unfold qA
 rw [h1]
 split
 · exact xP hr h2
 · exact hr
theorem Zb {k n:Nat} {M:List (List Bool)} (s:eJ n M) (hk:k<n):eJ n (rI M k):=by
 refine ⟨by unfold rI;rw [List.length_map,s.len],fun r hr=> ?_⟩
 obtain ⟨r0,h0,rfl⟩:=List.mem_map.1 hr
 exact Za s hk (s.row r0 h0)
theorem Kn (n:Nat) (M:List (List Bool)):closed (n+1) M=rI (closed n M) n:=by
 unfold closed;rw [List.range_succ,List.foldl_append];rfl
theorem zP {n:Nat} {M:List (List Bool)} (s:eJ n M):∀k,k≤n→eJ n (closed k M)
 |0,_=>s
 |k+1,h=>by rw [Kn];exact Zb (zP s k (by omega)) (by omega)
theorem Zc (k:Nat) (M:List (List Bool)):iQ k 0 M=M:=by unfold iQ;simp
theorem Zd {k n:Nat} {M:List (List Bool)} (s:eJ n M):iQ k n M=rI M k:=by
 unfold iQ rI
 rw [List.take_of_length_le (by rw [s.len];exact Nat.le_refl _),List.drop_of_length_le (by rw [s.len];exact Nat.le_refl _),List.append_nil]
theorem CJ {k a i n:Nat} {M:List (List Bool)} (s:eJ n M) (ha:a≤n):(iQ k a M)[i]? =(M[i]?).map fun r=>if i<a then qA k M r else r:=by
 unfold iQ
 by_cases h:i<a
 · rw [List.getElem?_append_left (by rw [List.length_map,List.length_take,s.len];omega),List.getElem?_map,List.getElem?_take_of_lt h]
   cases M[i]? with
   |none=>rfl
   |some r=>simp [h]
 · rw [List.getElem?_append_right (by rw [List.length_map,List.length_take,s.len];omega),List.length_map,List.length_take,s.len,List.getElem?_drop]
   have:a+(i - min a n)=i:=by omega
   rw [this]
   cases M[i]? with
   |none=>rfl
   |some r=>simp [h]
theorem Ze {k a n:Nat} {M:List (List Bool)} {r:List Bool} (s:eJ n M) (ha:a<n) (hr:M[a]? =some r):(iQ k a M).set a (qA k M r)=iQ k (a+1) M:=by
 apply List.ext_getElem?
 intro i
 rw [List.getElem?_set,CJ s (by omega)]
 have hlen:(iQ k a M).length=n:=by unfold iQ;rw [List.length_append,List.length_map,List.length_take,List.length_drop,s.len];omega
 by_cases e:a=i
 · subst e
   rw [if_pos rfl,hlen,if_pos ha,CJ s (by omega),hr];simp
 · rw [if_neg e,CJ s (by omega)]
   cases M[i]? with
   |none=>rfl
   |some q=>simp;congr 1;simp;omega
theorem Zf {k:Nat} {M:List (List Bool)} {r:List Bool} (hr:M[k]? =some r):qA k M r=r:=by
 unfold qA;rw [hr];split
 · exact Px r
 · rfl
theorem Zg (r s:List Bool):pC 0 r s=r:=by unfold pC;simp
theorem Zh {n:Nat} {r s:List Bool} (hr:r.length=n) (ay:s.length=n):pC n r s=oy r s:=by
 unfold pC;rw [List.take_of_length_le (by rw [xP hr ay];exact Nat.le_refl _),List.drop_of_length_le (by rw [hr];exact Nat.le_refl _),List.append_nil]
theorem Py {b n:Nat} {r s:List Bool} (hr:r.length=n) (ay:s.length=n) (hb:b≤n):(pC b r s).length=n:=by
 unfold pC;rw [List.length_append,List.length_take,List.length_drop,xP hr ay,hr];omega
theorem FX {b n i:Nat} {r s:List Bool} (hr:r.length=n) (ay:s.length=n) (hb:b≤n):(pC b r s)[i]? =if i<b then (oy r s)[i]? else r[i]? :=by
 unfold pC
 by_cases h:i<b
 · rw [if_pos h,List.getElem?_append_left (by rw [List.length_take,xP hr ay];omega),List.getElem?_take_of_lt h]
 · rw [if_neg h,List.getElem?_append_right (by rw [List.length_take,xP hr ay];omega),List.length_take,xP hr ay,List.getElem?_drop]
   congr 1;omega
theorem Zi {b n:Nat} {r s:List Bool} {x y:Bool} (hr:r.length=n) (ay:s.length=n) (hb:b<n) (hx:r[b]? =some x) (hy:s[b]? =some y):(pC b r s).set b (x||y)=pC (b+1) r s:=by
 apply List.ext_getElem?
 intro i
 rw [List.getElem?_set,Py hr ay (by omega),FX hr ay (by omega),FX hr ay (by omega)]
 by_cases e:b=i
 · subst e
   rw [if_pos rfl,if_pos hb,if_pos (by omega)]
   unfold oy;rw [List.getElem?_zipWith,hx,hy]
 · rw [if_neg e]
   by_cases h:i<b
   · rw [if_pos h,if_pos (by omega)]
   · rw [if_neg h,if_neg (by omega)]
theorem Zj (b:Nat) (r:List Bool):pC b r r=r:=by unfold pC;rw [Px,List.take_append_drop]
end Lab
end
end Go.Eng
namespace Go.Eng
noncomputable section
def rJ (x:Nat):List V:=[.int .i64 (x:Int)]
def mq (h:ae):List (List Nat)→List V→Prop
 |[],[]=>True
 |r::J,v::vs=>Rows 1 h v (r.map rJ)∧mq h J vs
 |_,_=>False
theorem mq.snoc {h:ae}:∀{J:List (List Nat)} {vs:List V} {r:List Nat} {v:V},mq h J vs→Rows 1 h v (r.map rJ)→mq h (J++[r]) (vs++[v])
 |[],[],_,_,_,hr=>⟨hr,trivial⟩
 |[],_::_,_,_,h,_=>h.elim
 |_::_,[],_,_,h,_=>h.elim
 |_::_,_::_,_,_,h,hr=>⟨h.1,h.2.snoc hr⟩
theorem mq.len {h:ae}:∀{J:List (List Nat)} {vs:List V},mq h J vs→vs.length=J.length
 |[],[],_=>rfl
 |[],_::_,h=>h.elim
 |_::_,[],h=>h.elim
 |_::_,_::_,h=>by simp [h.2.len]
theorem mq.at {h:ae}:∀{J:List (List Nat)} {vs:List V},mq h J vs→∀{i:Nat} {r:List Nat},J[i]? =some r→∃v,vs[i]? =some v∧Rows 1 h v (r.map rJ)
 |[],[],_,i,r,ag=>by simp at ag
 |[],_::_,h,_,_,_=>h.elim
 |_::_,[],h,_,_,_=>h.elim
 |a::J,v::vs,h,0,r,ag=>by simp at ag;subst ag;exact ⟨v,rfl,h.1⟩
 |a::J,v::vs,h,i+1,r,ag=>by
  obtain ⟨w,h1,h2⟩:=h.2.at (i:=i) (r:=r) (by simpa using ag)
  exact ⟨w,by simpa using h1,h2⟩
def oz (h:ae) (v:V) (J:List (List Nat)):Prop:=∃vs:List V,Rows 1 h v (vs.map fun x=>[x])∧mq h J vs
def Pz (cq br n:Nat) (M:List (List Bool)) (h:ae):Prop:=∀a,a<n→∃aT ro Ko,h.eb cq (br+a * 1)=some (.au aT ro n Ko)∧∀b,b<n→h.eb aT (ro+b * 1)=some (.bool (Lab.cf M a b))
theorem aq.qB {fs:List Fact} {h:ae} {P:ae→Prop} (s:aq fs h) (hp:∀h,P h):aq (.aE P::fs) h:=(aq.pure s (Q:=True) trivial).e4 fun h _=>hp h
namespace Lab
def lower (n:Nat) (le:Nat→Nat→Bool) (is:Nat→Bool) (x:Nat):Bool:=(List.range n).all fun d=> !is d||le x d
def least (n:Nat) (le:Nat→Nat→Bool) (is:Nat→Bool):Option Nat:=(List.range n).find? fun x=>is x&&lower n le is x
def join (n:Nat) (M:List (List Bool)) (a b:Nat):Option Nat:=least n (cf M) fun x=>cf M a x&&cf M b x
def meet (n:Nat) (M:List (List Bool)) (a b:Nat):Option Nat:=least n (fun x y=>cf M y x) fun x=>cf M x a&&cf M x b
def CK (n:Nat) (M:List (List Bool)) (a b:Nat):Bool:= !(decide (a≠b)&&(cf M a b&&cf M b a))&&((join n M a b).isSome&&(meet n M a b).isSome)
def lI (n:Nat) (M:List (List Bool)) (a k:Nat):List Nat:=(List.range k).map fun b=>(join n M a b).getD 0
def vN (n:Nat) (M:List (List Bool)) (a k:Nat):List Nat:=(List.range k).map fun b=>(meet n M a b).getD 0
def jL (n:Nat) (M:List (List Bool)) (k:Nat):List (List Nat):=(List.range k).map fun a=>lI n M a n
def qC (n:Nat) (M:List (List Bool)) (k:Nat):List (List Nat):=(List.range k).map fun a=>vN n M a n
def Kp (n:Nat) (M:List (List Bool)) (a k:Nat):Bool:=(List.range k).all fun b=>CK n M a b
def oA (n:Nat) (M:List (List Bool)) (k:Nat):Bool:=(List.range k).all fun a=>Kp n M a n
def low (n:Nat) (M:List (List Bool)):Option Nat:=least n (cf M) fun _=>true
def high (n:Nat) (M:List (List Bool)):Option Nat:=least n (fun x y=>cf M y x) fun _=>true
def complete (n:Nat) (M:List (List Bool)):Option (Nat×Nat):=if oA n M n&&((low n M).isSome&&(high n M).isSome) then some ((low n M).getD 0,(high n M).getD 0) else none
theorem Zk (n:Nat) (M:List (List Bool)) (a k:Nat):lI n M a (k+1)=lI n M a k++[(join n M a k).getD 0]:=by unfold lI;rw [List.range_succ,List.map_append];rfl
theorem Zl (n:Nat) (M:List (List Bool)) (k:Nat):jL n M (k+1)=jL n M k++[lI n M k n]:=by unfold jL;rw [List.range_succ,List.map_append];rfl
end Lab
end
end Go.Eng
namespace Go.Eng
noncomputable section
namespace Lab
theorem vO {M:List (List Bool)} {a:Nat} {r:List Bool} (h:M[a]? =some r) (b:Nat):cf M a b=(r[b]?).getD false:=by unfold cf;rw [h];rfl
theorem FY {M:List (List Bool)} {a:Nat} (h:M[a]? =none) (b:Nat):cf M a b=false:=by unfold cf;rw [h];rfl
theorem Kq {n:Nat} {M:List (List Bool)} (s:eJ n M) {a b:Nat} (h:cf M a b=true):a<n∧b<n:=by
 cases ha:M[a]? with
 |none=>rw [FY ha] at h;cases h
 |some r=>
  rw [vO ha] at h
  obtain ⟨h1,rfl⟩:=List.getElem?_eq_some_iff.1 ha
  refine ⟨s.len▸h1, ?_⟩
  rcases Nat.lt_or_ge b (M[a].length) with hb|hb
  · rw [s.row _ (List.getElem_mem h1)] at hb;exact hb
  · rw [List.getElem?_eq_none hb] at h;cases h
theorem Zm {n k:Nat} {M:List (List Bool)} (s:eJ n M) (hk:k<n) (a b:Nat):cf (rI M k) a b=(cf M a b||(cf M a k&&cf M k b)):=by
 obtain ⟨en,s4,Zn⟩:=s.at hk
 cases ha:M[a]? with
 |none=>
  have:(rI M k)[a]? =none:=by unfold rI;rw [List.getElem?_map,ha];rfl
  rw [FY this,FY ha,FY ha];rfl
 |some r=>
  have ar:r.length=n:=s.row r (List.mem_of_getElem? ha)
  have:(rI M k)[a]? =some (qA k M r):=by unfold rI;rw [List.getElem?_map,ha];rfl
  rw [vO this,vO ha,vO ha,vO s4]
  unfold qA
  rw [s4]
  by_cases hb:b<n
  · obtain ⟨x,hx⟩:∃x,r[b]? =some x:=⟨r[b]'(by omega),List.getElem?_eq_getElem (by omega)⟩
    obtain ⟨y,hy⟩:∃y,en[b]? =some y:=⟨en[b]'(by omega),List.getElem?_eq_getElem (by omega)⟩
    cases (r[k]?).getD false with
    |false=>simp
    |true=>
     simp only [if_true,Option.getD_some]
     unfold oy
     rw [List.getElem?_zipWith,hx,hy];rfl
  · have aS:r[b]? =none:=List.getElem?_eq_none (by omega)
    have bl:en[b]? =none:=List.getElem?_eq_none (by omega)
    rw [aS,bl]
    split
    · have:(oy r ((some en).getD []))[b]? =none:=List.getElem?_eq_none (by rw [xP ar (by exact Zn)];omega)
      rw [this];simp
    · rw [aS];simp
theorem PA {n:Nat} {M:List (List Bool)} (s:eJ n M):∀k,k≤n→∀j,j<k→∀a b,cf (closed k M) a j=true→cf (closed k M) j b=true→cf (closed k M) a b=true
 |0,_,j,aR,_,_,_,_=>absurd aR (by omega)
 |k+1,hk,j,aR,a,b,h1,h2=>by
  have Zo:=zP s k (by omega)
  have bm:=PA s k (by omega)
  simp only [Kn,Zm Zo (show k<n by omega),Bool.or_eq_true,Bool.and_eq_true] at h1 h2 ⊢
  by_cases e:j=k
  · subst e
    have h1:cf (closed j M) a j=true:=by rcases h1 with h|h;exact h;exact h.1
    have h2:cf (closed j M) j b=true:=by rcases h2 with h|h;exact h;exact h.2
    exact .inr ⟨h1,h2⟩
  · have Kr:j<k:=by omega
    rcases h1 with h1|⟨h1,ji⟩<;>rcases h2 with h2|⟨h2,y0⟩
    · exact .inl (bm j Kr a b h1 h2)
    · exact .inr ⟨bm j Kr a k h1 h2,y0⟩
    · exact .inr ⟨h1,bm j Kr k b ji h2⟩
    · exact .inr ⟨h1,y0⟩
theorem Zp {n:Nat} {M:List (List Bool)} (s:eJ n M) {a b c:Nat} (h1:cf (closed n M) a b=true) (h2:cf (closed n M) b c=true):cf (closed n M) a c=true:=
 PA s n (Nat.le_refl _) b (Kq (zP s n (Nat.le_refl _)) h1).2 a c h1 h2
abbrev aL:=List UInt8
def uniq:List aL→List aL
 |[]=>[]
 |x::l=>match l with
  |[]=>[x]
  |y::_=>if x=y then uniq l else x::uniq l
theorem FZ:∀(l:List aL) (z:aL),z∈uniq l↔z∈l
 |[],z=>Iff.rfl
 |[x],z=>Iff.rfl
 |x::y::l,z=>by
  have bm:=FZ (y::l) z
  by_cases h:x=y
  · rw [show uniq (x::y::l)=uniq (y::l) from if_pos h,bm,h];simp
  · rw [show uniq (x::y::l)=x::uniq (y::l) from if_neg h,List.mem_cons,bm];simp
theorem PB:∀l:List aL,(uniq l).length≤l.length
 |[]=>Nat.le_refl _
 |[x]=>Nat.le_refl _
 |x::y::l=>by
  have bm:=PB (y::l)
  by_cases h:x=y
  · rw [show uniq (x::y::l)=uniq (y::l) from if_pos h];simp at bm ⊢;omega
  · rw [show uniq (x::y::l)=x::uniq (y::l) from if_neg h];simp at bm ⊢;omega
theorem lt_of_le_ne {x y:aL} (h:x≤y) (hn:x≠y):x<y:=by
 rcases List.le_iff_lt_or_eq.1 h with h|h
 · exact h
 · exact absurd h hn
theorem PC:∀l:List aL,l.Pairwise (·≤·)→(uniq l).Pairwise (·<·)
 |[],_=>List.Pairwise.nil
 |[x],_=>by simp [uniq]
 |x::y::l,h=>by
  obtain ⟨h1,h2⟩:=List.pairwise_cons.1 h
  have bm:=PC (y::l) h2
  by_cases e:x=y
  · rw [show uniq (x::y::l)=uniq (y::l) from if_pos e];exact bm
  · rw [show uniq (x::y::l)=x::uniq (y::l) from if_neg e]
    refine List.pairwise_cons.2 ⟨fun z hz=> ?_,bm⟩
    have hz:=(FZ _ _).1 hz
    have F0:x<y:=lt_of_le_ne (h1 y (by simp)) e
    rcases List.mem_cons.1 hz with rfl|hz
    · exact F0
    · exact List.not_le.1 fun Zq=>List.not_le.2 F0 (List.le_trans ((List.pairwise_cons.1 h2).1 z hz) Zq)
theorem PD:∀{a b:List aL},a.Pairwise (·<·)→b.Pairwise (·<·)→(∀z,z∈a↔z∈b)→a=b
 |[],[],_,_,_=>rfl
 |[],y::b,_,_,h=>absurd ((h y).2 (by simp)) (by simp)
 |x::a,[],_,_,h=>absurd ((h x).1 (by simp)) (by simp)
 |x::a,y::b,ha,hb,h=>by
  obtain ⟨a1,a2⟩:=List.pairwise_cons.1 ha
  obtain ⟨ff,eQ⟩:=List.pairwise_cons.1 hb
  have F0:x=y:=by
   rcases List.mem_cons.1 ((h x).1 (by simp)) with e|e
   · exact e
   · rcases List.mem_cons.1 ((h y).2 (by simp)) with bF|bF
     · exact bF.symm
     · exact absurd (List.lt_trans (ff x e) (a1 y bF)) (List.lt_irrefl _)
  subst F0
  congr 1
  refine PD a2 eQ fun z=>⟨fun hz=> ?_,fun hz=> ?_⟩
  · rcases List.mem_cons.1 ((h z).1 (by simp [hz])) with e|e
    · subst e;exact absurd (a1 z hz) (List.lt_irrefl _)
    · exact e
  · rcases List.mem_cons.1 ((h z).2 (by simp [hz])) with e|e
    · subst e;exact absurd (ff z hz) (List.lt_irrefl _)
    · exact e
def raw (l:List (aL×aL)):List aL:=l.flatMap fun p=>if p.2=[] then [p.1] else [p.1,p.2]
def names (l:List (aL×aL)):List aL:=uniq (iz (raw l))
theorem F1 (l:List (aL×aL)) (z:aL):z∈names l↔z∈raw l:=(FZ _ z).trans (uv _).mem_iff
theorem Zr (l:List (aL×aL)):(names l).Pairwise (·<·):=PC _ (Kh _)
def unit (n:Nat):List (List Bool):=(List.range n).map fun a=>(List.replicate n false).set a true
def put (M:List (List Bool)) (i j:Nat):List (List Bool):=M.set i ((M[i]?.getD []).set j true)
def xQ (ns:List aL) (M:List (List Bool)) (p:aL×aL):List (List Bool):=if p.2=[] then M else put M (ns.idxOf p.1) (ns.idxOf p.2)
def table (ns:List aL) (l:List (aL×aL)):List (List Bool):=l.foldl (xQ ns) (unit ns.length)
theorem Zs (n:Nat):eJ n (unit n):=⟨by simp [unit],fun r hr=>by
 obtain ⟨a,_,rfl⟩:=List.mem_map.1 hr
 simp⟩
theorem Zt {n:Nat} {M:List (List Bool)} (s:eJ n M) {i j:Nat}:eJ n (put M i j):=by
 refine ⟨by simp [put,s.len],fun r hr=> ?_⟩
 unfold put at hr
 cases h:M[i]? with
 |none=>
  rw [List.set_eq_of_length_le (by rw [List.getElem?_eq_none_iff] at h;exact h)] at hr
  exact s.row r hr
 |some q=>
  rw [h] at hr
  rcases List.mem_or_eq_of_mem_set hr with hr|rfl
  · exact s.row r hr
  · simp [s.row q (List.mem_of_getElem? h)]
theorem Zu {n:Nat} {M:List (List Bool)} {ns:List aL} (s:eJ n M) (p:aL×aL):eJ n (xQ ns M p):=by
 unfold xQ;split
 · exact s
 · exact Zt s
theorem PE {n:Nat} {ns:List aL}:∀(l:List (aL×aL)) {M:List (List Bool)},eJ n M→eJ n (l.foldl (xQ ns) M)
 |[],_,s=>s
 |p::l,_,s=>PE l (Zu s p)
theorem Ks (ns:List aL) (l:List (aL×aL)):eJ ns.length (table ns l):=PE l (Zs _)
theorem PF {l:List (aL×aL)} {p:aL×aL} (hp:p∈l):p.1∈raw l∧(p.2≠[]→p.2∈raw l):=by
 unfold raw
 constructor
 · exact List.mem_flatMap.2 ⟨p,hp,by split<;>simp⟩
 · intro h;exact List.mem_flatMap.2 ⟨p,hp,by rw [if_neg h];simp⟩
theorem Zv {l:List (aL×aL)}:∀p∈l,p.2≠[]→p.1∈names l∧p.2∈names l:=fun p hp h=>⟨(F1 l _).2 (PF hp).1,(F1 l _).2 ((PF hp).2 h)⟩
def order (l:List (aL×aL)):List (List Bool):=closed (names l).length (table (names l) l)
def made (l:List (aL×aL)):Nat×Option (Nat×Nat):=
 if (names l).length=0 then (13,none) else if 12<(names l).length then (14,none) else match complete (names l).length (order l) with
  |none=>(13,none)
  |some x=>(0,some x)
theorem PG {l:List (aL×aL)} (h:(names l).length=0):made l=(13,none):=if_pos h
theorem zQ {l:List (aL×aL)} (h:12<(names l).length):made l=(14,none):=by unfold made;rw [if_neg (by omega),if_pos h]
theorem PH {l:List (aL×aL)} (h0:¬(names l).length=0) (h1:¬12<(names l).length) (h:complete (names l).length (order l)=none):made l=(13,none):=by unfold made;rw [if_neg h0,if_neg h1,h]
theorem PI {l:List (aL×aL)} {x:Nat×Nat} (h0:¬(names l).length=0) (h1:¬12<(names l).length) (h:complete (names l).length (order l)=some x):made l=(0,some x):=by unfold made;rw [if_neg h0,if_neg h1,h]
end Lab
end
end Go.Eng
namespace Go.Eng
noncomputable section
theorem Rows.ux {r b o n:Nat} {h:ae} {cap:Option Nat} {rows:List (List V)} (a:Rows r h (.au b o n cap) rows):∃f ap bk t,T.get b h.t=some (.cells r f ap bk t):=by
 cases a with
 |row _ dj _ _ _ _=>exact ⟨_,_,_,_,dj⟩
section
variable {ev:dr} {h:ae} {x:A} {br ag mx:Option A} {r b o n i j m:Nat}
theorem L.jU {rows:List (List V)} (hx:ev x= .au b o n none) (a:Rows r h (.au b o n none) rows) (Kt:dM ag ev n=some j) (Cz:dM br ev 0=some i) (uj:i≤j) (l6:j≤n):light (.jU r x br ag none) ev h= .val (.au b (o+i * r) (j - i) none):=by
 obtain ⟨f,ap,bk,t,dj⟩:=a.ux
 show (match ev x with
  | .U=>match dM ag ev 0,dM br ev 0,dM none ev 0 with
    |some 0,some 0,some 0=>bE.val .U
    |_,_,_=> .bad
  | .au b o n cap=>match dM ag ev n,dM br ev 0 with
    |some j,some i=>ny r b o n cap i j (Option.rec none (fun x=>some (ev x).asNat) none) h
    |_,_=> .bad
  |_=> .bad)=_
 rw [hx]
 simp only [Kt,Cz]
 show ny r b o n none i j none h=_
 unfold ny
 simp only [ae.obj,dj]
 have aS:(r.beq r&&(i.ble j&&(j.ble n||(Nat.add o (Nat.mul j r)).ble bk)))=true:=by
  rw [Nat.beq_refl,show i.ble j=true from Nat.ble_eq_true_of_le uj,show j.ble n=true from Nat.ble_eq_true_of_le l6];rfl
 rw [aS,cond_true]
 unfold tE
 simp
theorem L.Zw {F2:A} (hx:ev x= .au b o n none) (Kt:dM ag ev n=some j) (Cz:dM br ev 0=some i) (hm:(ev F2).asNat=some m) (h0:0<n) (uj:i≤j) (MF:j≤m) (Zx:m≤n) (agT:i<m):light (.jU r x br ag (some F2)) ev h= .val (.au b (o+i * r) (j - i) (some (m - i))):=by
 show (match ev x with
  | .U=>match dM ag ev 0,dM br ev 0,dM (some F2) ev 0 with
    |some 0,some 0,some 0=>bE.val .U
    |_,_,_=> .bad
  | .au b o n cap=>match dM ag ev n,dM br ev 0 with
    |some j,some i=>ny r b o n cap i j (Option.rec none (fun x=>some (ev x).asNat) (some F2)) h
    |_,_=> .bad
  |_=> .bad)=_
 rw [hx]
 simp only [Kt,Cz,hm]
 unfold ny
 have aS:(Nat.blt 0 n&&(i.ble j&&(j.ble m&&m.ble n)))=true:=by
  rw [show Nat.blt 0 n=true from by rw [fY];simpa using h0,show i.ble j=true from Nat.ble_eq_true_of_le uj,show j.ble m=true from Nat.ble_eq_true_of_le MF,show m.ble n=true from Nat.ble_eq_true_of_le Zx];rfl
 simp only [aS,cond_true]
 unfold nx tE
 have bl:(Nat.sub m i).beq 0=false:=by
  rw [h5]
  exact decide_eq_false (show ¬(m - i=0) by omega)
 simp only [force_eq]
 rw [bl];rfl
end
section
variable {c:Ctx} {Q:hX} {env:Env} {h:ae} {fs:List Fact} {vs:List V} {l:List eA} {i j:bp} {bs:List Nat} {f r:Nat} {v fN:V} {rows new:List (List V)}
theorem I.Zy {b n k m:Nat} {cap B6:Option Nat} {x:A} {z:List V} (st:aq (.cS bs f r (.au b 0 n cap) rows::fs) h) (hx:x.ev vs env= .au b (0+k * r) m B6) (hr:0<r) (hz:z.length=r) (hm:0<m) (hk:k+m=rows.length)
  (K:∀h1,aq (.cS bs f r (.au b 0 n cap) (rows.take k++List.replicate m z)::fs) h1→I c l Q (un::vs) env h1):I c (.p (.H (.clear z x))::l) Q vs env h:=by
 obtain ⟨ax,e,dE⟩:=st.CD hr (i:=k) (k:=m) (new:=List.replicate m z) hm (by simp) (fun row hm=>by rw [(List.mem_replicate.1 hm).2];exact hz) (by omega)
 refine I.act (fun call=> ?_) (K ax ?_)
 · show HQ z x call (fun a=>a.ev vs env) h=_
   have h7:(fun a:A=>a.ev vs env) x= .au b (0+k * r) m B6:=hx
   unfold HQ
   rw [h7]
   show h.dB b (0+k * r) (Nat.mul m (cI z)) (rep m z) .bad (fun h=>a7.ok un h)=_
   rw [kX,hz,Mw,Nat.zero_add]
   exact e _ _
 · rw [List.drop_of_length_le (by omega),List.append_nil] at dE;exact dE
end
def SR (l:List (List UInt8)):List (List V):=l.map fun s=>[L.str s]
theorem gQ (l:List (List UInt8)):(SR l).length=l.length:=List.length_map _
theorem qD {l:List (List UInt8)} {i:Nat} {s:List UInt8} (h:l[i]? =some s):(SR l)[i]? =some [L.str s]:=by unfold SR;rw [List.getElem?_map,h];rfl
theorem CL (l m:List (List UInt8)):SR (l++m)=SR l++SR m:=List.map_append
theorem CM (l:List (List UInt8)) (i:Nat) (s:List UInt8):(SR l).set i [L.str s]=SR (l.set i s):=by unfold SR;rw [List.map_set]
theorem Zz (l:List (List UInt8)) (i:Nat):(SR l).take i=SR (l.take i):=by unfold SR;rw [List.map_take]
namespace Lab
theorem PJ:∀(l:List aL) (y:aL),uniq (l++[y])=if l.getLast? =some y then uniq l else uniq l++[y]
 |[],y=>by simp [uniq]
 |[x],y=>by
  by_cases h:x=y
  · subst h;simp [uniq]
  · simp [uniq,h]
 |x::bR::l,y=>by
  have bm:=PJ (bR::l) y
  have e:(x::bR::l).getLast? =(bR::l).getLast? :=by simp [List.getLast?_cons_cons]
  rw [e]
  by_cases h:x=bR
  · rw [show uniq (x::bR::l++[y])=uniq (bR::l++[y]) from if_pos h,bm,show uniq (x::bR::l)=uniq (bR::l) from if_pos h]
  · rw [show uniq (x::bR::l++[y])=x::uniq (bR::l++[y]) from if_neg h,bm,show uniq (x::bR::l)=x::uniq (bR::l) from if_neg h]
    split<;>rfl
theorem F3 {S:List aL} {m:Nat} {x y:aL} (hx:S[m]? =some x) (hy:S[m+1]? =some y):uniq (S.take (m+2))=if y=x then uniq (S.take (m+1)) else uniq (S.take (m+1))++[y]:=by
 have aS:S.take (m+2)=S.take (m+1)++[y]:=by
  rw [show m+2=(m+1)+1 from rfl,List.take_add_one,hy];rfl
 have bl:(S.take (m+1)).getLast? =some x:=by
  rw [List.take_add_one,hx];simp
 rw [aS,PJ,bl]
 by_cases h:y=x
 · subst h;simp
 · rw [if_neg h,if_neg (fun e=>h (Option.some.inj e).symm)]
structure oB (S R:List aL) (k j q:Nat):Prop where
 cu:1≤k
 ob:1≤j
 le:k+j≤S.length
 len:R.length=S.length
 Ku:q=(uniq (S.take (k+j))).length
 Kv:R.take q=uniq (S.take (k+j))
 Kw:R.drop (k+j - 1)=S.drop (k+j - 1)
 CN:q+1≤k+j
theorem oB.start {S:List aL} {k:Nat} {x:aL} (hk:1≤k) (hu:uniq (S.take k)=S.take k) (hx:S[k]? =some x) (hy:S[k - 1]? =some x):oB S S k 1 k:=by
 obtain ⟨m,rfl⟩:∃m,k=m+1:=⟨k - 1,by omega⟩
 have hlt:=(List.getElem?_eq_some_iff.1 hx).1
 have e:uniq (S.take (m+1+1))=S.take (m+1):=by rw [F3 (by simpa using hy) hx,if_pos rfl,hu]
 exact ⟨hk,Nat.le_refl _,by omega,rfl,by rw [e,List.length_take];omega,e.symm,rfl,by omega⟩
theorem oB.at {S R:List aL} {k j q i:Nat} (c:oB S R k j q) (ag:k+j - 1≤i):R[i]? =S[i]? :=by
 have:=congrArg (fun l:List aL=>l[i - (k+j - 1)]?) c.Kw
 simp only [List.getElem?_drop] at this
 rw [show k+j - 1+(i - (k+j - 1))=i by omega] at this;exact this
theorem oB.skip {S R:List aL} {k j q:Nat} {x:aL} (c:oB S R k j q) (hx:S[k+j]? =some x) (hy:S[k+j - 1]? =some x):oB S R k (j+1) q:=by
 have hlt:=(List.getElem?_eq_some_iff.1 hx).1
 have h1:=c.ob
 obtain ⟨m,hm⟩:∃m,k+j=m+1:=⟨k+j - 1,by omega⟩
 have e:uniq (S.take (k+(j+1)))=uniq (S.take (k+j)):=by
  rw [show k+(j+1)=m+2 by omega,F3 (x:=x) (by rw [show m=k+j - 1 by omega];exact hy) (by rw [←hm];exact hx),if_pos rfl,hm]
 refine ⟨c.cu,by omega,by omega,c.len,by rw [e];exact c.Ku,by rw [e];exact c.Kv, ?_,by have:=c.CN;omega⟩
 have:=congrArg (List.drop 1) c.Kw
 rw [List.drop_drop,List.drop_drop] at this
 rw [show k+(j+1) - 1=k+j - 1+1 by omega];exact this
theorem oB.put {S R:List aL} {k j q:Nat} {x y:aL} (c:oB S R k j q) (hx:S[k+j]? =some x) (hy:S[k+j - 1]? =some y) (bG:x≠y):oB S (R.set q x) k (j+1) (q+1):=by
 have hlt:=(List.getElem?_eq_some_iff.1 hx).1
 have h1:=c.ob
 have bB:=c.CN
 have ar:=c.len
 obtain ⟨m,hm⟩:∃m,k+j=m+1:=⟨k+j - 1,by omega⟩
 have e:uniq (S.take (k+(j+1)))=uniq (S.take (k+j))++[x]:=by
  rw [show k+(j+1)=m+2 by omega,F3 (x:=y) (by rw [show m=k+j - 1 by omega];exact hy) (by rw [←hm];exact hx),if_neg bG,hm]
 refine ⟨c.cu,by omega,by omega,by rw [List.length_set,c.len],by rw [e,List.length_append,←c.Ku];rfl, ?_, ?_,by omega⟩
 · rw [e,←c.Kv,List.take_add_one,List.take_set_of_le (Nat.le_refl _),List.getElem?_set,if_pos rfl,if_pos (by omega)];rfl
 · have:=congrArg (List.drop 1) c.Kw
   rw [List.drop_drop,List.drop_drop] at this
   rw [show k+(j+1) - 1=k+j - 1+1 by omega,List.drop_set_of_lt (by omega)];exact this
theorem oB.done {S R:List aL} {k j q:Nat} (c:oB S R k j q) (h:S.length≤k+j):q=(uniq S).length∧R.take q=uniq S∧q<S.length:=by
 have e:S.take (k+j)=S:=List.take_of_length_le h
 have h1:=c.Ku;have h2:=c.Kv
 rw [e] at h1 h2
 exact ⟨h1,h2,by have:=c.CN;have:=c.le;omega⟩
theorem ZA {S:List aL} {k:Nat} {x y:aL} (hk:1≤k) (hu:uniq (S.take k)=S.take k) (hx:S[k]? =some x) (hy:S[k - 1]? =some y) (bG:x≠y):uniq (S.take (k+1))=S.take (k+1):=by
 obtain ⟨m,rfl⟩:∃m,k=m+1:=⟨k - 1,by omega⟩
 rw [F3 (by simpa using hy) hx,if_neg bG,hu,List.take_add_one (i:=m+1),hx];rfl
theorem ZB (S:List aL):uniq (S.take 1)=S.take 1:=by cases S<;>simp [uniq]
end Lab
end
end Go.Eng
namespace Go.Eng
noncomputable section
def PK:Nat→List (Lab.aL×V)→List oX
 |_,[]=>[]
 |i,p::ks=>⟨L.str p.1,p.2,i⟩::PK (i+1) ks
def ZC (h:ae) (b:Nat) (ks:List (Lab.aL×V)):Prop:=T.get b h.t=some (.map (PK 0 ks) ks.length)
section
variable {c:Ctx} {Q:hX} {env:Env} {h:ae} {fs:List Fact} {vs:List V} {l:List eA} {b:Nat} {x:Lab.aL} {ks:List (Lab.aL×V)} {m k u:A} {v:V}
theorem aq.same {f g:Fact} (s:aq (f::fs) h) (bd:g.own=f.own) (hf:g.cO=f.cO) (bQ:∀Z,f.holds Z h→g.holds Z h):aq (g::fs) h:=by
 obtain ⟨Z,s⟩:=s
 refine ⟨Z,s.wf,s.z,fun b hb=>s.iy b ?_, ?_, ?_,fun b hb du=>s.dd b ?_ ?_,fun y hy=> ?_⟩
 · rw [eW,←bd,←eW];exact hb
 · rw [eW,bd,←eW];exact s.eG
 · rw [iK,hf,←iK];exact s.kD
 · rw [eW,←bd,←eW];exact hb
 · rw [iK,←hf,←iK];exact du
 · rcases List.mem_cons.1 hy with rfl|hy
   · exact bQ Z (s.all f (by simp))
   · exact s.all y (by simp [hy])
end
end
end Go.Eng
namespace Go.Eng
noncomputable section
theorem aq.ZD {fs:List Fact} {h:ae} {bs:List Nat} {f r b m n:Nat} {cap:Option Nat} {rows:List (List V)} (s:aq (.cS bs f r (.au b m n cap) rows::fs) h) (hr:1<r) {i j:Nat} (aR:j<r) {row:List V} (ag:rows[i]? =some row) (v:V):
  ∃ax,(∀{R:Type} (d:R) (K:ae→R),h.dB b (i * r+j) 1 [v] d K=K ax)∧aq (.cS bs f r (.au b m n cap) (rows.set i (row.set j v))::fs) ax:=by
 obtain ⟨a,pc⟩:ia bs f r h (.au b m n cap) rows∧∀b∈bs,T.get b h.t≠none:=by
  obtain ⟨Z,s⟩:=s
  exact s.all (.cS bs f r (.au b m n cap) rows) (by simp)
 have o1:=s.wf
 cases a with
 |row ge hb hf aG cF len mem=>
  rename_i ap hid t
  have sP:=(List.getElem?_eq_some_iff.1 ag).1
  have vP:row.length=r:=len row (List.mem_append_left _ (List.mem_of_getElem? ag))
  have ZE:T.get i t=some row:=cF i row (by rw [List.getElem?_append_left sP];exact ag)
  have hlen:(rows.set i (row.set j v)).length=rows.length:=List.length_set
  let h1:=kv h f (ap+(i * r+j)) (ap+(i * r+j)+1) b
  have k2:lr h h1:=(Ee h f _ _ b (fun _ _ _ _=>Nat.zero_le _) (Nat.zero_le _)).1
  have yY:(i * r+j).mod r=j:=by show (i * r+j) % r=j;rw [Nat.mul_add_mod_self_right,Nat.mod_eq_of_lt aR]
  have hdiv:(i * r+j).div r=i:=by show (i * r+j) / r=i;rw [Nat.mul_comm,Nat.mul_add_div (by omega),Nat.div_eq_of_lt aR,Nat.add_zero]
  have ZF:gL j [v] row=row.set j v:=by
   rw [D5 j [v] row (by simp;omega),List.set_eq_take_append_cons_drop,if_pos (by omega)];simp
  refine ⟨⟨T.set b (.cells r f ap ((rows.length+hid.length) * r) (T.set i (row.set j v) t)) h1.t,h.next,h.bA,h.ds,h.bO⟩,fun d K=> ?_, ?_⟩
  · unfold ae.dB
    rw [show Nat.beq 1 0=false from rfl,show b.blt 8=false by rw [fY];simpa using ge,show h.obj b=_ from aG]
    show (bif (Nat.add (i * r+j) 1).ble ((rows.length+hid.length) * r) then over d r (i * r+j) 1 [v] t (fun rows'=>h.q7 f (Nat.add ap (i * r+j)) (Nat.add (Nat.add ap (i * r+j)) 1) b fun h=>h.jw b (.cells r f ap ((rows.length+hid.length) * r) rows') K) else d)=_
    have aS:(Nat.add (i * r+j) 1).ble ((rows.length+hid.length) * r)=true:=by
     rw [ew]
     have:(i+1) * r≤(rows.length+hid.length) * r:=Nat.mul_le_mul_right _ (by omega)
     rw [Nat.add_mul,Nat.one_mul] at this
     have:i * r+j+1≤(rows.length+hid.length) * r:=by omega
     simpa using this
    rw [aS,cond_true]
    unfold over
    have bl:(Nat.beq 1 r&&((i * r+j).mod r).beq 0)=false:=by
     have:Nat.beq 1 r=false:=by rw [h5];simp;omega
     rw [this];rfl
    have df:(Nat.add ((i * r+j).mod r) 1).ble r=true:=by rw [yY,ew];have:j+1≤r:=aR;simpa using this
    rw [bl,df,hdiv,yY,ZE]
    show (gK (gL j [v] row) fun row=>T.dg i row t (fun rows'=>h.q7 f (Nat.add ap (i * r+j)) (Nat.add (Nat.add ap (i * r+j)) 1) b fun h=>h.jw b (.cells r f ap ((rows.length+hid.length) * r) rows') K))=_
    rw [l4,ZF]
    simp only [T.h4]
    rw [H6,qc]
    show K ⟨T.set b _ h1.t,h1.next,h1.bA,h1.ds,h1.bO⟩=_
    rw [k2.next,k2.bA,k2.ds,k2.bO]
  · have xO:∀c,T.get c (T.set b (.cells r f ap ((rows.length+hid.length) * r) (T.set i (row.set j v) t)) h1.t)=if c=b then some (.cells r f ap ((rows.length+hid.length) * r) (T.set i (row.set j v) t)) else T.get c h1.t:=fun c=>T.eU (Nat.zero_le _) (Nat.zero_le _) ..
    have CF:∀c,T.get c (T.set b (.cells r f ap ((rows.length+hid.length) * r) (T.set i (row.set j v) t)) h1.t)≠none↔T.get c h.t≠none:=fun c=>by
     rw [xO]
     by_cases e:c=b
     · subst e;rw [if_pos rfl];simp [aG]
     · rw [if_neg e];exact Pt h f _ _ b c
    have hnd:bs.Nodup:=by
     obtain ⟨Z,s⟩:=s
     have:=s.eG;rw [eW,List.nodup_append] at this
     exact this.1
    refine s.turn ⟨fun c av=>o1.t c ((CF c).1 av),o1.f,o1.lim⟩ (Nat.le_refl _) rfl rfl (fun c av hm=> ?_) (fun _ _ _=>rfl) (fun c av=> .inl av) hnd fun Z=>⟨?_,fun c av=>(CF c).2 (pc c av)⟩
    · show T.get c (T.set b _ h1.t)=_
      rw [xO,if_neg (fun e=>hm (by rw [e];exact hb))]
      exact Ps fun F b1 o3=>hm (mem F b1 c o3)
    · have:=ia.row (bs:=bs) (f:=f) (r:=r) (ap:=ap) (hid:=hid) (t:=T.set i (row.set j v) t) (h:=⟨T.set b (.cells r f ap ((rows.length+hid.length) * r) (T.set i (row.set j v) t)) h1.t,h.next,h.bA,h.ds,h.bO⟩) (rows:=rows.set i (row.set j v)) ge hb hf (by rw [hlen];exact (xO b).trans (if_pos rfl)) (fun k F4 hk=> ?_) (fun F4 hm=> ?_) mem
      · rw [hlen] at this;exact this
      · rw [T.eU (Nat.zero_le _) (Nat.zero_le _)]
        by_cases e:k=i
        · subst e
          rw [List.getElem?_append_left (by rw [List.length_set];exact sP),List.getElem?_set_self sP] at hk
          rw [if_pos rfl];exact hk
        · rw [if_neg e]
          refine cF k F4 ?_
          rw [←hk]
          by_cases cG:k<rows.length
          · rw [List.getElem?_append_left cG,List.getElem?_append_left (by rw [List.length_set];exact cG),List.getElem?_set_ne (fun bl=>e bl.symm)]
          · rw [List.getElem?_append_right (by omega),List.getElem?_append_right (by rw [List.length_set];omega),List.length_set]
      · rcases List.mem_append.1 hm with hm|hm
        · rcases List.mem_or_eq_of_mem_set hm with hm|rfl
          · exact len F4 (List.mem_append_left _ hm)
          · rw [List.length_set];exact vP
        · exact len F4 (List.mem_append_right _ hm)
def Kx (N:List Lab.aL) (W:List (Nat×V×List Lab.aL)):List (List V):=List.zipWith (fun x w=>[L.str x,w.2.1]) N W
def F5 (h:ae):List (List Lab.aL)→List V→Prop
 |[],[]=>True
 |r::J,v::vs=>(Rows 1 h v (SR r)∧(r=[]→v= .U))∧F5 h J vs
 |_,_=>False
abbrev jM:=List (Lab.aL×List Lab.aL)
def Ky (G:jM):List (List Lab.aL):=G.map fun p=>p.2
def PL (G:jM) (vs:List V):List (List V):=List.zipWith (fun p u=>[L.str p.1,u]) G vs
def PN (h:ae) (v:V) (G:jM):Prop:=∃vs:List V,Rows 2 h v (PL G vs)∧F5 h (Ky G) vs
theorem PO:∀(N:List Lab.aL) (W:List (Nat×V×List Lab.aL)),N.length=W.length→Kx N W=PL (List.zip N (W.map fun w=>w.2.2)) (W.map fun w=>w.2.1)
 |[],[],_=>rfl
 |[],_::_,h=>by simp at h
 |_::_,[],h=>by simp at h
 |x::N,w::W,h=>by
  have bm:=PO N W (by simpa using h)
  show [L.str x,w.2.1]::Kx N W=_
  rw [bm];rfl
theorem PQ:∀(N:List Lab.aL) (J:List (List Lab.aL)),N.length=J.length→(List.zip N J).map (fun p=>p.2)=J
 |[],[],_=>rfl
 |[],_::_,h=>by simp at h
 |_::_,[],h=>by simp at h
 |x::N,w::W,h=>by rw [List.zip_cons_cons,List.map_cons,PQ N W (by simpa using h)]
theorem PN.of {h:ae} {v:V} {N:List Lab.aL} {W:List (Nat×V×List Lab.aL)} (ar:N.length=W.length) (h1:Rows 2 h v (Kx N W)) (h2:F5 h (W.map fun w=>w.2.2) (W.map fun w=>w.2.1)):PN h v (List.zip N (W.map fun w=>w.2.2)):=
 ⟨W.map fun w=>w.2.1,PO N W ar▸h1,by unfold Ky;rw [PQ N _ (by rw [List.length_map];exact ar)];exact h2⟩
end
end Go.Eng
namespace Go.Eng
noncomputable section
def vQ (G:jM):List Lab.aL:=G.map fun p=>p.1
def ZG (N l:List Lab.aL):List Lab.aL:=l.filter fun t=>decide (t∈N)
def Kz (G:jM):jM:=G.map fun p=>(p.1,ZG (vQ G) p.2)
structure ZH (G:jM):Prop where
 dd:(vQ G).Nodup
 ZI:G.length≤8
 to:∀p∈G,p.2.length≤64
structure agU (h:ae) (m:Nat) (W:jM) (vs:List V):Prop where
 map:ZC h m (List.zip (vQ W) vs)
 rows:F5 h (Ky W) vs
end
end Go.Eng
namespace Go.Eng
noncomputable section
def xR (W:jM) (x:Lab.aL):List Lab.aL:=match W with
 |[]=>[]
 |p::W=>if p.1=x then p.2 else xR W x
inductive Reach (W:jM) (x:Lab.aL):Lab.aL→Prop
 |one {y:Lab.aL}:y∈xR W x→Reach W x y
 |step {z y:Lab.aL}:Reach W x z→y∈xR W z→Reach W x y
structure agV (W:jM):Prop where
 ZI:W.length≤8
 to:∀p∈W,p.2.length≤64
 ZJ:∀p∈W,∀y∈p.2,y∈vQ W
structure agW (W:jM) (x:Lab.aL) (S CO:List Lab.aL):Prop where
 dd:S.Nodup
 ZJ:∀y∈S,y∈vQ W
 agX:∀y∈CO,y∈vQ W
 len:CO.length≤(S.length+1) * 64
 ak:∀y∈S,Reach W x y
 kI:∀y∈CO,Reach W x y
 ed:∀y∈xR W x,y∈S∨y∈CO
 c1:∀z∈S,∀y∈xR W z,y∈S∨y∈CO
end
end Go.Eng
namespace Go.Eng
noncomputable section
theorem L.ZK {ev:dr} {h:ae} {x y:A} {b o n:Nat} {cap:Option Nat} (hx:ev x= .au b o n cap) (hy:ev y= .U):light (.eq false .au x y) ev h= .val (.bool false):=by
 show (Option.rec .bad (fun b=> .val (.bool (b !=false))) (cK.eq .au (ev x) (ev y)):bE)=_
 rw [hx,hy];rfl
theorem L.PR {ev:dr} {h:ae} {x y:A} (hx:ev x= .U) (hy:ev y= .U):light (.eq false .au x y) ev h= .val (.bool true):=by
 show (Option.rec .bad (fun b=> .val (.bool (b !=false))) (cK.eq .au (ev x) (ev y)):bE)=_
 rw [hx,hy];rfl
section
variable {c:Ctx} {Q:hX} {env:Env} {h:ae} {fs:List Fact} {l:List eA} {vs:List V} {i j:bp}
theorem I.PS {r n:Nat} {zero:List V} {aO:List (Nat×Nat×A)} {rows:List (List V)} (st:aq fs h) (hf:fill aO (fun a=>a.ev vs env) (rep n zero)=some rows.flatten) (hr:0<r) (hn:rows.length=n) (ar:∀row∈rows,row.length=r)
  (K:∀b h1,8≤b→aq (.aE (fun h=>Rows r h (.au b 0 n (some n)) rows)::fs) h1→I c l Q (.au b 0 n (some n)::vs) env h1):I c (.p (.L (.eS r n zero aO))::l) Q vs env h:=
 I.new (L.eS hf) (zu hr) (K _ _ st.wf.lim (st.frozen _ fun _ hg=>B5 hr hn ar hg))
end
end
end Go.Eng
