/- Part of a proof of a law: rules of an evaluator, contracts, plain laws. No condition of its own. -/
import Derived.Test.YtmcjcbldmoijiaaGreatDoorEngF
import Derived.Shelf.SlSortCmp.InsertionK
set_option linter.unusedVariables false
set_option linter.unusedSimpArgs false
namespace Go.Eng
noncomputable section
open Go.Sort Go.Proofs
structure c7 (k:Nat) where
 val:List UInt8×List Value
 ok:val.2.length+1=k∧∀v∈val.2,v.oneCell'=true
def c7.enc {k:Nat} (r:c7 k):List Value:=encStr r.val.1::r.val.2
def wD (a b:List UInt8):Int:=if a<b then -1 else if b<a then 1 else 0
def c7.bw {k:Nat} (a b:c7 k):Int:=wD a.val.1 b.val.1
theorem c7.Td {k:Nat} (hk:0<k):Nonempty (Inhabited (c7 k)):=⟨⟨⟨([],List.replicate (k - 1) (.int .i64 0)),by simp;omega,fun v aD=>by rw [List.eq_of_mem_replicate aD];rfl⟩⟩⟩
theorem c7.len {k:Nat} (r:c7 k):r.enc.length=k:=by
 show r.val.2.length+1=k
 exact r.ok.1
theorem c7.one {k:Nat} (r:c7 k):∀v∈r.enc,v.oneCell'=true:=by
 intro v aD
 rcases List.mem_cons.1 aD with rfl|aD
 · rfl
 · exact r.ok.2 v aD
theorem c7.lt {k:Nat} (a b:c7 k):ltOf c7.bw a b=decide (a.val.1<b.val.1):=by
 unfold ltOf c7.bw wD
 by_cases h:a.val.1<b.val.1
 · simp [h]
 · by_cases h2:b.val.1<a.val.1<;>simp [h,h2]
theorem c7.swo {k:Nat}:SWO (ltOf (c7.bw (k:=k))) where
 irrefl x:=by rw [c7.lt];simp
 trans x y z h1 h2:=by
  rw [c7.lt] at *
  simp only [decide_eq_true_eq] at *
  exact List.lt_trans h1 h2
 ntrans x y z h1 h2:=by
  rw [c7.lt] at *
  simp only [decide_eq_false_iff_not] at *
  exact fun h=>(show y.val.1≤x.val.1 from h1) |> fun a=>(show z.val.1≤y.val.1 from h2) |> fun b=>(show z.val.1≤x.val.1 from List.le_trans b a) h
theorem flat_get {α:Type} {k:Nat} (hk:0<k):∀(L:List (List α)),(∀r∈L,r.length=k)→∀t:Nat,L.flatten[t]? =(L[t / k]?).bind fun r=>r[t % k]?
 |[],_,t=>by simp
 |r::L,h,t=>by
  have hr:r.length=k:=h r (by simp)
  rw [List.flatten_cons]
  by_cases ht:t<k
  · rw [List.getElem?_append_left (by omega),Nat.div_eq_of_lt ht,Nat.mod_eq_of_lt ht];rfl
  · rw [List.getElem?_append_right (by omega),hr,flat_get hk L (fun s ay=>h s (by simp [ay])) (t - k)]
    obtain ⟨u,rfl⟩:∃u,t=u+k:=⟨t - k,by omega⟩
    rw [Nat.add_sub_cancel,Nat.add_div_right _ hk,Nat.add_mod_right];rfl
theorem Te {k:Nat} (hk:0<k) [Inhabited (c7 k)] (d:Array (c7 k)):flatK c7.enc k d=((d.toList.map c7.enc).flatten).toArray:=by
 apply Array.ext_getElem?
 intro t
 have hf:=flat_get hk (d.toList.map c7.enc) (fun r hr=>by obtain ⟨x,_,rfl⟩:=List.mem_map.1 hr;exact x.len) t
 by_cases ht:t<d.size * k
 · have aQ:t / k<d.size:=(Nat.div_lt_iff_lt_mul hk).2 ht
   have hm:t % k<k:=Nat.mod_lt _ hk
   have g:=get_flatK c7.enc k d t ht
   have ay:t<(flatK c7.enc k d).size:=by rw [size_flatK];exact ht
   rw [getElem!_pos _ t ay] at g
   rw [Array.getElem?_eq_getElem ay,g]
   simp only [List.getElem?_toArray]
   rw [hf,List.getElem?_map,Array.getElem?_toList,Array.getElem?_eq_getElem aQ]
   have ar:t % k<(c7.enc d[t / k]).length:=by rw [c7.len];exact hm
   show some _=(c7.enc d[t / k])[t % k]?
   rw [getElem!_pos d _ aQ,getElem!_pos (c7.enc d[t / k]) (t % k) ar,List.getElem?_eq_getElem ar]
 · have ay:(flatK c7.enc k d).size≤t:=by rw [size_flatK];omega
   rw [Array.getElem?_eq_none ay]
   simp only [List.getElem?_toArray]
   have aQ:d.size≤t / k:=(Nat.le_div_iff_mul_le hk).2 (by omega)
   rw [hf,List.getElem?_map,Array.getElem?_toList,Array.getElem?_eq_none aQ];rfl
theorem c7.Tf {k:Nat}:∀(X:List (List UInt8×List Value)),(∀r∈X,r.2.length+1=k∧∀v∈r.2,v.oneCell'=true)→∃D:List (c7 k),D.map c7.val=X
 |[],_=>⟨[],rfl⟩
 |r::X,h=>by
  obtain ⟨D,e⟩:=c7.Tf X fun s ay=>h s (by simp [ay])
  exact ⟨⟨r,h r (by simp)⟩::D,by rw [List.map_cons,e]⟩
theorem c7.rows {k:Nat} (D:List (c7 k)):D.map c7.enc=(D.map c7.val).map fun r=>encStr r.1::r.2:=by rw [List.map_map];rfl
theorem afE {k:Nat} [Inhabited (c7 k)] {d d':Array (c7 k)} (p:PermIn 0 d.size d d') (s:SortedIn (ltOf c7.bw) 0 d.size d') (hn:((d.toList.map c7.val).map (·.1)).Nodup):d'.toList.map c7.val=fo (d.toList.map c7.val):=by
 obtain ⟨p1,_,Tg⟩:=p
 rw [Array.extract_eq_self_of_le (by omega),Array.extract_eq_self_of_le (Nat.le_refl _)] at Tg
 refine aap (Tg.map _) ?_ hn
 rw [List.pairwise_map,List.pairwise_iff_getElem]
 intro i j ag aR uj
 have ag:i<d'.size:=by simpa using ag
 have aR:j<d'.size:=by simpa using aR
 have h:=s i j (Nat.zero_le _) uj (by omega)
 rw [c7.lt,getElem!_pos d' i ag,getElem!_pos d' j aR] at h
 have h:¬(d'[j]).val.1<(d'[i]).val.1:=by simpa using h
 simp only [Array.getElem_toList]
 exact h
theorem Ti {P:Program} {f0 eZ k:Nat} (hk:0<k) [Inhabited (c7 k)]
  (C:∀(b7 off cap:Nat) (d:Array (c7 k)) (w:World),HoldsK c7.enc k w b7 off d→b7<w.heap.size→d.size<4611686018427387904→
    Calls P f0 #[.slice (some ⟨b7,off,none⟩) d.size cap, .func (.func eZ) #[] #[]] w fun e w'=>e= .returned (.tuple #[])∧∃d' n os,PermIn 0 d.size d d'∧SortedIn (ltOf c7.bw) 0 d.size d'∧w'=sortWorldK c7.enc k w b7 off n d' os):
  ∀(b7 off cap:Nat) (X:List (List UInt8×List Value)) (w:World),(∀r∈X,r.2.length+1=k∧∀v∈r.2,v.oneCell'=true)→(X.map (·.1)).Nodup→
   Sort.Holds id w b7 off ((X.map fun r=>encStr r.1::r.2).flatten).toArray→b7<w.heap.size→X.length<4611686018427387904→
   Calls P f0 #[.slice (some ⟨b7,off,none⟩) X.length cap, .func (.func eZ) #[] #[]] w fun e w'=>e= .returned (.tuple #[])∧∃n os,w'=grow (putRow id (Sort.ahead w n) b7 off ((fo X).map fun r=>encStr r.1::r.2).flatten.toArray) os:=by
 intro b7 off cap X w pK hn hH hb ar
 obtain ⟨D,rfl⟩:=c7.Tf X pK
 have e:flatK c7.enc k D.toArray=((D.map c7.val).map fun r=>encStr r.1::r.2).flatten.toArray:=by rw [Te hk,←c7.rows]
 have ay:D.toArray.size=(D.map c7.val).length:=by simp
 have:=C b7 off cap D.toArray w (by unfold HoldsK;rw [e];exact hH) hb (by rw [ay];exact ar)
 rw [ay] at this
 refine this.mono fun aS w' he=> ?_
 obtain ⟨rfl,d',n,os,p,s,rfl⟩:=he
 refine ⟨rfl,n,os, ?_⟩
 have N8:=afE (d:=D.toArray) (d':=d') (by rw [ay];exact p) (by rw [ay];exact s) hn
 show grow (putRow id (Sort.ahead w n) b7 off (flatK c7.enc k d')) os=_
 rw [Te hk,c7.rows,N8]
end
end Go.Eng
