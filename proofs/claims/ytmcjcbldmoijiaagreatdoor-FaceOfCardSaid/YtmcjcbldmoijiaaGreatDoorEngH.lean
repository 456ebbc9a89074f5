/- Part of a proof of a law: rules of an evaluator, contracts, plain laws. No condition of its own. -/
import Derived.Test.YtmcjcbldmoijiaaGreatDoorEngF
import Derived.Shelf.SlSortCmp.InsertionK
set_option linter.unusedVariables false
set_option linter.unusedSimpArgs false
namespace Go.Eng
noncomputable section
open Go.Sort Go.Proofs
structure dt (k:Nat) where
 val:List UInt8×List Value
 ok:val.2.length+1=k∧∀v∈val.2,v.oneCell'=true
def dt.enc {k:Nat} (r:dt k):List Value:=encStr r.val.1::r.val.2
def xM (a b:List UInt8):Int:=if a<b then -1 else if b<a then 1 else 0
def dt.aY {k:Nat} (a b:dt k):Int:=xM a.val.1 b.val.1
theorem dt.UW {k:Nat} (hk:0<k):Nonempty (Inhabited (dt k)):=⟨⟨⟨([],List.replicate (k - 1) (.int .i64 0)),by simp;omega,fun v aE=>by rw [List.eq_of_mem_replicate aE];rfl⟩⟩⟩
theorem dt.len {k:Nat} (r:dt k):r.enc.length=k:=by
 show r.val.2.length+1=k
 exact r.ok.1
theorem dt.one {k:Nat} (r:dt k):∀v∈r.enc,v.oneCell'=true:=by
 intro v aE
 rcases List.mem_cons.1 aE with rfl|aE
 · rfl
 · exact r.ok.2 v aE
theorem dt.lt {k:Nat} (a b:dt k):ltOf dt.aY a b=decide (a.val.1<b.val.1):=by
 unfold ltOf dt.aY xM
 by_cases h:a.val.1<b.val.1
 · simp [h]
 · by_cases h2:b.val.1<a.val.1<;>simp [h,h2]
theorem dt.swo {k:Nat}:SWO (ltOf (dt.aY (k:=k))) where
 irrefl x:=by rw [dt.lt];simp
 trans x y z h1 h2:=by
  rw [dt.lt] at *
  simp only [decide_eq_true_eq] at *
  exact List.lt_trans h1 h2
 ntrans x y z h1 h2:=by
  rw [dt.lt] at *
  simp only [decide_eq_false_iff_not] at *
  exact fun h=>(show y.val.1≤x.val.1 from h1) |> fun a=>(show z.val.1≤y.val.1 from h2) |> fun b=>(show z.val.1≤x.val.1 from List.le_trans b a) h
theorem flat_get {α:Type} {k:Nat} (hk:0<k):∀(L:List (List α)),(∀r∈L,r.length=k)→∀t:Nat,L.flatten[t]? =(L[t / k]?).bind fun r=>r[t % k]?
 |[],_,t=>by simp
 |r::L,h,t=>by
  have hr:r.length=k:=h r (by simp)
  rw [List.flatten_cons]
  by_cases ht:t<k
  · rw [List.getElem?_append_left (by omega),Nat.div_eq_of_lt ht,Nat.mod_eq_of_lt ht];rfl
  · rw [List.getElem?_append_right (by omega),hr,flat_get hk L (fun s aC=>h s (by simp [aC])) (t - k)]
    obtain ⟨u,rfl⟩:∃u,t=u+k:=⟨t - k,by omega⟩
    rw [Nat.add_sub_cancel,Nat.add_div_right _ hk,Nat.add_mod_right];rfl
theorem UX {k:Nat} (hk:0<k) [Inhabited (dt k)] (d:Array (dt k)):flatK dt.enc k d=((d.toList.map dt.enc).flatten).toArray:=by
 apply Array.ext_getElem?
 intro t
 have hf:=flat_get hk (d.toList.map dt.enc) (fun r hr=>by obtain ⟨x,_,rfl⟩:=List.mem_map.1 hr;exact x.len) t
 by_cases ht:t<d.size * k
 · have aX:t / k<d.size:=(Nat.div_lt_iff_lt_mul hk).2 ht
   have hm:t % k<k:=Nat.mod_lt _ hk
   have g:=get_flatK dt.enc k d t ht
   have aC:t<(flatK dt.enc k d).size:=by rw [size_flatK];exact ht
   rw [getElem!_pos _ t aC] at g
   rw [Array.getElem?_eq_getElem aC,g]
   simp only [List.getElem?_toArray]
   rw [hf,List.getElem?_map,Array.getElem?_toList,Array.getElem?_eq_getElem aX]
   have au:t % k<(dt.enc d[t / k]).length:=by rw [dt.len];exact hm
   show some _=(dt.enc d[t / k])[t % k]?
   rw [getElem!_pos d _ aX,getElem!_pos (dt.enc d[t / k]) (t % k) au,List.getElem?_eq_getElem au]
 · have aC:(flatK dt.enc k d).size≤t:=by rw [size_flatK];omega
   rw [Array.getElem?_eq_none aC]
   simp only [List.getElem?_toArray]
   have aX:d.size≤t / k:=(Nat.le_div_iff_mul_le hk).2 (by omega)
   rw [hf,List.getElem?_map,Array.getElem?_toList,Array.getElem?_eq_none aX];rfl
theorem dt.UY {k:Nat}:∀(X:List (List UInt8×List Value)),(∀r∈X,r.2.length+1=k∧∀v∈r.2,v.oneCell'=true)→∃D:List (dt k),D.map dt.val=X
 |[],_=>⟨[],rfl⟩
 |r::X,h=>by
  obtain ⟨D,e⟩:=dt.UY X fun s aC=>h s (by simp [aC])
  exact ⟨⟨r,h r (by simp)⟩::D,by rw [List.map_cons,e]⟩
theorem dt.rows {k:Nat} (D:List (dt k)):D.map dt.enc=(D.map dt.val).map fun r=>encStr r.1::r.2:=by rw [List.map_map];rfl
theorem ahw {k:Nat} [Inhabited (dt k)] {d d':Array (dt k)} (p:PermIn 0 d.size d d') (s:SortedIn (ltOf dt.aY) 0 d.size d') (hn:((d.toList.map dt.val).map (·.1)).Nodup):d'.toList.map dt.val=fT (d.toList.map dt.val):=by
 obtain ⟨p1,_,UZ⟩:=p
 rw [Array.extract_eq_self_of_le (by omega),Array.extract_eq_self_of_le (Nat.le_refl _)] at UZ
 refine Sb (UZ.map _) ?_ hn
 rw [List.pairwise_map,List.pairwise_iff_getElem]
 intro i j aq aV vo
 have aq:i<d'.size:=by simpa using aq
 have aV:j<d'.size:=by simpa using aV
 have h:=s i j (Nat.zero_le _) vo (by omega)
 rw [dt.lt,getElem!_pos d' i aq,getElem!_pos d' j aV] at h
 have h:¬(d'[j]).val.1<(d'[i]).val.1:=by simpa using h
 simp only [Array.getElem_toList]
 exact h
theorem U0 {P:Program} {f0 fz k:Nat} (hk:0<k) [Inhabited (dt k)]
  (C:∀(cr off cap:Nat) (d:Array (dt k)) (w:World),HoldsK dt.enc k w cr off d→cr<w.heap.size→d.size<4611686018427387904→
    Calls P f0 #[.slice (some ⟨cr,off,none⟩) d.size cap, .func (.func fz) #[] #[]] w fun e w'=>e= .returned (.tuple #[])∧∃d' n os,PermIn 0 d.size d d'∧SortedIn (ltOf dt.aY) 0 d.size d'∧w'=sortWorldK dt.enc k w cr off n d' os):
  ∀(cr off cap:Nat) (X:List (List UInt8×List Value)) (w:World),(∀r∈X,r.2.length+1=k∧∀v∈r.2,v.oneCell'=true)→(X.map (·.1)).Nodup→
   Sort.Holds id w cr off ((X.map fun r=>encStr r.1::r.2).flatten).toArray→cr<w.heap.size→X.length<4611686018427387904→
   Calls P f0 #[.slice (some ⟨cr,off,none⟩) X.length cap, .func (.func fz) #[] #[]] w fun e w'=>e= .returned (.tuple #[])∧∃n os,w'=grow (putRow id (Sort.ahead w n) cr off ((fT X).map fun r=>encStr r.1::r.2).flatten.toArray) os:=by
 intro cr off cap X w hT hn hH hb au
 obtain ⟨D,rfl⟩:=dt.UY X hT
 have e:flatK dt.enc k D.toArray=((D.map dt.val).map fun r=>encStr r.1::r.2).flatten.toArray:=by rw [UX hk,←dt.rows]
 have aC:D.toArray.size=(D.map dt.val).length:=by simp
 have:=C cr off cap D.toArray w (by unfold HoldsK;rw [e];exact hH) hb (by rw [aC];exact au)
 rw [aC] at this
 refine this.mono fun aT w' he=> ?_
 obtain ⟨rfl,d',n,os,p,s,rfl⟩:=he
 refine ⟨rfl,n,os, ?_⟩
 have Qe:=ahw (d:=D.toArray) (d':=d') (by rw [aC];exact p) (by rw [aC];exact s) hn
 show grow (putRow id (Sort.ahead w n) cr off (flatK dt.enc k d')) os=_
 rw [UX hk,dt.rows,Qe]
end
end Go.Eng
