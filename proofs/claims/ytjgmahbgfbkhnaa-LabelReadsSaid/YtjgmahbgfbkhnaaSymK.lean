/- Part of a proof of a law: rules of an evaluator, contracts, plain laws. No condition of its own. -/
import Derived.Test.YtjgmahbgfbkhnaaSymJ
import Derived.Test.YtjgmahbgfbkhnaaSymG
set_option linter.unusedVariables false
set_option linter.unusedSimpArgs false
namespace Go.Eng
noncomputable section
theorem Dg:∀{k:Nat} {l l':List Tok} {last:List UInt8} {x y:List Pm} {al:Bool} {r:List UInt8×Bool},Par.jC k l last x al= .ok ((r,y),l')→y.length+l'.length≤x.length+l.length
 |0,_,_,_,_,_,_,_,h=>by cases h
 |k+1,l,l',last,x,y,al,r,h=>by
  rw [Par.jC] at h
  by_cases hi:Par.is [60] l=true
  · rw [if_pos hi] at h
    cases hn:Par.name l.tail with
    |error z=>simp only [hn] at h;cases h
    |ok q=>
     obtain ⟨n,l1⟩:=q
     simp only [hn] at h
     have h1:=Par.iZ hn
     have h2:=Dg h
     have h3:l.tail.length=l.length - 1:=List.length_tail
     simp at h2;omega
  · rw [if_neg hi] at h;cases h;exact Nat.le_refl _
theorem uT:∀{k:Nat} {l l':List Tok} {x y:List Pm},Par.dA k l x= .ok (y,l')→y.length+l'.length≤x.length+l.length
 |0,_,_,_,_,h=>by cases h
 |k+1,l,l',x,y,h=>by
  rw [Par.dA] at h
  by_cases hi:(Par.hd l).kind=0
  · rw [if_pos hi] at h;cases h;exact Nat.le_refl _
  · rw [if_neg hi] at h
    cases hn:Par.name l with
    |error z=>simp only [hn] at h;cases h
    |ok q=>
     obtain ⟨n,l1⟩:=q
     simp only [hn] at h
     have h1:=Par.iZ hn
     cases hr:Par.jC l1.length l1 n x true with
     |error z=>simp only [hr] at h;cases h
     |ok q=>
      obtain ⟨⟨⟨last,al⟩,z⟩,l2⟩:=q
      simp only [hr] at h
      have h2:=Dg hr
      cases hm:Par.must [59] l2 with
      |error z=>simp only [hm] at h;cases h
      |ok q=>
       obtain ⟨_,l3⟩:=q
       simp only [hm] at h
       have h3:=Par.iY hm
       have h4:=uT h
       cases al<;>simp at h4<;>omega
theorem Dh {s:List UInt8} {m:List Pm} (h:Par.rows s= .ok m):m.length<2147483648:=by
 unfold Par.rows at h
 cases hl:Lex.lex s with
 |error z=>simp only [hl] at h;cases h
 |ok ts=>
  simp only [hl] at h
  cases hp:Par.labels ts with
  |error z=>simp only [hp] at h;cases h
  |ok q=>
   obtain ⟨m',l'⟩:=q
   simp only [hp] at h;cases h
   have h1:ts.length≤8193:=by
    unfold Lex.lex at hl
    by_cases hs:8192<s.length
    · rw [if_pos hs] at hl;cases hl
    · rw [if_neg hs] at hl;have:=Lex.nM hl;simp at this;omega
   unfold Par.labels at hp
   cases hm:Par.must [108,97,98,101,108,115] ts with
   |error z=>simp only [hm] at hp;cases hp
   |ok q=>
    obtain ⟨_,l1⟩:=q
    simp only [hm] at hp
    have h2:=Par.iY hm
    have h3:=uT hp
    simp at h3;omega
def prm (x:Pm):Prm:=(x.name,x.label,(x.at_:Int))
def bR (s:List UInt8):Lat:=match Par.rows s with
 | .ok m=>bN (pr (m.map prm))
 | .error _=>Lat.none
def rdE (s:List UInt8):Nat:=match Par.rows s with
 | .ok m=>(Lab.made (pr (m.map prm))).1
 | .error z=>z.1
def rdA (s:List UInt8):Nat:=match Par.rows s with
 | .ok _=>0
 | .error z=>z.2
theorem Di {s:List UInt8} {m:List Pm} (h:Par.rows s= .ok m):bR s=bN (pr (m.map prm))∧rdE s=(Lab.made (pr (m.map prm))).1∧rdA s=0:=by unfold bR rdE rdA;simp only [h];exact ⟨trivial,trivial,trivial⟩
theorem zx {s:List UInt8} {e a:Nat} (h:Par.rows s= .error (e,a)):bR s=Lat.none∧rdE s=e∧rdA s=a:=by unfold bR rdE rdA;simp only [h];exact ⟨trivial,trivial,trivial⟩
theorem iP (s:List UInt8):(bR s).small:=by
 unfold bR
 split
 · exact uQ _
 · exact Lat.xS
theorem bD.pm {h:Heap} {v:V} {m:List Pm} (a:Rows 3 h v (m.map Pm.row)):bD h v (m.map prm):=bD.of (by rw [List.map_map];exact a)
end
end Go.Eng
