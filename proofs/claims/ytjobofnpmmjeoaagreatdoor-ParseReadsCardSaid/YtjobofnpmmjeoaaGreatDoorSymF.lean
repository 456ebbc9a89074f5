/- Part of a proof of a law: rules of an evaluator, contracts, plain laws. No condition of its own. -/
import Derived.Test.YtjobofnpmmjeoaaGreatDoorSymD
import Derived.Test.YtjobofnpmmjeoaaGreatDoorSymE
set_option linter.unusedVariables false
set_option linter.unusedSimpArgs false
namespace Go.Eng
noncomputable section
theorem uM.rf (b:Bool) (e:List Nd):uM b e e:=⟨rfl,fun _=>rfl⟩
theorem Db.rf (b:Bool) (l:List (List Nd)):Db b l l:=⟨rfl,fun i e e' h1 h2=>by rw [h1] at h2;cases h2;exact uM.rf b e⟩
mutual
theorem OC.rf (b:Bool):∀s:Sm,OC b s s
 | .mk k a m n l hs tm t e ag bd el=> .mk (fun _=>rfl) (uM.rf b e) (Db.rf b ag) (nM.rf b bd) (nM.rf b el)
theorem nM.rf (b:Bool):∀l:List Sm,nM b l l
 |[]=> .nil
 |s::l=> .cons (OC.rf b s) (nM.rf b l)
end
theorem Ab.rf {α:Type} {R:α→α→Prop} (h:∀x,R x x) (l:List α):Ab R l l:=⟨rfl,fun i x y h1 h2=>by rw [h1] at h2;cases h2;exact h x⟩
theorem MdEq.rf (b:Bool) (m:Md):MdEq b m m:=⟨rfl,fun _=>rfl,Ab.rf (fun _=>⟨rfl,fun _=>rfl⟩) _,Ab.rf (fun _=>⟨rfl,rfl,rfl,fun _=>rfl⟩) _,Ab.rf (fun x=>⟨rfl,rfl,rfl,rfl,rfl,Ab.rf (fun _=>⟨rfl,rfl,fun _=>rfl⟩) _,nM.rf b x.body,fun _=>rfl⟩) _⟩
def zMd:Md:=⟨[],0,[],[],[]⟩
theorem LQ:IW zMd:=⟨by decide,by decide,by decide,fun p hp=>by simp [zMd] at hp⟩
def txM (s:List UInt8):Md:=match Par.text s with
 | .ok m=>m
 | .error _=>zMd
def txE (s:List UInt8):Nat:=match Par.text s with
 | .ok _=>0
 | .error z=>z.1
def txA (s:List UInt8):Nat:=match Par.text s with
 | .ok _=>0
 | .error z=>z.2
def rwP (s:List UInt8):List Pm:=match Par.rows s with
 | .ok m=>m
 | .error _=>[]
def rwE (s:List UInt8):Nat:=match Par.rows s with
 | .ok _=>0
 | .error z=>z.1
def rwA (s:List UInt8):Nat:=match Par.rows s with
 | .ok _=>0
 | .error z=>z.2
theorem SK {s:List UInt8} {ts:List Tok} (h:Lex.lex s= .ok ts):ts.length≤8193:=by
 unfold Lex.lex at h
 by_cases hs:8192<s.length
 · rw [if_pos hs] at h;cases h
 · rw [if_neg hs] at h;have:=Lex.qd h;simp at this;omega
theorem LU (s:List UInt8):IW (txM s):=by
 unfold txM Par.text
 cases hl:Lex.lex s with
 |error z=>exact LQ
 |ok ts=>
  cases hm:Par.kD 0 ts with
  |error z=>simp only [hm];exact LQ
  |ok q=>obtain ⟨m,l⟩:=q;simp only [hm];exact OI hm (by have:=SK hl;omega)
theorem MdR.zero (h:Heap):MdR h zMd [.str 0 0, .int .i64 0, .slN, .slN, .slN]:=⟨.slN, .slN, .slN,rfl, .nil, .nil,[], .nil,rfl⟩
end
end Go.Eng
