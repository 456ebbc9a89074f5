/- Part of a proof of a law: rules of an evaluator, contracts, plain laws. No condition of its own. -/
import Derived.Test.YtmcjcbldmoijiaaGreatDoorSymD
set_option linter.unusedVariables false
set_option linter.unusedSimpArgs false
namespace Go.Eng
noncomputable section
variable {c:Ctx} {h:ae}
theorem af.storeT {fs:List Fact} {aG qz n:Nat} {bs:List Nat} {M:List (List Bool)} {Q:hX} {x y:A} {l:List ea} {vs:List V} {b3:List Log} {env:Env} {a b j:Nat} {r:List Bool} {t:Bool} (st:aq (.aE (lH aG qz n bs)::(gH bs M++fs)) h) (hx:x.ev vs env= .ptr b (0+j * 1)) (hy:y.ev vs env= .bool t) (hb:bs[a]? =some b) (hr:M[a]? =some r) (aR:j<r.length)
  (K:∀h1,aq (.aE (lH aG qz n bs)::(gH bs (M.set a (r.set j t))++fs)) h1→af c l Q (un::vs) (.no::b3) env h1):af c (⟨.p (.H (.store 1 x y)),[]⟩::l) Q vs b3 env h:=by
 obtain ⟨gW,fB,h1,h2,a6⟩:=Y9 st hb hr aR t
 exact af.act (fun _=>L.Pf (v:= .bool t) hx (by rw [hy];rfl) fB h1 h2 aR) rfl (K _ a6)
end
end Go.Eng
