/- Part of a proof of a law: rules of an evaluator, contracts, plain laws. No condition of its own. -/
import Derived.Test.YtmcjcbldmoijiaaGreatDoorSymD
set_option linter.unusedVariables false
set_option linter.unusedSimpArgs false
namespace Go.Eng
noncomputable section
variable {c:Ctx} {h:ag}
theorem ae.storeT {fs:List Fact} {aO rG n:Nat} {bs:List Nat} {M:List (List Bool)} {Q:jd} {x y:A} {l:List eA} {vs:List V} {cp:List Log} {env:Env} {a b j:Nat} {r:List Bool} {t:Bool} (st:ak (.ay (mw aO rG n bs)::(hD bs M++fs)) h) (hx:x.ev vs env= .ptr b (0+j * 1)) (hy:y.ev vs env= .bool t) (hb:bs[a]? =some b) (hr:M[a]? =some r) (aV:j<r.length)
  (K:∀h1,ak (.ay (mw aO rG n bs)::(hD bs (M.set a (r.set j t))++fs)) h1→ae c l Q (un::vs) (.no::cp) env h1):ae c (⟨.p (.H (.store 1 x y)),[]⟩::l) Q vs cp env h:=by
 obtain ⟨hY,gw,h1,h2,bj⟩:=aaO st hb hr aV t
 exact ae.act (fun _=>L.Rc (v:= .bool t) hx (by rw [hy];rfl) gw h1 h2 aV) rfl (K _ bj)
end
end Go.Eng
