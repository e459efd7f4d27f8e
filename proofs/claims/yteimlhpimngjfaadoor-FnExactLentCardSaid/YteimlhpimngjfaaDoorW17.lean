import Derived.Test.YteimlhpimngjfaaDoorW10
import Derived.Test.YteimlhpimngjfaaDoorW11
import Derived.Test.YteimlhpimngjfaaDoorW15
import Derived.Test.YteimlhpimngjfaaDoorW16
set_option linter.unusedVariables false
set_option linter.unusedSimpArgs false
set_option linter.unusedVariables false
set_option linter.unusedSimpArgs false
set_option maxHeartbeats 8000000
set_option maxRecDepth 100000
namespace Go.Proofs.T
open Go.OM
section
attribute [local irreducible] Hg M St.wps thenS iB Lv Ct Lp VL Option.bind getI sAt sSub sCat appI mkI subI setI bindS loopP ite Dr
instance e4_ : Ent E 4 := ent_of Tryd.func4
instance c4_ (a0 : GCode) {r0 : Bool} : Con E 4 (laws_FnExactLent a0 = some r0) [.val (GCode.enc false a0)] [vb r0] [] := by
 refine h_fn Tryd.func4 fun C q => ?_
 unfold laws_FnExactLent
 repeat' first | refine And.intro ?_ ?_ | refine Prod.forall.2 ?_ | (intro _; try dsimp only) | refine h_lo ?_ | exact Z | refine S ?_
theorem laws_FnExactLent_ok (a0 : GCode) {r0 : Bool} (h : laws_FnExactLent a0 = some r0) : Ok E 4 [.val (GCode.enc false a0)] [vb r0] [] := Con.ok h
end
end Go.Proofs.T
