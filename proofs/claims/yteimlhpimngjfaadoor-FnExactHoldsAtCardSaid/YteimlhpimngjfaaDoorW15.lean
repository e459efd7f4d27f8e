import Derived.Test.YteimlhpimngjfaaDoorW12
import Derived.Test.YteimlhpimngjfaaDoorW13
import Derived.Test.YteimlhpimngjfaaDoorW7
import Derived.Test.YteimlhpimngjfaaDoorW8
set_option linter.unusedVariables false
set_option linter.unusedSimpArgs false
set_option linter.unusedVariables false
set_option linter.unusedSimpArgs false
set_option maxHeartbeats 8000000
set_option maxRecDepth 100000
namespace Go.Proofs.T
open Go.OM
section
attribute [local irreducible] Hg SWp St.wps thenS iB Lv Ct Lp VL Option.bind getI sAt sSub sCat appI mkI subI setI bindS loopP ite Dr
instance e7_ : Ent E 7 := ent_of Tryd.func7
instance c7_ (c1 : GCode) {r0 : List (List (List Bool))} : Con E 7 (spec_HoldsAt c1 = some r0) [.val (GCode.enc false c1)] [.sl true 1 (List.map (eSl true 1 (eSl true 1 vb)) r0)] [] := by
 refine h_fn Tryd.func7 fun C q => ?_
 unfold spec_HoldsAt
 repeat' first | refine And.intro ?_ ?_ | refine Prod.forall.2 ?_ | (intro _; try dsimp only) | refine h_lo ?_ | exact Z | refine S ?_
end
end Go.Proofs.T
