import Derived.Test.YteimlhpimngjfaaDoorW1
import Derived.Test.YteimlhpimngjfaaDoorW6
import Derived.Test.YteimlhpimngjfaaDoorW7
set_option linter.unusedVariables false
set_option linter.unusedSimpArgs false
set_option linter.unusedVariables false
set_option linter.unusedSimpArgs false
set_option maxHeartbeats 8000000
set_option maxRecDepth 100000
namespace Go.Proofs.T
open Go.OM
section
attribute [local irreducible] Hg SWp St.wps thenS iB Lv Ct Lp VL Option.bind getI sAt sSub sCat appI mkI subI setI bindS loopP ite Dr
instance e6_ : Ent E 6 := ent_of Tryd.func6
instance c6_ (a1 : GCode) (a0 : Int) {r0 : Int} : Con E 6 (laws_szCode a1 a0 = some r0) [.val (GCode.enc false a1), .val (vi a0)] [vi r0] [] := by
 refine h_fn Tryd.func6 fun C q => ?_
 unfold laws_szCode
 repeat' first | refine And.intro ?_ ?_ | refine Prod.forall.2 ?_ | (intro _; try dsimp only) | refine h_lo ?_ | exact Z | refine S ?_
instance e11_ : Ent E 11 := ent_of Tryd.func11
instance c11_ (a1 : GCode) (b2 : GCode) {r0 : Bool} : Con E 11 (laws_eqCode a1 b2 = some r0) [.val (GCode.enc false a1), .val (GCode.enc false b2)] [vb r0] [] := by
 refine h_fn Tryd.func11 fun C q => ?_
 unfold laws_eqCode
 repeat' first | refine And.intro ?_ ?_ | refine Prod.forall.2 ?_ | (intro _; try dsimp only) | refine h_lo ?_ | exact Z | refine S ?_
end
end Go.Proofs.T
