import Derived.Test.YteimlhpimngjfaaDoorW1
import Derived.Test.YteimlhpimngjfaaDoorW12
import Derived.Test.YteimlhpimngjfaaDoorW13
import Derived.Test.YteimlhpimngjfaaDoorW7
import Derived.Test.YteimlhpimngjfaaDoorW8
import Derived.Test.YteimlhpimngjfaaDoorW9
set_option linter.unusedVariables false
set_option linter.unusedSimpArgs false
set_option linter.unusedVariables false
set_option linter.unusedSimpArgs false
set_option maxHeartbeats 8000000
set_option maxRecDepth 100000
namespace Go.Proofs.T
open Go.OM
section
attribute [local irreducible] Hg M St.wps thenS iB Lv Ct Lp VL Option.bind getI sAt sSub sCat appI mkI subI setI bindS loopP ite Dr
instance e15_ : Ent E 15 := ent_of Tryd.func15
instance c15_ (c1 : GCode) {r0 : Int} : Con E 15 (spec_Lent c1 = some r0) [.val (GCode.enc false c1)] [vi r0] [] := by
 refine h_fn Tryd.func15 fun C q => ?_
 unfold spec_Lent
 repeat' first | refine And.intro ?_ ?_ | refine Prod.forall.2 ?_ | (intro _; try dsimp only) | refine h_lo ?_ | exact Z | refine h_cut 15001 [1, 3, 4, 5, 6, 7, 8, 9, 90] [1] (fun v => [(90, .t (vb v))]) (fun _ => []) ?_ | refine h_loop 13016 [1, 3, 4, 5, 6, 7, 8, 9] [1] (fun v => [(9, .t (vi v))]) (fun _ => []) (by unfold spec_Lent_l2; rfl) ?_ | refine h_cutE 10029 [1, 3, 4, 5, 6, 7] [1] (fun _ => []) (fun _ => []) ?_ | refine h_loop 8037 [1, 3, 4, 5, 6, 7] [1] (fun v => [(7, .t (vi v))]) (fun _ => []) (by unfold spec_Lent_l1; rfl) ?_ | refine h_cutE 7041 [] [] (fun _ => []) (fun _ => []) ?_ | refine S ?_
end
end Go.Proofs.T
