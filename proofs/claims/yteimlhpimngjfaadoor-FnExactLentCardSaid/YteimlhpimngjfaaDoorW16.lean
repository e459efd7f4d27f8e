import Derived.Test.YteimlhpimngjfaaDoorW0
import Derived.Test.YteimlhpimngjfaaDoorW12
import Derived.Test.YteimlhpimngjfaaDoorW13
import Derived.Test.YteimlhpimngjfaaDoorW14
set_option linter.unusedVariables false
set_option linter.unusedSimpArgs false
set_option linter.unusedVariables false
set_option linter.unusedSimpArgs false
set_option maxHeartbeats 8000000
set_option maxRecDepth 100000
namespace Go.Proofs.T
open Go.OM
section
attribute [local irreducible] Hg M St.wps thenS iB Lv Ct Lp VL Option.bind getI sAt sSub sCat appI mkI subI setI bindS loopP ite Dr
instance e16_ : Ent E 16 := ent_of Tryd.func16
instance c16_ (c1 : GCode) {r0 : Int} : Con E 16 (impl_Lent c1 = some r0) [.val (GCode.enc false c1)] [vi r0] [] := by
 refine h_fn Tryd.func16 fun C q => ?_
 unfold impl_Lent
 repeat' first | refine And.intro ?_ ?_ | refine Prod.forall.2 ?_ | (intro _; try dsimp only) | refine h_lo ?_ | exact Z | refine h_cut 12001 [3, 4, 5, 6, 7, 8, 9, 24, 25, 26, 47, 48, 49, 75] [8] (fun v => [(75, .t (vb v))]) (fun _ => []) ?_ | refine h_loop 10018 [3, 4, 5, 6, 7, 8, 9, 24, 25, 26, 47, 48, 49] [8] (fun v => [(49, .t (vi v))]) (fun _ => []) (by unfold impl_Lent_l2; rfl) ?_ | refine h_cutE 6033 [3, 4, 5, 6, 24, 25, 26] [] (fun _ => []) (fun _ => []) ?_ | refine h_loop 5041 [3, 4, 5, 6, 24, 25, 26] [] (fun v => [(26, .t (vi v))]) (fun _ => []) (by unfold impl_Lent_l1; rfl) ?_ | refine h_cutE 4045 [] [] (fun _ => []) (fun _ => []) ?_ | refine S ?_
end
end Go.Proofs.T
