import Derived.Test.YteimlhpimngjfaaDoorW1
import Derived.Test.YteimlhpimngjfaaDoorW2
import Derived.Test.YteimlhpimngjfaaDoorW3
import Derived.Test.YteimlhpimngjfaaDoorW6
set_option linter.unusedVariables false
set_option linter.unusedSimpArgs false
set_option linter.unusedVariables false
set_option linter.unusedSimpArgs false
set_option maxHeartbeats 8000000
set_option maxRecDepth 100000
namespace Go.Proofs.T
open Go.OM
section
attribute [local irreducible] Hg M St.wps thenS iB Lv Ct Lp VL Option.bind getI sAt sSub sCat appI mkI subI setI bindS loopP ite Dr
instance e43_ : Ent E 43 := ent_of Tryd.func43
instance c43_ (c1 : GCode) {r0 : List (List Bool)} : Con E 43 (spec_l14Live c1 = some r0) [.val (GCode.enc false c1)] [.sl true 1 (List.map (eSl true 1 vb) r0)] [] := by
 refine h_fn Tryd.func43 fun C q => ?_
 unfold spec_l14Live
 repeat' first | refine And.intro ?_ ?_ | refine Prod.forall.2 ?_ | (intro _; try dsimp only) | refine h_lo ?_ | exact Z | refine h_cutR 4 [1, 3, 5, 32] [1] (fun v => [(32, .t (vb v))]) (fun _ => []) ?_ | refine h_cutR 18 [1, 3, 4, 5, 6, 7, 8, 9, 10, 89] [1] (fun v => [(89, .t (vb v))]) (fun _ => []) ?_ | refine h_loop 16016 [1, 3, 4, 5, 6, 7, 8, 9, 10] [1] (fun v => [(3, .t (.sl true 1 (List.map (eSl true 1 vb) v.1))), (4, .t (vb v.2.1)), (10, .t (vi v.2.2))]) (fun _ => []) (by unfold spec_l14Live_l4; rfl) ?_ | refine h_cut 15021 [1, 3, 4, 5, 6, 7, 8, 9] [1] (fun v => [(3, .t (.sl true 1 (List.map (eSl true 1 vb) v.1))), (4, .t (vb v.2))]) (fun _ => []) ?_ | refine h_loop 13029 [1, 3, 4, 5, 6, 7, 8, 9] [1] (fun v => [(3, .t (.sl true 1 (List.map (eSl true 1 vb) v.1))), (4, .t (vb v.2.1)), (9, .t (vi v.2.2))]) (fun _ => []) (by unfold spec_l14Live_l3; rfl) ?_ | refine h_cut 12033 [1, 3, 4, 5, 6] [1] (fun v => [(3, .t (.sl true 1 (List.map (eSl true 1 vb) v.1))), (4, .t (vb v.2))]) (fun _ => []) ?_ | refine h_loop 23016 [1, 3, 4, 5, 6, 11, 12] [1] (fun v => [(3, .t (.sl true 1 (List.map (eSl true 1 vb) v.1))), (4, .t (vb v.2.1)), (12, .t (vi v.2.2))]) (fun _ => []) (by unfold spec_l14Live_l5; rfl) ?_ | refine h_cut 10061 [1, 3, 4, 5, 6] [1] (fun v => [(3, .t (.sl true 1 (List.map (eSl true 1 vb) v.1))), (4, .t (vb v.2))]) (fun _ => []) ?_ | refine h_loop 8069 [1, 3, 4, 5, 6] [1] (fun v => [(3, .t (.sl true 1 (List.map (eSl true 1 vb) v.1))), (4, .t (vb v.2.1)), (6, .t (vi v.2.2))]) (fun _ => []) (by unfold spec_l14Live_l2; rfl) ?_ | refine h_cut 6076 [1, 3, 4, 5] [1] (fun v => [(3, .t (.sl true 1 (List.map (eSl true 1 vb) v.1))), (4, .t (vb v.2))]) (fun _ => []) ?_ | refine h_loop 4084 [1, 3, 4, 5] [1] (fun v => [(3, .t (.sl true 1 (List.map (eSl true 1 vb) v.1))), (4, .t (vb v.2.1)), (5, .t (vi v.2.2))]) (fun _ => []) (by unfold spec_l14Live_l1; rfl) ?_ | refine h_cut 3088 [3] [] (fun v => [(3, .t (.sl true 1 (List.map (eSl true 1 vb) v)))]) (fun _ => []) ?_ | refine S ?_
end
end Go.Proofs.T
