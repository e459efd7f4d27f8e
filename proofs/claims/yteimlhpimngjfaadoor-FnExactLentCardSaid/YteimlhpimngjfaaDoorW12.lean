import Derived.Test.YteimlhpimngjfaaDoorW0
import Derived.Test.YteimlhpimngjfaaDoorW1
import Derived.Test.YteimlhpimngjfaaDoorW10
import Derived.Test.YteimlhpimngjfaaDoorW11
import Derived.Test.YteimlhpimngjfaaDoorW7
set_option linter.unusedVariables false
set_option linter.unusedSimpArgs false
set_option linter.unusedVariables false
set_option linter.unusedSimpArgs false
set_option maxHeartbeats 8000000
set_option maxRecDepth 100000
namespace Go.Proofs.T
open Go.OM
section
attribute [local irreducible] Hg M St.wps thenS iB Lv Ct Lp VL Option.bind getI sAt sSub sCat appI mkI subI setI bindS loopP ite Dr
instance e24_ : Ent E 24 := ent_of Tryd.func24
instance c24_ (c1 : GCode) {r0 : Bool} : Con E 24 (spec_CodeOk c1 = some r0) [.val (GCode.enc false c1)] [vb r0] [] := by
 refine h_fn Tryd.func24 fun C q => ?_
 unfold spec_CodeOk
 repeat' first | refine And.intro ?_ ?_ | refine Prod.forall.2 ?_ | (intro _; try dsimp only) | refine h_lo ?_ | exact Z | refine h_cutR 1 [1, 42] [1] (fun v => [(42, .t (vb v))]) (fun _ => []) ?_ | refine h_loop 4016 [1, 3] [1] (fun v => [(3, .t (vi v))]) (fun _ => []) (by unfold spec_CodeOk_l1; rfl) ?_ | refine h_cutE 3020 [1] [1] (fun _ => []) (fun _ => []) ?_ | refine h_loop 9016 [1, 4] [1] (fun v => [(4, .t (vi v))]) (fun _ => []) (by unfold spec_CodeOk_l2; rfl) ?_ | refine h_cutE 8020 [] [] (fun _ => []) (fun _ => []) ?_ | refine S ?_
instance e30_ : Ent E 30 := ent_of Tryd.func30
instance c30_ (c1 : GCode) {r0 : Bool} : Con E 30 (impl_CodeOk c1 = some r0) [.val (GCode.enc false c1)] [vb r0] [] := by
 refine h_fn Tryd.func30 fun C q => ?_
 unfold impl_CodeOk
 repeat' first | refine And.intro ?_ ?_ | refine Prod.forall.2 ?_ | (intro _; try dsimp only) | refine h_lo ?_ | exact Z | refine h_cutR 2 [1, 44] [1] (fun v => [(44, .t (vb v))]) (fun _ => []) ?_ | refine h_loop 5018 [1, 46, 47, 48] [1] (fun v => [(48, .t (vi v))]) (fun _ => []) (by unfold impl_CodeOk_l1; rfl) ?_ | refine h_cutE 4022 [1] [1] (fun _ => []) (fun _ => []) ?_ | refine h_loop 11018 [1, 57, 58, 59] [1] (fun v => [(59, .t (vi v))]) (fun _ => []) (by unfold impl_CodeOk_l2; rfl) ?_ | refine h_cutE 10022 [] [] (fun _ => []) (fun _ => []) ?_ | refine S ?_
end
end Go.Proofs.T
