import Derived.Test.YteimlhpimngjfaaDoorW0
import Derived.Test.YteimlhpimngjfaaDoorW1
import Derived.Test.YteimlhpimngjfaaDoorW2
import Derived.Test.YteimlhpimngjfaaDoorW3
import Derived.Test.YteimlhpimngjfaaDoorW7
set_option linter.unusedVariables false
set_option linter.unusedSimpArgs false
set_option linter.unusedVariables false
set_option linter.unusedSimpArgs false
set_option maxHeartbeats 8000000
set_option maxRecDepth 100000
namespace Go.Proofs.T
open Go.OM
section
attribute [local irreducible] Hg M St.wps thenS iB Lv Ct Lp VL Option.bind getI sAt sSub sCat appI mkI subI setI bindS loopP ite Dr
instance e8_ : Ent E 8 := ent_of Tryd.func8
instance c8_ (a1 : GCode) {r0 : GCode} : Con E 8 (laws_toCode a1 = some r0) [.val (GCode.enc false a1)] [GCode.enc true r0] [] := by
 refine h_fn Tryd.func8 fun C q => ?_
 unfold laws_toCode
 repeat' first | refine And.intro ?_ ?_ | refine Prod.forall.2 ?_ | (intro _; try dsimp only) | refine h_lo ?_ | exact Z | refine S ?_
instance e11_ : Ent E 11 := ent_of Tryd.func11
instance c11_ (a1 : GCode) (b2 : GCode) {r0 : Bool} : Con E 11 (laws_eqCode a1 b2 = some r0) [.val (GCode.enc false a1), .val (GCode.enc false b2)] [vb r0] [] := by
 refine h_fn Tryd.func11 fun C q => ?_
 unfold laws_eqCode
 repeat' first | refine And.intro ?_ ?_ | refine Prod.forall.2 ?_ | (intro _; try dsimp only) | refine h_lo ?_ | exact Z | refine S ?_
instance e59_ : Ent E 59 := ent_of Tryd.func59
instance c59_ (c1 : GCode) (x2 : GIns) {r0 : Bool} : Con E 59 (impl_WordOk c1 x2 = some r0) [.val (GCode.enc false c1), .val (GIns.enc false x2)] [vb r0] [] := by
 refine h_fn Tryd.func59 fun C q => ?_
 unfold impl_WordOk
 repeat' first | refine And.intro ?_ ?_ | refine Prod.forall.2 ?_ | (intro _; try dsimp only) | refine h_lo ?_ | exact Z | refine h_cutR 3 [2, 3, 5] [2, 3] (fun v => [(5, .t (vb v))]) (fun _ => []) ?_ | refine h_cut 4001 [2, 3, 57] [2, 3] (fun v => [(57, .t (vb v))]) (fun _ => []) ?_ | refine h_cut 10005 [2, 3, 6, 62] [2, 3] (fun v => [(62, .t (vb v))]) (fun _ => []) ?_ | refine h_cut 7016 [2, 3, 6] [2, 3] (fun v => [(6, .t (vi v))]) (fun _ => []) ?_ | refine h_cutR 16 [4] [] (fun v => [(4, .t (vb v))]) (fun _ => []) ?_ | refine h_loop 18018 [2, 3, 87, 88, 89] [2, 3] (fun v => [(89, .t (vi v))]) (fun _ => []) (by unfold impl_WordOk_l1; rfl) ?_ | refine h_cutE 17022 [3] [3] (fun _ => []) (fun _ => []) ?_ | refine h_cutR 23 [4] [] (fun v => [(4, .t (vb v))]) (fun _ => []) ?_ | refine S ?_
end
end Go.Proofs.T
