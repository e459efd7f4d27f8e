import Derived.Test.YteimlhpimngjfaaDoorW0
import Derived.Test.YteimlhpimngjfaaDoorW3
import Derived.Test.YteimlhpimngjfaaDoorW7
set_option linter.unusedVariables false
set_option linter.unusedSimpArgs false
set_option linter.unusedVariables false
set_option linter.unusedSimpArgs false
set_option maxHeartbeats 8000000
set_option maxRecDepth 100000
namespace Go.Proofs.T
open Go.OM
section
attribute [local irreducible] Hg M St.wps thenS iB Lv Ct Lp VL Option.bind getI sAt sSub sCat appI mkI subI setI bindS loopP ite Dr
instance e6_ : Ent E 6 := ent_of Tryd.func6
instance c6_ (a1 : GCode) (a0 : Int) {r0 : Int} : Con E 6 (laws_szCode a1 a0 = some r0) [.val (GCode.enc false a1), .val (vi a0)] [vi r0] [] := by
 refine h_fn Tryd.func6 fun C q => ?_
 unfold laws_szCode
 repeat' first | refine And.intro ?_ ?_ | refine Prod.forall.2 ?_ | (intro _; try dsimp only) | refine h_lo ?_ | exact Z | refine S ?_
instance e53_ : Ent E 53 := ent_of Tryd.func53
instance c53_ (c1 : GCode) (x2 : GIns) {r0 : Bool} : Con E 53 (spec_WordOk c1 x2 = some r0) [.val (GCode.enc false c1), .val (GIns.enc false x2)] [vb r0] [] := by
 refine h_fn Tryd.func53 fun C q => ?_
 unfold spec_WordOk
 repeat' first | refine And.intro ?_ ?_ | refine Prod.forall.2 ?_ | (intro _; try dsimp only) | refine h_lo ?_ | exact Z | refine h_cutR 1 [2, 3, 15] [2, 3] (fun v => [(15, .t (vb v))]) (fun _ => []) ?_ | refine h_cutR 3 [2, 3, 36] [2, 3] (fun v => [(36, .t (vb v))]) (fun _ => []) ?_ | refine h_cutR 5 [2, 3, 57] [2, 3] (fun v => [(57, .t (vb v))]) (fun _ => []) ?_ | refine h_cut 13005 [2, 3, 69] [2, 3] (fun v => [(69, .t (vb v))]) (fun _ => []) ?_ | refine h_cutE 7034 [2, 3] [2, 3] (fun _ => []) (fun _ => []) ?_ | refine h_cutR 18 [4] [] (fun v => [(4, .t (vb v))]) (fun _ => []) ?_ | refine h_loop 20016 [2, 3, 5] [2, 3] (fun v => [(5, .t (vi v))]) (fun _ => []) (by unfold spec_WordOk_l1; rfl) ?_ | refine h_cutE 19020 [3] [3] (fun _ => []) (fun _ => []) ?_ | refine h_cutR 24 [4] [] (fun v => [(4, .t (vb v))]) (fun _ => []) ?_ | refine S ?_
end
end Go.Proofs.T
