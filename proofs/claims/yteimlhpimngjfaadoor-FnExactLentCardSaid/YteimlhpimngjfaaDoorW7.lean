import Derived.Test.YteimlhpimngjfaaDoorW0
import Derived.Test.YteimlhpimngjfaaDoorW1
import Derived.Test.YteimlhpimngjfaaDoorW2
import Derived.Test.YteimlhpimngjfaaDoorW3
set_option linter.unusedVariables false
set_option linter.unusedSimpArgs false
set_option linter.unusedVariables false
set_option linter.unusedSimpArgs false
set_option maxHeartbeats 8000000
set_option maxRecDepth 100000
namespace Go.Proofs.T
open Go.OM
section
attribute [local irreducible] Hg M St.wps thenS iB Lv Ct Lp VL Option.bind getI sAt sSub sCat appI mkI subI setI bindS loopP ite Dr
instance e23_ : Ent E 23 := ent_of Tryd.func23
instance c23_ (a1 : List GIns) (a0 : Int) {r0 : Int} : Con E 23 (laws_szInsS a1 a0 = some r0) [.val (.sl false 7 (List.map (GIns.enc false) a1)), .val (vi a0)] [vi r0] [] := by
 refine h_fn Tryd.func23 fun C q => ?_
 unfold laws_szInsS
 repeat' first | refine And.intro ?_ ?_ | refine Prod.forall.2 ?_ | (intro _; try dsimp only) | refine h_lo ?_ | exact Z | refine h_loop 5018 [0, 1, 5] [] (fun v => [(1, .t (vi v.1)), (5, .t (vi v.2))]) (fun _ => []) (by unfold laws_szInsS_l1; rfl) ?_ | refine h_cutE 4022 [1] [] (fun v => [(1, .t (vi v))]) (fun _ => []) ?_ | refine S ?_
instance e29_ : Ent E 29 := ent_of Tryd.func29
instance c29_ (a1 : List GIns) {r0 : List GIns} : Con E 29 (laws_toInsS a1 = some r0) [.val (.sl false 7 (List.map (GIns.enc false) a1))] [.sl true 7 (List.map (GIns.enc true) r0)] [] := by
 refine h_fn Tryd.func29 fun C q => ?_
 unfold laws_toInsS
 repeat' first | refine And.intro ?_ ?_ | refine Prod.forall.2 ?_ | (intro _; try dsimp only) | refine h_lo ?_ | exact Z | refine h_loop 3010 [0, 3, 4] [] (fun v => [(3, .t (.sl true 7 (List.map (GIns.enc true) v.1))), (4, .t (vi v.2))]) (fun _ => []) (by unfold laws_toInsS_l1; rfl) ?_ | refine h_cut 2014 [3] [] (fun v => [(3, .t (.sl true 7 (List.map (GIns.enc true) v)))]) (fun _ => []) ?_ | refine S ?_
instance e38_ : Ent E 38 := ent_of Tryd.func38
instance c38_ (a1 : List GIns) (b2 : List GIns) {r0 : Bool} : Con E 38 (laws_eqInsS a1 b2 = some r0) [.val (.sl false 7 (List.map (GIns.enc false) a1)), .val (.sl false 7 (List.map (GIns.enc false) b2))] [vb r0] [] := by
 refine h_fn Tryd.func38 fun C q => ?_
 unfold laws_eqInsS
 repeat' first | refine And.intro ?_ ?_ | refine Prod.forall.2 ?_ | (intro _; try dsimp only) | refine h_lo ?_ | exact Z | refine h_loop 4016 [0, 1, 5] [] (fun v => [(5, .t (vi v))]) (fun _ => []) (by unfold laws_eqInsS_l1; rfl) ?_ | refine h_cutE 3020 [] [] (fun _ => []) (fun _ => []) ?_ | refine S ?_
instance e52_ : Ent E 52 := ent_of Tryd.func52
instance c52_ (s1 : ByteArray) {r0 : Bool} : Con E 52 (spec_NameOk s1 = some r0) [.val (vs s1)] [vb r0] [] := by
 refine h_fn Tryd.func52 fun C q => ?_
 unfold spec_NameOk
 repeat' first | refine And.intro ?_ ?_ | refine Prod.forall.2 ?_ | (intro _; try dsimp only) | refine h_lo ?_ | exact Z | refine h_cutR 1 [0, 17] [] (fun v => [(17, .t (vb v))]) (fun _ => []) ?_ | refine h_cutR 6 [0, 3, 35] [] (fun v => [(35, .t (vb v))]) (fun _ => []) ?_ | refine h_loop 4016 [0, 3] [] (fun v => [(3, .t (vi v))]) (fun _ => []) (by unfold spec_NameOk_l1; rfl) ?_ | refine h_cutE 3020 [] [] (fun _ => []) (fun _ => []) ?_ | refine S ?_
instance e71_ : Ent E 71 := ent_of Tryd.func71
instance c71_ (c1 : GCode) (x2 : GIns) {r0 : Bool} : Con E 71 (spec_l11A c1 x2 = some r0) [.val (GCode.enc false c1), .val (GIns.enc false x2)] [vb r0] [] := by
 refine h_fn Tryd.func71 fun C q => ?_
 unfold spec_l11A
 repeat' first | refine And.intro ?_ ?_ | refine Prod.forall.2 ?_ | (intro _; try dsimp only) | refine h_lo ?_ | exact Z | refine h_cutR 1 [2, 3, 5] [2, 3] (fun v => [(5, .t (vb v))]) (fun _ => []) ?_ | refine h_cutR 2 [4] [] (fun v => [(4, .t (vb v))]) (fun _ => []) ?_ | refine S ?_
instance e27_ : Ent E 27 := ent_of Tryd.func27
instance c27_ (c1 : GCode) {r0 : List Bool} : Con E 27 (spec_l14Reached c1 = some r0) [.val (GCode.enc false c1)] [.sl true 1 (List.map vb r0)] [] := by
 refine h_fn Tryd.func27 fun C q => ?_
 unfold spec_l14Reached
 repeat' first | refine And.intro ?_ ?_ | refine Prod.forall.2 ?_ | (intro _; try dsimp only) | refine h_lo ?_ | exact Z | refine h_loop 9016 [1, 3, 4, 6, 7] [1] (fun v => [(3, .t (.sl true 1 (List.map vb v.1))), (4, .t (.sl true 1 (List.map vi v.2.1))), (7, .t (vi v.2.2))]) (fun _ => []) (by unfold spec_l14Reached_l2; rfl) ?_ | refine h_loop 4033 [1, 3, 4] [1] (fun v => [(3, .t (.sl true 1 (List.map vb v.1))), (4, .t (.sl true 1 (List.map vi v.2)))]) (fun _ => []) (by unfold spec_l14Reached_l1; rfl) ?_ | refine h_cut 4035 [3] [] (fun v => [(3, .t (.sl true 1 (List.map vb v)))]) (fun _ => []) ?_ | refine S ?_
instance e58_ : Ent E 58 := ent_of Tryd.func58
instance c58_ (s1 : ByteArray) {r0 : Bool} : Con E 58 (impl_NameOk s1 = some r0) [.val (vs s1)] [vb r0] [] := by
 refine h_fn Tryd.func58 fun C q => ?_
 unfold impl_NameOk
 repeat' first | refine And.intro ?_ ?_ | refine Prod.forall.2 ?_ | (intro _; try dsimp only) | refine h_lo ?_ | exact Z | refine h_cutR 1 [0, 13] [] (fun v => [(13, .t (vb v))]) (fun _ => []) ?_ | refine h_cutR 6 [0, 3, 31] [] (fun v => [(31, .t (vb v))]) (fun _ => []) ?_ | refine h_loop 4016 [0, 3] [] (fun v => [(3, .t (vi v))]) (fun _ => []) (by unfold impl_NameOk_l1; rfl) ?_ | refine h_cutE 3020 [0] [] (fun _ => []) (fun _ => []) ?_ | refine S ?_
end
end Go.Proofs.T
