import Derived.Test.YteimlhpimngjfaaDoorW0
import Derived.Test.YteimlhpimngjfaaDoorW1
set_option linter.unusedVariables false
set_option linter.unusedSimpArgs false
set_option linter.unusedVariables false
set_option linter.unusedSimpArgs false
set_option maxHeartbeats 8000000
set_option maxRecDepth 100000
namespace Go.Proofs.T
open Go.OM
section
attribute [local irreducible] Hg M St.wps thenS iB Lv Ct Lp VL Option.bind getI sAt sSub sCat appI mkI subI setI bindS loopP ite Dr
instance e57_ : Ent E 57 := ent_of Tryd.func57
instance c57_ (a1 : GIns) {r0 : GIns} : Con E 57 (laws_toIns a1 = some r0) [.val (GIns.enc false a1)] [GIns.enc true r0] [] := by
 refine h_fn Tryd.func57 fun C q => ?_
 unfold laws_toIns
 repeat' first | refine And.intro ?_ ?_ | refine Prod.forall.2 ?_ | (intro _; try dsimp only) | refine h_lo ?_ | exact Z | refine S ?_
instance e62_ : Ent E 62 := ent_of Tryd.func62
instance c62_ (a1 : GIns) (b2 : GIns) {r0 : Bool} : Con E 62 (laws_eqIns a1 b2 = some r0) [.val (GIns.enc false a1), .val (GIns.enc false b2)] [vb r0] [] := by
 refine h_fn Tryd.func62 fun C q => ?_
 unfold laws_eqIns
 repeat' first | refine And.intro ?_ ?_ | refine Prod.forall.2 ?_ | (intro _; try dsimp only) | refine h_lo ?_ | exact Z | refine S ?_
instance e69_ : Ent E 69 := ent_of Tryd.func69
instance c69_ (s1 : ByteArray) {r0 : Bool} : Con E 69 (spec_KeyWord s1 = some r0) [.val (vs s1)] [vb r0] [] := by
 refine h_fn Tryd.func69 fun C q => ?_
 unfold spec_KeyWord
 repeat' first | refine And.intro ?_ ?_ | refine Prod.forall.2 ?_ | (intro _; try dsimp only) | refine h_lo ?_ | exact Z | refine h_loop 3016 [0, 3, 4] [] (fun v => [(4, .t (vi v))]) (fun _ => []) (by unfold spec_KeyWord_l1; rfl) ?_ | refine h_cutE 2020 [] [] (fun _ => []) (fun _ => []) ?_ | refine S ?_
instance e73_ : Ent E 73 := ent_of Tryd.func73
instance c73_ (c1 : GCode) (n2 : Int) {r0 : Bool} : Con E 73 (spec_l11Place c1 n2 = some r0) [.val (GCode.enc false c1), .val (vi n2)] [vb r0] [] := by
 refine h_fn Tryd.func73 fun C q => ?_
 unfold spec_l11Place
 repeat' first | refine And.intro ?_ ?_ | refine Prod.forall.2 ?_ | (intro _; try dsimp only) | refine h_lo ?_ | exact Z | refine S ?_
instance e72_ : Ent E 72 := ent_of Tryd.func72
instance c72_ (a0 : Int) {r0 : Bool} : Con E 72 (spec_l11HasB a0 = some r0) [.val (vi a0)] [vb r0] [] := by
 refine h_fn Tryd.func72 fun C q => ?_
 unfold spec_l11HasB
 repeat' first | refine And.intro ?_ ?_ | refine Prod.forall.2 ?_ | (intro _; try dsimp only) | refine h_lo ?_ | exact Z | refine h_cutR 1 [2] [] (fun v => [(2, .t (vb v))]) (fun _ => []) ?_ | refine S ?_
instance e74_ : Ent E 74 := ent_of Tryd.func74
instance c74_ (a0 : Int) {r0 : Bool} : Con E 74 (spec_l11HasC a0 = some r0) [.val (vi a0)] [vb r0] [] := by
 refine h_fn Tryd.func74 fun C q => ?_
 unfold spec_l11HasC
 repeat' first | refine And.intro ?_ ?_ | refine Prod.forall.2 ?_ | (intro _; try dsimp only) | refine h_lo ?_ | exact Z | refine S ?_
instance e56_ : Ent E 56 := ent_of Tryd.func56
instance c56_ (c1 : GCode) (i2 : Int) {r0 : List Int} : Con E 56 (spec_Next c1 i2 = some r0) [.val (GCode.enc false c1), .val (vi i2)] [.sl true 1 (List.map vi r0)] [] := by
 refine h_fn Tryd.func56 fun C q => ?_
 unfold spec_Next
 repeat' first | refine And.intro ?_ ?_ | refine Prod.forall.2 ?_ | (intro _; try dsimp only) | refine h_lo ?_ | exact Z | refine h_cut 6016 [2, 5, 7] [2] (fun v => [(7, .t (.sl true 1 (List.map vi v)))]) (fun _ => []) ?_ | refine h_loop 14014 [2, 5, 7, 8] [2] (fun v => [(5, .t (.sl true 1 (List.map vi v.1))), (8, .t (vi v.2))]) (fun _ => []) (by unfold spec_Next_l1; rfl) ?_ | refine h_cut 13018 [5] [] (fun v => [(5, .t (.sl true 1 (List.map vi v)))]) (fun _ => []) ?_ | refine S ?_
instance e79_ : Ent E 79 := ent_of Tryd.func79
instance c79_ (c1 : GCode) (n2 : Int) (a0 : Bool) {r0 : Bool} : Con E 79 (impl_isPlace c1 n2 a0 = some r0) [.val (GCode.enc false c1), .val (vi n2), .val (vb a0)] [vb r0] [] := by
 refine h_fn Tryd.func79 fun C q => ?_
 unfold impl_isPlace
 repeat' first | refine And.intro ?_ ?_ | refine Prod.forall.2 ?_ | (intro _; try dsimp only) | refine h_lo ?_ | exact Z | refine S ?_
instance e80_ : Ent E 80 := ent_of Tryd.func80
instance c80_ (a0 : Int) {r0 : Bool} : Con E 80 (impl_hasA a0 = some r0) [.val (vi a0)] [vb r0] [] := by
 refine h_fn Tryd.func80 fun C q => ?_
 unfold impl_hasA
 repeat' first | refine And.intro ?_ ?_ | refine Prod.forall.2 ?_ | (intro _; try dsimp only) | refine h_lo ?_ | exact Z | refine h_cutR 1 [2] [] (fun v => [(2, .t (vb v))]) (fun _ => []) ?_ | refine S ?_
instance e81_ : Ent E 81 := ent_of Tryd.func81
instance c81_ (a0 : Int) {r0 : Bool} : Con E 81 (impl_hasB a0 = some r0) [.val (vi a0)] [vb r0] [] := by
 refine h_fn Tryd.func81 fun C q => ?_
 unfold impl_hasB
 repeat' first | refine And.intro ?_ ?_ | refine Prod.forall.2 ?_ | (intro _; try dsimp only) | refine h_lo ?_ | exact Z | refine h_cutR 1 [2] [] (fun v => [(2, .t (vb v))]) (fun _ => []) ?_ | refine S ?_
instance e35_ : Ent E 35 := ent_of Tryd.func35
instance c35_ (c1 : GCode) (i2 : Int) {r0 : List Int} : Con E 35 (impl_Next c1 i2 = some r0) [.val (GCode.enc false c1), .val (vi i2)] [.sl true 1 (List.map vi r0)] [] := by
 refine h_fn Tryd.func35 fun C q => ?_
 unfold impl_Next
 repeat' first | refine And.intro ?_ ?_ | refine Prod.forall.2 ?_ | (intro _; try dsimp only) | refine h_lo ?_ | exact Z | refine h_cut 5016 [2, 6] [2] (fun v => [(6, .t (.sl true 1 (List.map vi v)))]) (fun _ => []) ?_ | refine h_loop 14016 [2, 6, 7, 41, 42, 43] [2] (fun v => [(7, .t (.sl true 1 (List.map vi v.1))), (43, .t (vi v.2))]) (fun _ => []) (by unfold impl_Next_l1; rfl) ?_ | refine h_cut 13020 [7] [] (fun v => [(7, .t (.sl true 1 (List.map vi v)))]) (fun _ => []) ?_ | refine S ?_
instance e61_ : Ent E 61 := ent_of Tryd.func61
instance c61_ (x1 : GIns) {r0 : Int} : Con E 61 (impl_Writes x1 = some r0) [.val (GIns.enc false x1)] [vi r0] [] := by
 refine h_fn Tryd.func61 fun C q => ?_
 unfold impl_Writes
 repeat' first | refine And.intro ?_ ?_ | refine Prod.forall.2 ?_ | (intro _; try dsimp only) | refine h_lo ?_ | exact Z | refine S ?_
end
end Go.Proofs.T
