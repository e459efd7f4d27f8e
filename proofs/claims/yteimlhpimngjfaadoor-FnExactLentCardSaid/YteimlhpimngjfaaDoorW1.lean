import Derived.Test.YteimlhpimngjfaaDoorTA
set_option linter.unusedVariables false
set_option linter.unusedSimpArgs false
set_option linter.unusedVariables false
set_option linter.unusedSimpArgs false
set_option maxHeartbeats 8000000
set_option maxRecDepth 100000
namespace Go.Proofs.T
open Go.OM
section
attribute [local irreducible] Hg M St.wps thenS iB Lv Ct Lp VL Option.bind getI sAt sSub sCat appI mkI subI setI bindS loopP ite Dr
instance e83_ : Ent E 83 := ent_of Tryd.func83
instance c83_ {r0 : List ByteArray} : Con E 83 (spec_l03Keys = some r0) [] [.sl true 1 (List.map vs r0)] [] := by
 refine h_fn Tryd.func83 fun C q => ?_
 unfold spec_l03Keys
 repeat' first | refine And.intro ?_ ?_ | refine Prod.forall.2 ?_ | (intro _; try dsimp only) | refine h_lo ?_ | exact Z | refine S ?_
instance e70_ : Ent E 70 := ent_of Tryd.func70
instance c70_ (b1 : Int) {r0 : Bool} : Con E 70 (spec_l03Figure b1 = some r0) [.val (vk .u8 b1)] [vb r0] [] := by
 refine h_fn Tryd.func70 fun C q => ?_
 unfold spec_l03Figure
 repeat' first | refine And.intro ?_ ?_ | refine Prod.forall.2 ?_ | (intro _; try dsimp only) | refine h_lo ?_ | exact Z | refine h_cutR 1 [2] [] (fun v => [(2, .t (vb v))]) (fun _ => []) ?_ | refine S ?_
instance e54_ : Ent E 54 := ent_of Tryd.func54
instance c54_ (a1 : Int) (a0 : Int) (a2 : Bool) {r0 : List (List Bool)} : Con E 54 (spec_l14Table a1 a0 a2 = some r0) [.val (vi a1), .val (vi a0), .val (vb a2)] [.sl true 1 (List.map (eSl true 1 vb) r0)] [] := by
 refine h_fn Tryd.func54 fun C q => ?_
 unfold spec_l14Table
 repeat' first | refine And.intro ?_ ?_ | refine Prod.forall.2 ?_ | (intro _; try dsimp only) | refine h_lo ?_ | exact Z | refine h_loop 7010 [0, 1, 2, 7, 8, 9, 10] [] (fun v => [(9, .t (.sl true 1 (List.map vb v.1))), (10, .t (vi v.2))]) (fun _ => []) (by unfold spec_l14Table_l2; rfl) ?_ | refine h_cut 6014 [0, 1, 2, 7, 8, 9] [] (fun v => [(9, .t (.sl true 1 (List.map vb v)))]) (fun _ => []) ?_ | refine h_cut 5019 [0, 1, 2, 7, 8] [] (fun v => [(7, .t (.sl true 1 (List.map (eSl true 1 vb) v)))]) (fun _ => []) ?_ | refine h_loop 3027 [0, 1, 2, 7, 8] [] (fun v => [(7, .t (.sl true 1 (List.map (eSl true 1 vb) v.1))), (8, .t (vi v.2))]) (fun _ => []) (by unfold spec_l14Table_l1; rfl) ?_ | refine h_cut 2031 [7] [] (fun v => [(7, .t (.sl true 1 (List.map (eSl true 1 vb) v)))]) (fun _ => []) ?_ | refine S ?_
instance e75_ : Ent E 75 := ent_of Tryd.func75
instance c75_ (a0 : List Int) (n2 : Int) {r0 : List Int} : Con E 75 (spec_l11Add a0 n2 = some r0) [.val (.sl true 1 (List.map vi a0)), .val (vi n2)] [.sl true 1 (List.map vi r0)] [] := by
 refine h_fn Tryd.func75 fun C q => ?_
 unfold spec_l11Add
 repeat' first | refine And.intro ?_ ?_ | refine Prod.forall.2 ?_ | (intro _; try dsimp only) | refine h_lo ?_ | exact Z | refine h_loop 2016 [0, 1, 5] [] (fun v => [(5, .t (vi v))]) (fun _ => []) (by unfold spec_l11Add_l1; rfl) ?_ | refine h_cutE 1020 [0, 1] [] (fun _ => []) (fun _ => []) ?_ | refine S ?_
instance e44_ : Ent E 44 := ent_of Tryd.func44
instance c44_ (a0 : List (List Bool)) (a1 : List Bool) (n3 : Int) {r0 : List Bool} : Con E 44 (spec_l15Force a0 a1 n3 = some r0) [.val (.sl false 1 (List.map (eSl false 1 vb) a0)), .val (.sl false 1 (List.map vb a1)), .val (vi n3)] [.sl true 1 (List.map vb r0)] [] := by
 refine h_fn Tryd.func44 fun C q => ?_
 unfold spec_l15Force
 repeat' first | refine And.intro ?_ ?_ | refine Prod.forall.2 ?_ | (intro _; try dsimp only) | refine h_lo ?_ | exact Z | refine h_cutR 6 [0, 1, 2, 7, 8, 9, 26] [] (fun v => [(26, .t (vb v))]) (fun _ => []) ?_ | refine h_loop 6010 [0, 1, 2, 7, 8, 9] [] (fun v => [(7, .t (.sl true 1 (List.map vb v.1))), (9, .t (vi v.2))]) (fun _ => []) (by unfold spec_l15Force_l2; rfl) ?_ | refine h_cut 5015 [0, 1, 2, 7, 8] [] (fun v => [(7, .t (.sl true 1 (List.map vb v)))]) (fun _ => []) ?_ | refine h_loop 3023 [0, 1, 2, 7, 8] [] (fun v => [(7, .t (.sl true 1 (List.map vb v.1))), (8, .t (vi v.2))]) (fun _ => []) (by unfold spec_l15Force_l1; rfl) ?_ | refine h_cut 2027 [7] [] (fun v => [(7, .t (.sl true 1 (List.map vb v)))]) (fun _ => []) ?_ | refine S ?_
instance e45_ : Ent E 45 := ent_of Tryd.func45
instance c45_ (x1 : GIns) (a0 : Bool) {r0 : Int} : Con E 45 (spec_Takes x1 a0 = some r0) [.val (GIns.enc false x1), .val (vb a0)] [vi r0] [] := by
 refine h_fn Tryd.func45 fun C q => ?_
 unfold spec_Takes
 repeat' first | refine And.intro ?_ ?_ | refine Prod.forall.2 ?_ | (intro _; try dsimp only) | refine h_lo ?_ | exact Z | refine h_cut 3005 [2, 7, 8] [2] (fun v => [(8, .t (vb v))]) (fun _ => []) ?_ | refine h_cut 6009 [2, 13] [2] (fun v => [(13, .t (vb v))]) (fun _ => []) ?_ | refine h_cut 12009 [2, 21] [2] (fun v => [(21, .t (vb v))]) (fun _ => []) ?_ | refine S ?_
instance e50_ : Ent E 50 := ent_of Tryd.func50
instance c50_ (n1 : Int) (a1 : Int) (a0 : Int) {r0 : Bool} : Con E 50 (impl_in n1 a1 a0 = some r0) [.val (vi n1), .val (vi a1), .val (vi a0)] [vb r0] [] := by
 refine h_fn Tryd.func50 fun C q => ?_
 unfold impl_in
 repeat' first | refine And.intro ?_ ?_ | refine Prod.forall.2 ?_ | (intro _; try dsimp only) | refine h_lo ?_ | exact Z | refine h_cutR 1 [6] [] (fun v => [(6, .t (vb v))]) (fun _ => []) ?_ | refine S ?_
instance e77_ : Ent E 77 := ent_of Tryd.func77
instance c77_ (b1 : Int) {r0 : Bool} : Con E 77 (impl_isFigure b1 = some r0) [.val (vk .u8 b1)] [vb r0] [] := by
 refine h_fn Tryd.func77 fun C q => ?_
 unfold impl_isFigure
 repeat' first | refine And.intro ?_ ?_ | refine Prod.forall.2 ?_ | (intro _; try dsimp only) | refine h_lo ?_ | exact Z | refine h_cutR 1 [2] [] (fun v => [(2, .t (vb v))]) (fun _ => []) ?_ | refine S ?_
instance e84_ : Ent E 84 := ent_of Tryd.func84
instance c84_ (s1 : ByteArray) (a0 : ByteArray) {r0 : Bool} : Con E 84 (impl_oneOf s1 a0 = some r0) [.val (vs s1), .val (vs a0)] [vb r0] [] := by
 refine h_fn Tryd.func84 fun C q => ?_
 unfold impl_oneOf
 repeat' first | refine And.intro ?_ ?_ | refine Prod.forall.2 ?_ | (intro _; try dsimp only) | refine h_lo ?_ | exact Z | refine h_loop 2018 [0, 8, 9, 10] [] (fun v => [(10, .t (vi v))]) (fun _ => []) (by unfold impl_oneOf_l1; rfl) ?_ | refine h_cutE 1022 [] [] (fun _ => []) (fun _ => []) ?_ | refine S ?_
instance e60_ : Ent E 60 := ent_of Tryd.func60
instance c60_ (l1 : Int) (a2 : List GLoan) (a3 : List (List Bool)) {q1 : List GLoan} {q2 : List (List Bool)} : Con E 60 (impl_held_1 l1 a2 a3 = some (q1, q2)) [.val (vi l1), .ptr [.sl false 3 (List.map GLoan.enc a2)], .ptr [.sl true 1 (List.map (eSl true 1 vb) a3)]] [] [[.sl false 3 (List.map GLoan.enc q1)], [.sl true 1 (List.map (eSl true 1 vb) q2)]] := by
 refine h_fn Tryd.func60 fun C q => ?_
 unfold impl_held_1
 repeat' first | refine And.intro ?_ ?_ | refine Prod.forall.2 ?_ | (intro _; try dsimp only) | refine h_lo ?_ | exact Z | refine S ?_
end
end Go.Proofs.T
