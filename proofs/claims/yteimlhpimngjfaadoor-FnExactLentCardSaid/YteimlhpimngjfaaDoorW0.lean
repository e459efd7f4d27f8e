import Derived.Test.YteimlhpimngjfaaDoorTA
set_option linter.unusedVariables false
set_option linter.unusedSimpArgs false
set_option linter.unusedVariables false
set_option linter.unusedSimpArgs false
set_option maxHeartbeats 8000000
set_option maxRecDepth 100000
namespace Go.Proofs.T
open Go.OM
section
attribute [local irreducible] Hg M St.wps thenS iB Lv Ct Lp VL Option.bind getI sAt sSub sCat appI mkI subI setI bindS loopP ite Dr
instance e22_ : Ent E 22 := ent_of Tryd.func22
instance c22_ (a1 : List Int) (a0 : Int) {r0 : Int} : Con E 22 (laws_szIntS a1 a0 = some r0) [.val (.sl false 1 (List.map vi a1)), .val (vi a0)] [vi r0] [] := by
 refine h_fn Tryd.func22 fun C q => ?_
 unfold laws_szIntS
 repeat' first | refine And.intro ?_ ?_ | refine Prod.forall.2 ?_ | (intro _; try dsimp only) | refine h_lo ?_ | exact Z | refine S ?_
instance e28_ : Ent E 28 := ent_of Tryd.func28
instance c28_ (a1 : List Int) {r0 : List Int} : Con E 28 (laws_toIntS a1 = some r0) [.val (.sl false 1 (List.map vi a1))] [.sl true 1 (List.map vi r0)] [] := by
 refine h_fn Tryd.func28 fun C q => ?_
 unfold laws_toIntS
 repeat' first | refine And.intro ?_ ?_ | refine Prod.forall.2 ?_ | (intro _; try dsimp only) | refine h_lo ?_ | exact Z | refine h_loop 3010 [0, 3, 4] [] (fun v => [(3, .t (.sl true 1 (List.map vi v.1))), (4, .t (vi v.2))]) (fun _ => []) (by unfold laws_toIntS_l1; rfl) ?_ | refine h_cut 2014 [3] [] (fun v => [(3, .t (.sl true 1 (List.map vi v)))]) (fun _ => []) ?_ | refine S ?_
instance e37_ : Ent E 37 := ent_of Tryd.func37
instance c37_ (a1 : List Int) (b2 : List Int) {r0 : Bool} : Con E 37 (laws_eqIntS a1 b2 = some r0) [.val (.sl false 1 (List.map vi a1)), .val (.sl false 1 (List.map vi b2))] [vb r0] [] := by
 refine h_fn Tryd.func37 fun C q => ?_
 unfold laws_eqIntS
 repeat' first | refine And.intro ?_ ?_ | refine Prod.forall.2 ?_ | (intro _; try dsimp only) | refine h_lo ?_ | exact Z | refine h_loop 4016 [0, 1, 5] [] (fun v => [(5, .t (vi v))]) (fun _ => []) (by unfold laws_eqIntS_l1; rfl) ?_ | refine h_cutE 3020 [] [] (fun _ => []) (fun _ => []) ?_ | refine S ?_
instance e49_ : Ent E 49 := ent_of Tryd.func49
instance c49_ (x1 : Int) (a0 : Int) (a1 : Int) {r0 : Bool} : Con E 49 (spec_l01In x1 a0 a1 = some r0) [.val (vi x1), .val (vi a0), .val (vi a1)] [vb r0] [] := by
 refine h_fn Tryd.func49 fun C q => ?_
 unfold spec_l01In
 repeat' first | refine And.intro ?_ ?_ | refine Prod.forall.2 ?_ | (intro _; try dsimp only) | refine h_lo ?_ | exact Z | refine h_cutR 1 [6] [] (fun v => [(6, .t (vb v))]) (fun _ => []) ?_ | refine S ?_
instance e68_ : Ent E 68 := ent_of Tryd.func68
instance c68_ (b1 : Int) {r0 : Bool} : Con E 68 (spec_l03Letter b1 = some r0) [.val (vk .u8 b1)] [vb r0] [] := by
 refine h_fn Tryd.func68 fun C q => ?_
 unfold spec_l03Letter
 repeat' first | refine And.intro ?_ ?_ | refine Prod.forall.2 ?_ | (intro _; try dsimp only) | refine h_lo ?_ | exact Z | refine h_cutR 1 [2] [] (fun v => [(2, .t (vb v))]) (fun _ => []) ?_ | refine S ?_
instance e76_ : Ent E 76 := ent_of Tryd.func76
instance c76_ (b1 : Int) {r0 : Bool} : Con E 76 (impl_isLetter b1 = some r0) [.val (vk .u8 b1)] [vb r0] [] := by
 refine h_fn Tryd.func76 fun C q => ?_
 unfold impl_isLetter
 repeat' first | refine And.intro ?_ ?_ | refine Prod.forall.2 ?_ | (intro _; try dsimp only) | refine h_lo ?_ | exact Z | refine h_cutR 1 [2] [] (fun v => [(2, .t (vb v))]) (fun _ => []) ?_ | refine S ?_
instance e32_ : Ent E 32 := ent_of Tryd.func32
instance c32_ (rows1 : Int) (a0 : Int) (is3 : Bool) {r0 : List (List Bool)} : Con E 32 (impl_table rows1 a0 is3 = some r0) [.val (vi rows1), .val (vi a0), .val (vb is3)] [.sl true 1 (List.map (eSl true 1 vb) r0)] [] := by
 refine h_fn Tryd.func32 fun C q => ?_
 unfold impl_table
 repeat' first | refine And.intro ?_ ?_ | refine Prod.forall.2 ?_ | (intro _; try dsimp only) | refine h_lo ?_ | exact Z | refine h_loop 6012 [1, 2, 7, 8, 10, 11, 16, 17] [] (fun v => [(8, .t (.sl true 1 (List.map vb v.1))), (17, .t (vi v.2))]) (fun _ => []) (by unfold impl_table_l2; rfl) ?_ | refine h_cut 5016 [1, 2, 7, 8, 10, 11] [] (fun v => [(8, .t (.sl true 1 (List.map vb v)))]) (fun _ => []) ?_ | refine h_cut 4021 [1, 2, 7, 10, 11] [] (fun v => [(7, .t (.sl true 1 (List.map (eSl true 1 vb) v)))]) (fun _ => []) ?_ | refine h_loop 3029 [1, 2, 7, 10, 11] [] (fun v => [(7, .t (.sl true 1 (List.map (eSl true 1 vb) v.1))), (11, .t (vi v.2))]) (fun _ => []) (by unfold impl_table_l1; rfl) ?_ | refine h_cut 2033 [7] [] (fun v => [(7, .t (.sl true 1 (List.map (eSl true 1 vb) v)))]) (fun _ => []) ?_ | refine S ?_
instance e66_ : Ent E 66 := ent_of Tryd.func66
instance c66_ (l1 : List Int) (n2 : Int) {r0 : Bool} : Con E 66 (impl_hasInt l1 n2 = some r0) [.val (.sl false 1 (List.map vi l1)), .val (vi n2)] [vb r0] [] := by
 refine h_fn Tryd.func66 fun C q => ?_
 unfold impl_hasInt
 repeat' first | refine And.intro ?_ ?_ | refine Prod.forall.2 ?_ | (intro _; try dsimp only) | refine h_lo ?_ | exact Z | refine h_loop 2018 [1, 7, 8, 9] [] (fun v => [(9, .t (vi v))]) (fun _ => []) (by unfold impl_hasInt_l1; rfl) ?_ | refine h_cutE 1022 [] [] (fun _ => []) (fun _ => []) ?_ | refine S ?_
instance e47_ : Ent E 47 := ent_of Tryd.func47
instance c47_ (a0 : List (List Bool)) (a2 : List Bool) (a1 : Int) {r0 : List Bool} : Con E 47 (impl_inForce a0 a2 a1 = some r0) [.val (.sl false 1 (List.map (eSl false 1 vb) a0)), .val (.sl false 1 (List.map vb a2)), .val (vi a1)] [.sl true 1 (List.map vb r0)] [] := by
 refine h_fn Tryd.func47 fun C q => ?_
 unfold impl_inForce
 repeat' first | refine And.intro ?_ ?_ | refine Prod.forall.2 ?_ | (intro _; try dsimp only) | refine h_lo ?_ | exact Z | refine h_loop 6012 [1, 7, 8, 14, 15, 16, 21, 22, 23] [] (fun v => [(7, .t (.sl true 1 (List.map vb v.1))), (23, .t (vi v.2))]) (fun _ => []) (by unfold impl_inForce_l2; rfl) ?_ | refine h_cut 4019 [1, 7, 14, 15, 16] [] (fun v => [(7, .t (.sl true 1 (List.map vb v)))]) (fun _ => []) ?_ | refine h_loop 3027 [1, 7, 14, 15, 16] [] (fun v => [(7, .t (.sl true 1 (List.map vb v.1))), (16, .t (vi v.2))]) (fun _ => []) (by unfold impl_inForce_l1; rfl) ?_ | refine h_cut 2031 [7] [] (fun v => [(7, .t (.sl true 1 (List.map vb v)))]) (fun _ => []) ?_ | refine S ?_
instance e48_ : Ent E 48 := ent_of Tryd.func48
instance c48_ (x1 : GIns) (a0 : Bool) {r0 : Int} : Con E 48 (impl_Takes x1 a0 = some r0) [.val (GIns.enc false x1), .val (vb a0)] [vi r0] [] := by
 refine h_fn Tryd.func48 fun C q => ?_
 unfold impl_Takes
 repeat' first | refine And.intro ?_ ?_ | refine Prod.forall.2 ?_ | (intro _; try dsimp only) | refine h_lo ?_ | exact Z | refine h_cutR 1 [1, 2, 5] [2] (fun v => [(5, .t (vb v))]) (fun _ => []) ?_ | refine h_cutR 3 [1, 2, 25] [2] (fun v => [(25, .t (vb v))]) (fun _ => []) ?_ | refine h_cutR 5 [2, 39] [2] (fun v => [(39, .t (vb v))]) (fun _ => []) ?_ | refine S ?_
end
end Go.Proofs.T
