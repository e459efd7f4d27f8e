import Derived.Test.YteimlhpimngjfaaDoorTA
set_option linter.unusedVariables false
set_option linter.unusedSimpArgs false
set_option linter.unusedVariables false
set_option linter.unusedSimpArgs false
set_option maxHeartbeats 8000000
set_option maxRecDepth 100000
namespace Go.Proofs.T
open Go.OM
section
attribute [local irreducible] Hg SWp St.wps thenS iB Lv Ct Lp VL Option.bind getI sAt sSub sCat appI mkI subI setI bindS loopP ite Dr
instance e49_ : Ent E 49 := ent_of Tryd.func49
instance c49_ (x1 : Int) (a0 : Int) (a1 : Int) {r0 : Bool} : Con E 49 (spec_l01In x1 a0 a1 = some r0) [.val (vi x1), .val (vi a0), .val (vi a1)] [vb r0] [] := by
 refine h_fn Tryd.func49 fun C q => ?_
 unfold spec_l01In
 repeat' first | refine And.intro ?_ ?_ | refine Prod.forall.2 ?_ | (intro _; try dsimp only) | refine h_lo ?_ | exact Z | refine h_cutR 1 [6] [] (fun v => [(6, .t (vb v))]) (fun _ => []) ?_ | refine S ?_
instance e83_ : Ent E 83 := ent_of Tryd.func83
instance c83_ {r0 : List ByteArray} : Con E 83 (spec_l03Keys = some r0) [] [.sl true 1 (List.map vs r0)] [] := by
 refine h_fn Tryd.func83 fun C q => ?_
 unfold spec_l03Keys
 repeat' first | refine And.intro ?_ ?_ | refine Prod.forall.2 ?_ | (intro _; try dsimp only) | refine h_lo ?_ | exact Z | refine S ?_
instance e70_ : Ent E 70 := ent_of Tryd.func70
instance c70_ (b1 : Int) {r0 : Bool} : Con E 70 (spec_l03Figure b1 = some r0) [.val (vk .u8 b1)] [vb r0] [] := by
 refine h_fn Tryd.func70 fun C q => ?_
 unfold spec_l03Figure
 repeat' first | refine And.intro ?_ ?_ | refine Prod.forall.2 ?_ | (intro _; try dsimp only) | refine h_lo ?_ | exact Z | refine h_cutR 1 [2] [] (fun v => [(2, .t (vb v))]) (fun _ => []) ?_ | refine S ?_
instance e75_ : Ent E 75 := ent_of Tryd.func75
instance c75_ (a0 : List Int) (n2 : Int) {r0 : List Int} : Con E 75 (spec_l11Add a0 n2 = some r0) [.val (.sl true 1 (List.map vi a0)), .val (vi n2)] [.sl true 1 (List.map vi r0)] [] := by
 refine h_fn Tryd.func75 fun C q => ?_
 unfold spec_l11Add
 repeat' first | refine And.intro ?_ ?_ | refine Prod.forall.2 ?_ | (intro _; try dsimp only) | refine h_lo ?_ | exact Z | refine h_loop 2016 [0, 1, 5] [] (fun v => [(5, .t (vi v))]) (fun _ => []) (by unfold spec_l11Add_l1; rfl) ?_ | refine h_cutE 1020 [0, 1] [] (fun _ => []) (fun _ => []) ?_ | refine S ?_
instance e44_ : Ent E 44 := ent_of Tryd.func44
instance c44_ (a0 : List (List Bool)) (a1 : List Bool) (n3 : Int) {r0 : List Bool} : Con E 44 (spec_l15Force a0 a1 n3 = some r0) [.val (.sl false 1 (List.map (eSl false 1 vb) a0)), .val (.sl false 1 (List.map vb a1)), .val (vi n3)] [.sl true 1 (List.map vb r0)] [] := by
 refine h_fn Tryd.func44 fun C q => ?_
 unfold spec_l15Force
 repeat' first | refine And.intro ?_ ?_ | refine Prod.forall.2 ?_ | (intro _; try dsimp only) | refine h_lo ?_ | exact Z | refine h_cutR 6 [0, 1, 2, 7, 8, 9, 26] [] (fun v => [(26, .t (vb v))]) (fun _ => []) ?_ | refine h_loop 6010 [0, 1, 2, 7, 8, 9] [] (fun v => [(7, .t (.sl true 1 (List.map vb v.1))), (9, .t (vi v.2))]) (fun _ => []) (by unfold spec_l15Force_l2; rfl) ?_ | refine h_cut 5015 [0, 1, 2, 7, 8] [] (fun v => [(7, .t (.sl true 1 (List.map vb v)))]) (fun _ => []) ?_ | refine h_loop 3023 [0, 1, 2, 7, 8] [] (fun v => [(7, .t (.sl true 1 (List.map vb v.1))), (8, .t (vi v.2))]) (fun _ => []) (by unfold spec_l15Force_l1; rfl) ?_ | refine h_cut 2027 [7] [] (fun v => [(7, .t (.sl true 1 (List.map vb v)))]) (fun _ => []) ?_ | refine S ?_
instance e50_ : Ent E 50 := ent_of Tryd.func50
instance c50_ (n1 : Int) (a1 : Int) (a0 : Int) {r0 : Bool} : Con E 50 (impl_in n1 a1 a0 = some r0) [.val (vi n1), .val (vi a1), .val (vi a0)] [vb r0] [] := by
 refine h_fn Tryd.func50 fun C q => ?_
 unfold impl_in
 repeat' first | refine And.intro ?_ ?_ | refine Prod.forall.2 ?_ | (intro _; try dsimp only) | refine h_lo ?_ | exact Z | refine h_cutR 1 [6] [] (fun v => [(6, .t (vb v))]) (fun _ => []) ?_ | refine S ?_
instance e77_ : Ent E 77 := ent_of Tryd.func77
instance c77_ (b1 : Int) {r0 : Bool} : Con E 77 (impl_isFigure b1 = some r0) [.val (vk .u8 b1)] [vb r0] [] := by
 refine h_fn Tryd.func77 fun C q => ?_
 unfold impl_isFigure
 repeat' first | refine And.intro ?_ ?_ | refine Prod.forall.2 ?_ | (intro _; try dsimp only) | refine h_lo ?_ | exact Z | refine h_cutR 1 [2] [] (fun v => [(2, .t (vb v))]) (fun _ => []) ?_ | refine S ?_
instance e84_ : Ent E 84 := ent_of Tryd.func84
instance c84_ (s1 : ByteArray) (a0 : ByteArray) {r0 : Bool} : Con E 84 (impl_oneOf s1 a0 = some r0) [.val (vs s1), .val (vs a0)] [vb r0] [] := by
 refine h_fn Tryd.func84 fun C q => ?_
 unfold impl_oneOf
 repeat' first | refine And.intro ?_ ?_ | refine Prod.forall.2 ?_ | (intro _; try dsimp only) | refine h_lo ?_ | exact Z | refine h_loop 2018 [0, 8, 9, 10] [] (fun v => [(10, .t (vi v))]) (fun _ => []) (by unfold impl_oneOf_l1; rfl) ?_ | refine h_cutE 1022 [] [] (fun _ => []) (fun _ => []) ?_ | refine S ?_
instance e32_ : Ent E 32 := ent_of Tryd.func32
instance c32_ (rows1 : Int) (a0 : Int) (is3 : Bool) {r0 : List (List Bool)} : Con E 32 (impl_table rows1 a0 is3 = some r0) [.val (vi rows1), .val (vi a0), .val (vb is3)] [.sl true 1 (List.map (eSl true 1 vb) r0)] [] := by
 refine h_fn Tryd.func32 fun C q => ?_
 unfold impl_table
 repeat' first | refine And.intro ?_ ?_ | refine Prod.forall.2 ?_ | (intro _; try dsimp only) | refine h_lo ?_ | exact Z | refine h_loop 6012 [1, 2, 7, 8, 10, 11, 16, 17] [] (fun v => [(8, .t (.sl true 1 (List.map vb v.1))), (17, .t (vi v.2))]) (fun _ => []) (by unfold impl_table_l2; rfl) ?_ | refine h_cut 5016 [1, 2, 7, 8, 10, 11] [] (fun v => [(8, .t (.sl true 1 (List.map vb v)))]) (fun _ => []) ?_ | refine h_cut 4021 [1, 2, 7, 10, 11] [] (fun v => [(7, .t (.sl true 1 (List.map (eSl true 1 vb) v)))]) (fun _ => []) ?_ | refine h_loop 3029 [1, 2, 7, 10, 11] [] (fun v => [(7, .t (.sl true 1 (List.map (eSl true 1 vb) v.1))), (11, .t (vi v.2))]) (fun _ => []) (by unfold impl_table_l1; rfl) ?_ | refine h_cut 2033 [7] [] (fun v => [(7, .t (.sl true 1 (List.map (eSl true 1 vb) v)))]) (fun _ => []) ?_ | refine S ?_
instance e60_ : Ent E 60 := ent_of Tryd.func60
instance c60_ (l1 : Int) (a2 : List GLoan) (a3 : List (List Bool)) {q1 : List GLoan} {q2 : List (List Bool)} : Con E 60 (impl_held_1 l1 a2 a3 = some (q1, q2)) [.val (vi l1), .ptr [.sl false 3 (List.map GLoan.enc a2)], .ptr [.sl true 1 (List.map (eSl true 1 vb) a3)]] [] [[.sl false 3 (List.map GLoan.enc q1)], [.sl true 1 (List.map (eSl true 1 vb) q2)]] := by
 refine h_fn Tryd.func60 fun C q => ?_
 unfold impl_held_1
 repeat' first | refine And.intro ?_ ?_ | refine Prod.forall.2 ?_ | (intro _; try dsimp only) | refine h_lo ?_ | exact Z | refine S ?_
instance e21_ : Ent E 21 := ent_of Tryd.func21
instance c21_ (a1 : List Bool) (k2 : Int) {r0 : Int} : Con E 21 (laws_heldBoolS a1 k2 = some r0) [.val (.sl false 1 (List.map vb a1)), .val (vi k2)] [vi r0] [] := by
 refine h_fn Tryd.func21 fun C q => ?_
 unfold laws_heldBoolS
 repeat' first | refine And.intro ?_ ?_ | refine Prod.forall.2 ?_ | (intro _; try dsimp only) | refine h_lo ?_ | exact Z | refine h_loop 2018 [0, 1, 5] [] (fun v => [(1, .t (vi v.1)), (5, .t (vi v.2))]) (fun _ => []) (by unfold laws_heldBoolS_l1; rfl) ?_ | refine h_cutE 1022 [1] [] (fun v => [(1, .t (vi v))]) (fun _ => []) ?_ | refine S ?_
end
theorem res39 : Tryd.f39.results.toList = [.tmp 4] := rfl
theorem ent39 : Enters E.P 39 := eO Tryd.func39 (by simp [Tryd.f39]) rfl
theorem laws_markIntS_ok (a1 : List Int) (k2 : Int) {r0 : Int} {q0 : List Int} (h : laws_markIntS a1 k2 = some (r0, q0)) : OkIO E 39 [.val (.sl true 1 (List.map vi a1)), .val (vi k2)] [vi r0] [] [(0, .sl true 1 (List.map vi q0))] := by
 refine okIO_of_body (fn := Tryd.f39) [(0, .sl true 1 (List.map vi q0))] Tryd.func39 rfl (by simp [Tryd.f39]) rfl fun C hN hP => ?_
 have y : ∀ l, pinK [0] l = true → pinB C.pin l = true := pO (by rw [hP]; rfl)
 have q : C.N = 19 := hN
 clear hN
 unfold laws_markIntS at h
 refine SWp.zS y ?_
 refine wps_q q ?_
 apply wN
 obtain ⟨⟨b0, b1⟩, b2, h⟩ := bS h
 try dsimp only at h
 refine SWp.seqC [0, 1] [] (fun _ : Unit => ⟨[(0, .t (.sl true 1 (List.map vi b0))), (1, .t (vi b1))], []⟩) (fun _ => True) (fun _ _ => ?_) fun K4 b3 => ?_
 rotate_left
 ·refine SWp.zS y ?_
  refine wps_q q ?_
  apply wN
  refine SWp.block ?_
  refine SWp.loopO [] [0, 1, 5] [] (fun v : (List Int) × Int × Int => ⟨[(0, .t (.sl true 1 (List.map vi v.1))), (1, .t (vi v.2.1)), (5, .t (vi v.2.2))], []⟩) (laws_markIntS_l1) _ (a1, k2, (0 : Int)) b2 (by simp [q]) ?_
  intro g b8 h9 a7
  obtain ⟨a6, k7, i8⟩ := g
  simp only [laws_markIntS_l1] at h9
  try dsimp only
  refine SWp.seq ?_
  refine SWp.zS y ?_
  iterate 4 refine wps_q q ?_
  apply wN
  refine SWp.cI h9 (fun b4 h9 => ?_) fun b5 h9 => ?_
  ·refine SWp.skip ?_
   refine SWp.seq ?_
   refine SWp.block ?_
   refine SWp.zS y ?_
   iterate 3 refine wps_q q ?_
   obtain ⟨b9, a8, h9⟩ := bS h9
   obtain ⟨a0, a2, a3, a4⟩ := gS a8
   refine wps_q q ?_ rfl (by simp [a0, a2, a3, a4]; rfl)
   obtain ⟨b6, a9, h9⟩ := bZ h9
   have a5 : (List.map vi a6).set i8.toNat (vi k7) = List.map vi b6 := set_map (f := vi) a9
   try simp only [Int.toNat_natCast] at a5
   refine wps_q q ?_ rfl (by simp [a0, a2, a3, a4, a5]; rfl)
   apply wN
   refine SWp.zH y ?_
   iterate 3 refine wps_q q ?_
   apply wN
   refine SWp.zH y ?_
   iterate 3 refine wps_q q ?_
   apply wN
   cases h9
   exact ⟨_, [], rfl, by simp [q]⟩
  refine SWp.exit ?_
  have b7 := congrArg some (a7 _ (Option.some.inj h9).symm)
  cases b7
  exact b3 _ () [] trivial (by simp [q])
 refine SWp.zS y ?_
 iterate 2 refine wps_q q ?_
 apply wN
 cases h
 refine SWp.ret ?_
 simp [thenS, iB, res39]
end Go.Proofs.T
