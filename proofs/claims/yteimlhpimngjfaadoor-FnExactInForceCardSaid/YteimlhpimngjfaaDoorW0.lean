import Derived.Test.YteimlhpimngjfaaDoorTA
set_option linter.unusedVariables false
set_option linter.unusedSimpArgs false
set_option linter.unusedVariables false
set_option linter.unusedSimpArgs false
set_option maxHeartbeats 8000000
set_option maxRecDepth 100000
namespace Go.Proofs.T
open Go.OM
section
attribute [local irreducible] Hg SWp St.wps thenS iB Lv Ct Lp VL Option.bind getI sAt sSub sCat appI mkI subI setI bindS loopP ite Dr
instance e22_ : Ent E 22 := ent_of Tryd.func22
instance c22_ (a1 : List Int) (a0 : Int) {r0 : Int} : Con E 22 (laws_szIntS a1 a0 = some r0) [.val (.sl false 1 (List.map vi a1)), .val (vi a0)] [vi r0] [] := by
 refine h_fn Tryd.func22 fun C q => ?_
 unfold laws_szIntS
 repeat' first | refine And.intro ?_ ?_ | refine Prod.forall.2 ?_ | (intro _; try dsimp only) | refine h_lo ?_ | exact Z | refine S ?_
instance e28_ : Ent E 28 := ent_of Tryd.func28
instance c28_ (a1 : List Int) {r0 : List Int} : Con E 28 (laws_toIntS a1 = some r0) [.val (.sl false 1 (List.map vi a1))] [.sl true 1 (List.map vi r0)] [] := by
 refine h_fn Tryd.func28 fun C q => ?_
 unfold laws_toIntS
 repeat' first | refine And.intro ?_ ?_ | refine Prod.forall.2 ?_ | (intro _; try dsimp only) | refine h_lo ?_ | exact Z | refine h_loop 3010 [0, 3, 4] [] (fun v => [(3, .t (.sl true 1 (List.map vi v.1))), (4, .t (vi v.2))]) (fun _ => []) (by unfold laws_toIntS_l1; rfl) ?_ | refine h_cut 2014 [3] [] (fun v => [(3, .t (.sl true 1 (List.map vi v)))]) (fun _ => []) ?_ | refine S ?_
instance e37_ : Ent E 37 := ent_of Tryd.func37
instance c37_ (a1 : List Int) (b2 : List Int) {r0 : Bool} : Con E 37 (laws_eqIntS a1 b2 = some r0) [.val (.sl false 1 (List.map vi a1)), .val (.sl false 1 (List.map vi b2))] [vb r0] [] := by
 refine h_fn Tryd.func37 fun C q => ?_
 unfold laws_eqIntS
 repeat' first | refine And.intro ?_ ?_ | refine Prod.forall.2 ?_ | (intro _; try dsimp only) | refine h_lo ?_ | exact Z | refine h_loop 4016 [0, 1, 5] [] (fun v => [(5, .t (vi v))]) (fun _ => []) (by unfold laws_eqIntS_l1; rfl) ?_ | refine h_cutE 3020 [] [] (fun _ => []) (fun _ => []) ?_ | refine S ?_
instance e63_ : Ent E 63 := ent_of Tryd.func63
instance c63_ (k1 : Int) {r0 : ByteArray} : Con E 63 (laws_markText k1 = some r0) [.val (vi k1)] [vs r0] [] := by
 refine h_fn Tryd.func63 fun C q => ?_
 unfold laws_markText
 repeat' first | refine And.intro ?_ ?_ | refine Prod.forall.2 ?_ | (intro _; try dsimp only) | refine h_lo ?_ | exact Z | refine h_loop 4010 [0, 3] [] (fun v => [(0, .t (vi v.1)), (3, .t (vs v.2))]) (fun _ => []) (by unfold laws_markText_l1; rfl) ?_ | refine h_cut 4012 [3] [] (fun v => [(3, .t (vs v))]) (fun _ => []) ?_ | refine S ?_
instance e68_ : Ent E 68 := ent_of Tryd.func68
instance c68_ (b1 : Int) {r0 : Bool} : Con E 68 (spec_l03Letter b1 = some r0) [.val (vk .u8 b1)] [vb r0] [] := by
 refine h_fn Tryd.func68 fun C q => ?_
 unfold spec_l03Letter
 repeat' first | refine And.intro ?_ ?_ | refine Prod.forall.2 ?_ | (intro _; try dsimp only) | refine h_lo ?_ | exact Z | refine h_cutR 1 [2] [] (fun v => [(2, .t (vb v))]) (fun _ => []) ?_ | refine S ?_
instance e54_ : Ent E 54 := ent_of Tryd.func54
instance c54_ (a1 : Int) (a0 : Int) (a2 : Bool) {r0 : List (List Bool)} : Con E 54 (spec_l14Table a1 a0 a2 = some r0) [.val (vi a1), .val (vi a0), .val (vb a2)] [.sl true 1 (List.map (eSl true 1 vb) r0)] [] := by
 refine h_fn Tryd.func54 fun C q => ?_
 unfold spec_l14Table
 repeat' first | refine And.intro ?_ ?_ | refine Prod.forall.2 ?_ | (intro _; try dsimp only) | refine h_lo ?_ | exact Z | refine h_loop 7010 [0, 1, 2, 7, 8, 9, 10] [] (fun v => [(9, .t (.sl true 1 (List.map vb v.1))), (10, .t (vi v.2))]) (fun _ => []) (by unfold spec_l14Table_l2; rfl) ?_ | refine h_cut 6014 [0, 1, 2, 7, 8, 9] [] (fun v => [(9, .t (.sl true 1 (List.map vb v)))]) (fun _ => []) ?_ | refine h_cut 5019 [0, 1, 2, 7, 8] [] (fun v => [(7, .t (.sl true 1 (List.map (eSl true 1 vb) v)))]) (fun _ => []) ?_ | refine h_loop 3027 [0, 1, 2, 7, 8] [] (fun v => [(7, .t (.sl true 1 (List.map (eSl true 1 vb) v.1))), (8, .t (vi v.2))]) (fun _ => []) (by unfold spec_l14Table_l1; rfl) ?_ | refine h_cut 2031 [7] [] (fun v => [(7, .t (.sl true 1 (List.map (eSl true 1 vb) v)))]) (fun _ => []) ?_ | refine S ?_
instance e76_ : Ent E 76 := ent_of Tryd.func76
instance c76_ (b1 : Int) {r0 : Bool} : Con E 76 (impl_isLetter b1 = some r0) [.val (vk .u8 b1)] [vb r0] [] := by
 refine h_fn Tryd.func76 fun C q => ?_
 unfold impl_isLetter
 repeat' first | refine And.intro ?_ ?_ | refine Prod.forall.2 ?_ | (intro _; try dsimp only) | refine h_lo ?_ | exact Z | refine h_cutR 1 [2] [] (fun v => [(2, .t (vb v))]) (fun _ => []) ?_ | refine S ?_
instance e66_ : Ent E 66 := ent_of Tryd.func66
instance c66_ (l1 : List Int) (n2 : Int) {r0 : Bool} : Con E 66 (impl_hasInt l1 n2 = some r0) [.val (.sl false 1 (List.map vi l1)), .val (vi n2)] [vb r0] [] := by
 refine h_fn Tryd.func66 fun C q => ?_
 unfold impl_hasInt
 repeat' first | refine And.intro ?_ ?_ | refine Prod.forall.2 ?_ | (intro _; try dsimp only) | refine h_lo ?_ | exact Z | refine h_loop 2018 [1, 7, 8, 9] [] (fun v => [(9, .t (vi v))]) (fun _ => []) (by unfold impl_hasInt_l1; rfl) ?_ | refine h_cutE 1022 [] [] (fun _ => []) (fun _ => []) ?_ | refine S ?_
instance e47_ : Ent E 47 := ent_of Tryd.func47
instance c47_ (a0 : List (List Bool)) (a2 : List Bool) (a1 : Int) {r0 : List Bool} : Con E 47 (impl_inForce a0 a2 a1 = some r0) [.val (.sl false 1 (List.map (eSl false 1 vb) a0)), .val (.sl false 1 (List.map vb a2)), .val (vi a1)] [.sl true 1 (List.map vb r0)] [] := by
 refine h_fn Tryd.func47 fun C q => ?_
 unfold impl_inForce
 repeat' first | refine And.intro ?_ ?_ | refine Prod.forall.2 ?_ | (intro _; try dsimp only) | refine h_lo ?_ | exact Z | refine h_loop 6012 [1, 7, 8, 14, 15, 16, 21, 22, 23] [] (fun v => [(7, .t (.sl true 1 (List.map vb v.1))), (23, .t (vi v.2))]) (fun _ => []) (by unfold impl_inForce_l2; rfl) ?_ | refine h_cut 4019 [1, 7, 14, 15, 16] [] (fun v => [(7, .t (.sl true 1 (List.map vb v)))]) (fun _ => []) ?_ | refine h_loop 3027 [1, 7, 14, 15, 16] [] (fun v => [(7, .t (.sl true 1 (List.map vb v.1))), (16, .t (vi v.2))]) (fun _ => []) (by unfold impl_inForce_l1; rfl) ?_ | refine h_cut 2031 [7] [] (fun v => [(7, .t (.sl true 1 (List.map vb v)))]) (fun _ => []) ?_ | refine S ?_
instance e19_ : Ent E 19 := ent_of Tryd.func19
instance c19_ (a1 : List Bool) (b2 : List Bool) {r0 : Bool} : Con E 19 (laws_eqBoolS a1 b2 = some r0) [.val (.sl false 1 (List.map vb a1)), .val (.sl false 1 (List.map vb b2))] [vb r0] [] := by
 refine h_fn Tryd.func19 fun C q => ?_
 unfold laws_eqBoolS
 repeat' first | refine And.intro ?_ ?_ | refine Prod.forall.2 ?_ | (intro _; try dsimp only) | refine h_lo ?_ | exact Z | refine h_loop 4016 [0, 1, 5] [] (fun v => [(5, .t (vi v))]) (fun _ => []) (by unfold laws_eqBoolS_l1; rfl) ?_ | refine h_cutE 3020 [] [] (fun _ => []) (fun _ => []) ?_ | refine S ?_
end
theorem res20 : Tryd.f20.results.toList = [.tmp 4] := rfl
theorem ent20 : Enters E.P 20 := eO Tryd.func20 (by simp [Tryd.f20]) rfl
theorem laws_markBoolS_ok (a1 : List Bool) (k2 : Int) {r0 : Int} {q0 : List Bool} (h : laws_markBoolS a1 k2 = some (r0, q0)) : OkIO E 20 [.val (.sl true 1 (List.map vb a1)), .val (vi k2)] [vi r0] [] [(0, .sl true 1 (List.map vb q0))] := by
 refine okIO_of_body (fn := Tryd.f20) [(0, .sl true 1 (List.map vb q0))] Tryd.func20 rfl (by simp [Tryd.f20]) rfl fun C hN hP => ?_
 have y : ∀ l, pinK [0] l = true → pinB C.pin l = true := pO (by rw [hP]; rfl)
 have q : C.N = 21 := hN
 clear hN
 unfold laws_markBoolS at h
 refine SWp.zS y ?_
 refine wps_q q ?_
 apply wN
 obtain ⟨⟨b0, b1⟩, b2, h⟩ := bS h
 try dsimp only at h
 refine SWp.seqC [0, 1] [] (fun _ : Unit => ⟨[(0, .t (.sl true 1 (List.map vb b0))), (1, .t (vi b1))], []⟩) (fun _ => True) (fun _ _ => ?_) fun K4 b3 => ?_
 rotate_left
 ·refine SWp.zS y ?_
  refine wps_q q ?_
  apply wN
  refine SWp.block ?_
  refine SWp.loopO [] [0, 1, 5] [] (fun v : (List Bool) × Int × Int => ⟨[(0, .t (.sl true 1 (List.map vb v.1))), (1, .t (vi v.2.1)), (5, .t (vi v.2.2))], []⟩) (laws_markBoolS_l1) _ (a1, k2, (0 : Int)) b2 (by simp [q]) ?_
  intro g b8 h9 a7
  obtain ⟨a6, k7, i8⟩ := g
  simp only [laws_markBoolS_l1] at h9
  try dsimp only
  refine SWp.seq ?_
  refine SWp.zS y ?_
  iterate 4 refine wps_q q ?_
  apply wN
  refine SWp.cI h9 (fun b4 h9 => ?_) fun b5 h9 => ?_
  ·refine SWp.skip ?_
   refine SWp.seq ?_
   refine SWp.block ?_
   refine SWp.zS y ?_
   iterate 5 refine wps_q q ?_
   obtain ⟨b9, a8, h9⟩ := bS h9
   obtain ⟨a0, a2, a3, a4⟩ := gS a8
   refine wps_q q ?_ rfl (by simp [a0, a2, a3, a4]; rfl)
   obtain ⟨b6, a9, h9⟩ := bZ h9
   have a5 : (List.map vb a6).set i8.toNat (vb ((Int.tmod k7 3) == 0)) = List.map vb b6 := set_map (f := vb) a9
   try simp only [Int.toNat_natCast] at a5
   refine wps_q q ?_ rfl (by simp [a0, a2, a3, a4, a5]; rfl)
   apply wN
   refine SWp.zH y ?_
   iterate 3 refine wps_q q ?_
   apply wN
   refine SWp.zH y ?_
   iterate 3 refine wps_q q ?_
   apply wN
   cases h9
   exact ⟨_, [], rfl, by simp [q]⟩
  refine SWp.exit ?_
  have b7 := congrArg some (a7 _ (Option.some.inj h9).symm)
  cases b7
  exact b3 _ () [] trivial (by simp [q])
 refine SWp.zS y ?_
 iterate 2 refine wps_q q ?_
 apply wN
 cases h
 refine SWp.ret ?_
 simp [thenS, iB, res20]
end Go.Proofs.T
