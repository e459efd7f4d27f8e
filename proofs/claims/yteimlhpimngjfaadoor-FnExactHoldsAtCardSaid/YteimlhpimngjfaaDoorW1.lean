import Derived.Test.YteimlhpimngjfaaDoorTA
set_option linter.unusedVariables false
set_option linter.unusedSimpArgs false
set_option linter.unusedVariables false
set_option linter.unusedSimpArgs false
set_option maxHeartbeats 8000000
set_option maxRecDepth 100000
namespace Go.Proofs.T
open Go.OM
section
attribute [local irreducible] Hg SWp St.wps thenS iB Lv Ct Lp VL Option.bind getI sAt sSub sCat appI mkI subI setI bindS loopP ite Dr
instance e22_ : Ent E 22 := ent_of Tryd.func22
instance c22_ (a1 : List Int) (a0 : Int) {r0 : Int} : Con E 22 (laws_szIntS a1 a0 = some r0) [.val (.sl false 1 (List.map vi a1)), .val (vi a0)] [vi r0] [] := by
 refine h_fn Tryd.func22 fun C q => ?_
 unfold laws_szIntS
 repeat' first | refine And.intro ?_ ?_ | refine Prod.forall.2 ?_ | (intro _; try dsimp only) | refine h_lo ?_ | exact Z | refine S ?_
instance e68_ : Ent E 68 := ent_of Tryd.func68
instance c68_ (b1 : Int) {r0 : Bool} : Con E 68 (spec_l03Letter b1 = some r0) [.val (vk .u8 b1)] [vb r0] [] := by
 refine h_fn Tryd.func68 fun C q => ?_
 unfold spec_l03Letter
 repeat' first | refine And.intro ?_ ?_ | refine Prod.forall.2 ?_ | (intro _; try dsimp only) | refine h_lo ?_ | exact Z | refine h_cutR 1 [2] [] (fun v => [(2, .t (vb v))]) (fun _ => []) ?_ | refine S ?_
instance e75_ : Ent E 75 := ent_of Tryd.func75
instance c75_ (a0 : List Int) (n2 : Int) {r0 : List Int} : Con E 75 (spec_l11Add a0 n2 = some r0) [.val (.sl true 1 (List.map vi a0)), .val (vi n2)] [.sl true 1 (List.map vi r0)] [] := by
 refine h_fn Tryd.func75 fun C q => ?_
 unfold spec_l11Add
 repeat' first | refine And.intro ?_ ?_ | refine Prod.forall.2 ?_ | (intro _; try dsimp only) | refine h_lo ?_ | exact Z | refine h_loop 2016 [0, 1, 5] [] (fun v => [(5, .t (vi v))]) (fun _ => []) (by unfold spec_l11Add_l1; rfl) ?_ | refine h_cutE 1020 [0, 1] [] (fun _ => []) (fun _ => []) ?_ | refine S ?_
instance e28_ : Ent E 28 := ent_of Tryd.func28
instance c28_ (a1 : List Int) {r0 : List Int} : Con E 28 (laws_toIntS a1 = some r0) [.val (.sl false 1 (List.map vi a1))] [.sl true 1 (List.map vi r0)] [] := by
 refine h_fn Tryd.func28 fun C q => ?_
 unfold laws_toIntS
 repeat' first | refine And.intro ?_ ?_ | refine Prod.forall.2 ?_ | (intro _; try dsimp only) | refine h_lo ?_ | exact Z | refine h_loop 3010 [0, 3, 4] [] (fun v => [(3, .t (.sl true 1 (List.map vi v.1))), (4, .t (vi v.2))]) (fun _ => []) (by unfold laws_toIntS_l1; rfl) ?_ | refine h_cut 2014 [3] [] (fun v => [(3, .t (.sl true 1 (List.map vi v)))]) (fun _ => []) ?_ | refine S ?_
instance e50_ : Ent E 50 := ent_of Tryd.func50
instance c50_ (n1 : Int) (a1 : Int) (a0 : Int) {r0 : Bool} : Con E 50 (impl_in n1 a1 a0 = some r0) [.val (vi n1), .val (vi a1), .val (vi a0)] [vb r0] [] := by
 refine h_fn Tryd.func50 fun C q => ?_
 unfold impl_in
 repeat' first | refine And.intro ?_ ?_ | refine Prod.forall.2 ?_ | (intro _; try dsimp only) | refine h_lo ?_ | exact Z | refine h_cutR 1 [6] [] (fun v => [(6, .t (vb v))]) (fun _ => []) ?_ | refine S ?_
instance e76_ : Ent E 76 := ent_of Tryd.func76
instance c76_ (b1 : Int) {r0 : Bool} : Con E 76 (impl_isLetter b1 = some r0) [.val (vk .u8 b1)] [vb r0] [] := by
 refine h_fn Tryd.func76 fun C q => ?_
 unfold impl_isLetter
 repeat' first | refine And.intro ?_ ?_ | refine Prod.forall.2 ?_ | (intro _; try dsimp only) | refine h_lo ?_ | exact Z | refine h_cutR 1 [2] [] (fun v => [(2, .t (vb v))]) (fun _ => []) ?_ | refine S ?_
instance e32_ : Ent E 32 := ent_of Tryd.func32
instance c32_ (rows1 : Int) (a0 : Int) (is3 : Bool) {r0 : List (List Bool)} : Con E 32 (impl_table rows1 a0 is3 = some r0) [.val (vi rows1), .val (vi a0), .val (vb is3)] [.sl true 1 (List.map (eSl true 1 vb) r0)] [] := by
 refine h_fn Tryd.func32 fun C q => ?_
 unfold impl_table
 repeat' first | refine And.intro ?_ ?_ | refine Prod.forall.2 ?_ | (intro _; try dsimp only) | refine h_lo ?_ | exact Z | refine h_loop 6012 [1, 2, 7, 8, 10, 11, 16, 17] [] (fun v => [(8, .t (.sl true 1 (List.map vb v.1))), (17, .t (vi v.2))]) (fun _ => []) (by unfold impl_table_l2; rfl) ?_ | refine h_cut 5016 [1, 2, 7, 8, 10, 11] [] (fun v => [(8, .t (.sl true 1 (List.map vb v)))]) (fun _ => []) ?_ | refine h_cut 4021 [1, 2, 7, 10, 11] [] (fun v => [(7, .t (.sl true 1 (List.map (eSl true 1 vb) v)))]) (fun _ => []) ?_ | refine h_loop 3029 [1, 2, 7, 10, 11] [] (fun v => [(7, .t (.sl true 1 (List.map (eSl true 1 vb) v.1))), (11, .t (vi v.2))]) (fun _ => []) (by unfold impl_table_l1; rfl) ?_ | refine h_cut 2033 [7] [] (fun v => [(7, .t (.sl true 1 (List.map (eSl true 1 vb) v)))]) (fun _ => []) ?_ | refine S ?_
instance e37_ : Ent E 37 := ent_of Tryd.func37
instance c37_ (a1 : List Int) (b2 : List Int) {r0 : Bool} : Con E 37 (laws_eqIntS a1 b2 = some r0) [.val (.sl false 1 (List.map vi a1)), .val (.sl false 1 (List.map vi b2))] [vb r0] [] := by
 refine h_fn Tryd.func37 fun C q => ?_
 unfold laws_eqIntS
 repeat' first | refine And.intro ?_ ?_ | refine Prod.forall.2 ?_ | (intro _; try dsimp only) | refine h_lo ?_ | exact Z | refine h_loop 4016 [0, 1, 5] [] (fun v => [(5, .t (vi v))]) (fun _ => []) (by unfold laws_eqIntS_l1; rfl) ?_ | refine h_cutE 3020 [] [] (fun _ => []) (fun _ => []) ?_ | refine S ?_
instance e63_ : Ent E 63 := ent_of Tryd.func63
instance c63_ (k1 : Int) {r0 : ByteArray} : Con E 63 (laws_markText k1 = some r0) [.val (vi k1)] [vs r0] [] := by
 refine h_fn Tryd.func63 fun C q => ?_
 unfold laws_markText
 repeat' first | refine And.intro ?_ ?_ | refine Prod.forall.2 ?_ | (intro _; try dsimp only) | refine h_lo ?_ | exact Z | refine h_loop 4010 [0, 3] [] (fun v => [(0, .t (vi v.1)), (3, .t (vs v.2))]) (fun _ => []) (by unfold laws_markText_l1; rfl) ?_ | refine h_cut 4012 [3] [] (fun v => [(3, .t (vs v))]) (fun _ => []) ?_ | refine S ?_
end
theorem res39 : Tryd.f39.results.toList = [.tmp 4] := rfl
theorem ent39 : Enters E.P 39 := eO Tryd.func39 (by simp [Tryd.f39]) rfl
theorem laws_markIntS_ok (a1 : List Int) (k2 : Int) {r0 : Int} {q0 : List Int} (h : laws_markIntS a1 k2 = some (r0, q0)) : OkIO E 39 [.val (.sl true 1 (List.map vi a1)), .val (vi k2)] [vi r0] [] [(0, .sl true 1 (List.map vi q0))] := by
 refine okIO_of_body (fn := Tryd.f39) [(0, .sl true 1 (List.map vi q0))] Tryd.func39 rfl (by simp [Tryd.f39]) rfl fun C hN hP => ?_
 have y : ∀ l, pinK [0] l = true → pinB C.pin l = true := pO (by rw [hP]; rfl)
 have q : C.N = 19 := hN
 clear hN
 unfold laws_markIntS at h
 refine SWp.zS y ?_
 refine wps_q q ?_
 apply wN
 obtain ⟨⟨b0, b1⟩, b2, h⟩ := bS h
 try dsimp only at h
 refine SWp.seqC [0, 1] [] (fun _ : Unit => ⟨[(0, .t (.sl true 1 (List.map vi b0))), (1, .t (vi b1))], []⟩) (fun _ => True) (fun _ _ => ?_) fun K4 b3 => ?_
 rotate_left
 ·refine SWp.zS y ?_
  refine wps_q q ?_
  apply wN
  refine SWp.block ?_
  refine SWp.loopO [] [0, 1, 5] [] (fun v : (List Int) × Int × Int => ⟨[(0, .t (.sl true 1 (List.map vi v.1))), (1, .t (vi v.2.1)), (5, .t (vi v.2.2))], []⟩) (laws_markIntS_l1) _ (a1, k2, (0 : Int)) b2 (by simp [q]) ?_
  intro g b8 h9 a7
  obtain ⟨a6, k7, i8⟩ := g
  simp only [laws_markIntS_l1] at h9
  try dsimp only
  refine SWp.seq ?_
  refine SWp.zS y ?_
  iterate 4 refine wps_q q ?_
  apply wN
  refine SWp.cI h9 (fun b4 h9 => ?_) fun b5 h9 => ?_
  ·refine SWp.skip ?_
   refine SWp.seq ?_
   refine SWp.block ?_
   refine SWp.zS y ?_
   iterate 3 refine wps_q q ?_
   obtain ⟨b9, a8, h9⟩ := bS h9
   obtain ⟨a0, a2, a3, a4⟩ := gS a8
   refine wps_q q ?_ rfl (by simp [a0, a2, a3, a4]; rfl)
   obtain ⟨b6, a9, h9⟩ := bZ h9
   have a5 : (List.map vi a6).set i8.toNat (vi k7) = List.map vi b6 := set_map (f := vi) a9
   try simp only [Int.toNat_natCast] at a5
   refine wps_q q ?_ rfl (by simp [a0, a2, a3, a4, a5]; rfl)
   apply wN
   refine SWp.zH y ?_
   iterate 3 refine wps_q q ?_
   apply wN
   refine SWp.zH y ?_
   iterate 3 refine wps_q q ?_
   apply wN
   cases h9
   exact ⟨_, [], rfl, by simp [q]⟩
  refine SWp.exit ?_
  have b7 := congrArg some (a7 _ (Option.some.inj h9).symm)
  cases b7
  exact b3 _ () [] trivial (by simp [q])
 refine SWp.zS y ?_
 iterate 2 refine wps_q q ?_
 apply wN
 cases h
 refine SWp.ret ?_
 simp [thenS, iB, res39]
end Go.Proofs.T
