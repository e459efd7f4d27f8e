import Derived.Test.YteimlhpimngjfaaDoorW0
import Derived.Test.YteimlhpimngjfaaDoorW1
set_option linter.unusedVariables false
set_option linter.unusedSimpArgs false
set_option linter.unusedVariables false
set_option linter.unusedSimpArgs false
set_option maxHeartbeats 8000000
set_option maxRecDepth 100000
namespace Go.Proofs.T
open Go.OM
section
attribute [local irreducible] Hg SWp St.wps thenS iB Lv Ct Lp VL Option.bind getI sAt sSub sCat appI mkI subI setI bindS loopP ite Dr
instance e51_ : Ent E 51 := ent_of Tryd.func51
instance c51_ (a1 : GIns) (a0 : Int) {r0 : Int} : Con E 51 (laws_szIns a1 a0 = some r0) [.val (GIns.enc false a1), .val (vi a0)] [vi r0] [] := by
 refine h_fn Tryd.func51 fun C q => ?_
 unfold laws_szIns
 repeat' first | refine And.intro ?_ ?_ | refine Prod.forall.2 ?_ | (intro _; try dsimp only) | refine h_lo ?_ | exact Z | refine S ?_
instance e64_ : Ent E 64 := ent_of Tryd.func64
instance c64_ (x1 : GIns) {r0 : Int} : Con E 64 (spec_Writes x1 = some r0) [.val (GIns.enc false x1)] [vi r0] [] := by
 refine h_fn Tryd.func64 fun C q => ?_
 unfold spec_Writes
 repeat' first | refine And.intro ?_ ?_ | refine Prod.forall.2 ?_ | (intro _; try dsimp only) | refine h_lo ?_ | exact Z | refine S ?_
instance e56_ : Ent E 56 := ent_of Tryd.func56
instance c56_ (c1 : GCode) (i2 : Int) {r0 : List Int} : Con E 56 (spec_Next c1 i2 = some r0) [.val (GCode.enc false c1), .val (vi i2)] [.sl true 1 (List.map vi r0)] [] := by
 refine h_fn Tryd.func56 fun C q => ?_
 unfold spec_Next
 repeat' first | refine And.intro ?_ ?_ | refine Prod.forall.2 ?_ | (intro _; try dsimp only) | refine h_lo ?_ | exact Z | refine h_cut 6016 [2, 5, 7] [2] (fun v => [(7, .t (.sl true 1 (List.map vi v)))]) (fun _ => []) ?_ | refine h_loop 14014 [2, 5, 7, 8] [2] (fun v => [(5, .t (.sl true 1 (List.map vi v.1))), (8, .t (vi v.2))]) (fun _ => []) (by unfold spec_Next_l1; rfl) ?_ | refine h_cut 13018 [5] [] (fun v => [(5, .t (.sl true 1 (List.map vi v)))]) (fun _ => []) ?_ | refine S ?_
instance e78_ : Ent E 78 := ent_of Tryd.func78
instance c78_ (s1 : ByteArray) {r0 : Bool} : Con E 78 (impl_KeyWord s1 = some r0) [.val (vs s1)] [vb r0] [] := by
 refine h_fn Tryd.func78 fun C q => ?_
 unfold impl_KeyWord
 repeat' first | refine And.intro ?_ ?_ | refine Prod.forall.2 ?_ | (intro _; try dsimp only) | refine h_lo ?_ | exact Z | refine S ?_
instance e79_ : Ent E 79 := ent_of Tryd.func79
instance c79_ (c1 : GCode) (n2 : Int) (a0 : Bool) {r0 : Bool} : Con E 79 (impl_isPlace c1 n2 a0 = some r0) [.val (GCode.enc false c1), .val (vi n2), .val (vb a0)] [vb r0] [] := by
 refine h_fn Tryd.func79 fun C q => ?_
 unfold impl_isPlace
 repeat' first | refine And.intro ?_ ?_ | refine Prod.forall.2 ?_ | (intro _; try dsimp only) | refine h_lo ?_ | exact Z | refine S ?_
instance e80_ : Ent E 80 := ent_of Tryd.func80
instance c80_ (a0 : Int) {r0 : Bool} : Con E 80 (impl_hasA a0 = some r0) [.val (vi a0)] [vb r0] [] := by
 refine h_fn Tryd.func80 fun C q => ?_
 unfold impl_hasA
 repeat' first | refine And.intro ?_ ?_ | refine Prod.forall.2 ?_ | (intro _; try dsimp only) | refine h_lo ?_ | exact Z | refine h_cutR 1 [2] [] (fun v => [(2, .t (vb v))]) (fun _ => []) ?_ | refine S ?_
instance e82_ : Ent E 82 := ent_of Tryd.func82
instance c82_ (a0 : Int) {r0 : Bool} : Con E 82 (impl_hasC a0 = some r0) [.val (vi a0)] [vb r0] [] := by
 refine h_fn Tryd.func82 fun C q => ?_
 unfold impl_hasC
 repeat' first | refine And.intro ?_ ?_ | refine Prod.forall.2 ?_ | (intro _; try dsimp only) | refine h_lo ?_ | exact Z | refine S ?_
instance e35_ : Ent E 35 := ent_of Tryd.func35
instance c35_ (c1 : GCode) (i2 : Int) {r0 : List Int} : Con E 35 (impl_Next c1 i2 = some r0) [.val (GCode.enc false c1), .val (vi i2)] [.sl true 1 (List.map vi r0)] [] := by
 refine h_fn Tryd.func35 fun C q => ?_
 unfold impl_Next
 repeat' first | refine And.intro ?_ ?_ | refine Prod.forall.2 ?_ | (intro _; try dsimp only) | refine h_lo ?_ | exact Z | refine h_cut 5016 [2, 6] [2] (fun v => [(6, .t (.sl true 1 (List.map vi v)))]) (fun _ => []) ?_ | refine h_loop 14016 [2, 6, 7, 41, 42, 43] [2] (fun v => [(7, .t (.sl true 1 (List.map vi v.1))), (43, .t (vi v.2))]) (fun _ => []) (by unfold impl_Next_l1; rfl) ?_ | refine h_cut 13020 [7] [] (fun v => [(7, .t (.sl true 1 (List.map vi v)))]) (fun _ => []) ?_ | refine S ?_
instance e36_ : Ent E 36 := ent_of Tryd.func36
instance c36_ (a1 : List (List Bool)) (b2 : List (List Bool)) {r0 : Bool} : Con E 36 (laws_eqBoolSS a1 b2 = some r0) [.val (.sl false 1 (List.map (eSl false 1 vb) a1)), .val (.sl false 1 (List.map (eSl false 1 vb) b2))] [vb r0] [] := by
 refine h_fn Tryd.func36 fun C q => ?_
 unfold laws_eqBoolSS
 repeat' first | refine And.intro ?_ ?_ | refine Prod.forall.2 ?_ | (intro _; try dsimp only) | refine h_lo ?_ | exact Z | refine h_loop 4016 [0, 1, 5] [] (fun v => [(5, .t (vi v))]) (fun _ => []) (by unfold laws_eqBoolSS_l1; rfl) ?_ | refine h_cutE 3020 [] [] (fun _ => []) (fun _ => []) ?_ | refine S ?_
instance e62_ : Ent E 62 := ent_of Tryd.func62
instance c62_ (a1 : GIns) (b2 : GIns) {r0 : Bool} : Con E 62 (laws_eqIns a1 b2 = some r0) [.val (GIns.enc false a1), .val (GIns.enc false b2)] [vb r0] [] := by
 refine h_fn Tryd.func62 fun C q => ?_
 unfold laws_eqIns
 repeat' first | refine And.intro ?_ ?_ | refine Prod.forall.2 ?_ | (intro _; try dsimp only) | refine h_lo ?_ | exact Z | refine S ?_
instance e42_ : Ent E 42 := ent_of Tryd.func42
instance c42_ (a1 : List (List Bool)) (k2 : Int) {r0 : Int} : Con E 42 (laws_heldBoolSS a1 k2 = some r0) [.val (.sl false 1 (List.map (eSl false 1 vb) a1)), .val (vi k2)] [vi r0] [] := by
 refine h_fn Tryd.func42 fun C q => ?_
 unfold laws_heldBoolSS
 repeat' first | refine And.intro ?_ ?_ | refine Prod.forall.2 ?_ | (intro _; try dsimp only) | refine h_lo ?_ | exact Z | refine h_loop 2018 [0, 1, 5] [] (fun v => [(1, .t (vi v.1)), (5, .t (vi v.2))]) (fun _ => []) (by unfold laws_heldBoolSS_l1; rfl) ?_ | refine h_cutE 1022 [1] [] (fun v => [(1, .t (vi v))]) (fun _ => []) ?_ | refine S ?_
end
theorem res41 : Tryd.f41.results.toList = [.tmp 4] := rfl
theorem ent41 : Enters E.P 41 := eO Tryd.func41 (by simp [Tryd.f41]) rfl
theorem laws_markBoolSS_ok (a1 : List (List Bool)) (k2 : Int) {r0 : Int} {q0 : List (List Bool)} (h : laws_markBoolSS a1 k2 = some (r0, q0)) : OkIO E 41 [.val (.sl true 1 (List.map (eSl true 1 vb) a1)), .val (vi k2)] [vi r0] [] [(0, .sl true 1 (List.map (eSl true 1 vb) q0))] := by
 refine okIO_of_body (fn := Tryd.f41) [(0, .sl true 1 (List.map (eSl true 1 vb) q0))] Tryd.func41 rfl (by simp [Tryd.f41]) rfl fun C hN hP => ?_
 have y : ∀ l, pinK [0] l = true → pinB C.pin l = true := pO (by rw [hP]; rfl)
 have q : C.N = 19 := hN
 clear hN
 unfold laws_markBoolSS at h
 refine SWp.zS y ?_
 refine wps_q q ?_
 apply wN
 obtain ⟨⟨b1, b2⟩, b3, h⟩ := bS h
 try dsimp only at h
 refine SWp.seqC [0, 1] [] (fun _ : Unit => ⟨[(0, .t (.sl true 1 (List.map (eSl true 1 vb) b1))), (1, .t (vi b2))], []⟩) (fun _ => True) (fun _ _ => ?_) fun K4 b4 => ?_
 rotate_left
 ·refine SWp.zS y ?_
  refine wps_q q ?_
  apply wN
  refine SWp.block ?_
  refine SWp.loopO [] [0, 1, 5] [] (fun v : (List (List Bool)) × Int × Int => ⟨[(0, .t (.sl true 1 (List.map (eSl true 1 vb) v.1))), (1, .t (vi v.2.1)), (5, .t (vi v.2.2))], []⟩) (laws_markBoolSS_l1) _ (a1, k2, (0 : Int)) b3 (by simp [q]) ?_
  intro g c0 h9 a7
  obtain ⟨a6, k7, i8⟩ := g
  simp only [laws_markBoolSS_l1] at h9
  try dsimp only
  refine SWp.seq ?_
  refine SWp.zS y ?_
  iterate 4 refine wps_q q ?_
  apply wN
  refine SWp.cI h9 (fun b5 h9 => ?_) fun b6 h9 => ?_
  ·refine SWp.skip ?_
   refine SWp.seq ?_
   refine SWp.block ?_
   refine SWp.zH y ?_
   iterate 2 refine wps_q q ?_
   obtain ⟨c1, a8, h9⟩ := bS h9
   obtain ⟨a0, a2, a3, a4⟩ := gS a8
   iterate 3 (refine wps_q q ?_ rfl (by simp [a0, a2, a3, a4]; rfl))
   obtain ⟨⟨c2, b7⟩, a9, h9⟩ := bS h9
   try dsimp only at h9
   refine wps_callIO rfl ent20 (laws_markBoolS_ok _ _ a9) fun K u => ?_; simp [q, a0, a2, a3, a4]; apply u
   obtain ⟨b8, b0, h9⟩ := bZ h9
   have a5 : (List.map (eSl true 1 vb) a6).set i8.toNat (.sl true 1 (List.map vb b7)) = List.map (eSl true 1 vb) b8 := set_map (f := (eSl true 1 vb)) b0
   try simp only [Int.toNat_natCast] at a5
   refine wps_q q ?_ rfl (by simp [a0, a2, a3, a4, a5]; rfl)
   apply wN
   refine SWp.zH y ?_
   iterate 3 refine wps_q q ?_
   apply wN
   cases h9
   exact ⟨_, [], rfl, by simp [q]⟩
  refine SWp.exit ?_
  have b9 := congrArg some (a7 _ (Option.some.inj h9).symm)
  cases b9
  exact b4 _ () [] trivial (by simp [q])
 refine SWp.zS y ?_
 iterate 2 refine wps_q q ?_
 apply wN
 cases h
 refine SWp.ret ?_
 simp [thenS, iB, res41]
end Go.Proofs.T
