import Derived.Test.YteimlhpimngjfaaDoorW0
import Derived.Test.YteimlhpimngjfaaDoorW1
import Derived.Test.YteimlhpimngjfaaDoorW2
import Derived.Test.YteimlhpimngjfaaDoorW3
set_option linter.unusedVariables false
set_option linter.unusedSimpArgs false
set_option linter.unusedVariables false
set_option linter.unusedSimpArgs false
set_option maxHeartbeats 8000000
set_option maxRecDepth 100000
namespace Go.Proofs.T
open Go.OM
section
attribute [local irreducible] Hg SWp St.wps thenS iB Lv Ct Lp VL Option.bind getI sAt sSub sCat appI mkI subI setI bindS loopP ite Dr
instance e23_ : Ent E 23 := ent_of Tryd.func23
instance c23_ (a1 : List GIns) (a0 : Int) {r0 : Int} : Con E 23 (laws_szInsS a1 a0 = some r0) [.val (.sl false 7 (List.map (GIns.enc false) a1)), .val (vi a0)] [vi r0] [] := by
 refine h_fn Tryd.func23 fun C q => ?_
 unfold laws_szInsS
 repeat' first | refine And.intro ?_ ?_ | refine Prod.forall.2 ?_ | (intro _; try dsimp only) | refine h_lo ?_ | exact Z | refine h_loop 5018 [0, 1, 5] [] (fun v => [(1, .t (vi v.1)), (5, .t (vi v.2))]) (fun _ => []) (by unfold laws_szInsS_l1; rfl) ?_ | refine h_cutE 4022 [1] [] (fun v => [(1, .t (vi v))]) (fun _ => []) ?_ | refine S ?_
instance e29_ : Ent E 29 := ent_of Tryd.func29
instance c29_ (a1 : List GIns) {r0 : List GIns} : Con E 29 (laws_toInsS a1 = some r0) [.val (.sl false 7 (List.map (GIns.enc false) a1))] [.sl true 7 (List.map (GIns.enc true) r0)] [] := by
 refine h_fn Tryd.func29 fun C q => ?_
 unfold laws_toInsS
 repeat' first | refine And.intro ?_ ?_ | refine Prod.forall.2 ?_ | (intro _; try dsimp only) | refine h_lo ?_ | exact Z | refine h_loop 3010 [0, 3, 4] [] (fun v => [(3, .t (.sl true 7 (List.map (GIns.enc true) v.1))), (4, .t (vi v.2))]) (fun _ => []) (by unfold laws_toInsS_l1; rfl) ?_ | refine h_cut 2014 [3] [] (fun v => [(3, .t (.sl true 7 (List.map (GIns.enc true) v)))]) (fun _ => []) ?_ | refine S ?_
instance e58_ : Ent E 58 := ent_of Tryd.func58
instance c58_ (s1 : ByteArray) {r0 : Bool} : Con E 58 (impl_NameOk s1 = some r0) [.val (vs s1)] [vb r0] [] := by
 refine h_fn Tryd.func58 fun C q => ?_
 unfold impl_NameOk
 repeat' first | refine And.intro ?_ ?_ | refine Prod.forall.2 ?_ | (intro _; try dsimp only) | refine h_lo ?_ | exact Z | refine h_cutR 1 [0, 13] [] (fun v => [(13, .t (vb v))]) (fun _ => []) ?_ | refine h_cutR 6 [0, 3, 31] [] (fun v => [(31, .t (vb v))]) (fun _ => []) ?_ | refine h_loop 4016 [0, 3] [] (fun v => [(3, .t (vi v))]) (fun _ => []) (by unfold impl_NameOk_l1; rfl) ?_ | refine h_cutE 3020 [0] [] (fun _ => []) (fun _ => []) ?_ | refine S ?_
instance e14_ : Ent E 14 := ent_of Tryd.func14
instance c14_ (a1 : List (List (List Bool))) (k2 : Int) {r0 : Int} : Con E 14 (laws_heldBoolSSS a1 k2 = some r0) [.val (.sl false 1 (List.map (eSl false 1 (eSl false 1 vb)) a1)), .val (vi k2)] [vi r0] [] := by
 refine h_fn Tryd.func14 fun C q => ?_
 unfold laws_heldBoolSSS
 repeat' first | refine And.intro ?_ ?_ | refine Prod.forall.2 ?_ | (intro _; try dsimp only) | refine h_lo ?_ | exact Z | refine h_loop 2018 [0, 1, 5] [] (fun v => [(1, .t (vi v.1)), (5, .t (vi v.2))]) (fun _ => []) (by unfold laws_heldBoolSSS_l1; rfl) ?_ | refine h_cutE 1022 [1] [] (fun v => [(1, .t (vi v))]) (fun _ => []) ?_ | refine S ?_
end
theorem res13 : Tryd.f13.results.toList = [.tmp 4] := rfl
theorem ent13 : Enters E.P 13 := eO Tryd.func13 (by simp [Tryd.f13]) rfl
theorem laws_markBoolSSS_ok (a1 : List (List (List Bool))) (k2 : Int) {r0 : Int} {q0 : List (List (List Bool))} (h : laws_markBoolSSS a1 k2 = some (r0, q0)) : OkIO E 13 [.val (.sl true 1 (List.map (eSl true 1 (eSl true 1 vb)) a1)), .val (vi k2)] [vi r0] [] [(0, .sl true 1 (List.map (eSl true 1 (eSl true 1 vb)) q0))] := by
 refine okIO_of_body (fn := Tryd.f13) [(0, .sl true 1 (List.map (eSl true 1 (eSl true 1 vb)) q0))] Tryd.func13 rfl (by simp [Tryd.f13]) rfl fun C hN hP => ?_
 have y : ∀ l, pinK [0] l = true → pinB C.pin l = true := pO (by rw [hP]; rfl)
 have q : C.N = 19 := hN
 clear hN
 unfold laws_markBoolSSS at h
 refine SWp.zS y ?_
 refine wps_q q ?_
 apply wN
 obtain ⟨⟨b1, b2⟩, b3, h⟩ := bS h
 try dsimp only at h
 refine SWp.seqC [0, 1] [] (fun _ : Unit => ⟨[(0, .t (.sl true 1 (List.map (eSl true 1 (eSl true 1 vb)) b1))), (1, .t (vi b2))], []⟩) (fun _ => True) (fun _ _ => ?_) fun K4 b4 => ?_
 rotate_left
 ·refine SWp.zS y ?_
  refine wps_q q ?_
  apply wN
  refine SWp.block ?_
  refine SWp.loopO [] [0, 1, 5] [] (fun v : (List (List (List Bool))) × Int × Int => ⟨[(0, .t (.sl true 1 (List.map (eSl true 1 (eSl true 1 vb)) v.1))), (1, .t (vi v.2.1)), (5, .t (vi v.2.2))], []⟩) (laws_markBoolSSS_l1) _ (a1, k2, (0 : Int)) b3 (by simp [q]) ?_
  intro g c0 h9 a7
  obtain ⟨a6, k7, i8⟩ := g
  simp only [laws_markBoolSSS_l1] at h9
  try dsimp only
  refine SWp.seq ?_
  refine SWp.zS y ?_
  iterate 4 refine wps_q q ?_
  apply wN
  refine SWp.cI h9 (fun b5 h9 => ?_) fun b6 h9 => ?_
  ·refine SWp.skip ?_
   refine SWp.seq ?_
   refine SWp.block ?_
   refine SWp.zH y ?_
   iterate 2 refine wps_q q ?_
   obtain ⟨c1, a8, h9⟩ := bS h9
   obtain ⟨a0, a2, a3, a4⟩ := gS a8
   iterate 3 (refine wps_q q ?_ rfl (by simp [a0, a2, a3, a4]; rfl))
   obtain ⟨⟨c2, b7⟩, a9, h9⟩ := bS h9
   try dsimp only at h9
   refine wps_callIO rfl ent41 (laws_markBoolSS_ok _ _ a9) fun K u => ?_; simp [q, a0, a2, a3, a4]; apply u
   obtain ⟨b8, b0, h9⟩ := bZ h9
   have a5 : (List.map (eSl true 1 (eSl true 1 vb)) a6).set i8.toNat (.sl true 1 (List.map (eSl true 1 vb) b7)) = List.map (eSl true 1 (eSl true 1 vb)) b8 := set_map (f := (eSl true 1 (eSl true 1 vb))) b0
   try simp only [Int.toNat_natCast] at a5
   refine wps_q q ?_ rfl (by simp [a0, a2, a3, a4, a5]; rfl)
   apply wN
   refine SWp.zH y ?_
   iterate 3 refine wps_q q ?_
   apply wN
   cases h9
   exact ⟨_, [], rfl, by simp [q]⟩
  refine SWp.exit ?_
  have b9 := congrArg some (a7 _ (Option.some.inj h9).symm)
  cases b9
  exact b4 _ () [] trivial (by simp [q])
 refine SWp.zS y ?_
 iterate 2 refine wps_q q ?_
 apply wN
 cases h
 refine SWp.ret ?_
 simp [thenS, iB, res13]
end Go.Proofs.T
