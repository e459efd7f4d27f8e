import Derived.Test.YteimlhpimngjfaaDoorW0
import Derived.Test.YteimlhpimngjfaaDoorW12
import Derived.Test.YteimlhpimngjfaaDoorW2
import Derived.Test.YteimlhpimngjfaaDoorW3
set_option linter.unusedVariables false
set_option linter.unusedSimpArgs false
set_option linter.unusedVariables false
set_option linter.unusedSimpArgs false
set_option maxHeartbeats 8000000
set_option maxRecDepth 100000
namespace Go.Proofs.T
open Go.OM
section
attribute [local irreducible] Hg M St.wps thenS iB Lv Ct Lp VL Option.bind getI sAt sSub sCat appI mkI subI setI bindS loopP ite Dr
instance e26_ : Ent E 26 := ent_of Tryd.func26
instance c26_ (c1 : GCode) {r0 : List GLoan} : Con E 26 (spec_LoansOf c1 = some r0) [.val (GCode.enc false c1)] [.sl true 3 (List.map GLoan.enc r0)] [] := by
 refine h_fn Tryd.func26 fun C q => ?_
 unfold spec_LoansOf
 repeat' first | refine And.intro ?_ ?_ | refine Prod.forall.2 ?_ | (intro _; try dsimp only) | refine h_lo ?_ | exact Z | refine h_cutR 8 [1, 3, 4, 5, 30] [1, 5] (fun v => [(30, .t (vb v))]) (fun _ => []) ?_ | refine h_loop 5016 [1, 3, 4] [1] (fun v => [(3, .t (.sl true 3 (List.map GLoan.enc v.1))), (4, .t (vi v.2))]) (fun _ => []) (by unfold spec_LoansOf_l1; rfl) ?_ | refine h_cut 4020 [3] [] (fun v => [(3, .t (.sl true 3 (List.map GLoan.enc v)))]) (fun _ => []) ?_ | refine S ?_
instance e31_ : Ent E 31 := ent_of Tryd.func31
instance c31_ (c1 : GCode) {r0 : List GLoan} : Con E 31 (impl_LoansOf c1 = some r0) [.val (GCode.enc false c1)] [.sl true 3 (List.map GLoan.enc r0)] [] := by
 refine h_fn Tryd.func31 fun C q => ?_
 unfold impl_LoansOf
 repeat' first | refine And.intro ?_ ?_ | refine Prod.forall.2 ?_ | (intro _; try dsimp only) | refine h_lo ?_ | exact Z | refine h_cutR 7 [3, 4, 5, 10, 11, 12, 24] [5] (fun v => [(24, .t (vb v))]) (fun _ => []) ?_ | refine h_loop 5016 [3, 10, 11, 12] [] (fun v => [(3, .t (.sl true 3 (List.map GLoan.enc v.1))), (12, .t (vi v.2))]) (fun _ => []) (by unfold impl_LoansOf_l1; rfl) ?_ | refine h_cut 4020 [3] [] (fun v => [(3, .t (.sl true 3 (List.map GLoan.enc v)))]) (fun _ => []) ?_ | refine S ?_
instance e46_ : Ent E 46 := ent_of Tryd.func46
instance c46_ (c1 : GCode) {r0 : List (List Bool)} : Con E 46 (impl_LiveAt c1 = some r0) [.val (GCode.enc false c1)] [.sl true 1 (List.map (eSl true 1 vb) r0)] [] := by
 refine h_fn Tryd.func46 fun C q => ?_
 unfold impl_LiveAt
 repeat' first | refine And.intro ?_ ?_ | refine Prod.forall.2 ?_ | (intro _; try dsimp only) | refine h_lo ?_ | exact Z | refine h_loop 16012 [1, 3, 4, 5, 6, 7, 8, 37, 38, 47, 48, 49] [1, 6] (fun v => [(8, .t (vb v.1)), (49, .t (vi v.2))]) (fun _ => []) (by unfold impl_LiveAt_l4; rfl) ?_ | refine h_cut 15016 [1, 3, 4, 5, 6, 7, 8, 37, 38] [1, 6] (fun v => [(8, .t (vb v))]) (fun _ => []) ?_ | refine h_cutR 20 [1, 3, 4, 5, 6, 7, 37, 38, 80] [1, 6] (fun v => [(80, .t (vb v))]) (fun _ => []) ?_ | refine h_cut 13029 [1, 3, 4, 5, 6, 37, 38] [1, 6] (fun v => [(3, .t (.sl true 1 (List.map (eSl true 1 vb) v.1))), (4, .t (vb v.2))]) (fun _ => []) ?_ | refine h_loop 12037 [1, 3, 4, 5, 6, 37, 38] [1, 6] (fun v => [(3, .t (.sl true 1 (List.map (eSl true 1 vb) v.1))), (4, .t (vb v.2.1)), (38, .t (vi v.2.2))]) (fun _ => []) (by unfold impl_LiveAt_l3; rfl) ?_ | refine h_cut 10044 [1, 3, 4, 5] [1] (fun v => [(3, .t (.sl true 1 (List.map (eSl true 1 vb) v.1))), (4, .t (vb v.2))]) (fun _ => []) ?_ | refine h_loop 8052 [1, 3, 4, 5] [1] (fun v => [(3, .t (.sl true 1 (List.map (eSl true 1 vb) v.1))), (4, .t (vb v.2.1)), (5, .t (vi v.2.2))]) (fun _ => []) (by unfold impl_LiveAt_l2; rfl) ?_ | refine h_loop 5065 [1, 3, 4] [1] (fun v => [(3, .t (.sl true 1 (List.map (eSl true 1 vb) v.1))), (4, .t (vb v.2))]) (fun _ => []) (by unfold impl_LiveAt_l1; rfl) ?_ | refine h_cut 4069 [3] [] (fun v => [(3, .t (.sl true 1 (List.map (eSl true 1 vb) v)))]) (fun _ => []) ?_ | refine S ?_
end
theorem res33 : Tryd.f33.results.toList = [.tmp 2] := rfl
theorem ent33 : Enters E.P 33 := eO Tryd.func33 (by simp [Tryd.f33]) rfl
instance c33_ (c1 : GCode) {r0 : List Bool} : Con E 33 (impl_ReachedWords c1 = some r0) [.val (GCode.enc false c1)] [.sl true 1 (List.map vb r0)] [] := Con.mk fun h => by
 refine oB Tryd.func33 rfl (by simp [Tryd.f33]) fun C (q : C.N = 48) hP => ?_
 have y := pinB0 hP
 unfold impl_ReachedWords at h
 refine M.zS y ?_
 iterate 2 refine wps_q q ?_
 apply wN
 refine M.seq ?_
 refine M.zS y ?_
 refine wps_q q ?_
 obtain ⟨r2, i2, h⟩ := bS h
 refine wps_c [(.take, .tmp 8)] q (Ent.ok (E := E) (f := 30)) (Con.ok i2) ?_
 refine wps_q q ?_
 apply wN
 refine M.cI h (fun j7 h => ?_) fun j8 h => ?_
 ·refine M.zS y ?_
  refine wps_q q ?_
  apply wN
  cases h
  refine M.ret ?_
  simp [thenS, iB, res33]
 refine M.skip ?_
 refine M.zS y ?_
 iterate 3 refine wps_q q ?_
 obtain ⟨l6, i3, h⟩ := bS h
 obtain ⟨g3, g4, g5, g6⟩ := mS i3
 have c0 : List.replicate (c1.Words.length : Int).toNat (vb false) = List.map vb l6 := rep_map (f := vb) g6
 try simp only [Int.toNat_natCast] at c0
 iterate 2 (refine wps_q q ?_ rfl (by simp [g3, g4, g5, c0]; rfl))
 apply wN
 refine M.zS y ?_
 refine wps_q q ?_
 obtain ⟨e7, i4, h⟩ := bS h
 obtain ⟨c2, c3, b6, b7⟩ := gS i4
 have b8 : 0 < l6.length := by omega
 have c4 : l6[0]? = some e7 := b6
 have c5 : l6[0] = e7 := b7 b8
 refine wps_q q ?_ rfl (by simp [c2, c3, b6, b7, b8, c4, c5]; rfl)
 obtain ⟨l8, i5, h⟩ := bZ h
 have c6 : (List.map vb l6).set 0 (vb true) = List.map vb l8 := set_map (f := vb) i5
 try simp only [Int.toNat_natCast] at c6
 refine wps_q q ?_ rfl (by simp [c2, c3, b6, b7, b8, c4, c5, c6]; rfl)
 iterate 5 first|refine wps_q q ?_|apply wN|refine M.zS y ?_
 obtain ⟨c7, i6, h⟩ := bS h
 refine M.seqC [3] [] (fun _ : Unit => ⟨[(3, .t (.sl true 1 (List.map vb c7)))], []⟩) (fun _ => True) (fun _ _ => ?_) fun j9 g7 => ?_
 rotate_left
 ·refine M.block ?_
  refine M.loopO [] [1, 3, 4] [1] (fun v : (List Bool) × (List Int) => ⟨[(1, .ref (.box 1) 0 []), (3, .t (.sl true 1 (List.map vb v.1))), (4, .t (.sl true 1 (List.map vi v.2)))], [(1, [vs c1.Name, vi c1.Params, .sl false 1 (List.map vi c1.Locals), .sl false 7 (List.map (GIns.enc false) c1.Words)])]⟩) (impl_ReachedWords_l1 c1) _ (l8, [0]) i6 (by simp [q]) ?_
  intro g k0 a2 g8
  obtain ⟨c8, a0⟩ := g
  simp only [impl_ReachedWords_l1] at a2
  try dsimp only
  refine M.seq ?_
  refine M.zS y ?_
  iterate 3 refine wps_q q ?_
  apply wN
  refine M.cI a2 (fun i7 a2 => ?_) fun i8 a2 => ?_
  ·refine M.skip ?_
   refine M.block ?_
   refine M.zS y ?_
   refine wps_q q ?_
   obtain ⟨h9, g9, a2⟩ := bS a2
   obtain ⟨c9, d0, a3, a4⟩ := gS g9
   have a5 : 0 < a0.length := by omega
   have d1 : a0[0]? = some h9 := a3
   have d2 : a0[0] = h9 := a4 a5
   iterate 3 (refine wps_q q ?_ rfl (by simp [c9, d0, a3, a4, a5, d1, d2]; rfl))
   apply wN
   refine M.zS y ?_
   refine wps_q q ?_
   obtain ⟨i0, h0, a2⟩ := bS a2
   obtain ⟨d3, d4, d5, d6, d7, d8, d9, e0⟩ := subI_some h0
   have a6 : (List.map vi a0).drop 1 = List.map vi i0 := by subst d7; simp
   have a7 := a6; try simp at a7
   have e1 : 1 ≤ a0.length := by omega
   iterate 2 (refine wps_q q ?_ rfl (by simp [d3, d4, d5, d6, a6, d8, d9, e0, a7, e1]; rfl))
   apply wN
   refine M.zS y ?_
   iterate 2 refine wps_q q ?_
   obtain ⟨h1, h2, a2⟩ := bS a2
   refine wps_c [(.take, .tmp 26), (.take, .tmp 27)] q (Ent.ok (E := E) (f := 35)) (Con.ok h2) ?_
   iterate 2 refine wps_q q ?_
   apply wN
   refine M.block ?_
   refine M.loopO [] [1, 3, 4, 28, 29, 30] [1] (fun v : (List Bool) × (List Int) × Int => ⟨[(1, .ref (.box 1) 0 []), (3, .t (.sl true 1 (List.map vb v.1))), (4, .t (.sl true 1 (List.map vi v.2.1))), (28, .t (.sl true 1 (List.map vi h1))), (29, .t (vi (h1.length : Int))), (30, .t (vi v.2.2))], [(1, [vs c1.Name, vi c1.Params, .sl false 1 (List.map vi c1.Locals), .sl false 7 (List.map (GIns.enc false) c1.Words)])]⟩) (impl_ReachedWords_l2 h1) _ (c8, i0, (0 : Int)) a2 (by simp [q]) ?_
   intro g k1 a1 h3
   obtain ⟨e2, b9, k2⟩ := g
   simp only [impl_ReachedWords_l2] at a1
   try dsimp only
   refine M.zS y ?_
   refine wps_q q ?_
   apply wN
   refine M.seq ?_
   refine M.cI a1 (fun i9 a1 => ?_) fun j0 a1 => ?_
   ·refine M.skip ?_
    refine M.seq ?_
    refine M.block ?_
    refine M.zS y ?_
    obtain ⟨i1, h4, a1⟩ := bS a1
    obtain ⟨e3, e4, e5, e6⟩ := gS h4
    iterate 3 (refine wps_q q ?_ rfl (by simp [e3, e4, e5, e6]; rfl))
    apply wN
    refine M.zS y ?_
    iterate 2 refine wps_q q ?_
    obtain ⟨k3, h5, a1⟩ := bS a1
    obtain ⟨e8, e9, g0, g1⟩ := gS h5
    iterate 3 (refine wps_q q ?_ rfl (by simp [e8, e9, g0, g1]; rfl))
    apply wN
    refine M.cI a1 (fun j1 a1 => ?_) fun j2 a1 => ?_
    ·refine M.zS y ?_
     iterate 2 refine wps_q q ?_
     obtain ⟨k4, h6, a1⟩ := bS a1
     obtain ⟨a8, a9, b0, b1⟩ := gS h6
     refine wps_q q ?_ rfl (by simp [a8, a9, b0, b1]; rfl)
     obtain ⟨j3, h7, a1⟩ := bZ a1
     have b2 : (List.map vb e2).set i1.toNat (vb true) = List.map vb j3 := set_map (f := vb) h7
     try simp only [Int.toNat_natCast] at b2
     refine wps_q q ?_ rfl (by simp [a8, a9, b0, b1, b2]; rfl)
     apply wN
     refine M.zH y ?_
     iterate 3 refine wps_q q ?_
     obtain ⟨j4, h8, a1⟩ := bS a1
     obtain ⟨b3, b4, g2⟩ := aS h8
     have b5 : List.map vi b9 ++ List.map vi [i1] = List.map vi j4 := app_map (f := vi) g2
     simp [eSl] at b3 b4 b5
     iterate 2 (refine wps_q q ?_ rfl (by simp [b3, b4, b5]; rfl))
     apply wN
     refine M.zH y ?_
     iterate 2 refine wps_q q ?_
     apply wN
     cases a1
     exact ⟨_, [], rfl, by simp [q]⟩
    refine M.skip ?_
    refine M.zH y ?_
    iterate 2 refine wps_q q ?_
    apply wN
    cases a1
    exact ⟨_, [], rfl, by simp [q]⟩
   refine M.exit ?_
   have j5 := congrArg some (h3 _ (Option.some.inj a1).symm)
   cases j5
   exact ⟨_, [], rfl, by simp [q]⟩
  refine M.exit ?_
  have j6 := congrArg some (g8 _ (Option.some.inj a2).symm)
  cases j6
  exact g7 _ () [] trivial (by simp [q])
 refine M.zS y ?_
 iterate 2 refine wps_q q ?_
 apply wN
 cases h
 refine M.ret ?_
 simp [thenS, iB, res33]
instance e33_ : Ent E 33 := ⟨ent33⟩
end Go.Proofs.T
