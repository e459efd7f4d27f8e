import Derived.Test.YteimlhpimngjfaaDoorW2
set_option linter.unusedVariables false
set_option linter.unusedSimpArgs false
set_option linter.unusedVariables false
set_option linter.unusedSimpArgs false
set_option maxHeartbeats 8000000
set_option maxRecDepth 100000
namespace Go.Proofs.T
open Go.OM
theorem res55 : Tryd.f55.results.toList = [.tmp 8] := rfl
theorem ent55 : Enters E.P 55 := eO Tryd.func55 (by simp [Tryd.f55]) rfl
theorem spec_l15Behind_ok (H : Nat → Value) (a1 : List GLoan) (x2 : GIns) (at3 : Int) (a2 : List Row) {r0 : List Row} (h : spec_l15Behind a1 x2 at3 a2 = some r0) : Ok E 55 [.val (.sl false 3 (List.map GLoan.enc a1)), .val (GIns.enc false x2), .val (vi at3), .val (.sl false 1 (List.map (Row.enc H) a2))] [.sl true 1 (List.map (Row.enc H) r0)] [] := by
 refine oB Tryd.func55 rfl (by simp [Tryd.f55]) fun C (q : C.N = 125) hP => ?_
 have u := pinB0 hP
 unfold spec_l15Behind at h
 iterate 8 first|refine wps_q q ?_|apply wN|refine M.zS u ?_
 obtain ⟨a3, o5, h⟩ := bS h
 refine M.seqC [0, 2, 3, 5, 9] [5] (fun _ : Unit => ⟨[(0, .t (.sl false 3 (List.map GLoan.enc a1))), (2, .t (vi at3)), (3, .t (.sl false 1 (List.map (Row.enc H) a2))), (5, .ref (.box 5) 0 []), (9, .t (.sl true 1 (List.map (Row.enc H) a3)))], [(5, [vi x2.Op, vi x2.A, vi x2.B, vi x2.C, vi x2.Num, vs x2.Name, .sl false 1 (List.map vi x2.Args)])]⟩) (fun _ => True) (fun _ _ => ?_) fun K6 o6 => ?_
 rotate_left
 ·refine M.zS u ?_
  refine wps_q q ?_
  apply wN
  refine M.block ?_
  refine M.loopO [] [0, 2, 3, 5, 9, 10] [5] (fun v : (List Row) × Int => ⟨[(0, .t (.sl false 3 (List.map GLoan.enc a1))), (2, .t (vi at3)), (3, .t (.sl false 1 (List.map (Row.enc H) a2))), (5, .ref (.box 5) 0 []), (9, .t (.sl true 1 (List.map (Row.enc H) v.1))), (10, .t (vi v.2))], [(5, [vi x2.Op, vi x2.A, vi x2.B, vi x2.C, vi x2.Num, vs x2.Name, .sl false 1 (List.map vi x2.Args)])]⟩) (spec_l15Behind_l1 a2) _ ([], (0 : Int)) o5 (by simp [q]) ?_
  intro g s9 e6 k9
  obtain ⟨l0, i9⟩ := g
  simp only [spec_l15Behind_l1] at e6
  try dsimp only
  refine M.seq ?_
  refine M.zS u ?_
  iterate 4 refine wps_q q ?_
  apply wN
  refine M.cI e6 (fun o7 e6 => ?_) fun o8 e6 => ?_
  ·refine M.skip ?_
   refine M.seq ?_
   refine M.block ?_
   refine M.zH u ?_
   iterate 3 refine wps_q q ?_
   obtain ⟨o9, l1, e6⟩ := bS e6
   obtain ⟨e8, e9, g0, g1⟩ := gS l1
   iterate 3 (refine wps_q q ?_ rfl (by simp [e8, e9, g0, g1]; rfl))
   obtain ⟨p0, l2, e6⟩ := bS e6
   obtain ⟨g2, g3, j5⟩ := aS l2
   have g4 : List.map (Row.enc H) l0 ++ List.map (Row.enc H) [o9] = List.map (Row.enc H) p0 := app_map (f := (Row.enc H)) j5
   simp [eSl] at g2 g3 g4
   iterate 2 (refine wps_q q ?_ rfl (by simp [e8, e9, g0, g1, g2, g3, g4]; rfl))
   apply wN
   refine M.zH u ?_
   iterate 3 refine wps_q q ?_
   apply wN
   cases e6
   exact ⟨_, [], rfl, by simp [q]⟩
  refine M.exit ?_
  have p1 := congrArg some (k9 _ (Option.some.inj e6).symm)
  cases p1
  exact o6 _ () [] trivial (by simp [q])
 refine M.zS u ?_
 iterate 2 refine wps_q q ?_
 obtain ⟨e7, l3, h⟩ := bS h
 obtain ⟨j6, j7, j8, j9⟩ := mS l3
 have g5 : List.replicate (a1.length : Int).toNat (vb false) = List.map vb e7 := rep_map (f := vb) j9
 try simp only [Int.toNat_natCast] at g5
 iterate 2 (refine wps_q q ?_ rfl (by simp [j6, j7, j8, g5]; rfl))
 apply wN
 refine M.freezeS 11 fun K r => ?_; simp [q]; apply r
 obtain ⟨p2, a0, h⟩ := bS h
 refine M.seqC [5, 9, 11] [5] (fun v : List Row => ⟨[(5, .ref (.box 5) 0 []), (9, .t (.sl true 1 (List.map (Row.enc H) v))), (11, .t (.sl false 1 (List.map vb e7)))], [(5, [vi x2.Op, vi x2.A, vi x2.B, vi x2.C, vi x2.Num, vs x2.Name, .sl false 1 (List.map vi x2.Args)])]⟩) (fun v => p2 = Sum.inl v) (fun v hv => ?_) fun t0 j4 => ?_
 rotate_left
 ·refine M.zS u ?_
  iterate 2 refine wps_q q ?_
  apply wN
  refine M.block ?_
  obtain ⟨p3, b6, a0⟩ := bS a0
  refine M.seqC [0, 2, 3, 5, 9, 11, 33, 34] [5] (fun _ : Unit => ⟨[(0, .t (.sl false 3 (List.map GLoan.enc a1))), (2, .t (vi at3)), (3, .t (.sl false 1 (List.map (Row.enc H) a2))), (5, .ref (.box 5) 0 []), (9, .t (.sl true 1 (List.map (Row.enc H) a3))), (11, .t (.sl false 1 (List.map vb e7))), (33, .t (vi x2.Op)), (34, .t (vb p3))], [(5, [vi x2.Op, vi x2.A, vi x2.B, vi x2.C, vi x2.Num, vs x2.Name, .sl false 1 (List.map vi x2.Args)])]⟩) (fun _ => True) (fun _ _ => ?_) fun t1 k0 => ?_
  rotate_left
  ·refine M.zS u ?_
   iterate 2 refine wps_q q ?_
   apply wN
   refine M.cI b6 (fun p4 b6 => ?_) fun p5 b6 => ?_
   ·refine M.skip ?_
    cases b6
    exact k0 _ () [] trivial (by simp [q])
   refine M.zH u ?_
   iterate 2 refine wps_q q ?_
   apply wN
   cases b6
   exact k0 _ () [] trivial (by simp [q])
  refine M.cI a0 (fun p6 a0 => ?_) fun p7 a0 => ?_
  ·refine M.zS u ?_
   iterate 2 refine wps_q q ?_
   obtain ⟨o3, l4, a0⟩ := bS a0
   obtain ⟨k1, k2, k3, k4⟩ := mS l4
   have g6 : List.replicate (a1.length : Int).toNat (vb false) = List.map vb o3 := rep_map (f := vb) k4
   try simp only [Int.toNat_natCast] at g6
   iterate 2 (refine wps_q q ?_ rfl (by simp [k1, k2, k3, g6]; rfl))
   apply wN
   obtain ⟨g7, l5, a0⟩ := bS a0
   refine M.seqC [5, 9, 12] [5] (fun _ : Unit => ⟨[(5, .ref (.box 5) 0 []), (9, .t (.sl true 1 (List.map (Row.enc H) a3))), (12, .t (.sl true 1 (List.map vb g7)))], [(5, [vi x2.Op, vi x2.A, vi x2.B, vi x2.C, vi x2.Num, vs x2.Name, .sl false 1 (List.map vi x2.Args)])]⟩) (fun _ => True) (fun _ _ => ?_) fun t2 l6 => ?_
   rotate_left
   ·refine M.zS u ?_
    refine wps_q q ?_
    apply wN
    refine M.block ?_
    refine M.loopO [] [0, 2, 5, 9, 12, 13] [5] (fun v : (List Bool) × Int => ⟨[(0, .t (.sl false 3 (List.map GLoan.enc a1))), (2, .t (vi at3)), (5, .ref (.box 5) 0 []), (9, .t (.sl true 1 (List.map (Row.enc H) a3))), (12, .t (.sl true 1 (List.map vb v.1))), (13, .t (vi v.2))], [(5, [vi x2.Op, vi x2.A, vi x2.B, vi x2.C, vi x2.Num, vs x2.Name, .sl false 1 (List.map vi x2.Args)])]⟩) (spec_l15Behind_l2 a1 at3) _ (o3, (0 : Int)) l5 (by simp [q]) ?_
    intro g t3 b4 l7
    obtain ⟨k5, p8⟩ := g
    simp only [spec_l15Behind_l2] at b4
    try dsimp only
    refine M.seq ?_
    refine M.zS u ?_
    iterate 4 refine wps_q q ?_
    apply wN
    refine M.cI b4 (fun p9 b4 => ?_) fun q0 b4 => ?_
    ·refine M.skip ?_
     refine M.seq ?_
     refine M.block ?_
     refine M.zH u ?_
     iterate 4 refine wps_q q ?_
     obtain ⟨q1, l8, b4⟩ := bS b4
     obtain ⟨b7, b8, b9, c0⟩ := gS l8
     iterate 5 (refine wps_q q ?_ rfl (by simp [b7, b8, b9, c0]; rfl))
     obtain ⟨t4, l9, b4⟩ := bS b4
     obtain ⟨g8, g9, h0, h1⟩ := gS l9
     refine wps_q q ?_ rfl (by simp [b7, b8, b9, c0, g8, g9, h0, h1]; rfl)
     obtain ⟨q2, m0, b4⟩ := bZ b4
     have h2 : (List.map vb k5).set p8.toNat (vb (q1.At == at3)) = List.map vb q2 := set_map (f := vb) m0
     try simp only [Int.toNat_natCast] at h2
     refine wps_q q ?_ rfl (by simp [b7, b8, b9, c0, g8, g9, h0, h1, h2]; rfl)
     apply wN
     refine M.zH u ?_
     iterate 3 refine wps_q q ?_
     apply wN
     cases b4
     exact ⟨_, [], rfl, by simp [q]⟩
    refine M.exit ?_
    have q3 := congrArg some (l7 _ (Option.some.inj b4).symm)
    cases q3
    exact l6 _ () [] trivial (by simp [q])
   refine M.freezeS 12 fun K r => ?_; simp [q]; apply r
   refine M.zS u ?_
   iterate 4 refine wps_q q ?_
   obtain ⟨t5, m1, a0⟩ := bS a0
   obtain ⟨h3, c1, c2, c3⟩ := gS m1
   have c4 := c1; try simp at c4
   try simp only [Int.toNat_natCast] at c2 c3
   refine wps_q q ?_ rfl (by simp [h3, c1, c2, c3, c4]; rfl)
   obtain ⟨q4, m2, a0⟩ := bZ a0
   have h4 : (List.map (Row.enc H) a3).set x2.A.toNat (.sl false 1 (List.map vb g7)) = List.map (Row.enc H) q4 := set_map (f := (Row.enc H)) m2
   try simp only [Int.toNat_natCast] at h4
   refine wps_q q ?_ rfl (by simp [h3, c1, c2, c3, c4, h4]; rfl)
   iterate 5 first|refine wps_q q ?_|apply wN|refine M.zS u ?_
   cases a0
   try dsimp only at h
   cases h
   refine M.ret ?_
   simp [thenS, iB, res55]
  refine M.zS u ?_
  iterate 2 refine wps_q q ?_
  apply wN
  refine M.cI a0 (fun q5 a0 => ?_) fun q6 a0 => ?_
  ·refine M.seq ?_
   obtain ⟨m3, m4, a0⟩ := bS a0
   obtain ⟨b2, a4, a5, a6⟩ := gS m4
   have a7 := a4; try simp at a7
   try simp only [Int.toNat_natCast] at a5 a6
   refine M.dT rfl (u _ rfl) (en 64 [.al (.slot 9) 0 [] none, rf 5 1, .t (vi x2.A), .t (.sl false 1 (List.map (Row.enc H) a2)), rf 5 2, .t (vi x2.B), .rop [Row.enc H m3] 0, .t (Row.enc H m3)]) [[], [], [1], [], [], [4], [3, 4, 5], rg 3 4, rg 0 8, rg 0 9] (by simp) (by simp) (by simp [look]) rfl rfl rfl ?_ fun K w => ?_
   ·refine ⟨?_, ?_, ?_, ?_, ?_, ?_, ?_, ?_, trivial⟩
    all_goals (intro τ hbx hb hd hf K w; try simp [vsAt] at hd; simp [vsAt] at hf; first | (refine wC rfl fun K' z => ?_; simp [q, hbx, hb, hd, hf, b2, a4, a5, a6, a7]; exact z _ (wN (w _ (by simp [vsAt, hbx, b2, a4, a5, a6, a7])))))
   obtain ⟨t6, m5, a0⟩ := bS a0
   obtain ⟨h5, c5, c6, c7⟩ := gS m5
   have c8 := c5; try simp at c8
   try simp only [Int.toNat_natCast] at c6 c7
   refine wps_q q ?_ rfl (by simp [b2, a4, a5, a6, a7, h5, c5, c6, c7, c8]; rfl)
   obtain ⟨q7, m6, a0⟩ := bZ a0
   have h6 : (List.map (Row.enc H) a3).set x2.A.toNat (Row.enc H m3) = List.map (Row.enc H) q7 := set_map (f := (Row.enc H)) m6
   try simp only [Int.toNat_natCast] at h6
   refine wps_q q ?_ rfl (by simp [b2, a4, a5, a6, a7, h5, c5, c6, c7, c8, h6]; rfl)
   apply wN; apply w
   refine M.zS u ?_
   iterate 2 refine wps_q q ?_
   apply wN
   cases a0
   try dsimp only at h
   cases h
   refine M.ret ?_
   simp [thenS, iB, res55]
  obtain ⟨q8, c9, a0⟩ := bS a0
  refine M.seqC [3, 5, 9, 11, 33, 74] [5] (fun _ : Unit => ⟨[(3, .t (.sl false 1 (List.map (Row.enc H) a2))), (5, .ref (.box 5) 0 []), (9, .t (.sl true 1 (List.map (Row.enc H) a3))), (11, .t (.sl false 1 (List.map vb e7))), (33, .t (vi x2.Op)), (74, .t (vb q8))], [(5, [vi x2.Op, vi x2.A, vi x2.B, vi x2.C, vi x2.Num, vs x2.Name, .sl false 1 (List.map vi x2.Args)])]⟩) (fun _ => True) (fun _ _ => ?_) fun t7 k6 => ?_
  rotate_left
  ·refine M.zS u ?_
   iterate 2 refine wps_q q ?_
   apply wN
   refine M.cI c9 (fun q9 c9 => ?_) fun r1 c9 => ?_
   ·refine M.skip ?_
    cases c9
    exact k6 _ () [] trivial (by simp [q])
   refine M.zH u ?_
   iterate 2 refine wps_q q ?_
   apply wN
   cases c9
   exact k6 _ () [] trivial (by simp [q])
  refine M.cI a0 (fun r2 a0 => ?_) fun r3 a0 => ?_
  ·refine M.zS u ?_
   iterate 4 refine wps_q q ?_
   obtain ⟨t8, m7, a0⟩ := bS a0
   obtain ⟨h7, d0, d1, d2⟩ := gS m7
   have d3 := d0; try simp at d3
   try simp only [Int.toNat_natCast] at d1 d2
   refine wps_q q ?_ rfl (by simp [h7, d0, d1, d2, d3]; rfl)
   obtain ⟨o4, m8, a0⟩ := bZ a0
   have h8 : (List.map (Row.enc H) a3).set x2.B.toNat (.sl false 1 (List.map vb e7)) = List.map (Row.enc H) o4 := set_map (f := (Row.enc H)) m8
   try simp only [Int.toNat_natCast] at h8
   refine wps_q q ?_ rfl (by simp [h7, d0, d1, d2, d3, h8]; rfl)
   apply wN
   refine M.seq ?_
   obtain ⟨m9, n0, a0⟩ := bS a0
   obtain ⟨b3, a8, a9, b0⟩ := gS n0
   have b1 := a8; try simp at b1
   try simp only [Int.toNat_natCast] at a9 b0
   refine M.dT rfl (u _ rfl) (en 82 [.al (.slot 9) 0 [] none, rf 5 1, .t (vi x2.A), .t (.sl false 1 (List.map (Row.enc H) a2)), rf 5 2, .t (vi x2.B), .rop [Row.enc H m9] 0, .t (Row.enc H m9)]) [[], [], [1], [], [], [4], [3, 4, 5], rg 3 4, rg 0 8, rg 0 9] (by simp) (by simp) (by simp [look]) rfl rfl rfl ?_ fun K w => ?_
   ·refine ⟨?_, ?_, ?_, ?_, ?_, ?_, ?_, ?_, trivial⟩
    all_goals (intro τ hbx hb hd hf K w; try simp [vsAt] at hd; simp [vsAt] at hf; first | (refine wC rfl fun K' z => ?_; simp [q, hbx, hb, hd, hf, b3, a8, a9, b0, b1]; exact z _ (wN (w _ (by simp [vsAt, hbx, b3, a8, a9, b0, b1])))))
   obtain ⟨t9, n1, a0⟩ := bS a0
   obtain ⟨h9, d4, d5, d6⟩ := gS n1
   have d7 := d4; try simp at d7
   try simp only [Int.toNat_natCast] at d5 d6
   refine wps_q q ?_ rfl (by simp [b3, a8, a9, b0, b1, h9, d4, d5, d6, d7]; rfl)
   obtain ⟨r4, n2, a0⟩ := bZ a0
   have i0 : (List.map (Row.enc H) o4).set x2.A.toNat (Row.enc H m9) = List.map (Row.enc H) r4 := set_map (f := (Row.enc H)) n2
   try simp only [Int.toNat_natCast] at i0
   refine wps_q q ?_ rfl (by simp [b3, a8, a9, b0, b1, h9, d4, d5, d6, d7, i0]; rfl)
   apply wN; apply w
   refine M.zS u ?_
   iterate 2 refine wps_q q ?_
   apply wN
   cases a0
   try dsimp only at h
   cases h
   refine M.ret ?_
   simp [thenS, iB, res55]
  refine M.zS u ?_
  iterate 2 refine wps_q q ?_
  apply wN
  refine M.cI a0 (fun r5 a0 => ?_) fun r6 a0 => ?_
  ·refine M.zS u ?_
   refine wps_q q ?_
   apply wN
   refine M.block ?_
   refine M.loopO [] [5, 9, 11, 14] [5] (fun v : (List Row) × Int => ⟨[(5, .ref (.box 5) 0 []), (9, .t (.sl true 1 (List.map (Row.enc H) v.1))), (11, .t (.sl false 1 (List.map vb e7))), (14, .t (vi v.2))], [(5, [vi x2.Op, vi x2.A, vi x2.B, vi x2.C, vi x2.Num, vs x2.Name, .sl false 1 (List.map vi x2.Args)])]⟩) (spec_l15Behind_l3 x2 e7) _ (a3, (0 : Int)) a0 (by simp [q]) ?_
   intro g u0 b5 n3
   obtain ⟨k7, u1⟩ := g
   simp only [spec_l15Behind_l3] at b5
   try dsimp only
   refine M.seq ?_
   refine M.zS u ?_
   iterate 5 refine wps_q q ?_
   apply wN
   refine M.cI b5 (fun r7 b5 => ?_) fun r8 b5 => ?_
   ·refine M.skip ?_
    refine M.seq ?_
    refine M.block ?_
    refine M.zH u ?_
    iterate 4 refine wps_q q ?_
    obtain ⟨r9, n4, b5⟩ := bS b5
    obtain ⟨d8, d9, e0, e1⟩ := gS n4
    iterate 3 (refine wps_q q ?_ rfl (by simp [d8, d9, e0, e1]; rfl))
    obtain ⟨u2, n5, b5⟩ := bS b5
    obtain ⟨i1, i2, i3, i4⟩ := gS n5
    refine wps_q q ?_ rfl (by simp [d8, d9, e0, e1, i1, i2, i3, i4]; rfl)
    obtain ⟨s0, n6, b5⟩ := bZ b5
    have i5 : (List.map (Row.enc H) k7).set r9.toNat (.sl false 1 (List.map vb e7)) = List.map (Row.enc H) s0 := set_map (f := (Row.enc H)) n6
    try simp only [Int.toNat_natCast] at i5
    refine wps_q q ?_ rfl (by simp [d8, d9, e0, e1, i1, i2, i3, i4, i5]; rfl)
    apply wN
    refine M.zH u ?_
    iterate 3 refine wps_q q ?_
    apply wN
    cases b5
    exact ⟨_, [], rfl, by simp [q]⟩
   refine M.exit ?_
   have s1 := congrArg some (n3 _ (Option.some.inj b5).symm)
   cases s1
   exact j4 _ _ [] rfl (by simp [q])
  refine M.zS u ?_
  iterate 2 refine wps_q q ?_
  apply wN
  refine M.cI a0 (fun s2 a0 => ?_) fun s3 a0 => ?_
  ·refine M.zH u ?_
   iterate 4 refine wps_q q ?_
   obtain ⟨u3, n7, a0⟩ := bS a0
   obtain ⟨i6, e2, e3, e4⟩ := gS n7
   have e5 := e2; try simp at e5
   try simp only [Int.toNat_natCast] at e3 e4
   refine wps_q q ?_ rfl (by simp [i6, e2, e3, e4, e5]; rfl)
   obtain ⟨s4, n8, a0⟩ := bZ a0
   have i7 : (List.map (Row.enc H) a3).set x2.A.toNat (.sl false 1 (List.map vb e7)) = List.map (Row.enc H) s4 := set_map (f := (Row.enc H)) n8
   try simp only [Int.toNat_natCast] at i7
   refine wps_q q ?_ rfl (by simp [i6, e2, e3, e4, e5, i7]; rfl)
   apply wN
   cases a0
   exact j4 _ _ [] rfl (by simp [q])
  refine M.skip ?_
  cases a0
  exact j4 _ _ [] rfl (by simp [q])
 subst hv
 obtain ⟨k8, hv⟩ : ∃ y, y = v := ⟨_, rfl⟩
 subst hv
 try dsimp only at h ⊢
 refine M.seq ?_
 refine M.zS u ?_
 refine wps_q q ?_
 obtain ⟨u4, n9, h⟩ := bS h
 refine wps_c [(.take, .tmp 116)] q (Ent.ok (E := E) (f := 64)) (Con.ok n9) ?_
 refine wps_q q ?_
 apply wN
 refine M.cI h (fun s5 h => ?_) fun s6 h => ?_
 ·refine M.zH u ?_
  iterate 2 refine wps_q q ?_
  obtain ⟨s7, o0, h⟩ := bS h
  refine wps_c [(.take, .tmp 120)] q (Ent.ok (E := E) (f := 64)) (Con.ok o0) ?_
  refine wps_q q ?_
  obtain ⟨u5, o1, h⟩ := bS h
  obtain ⟨i8, j0, j1, j2⟩ := gS o1
  refine wps_q q ?_ rfl (by simp [i8, j0, j1, j2]; rfl)
  obtain ⟨s8, o2, h⟩ := bZ h
  have j3 : (List.map (Row.enc H) k8).set s7.toNat (.sl false 1 (List.map vb e7)) = List.map (Row.enc H) s8 := set_map (f := (Row.enc H)) o2
  try simp only [Int.toNat_natCast] at j3
  refine wps_q q ?_ rfl (by simp [i8, j0, j1, j2, j3]; rfl)
  iterate 5 first|refine wps_q q ?_|apply wN|refine M.zS u ?_
  cases h
  refine M.ret ?_
  simp [thenS, iB, res55]
 refine M.skip ?_
 refine M.zS u ?_
 iterate 2 refine wps_q q ?_
 apply wN
 cases h
 refine M.ret ?_
 simp [thenS, iB, res55]
end Go.Proofs.T
