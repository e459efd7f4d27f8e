import Derived.Test.YteimlhpimngjfaaDoorW1
import Derived.Test.YteimlhpimngjfaaDoorW3
set_option linter.unusedVariables false
set_option linter.unusedSimpArgs false
set_option linter.unusedVariables false
set_option linter.unusedSimpArgs false
set_option maxHeartbeats 8000000
set_option maxRecDepth 100000
namespace Go.Proofs.T
open Go.OM
theorem res34 : Tryd.f34.results.toList = [.tmp 8] := rfl
theorem ent34 : Enters E.P 34 := eO Tryd.func34 (by simp [Tryd.f34]) rfl
instance c34_ (x1 : GIns) (i2 : Int) (a3 : List GLoan) (a4 : List (List Bool)) {r0 : List (List Bool)} : Con E 34 (impl_held x1 i2 a3 a4 = some r0) [.val (GIns.enc false x1), .val (vi i2), .val (.sl false 3 (List.map GLoan.enc a3)), .val (.sl false 1 (List.map (eSl false 1 vb) a4))] [.sl true 1 (List.map (eSl true 1 vb) r0)] [] := Con.mk fun h => by
 refine oB Tryd.func34 rfl (by simp [Tryd.f34]) fun C (q : C.N = 115) hP => ?_
 have y := pinB0 hP
 unfold impl_held at h
 iterate 8 first|refine wps_q q ?_|apply wN|refine M.zS y ?_
 obtain ⟨i3, m1, h⟩ := bS h
 refine M.seqC [1, 3, 4, 6, 9] [4, 6, 9] (fun _ : Unit => ⟨[(1, .t (vi i2)), (3, .t (.sl false 1 (List.map (eSl false 1 vb) a4))), (4, .ref (.box 4) 0 []), (6, .ref (.box 6) 0 []), (9, .ref (.box 9) 0 [])], [(4, [vi x1.Op, vi x1.A, vi x1.B, vi x1.C, vi x1.Num, vs x1.Name, .sl false 1 (List.map vi x1.Args)]), (6, [.sl false 3 (List.map GLoan.enc a3)]), (9, [.sl true 1 (List.map (eSl true 1 vb) i3)])]⟩) (fun _ => True) (fun _ _ => ?_) fun K6 m2 => ?_
 rotate_left
 ·refine M.zS y ?_
  iterate 3 refine wps_q q ?_
  apply wN
  refine M.block ?_
  refine M.loopO [] [1, 3, 4, 6, 9, 17, 18, 19] [4, 6, 9] (fun v : Int × (List (List Bool)) => ⟨[(1, .t (vi i2)), (3, .t (.sl false 1 (List.map (eSl false 1 vb) a4))), (4, .ref (.box 4) 0 []), (6, .ref (.box 6) 0 []), (9, .ref (.box 9) 0 []), (17, .t (.sl false 1 (List.map (eSl false 1 vb) a4))), (18, .t (vi (a4.length : Int))), (19, .t (vi v.1))], [(4, [vi x1.Op, vi x1.A, vi x1.B, vi x1.C, vi x1.Num, vs x1.Name, .sl false 1 (List.map vi x1.Args)]), (6, [.sl false 3 (List.map GLoan.enc a3)]), (9, [.sl true 1 (List.map (eSl true 1 vb) v.2)])]⟩) (impl_held_l1 a4) _ ((0 : Int), []) m1 (by simp [q]) ?_
  intro g p9 c6 i7
  obtain ⟨v8, v9⟩ := g
  simp only [impl_held_l1] at c6
  try dsimp only
  refine M.zS y ?_
  refine wps_q q ?_
  apply wN
  refine M.seq ?_
  refine M.cI c6 (fun m3 c6 => ?_) fun m4 c6 => ?_
  ·refine M.skip ?_
   refine M.seq ?_
   refine M.block ?_
   refine M.zS y ?_
   obtain ⟨i4, i8, c6⟩ := bS c6
   obtain ⟨g7, g8, g9, h0⟩ := gS i8
   iterate 3 (refine wps_q q ?_ rfl (by simp [g7, g8, g9, h0]; rfl))
   apply wN
   obtain ⟨q0, i9, c6⟩ := bS c6
   obtain ⟨a1, a2, l6⟩ := aS i9
   simp [eSl] at a1 a2
   refine M.drawX2 rfl (y _ rfl) [23, 24, 25, 26] [[(23, .al (.box 9) 0 [] none)], [(24, .t (.sl false 1 (List.map vb i4)))], [(25, .t (.sl true 1 (List.map vb i4)))], [(26, .t (.sl true 1 (List.map (eSl true 1 vb) [i4]))), (25, .u)]] [[], [], [], []] [[], [], [1], [1, 2], rg 0 4, rg 0 5] rfl (by simp) rfl rfl rfl ?_ fun K w => ?_
   ·refine ⟨?_, ?_, ?_, ?_, trivial⟩
    ·refine owedX2_of rfl rfl rfl ?_
     intro τ D hbx hl d0 g1 g2 K w
     (simp [famX, putX, d0] at hbx; refine wC rfl fun K' z => ?_; simp [q, hbx, hl, lookF, lookP, look, d0, a1, a2]; exact z _ (wN (w _ (by simp [putL, famX, putX, upd1, hbx, d0, a1, a2]))))
    ·refine owedX2_of rfl rfl rfl ?_
     intro τ D hbx hl d1 g1 g2 K w
     (simp [famX, putX, d1] at hbx; refine wC rfl fun K' z => ?_; simp [q, hbx, hl, lookF, lookP, look, d1, a1, a2]; exact z _ (wN (w _ (by simp [putL, famX, putX, upd1, hbx, d1, a1, a2]))))
    ·refine owedX2_of rfl rfl rfl ?_
     intro τ D hbx hl d2 g1 g2 K w
     have d1 := g1 1 (by simp)
     have d3 := g2 3 (by simp) (by simp)
     (simp [famX, putX, d1, d2, d3] at hbx; refine wC rfl fun K' z => ?_; simp [q, hbx, hl, lookF, lookP, look, d1, d2, d3, a1, a2]; exact z _ (wN (w _ (by simp [putL, famX, putX, upd1, hbx, d1, d2, d3, a1, a2]))))
    intro D d3 g1 g2 gc
    have d1 : D 1 = true := g1 1 (by simp)
    have d2 : D 2 = true := g1 2 (by simp)
    cases d0 : D 0 <;> (intro K w; simp [famD, putL, upd1, famX, putX, d0, d1, d2, d3] at w ⊢; refine wC rfl fun K' z => ?_; simp [q, a1, a2]; refine z _ (wN ?_); first | exact w | simpa [a1, a2] using w)
   simp [famD, putL, famX, putX]
   obtain ⟨m5, j0, c6⟩ := bS c6
   obtain ⟨e2, e3, h1⟩ := aS j0
   have e4 : List.map (eSl true 1 vb) v9 ++ List.map (eSl true 1 vb) [i4] = List.map (eSl true 1 vb) m5 := app_map (f := (eSl true 1 vb)) h1
   simp [eSl, eSl] at e2 e3 e4
   iterate 2 (refine wps_q q ?_ rfl (by simp [a1, a2, e2, e3, e4]; rfl))
   apply wN; apply w
   refine M.zH y ?_
   iterate 2 refine wps_q q ?_
   apply wN
   cases c6
   exact ⟨_, [], rfl, by simp [q]⟩
  refine M.exit ?_
  have m6 := congrArg some (i7 _ (Option.some.inj c6).symm)
  cases m6
  exact m2 _ () [] trivial (by simp [q])
 refine M.zS y ?_
 iterate 2 refine wps_q q ?_
 apply wN
 obtain ⟨m7, a0, h⟩ := bS h
 refine M.seqC [9] [9] (fun _ : Unit => ⟨[(9, .ref (.box 9) 0 [])], [(9, [.sl true 1 (List.map (eSl true 1 vb) m7)])]⟩) (fun _ => True) (fun _ _ => ?_) fun q1 c5 => ?_
 rotate_left
 ·refine M.zS y ?_
  iterate 2 refine wps_q q ?_
  apply wN
  refine M.block ?_
  obtain ⟨m8, c7, a0⟩ := bS a0
  refine M.seqC [1, 3, 4, 6, 9, 12, 31, 36] [4, 6, 9] (fun _ : Unit => ⟨[(1, .t (vi i2)), (3, .t (.sl false 1 (List.map (eSl false 1 vb) a4))), (4, .ref (.box 4) 0 []), (6, .ref (.box 6) 0 []), (9, .ref (.box 9) 0 []), (12, .clo 60 [.bx 6, .bx 9]), (31, .t (vi x1.Op)), (36, .t (vb m8))], [(4, [vi x1.Op, vi x1.A, vi x1.B, vi x1.C, vi x1.Num, vs x1.Name, .sl false 1 (List.map vi x1.Args)]), (6, [.sl false 3 (List.map GLoan.enc a3)]), (9, [.sl true 1 (List.map (eSl true 1 vb) i3)])]⟩) (fun _ => True) (fun _ _ => ?_) fun q2 h2 => ?_
  rotate_left
  ·refine M.zS y ?_
   iterate 2 refine wps_q q ?_
   apply wN
   refine M.cI c7 (fun m9 c7 => ?_) fun n0 c7 => ?_
   ·refine M.skip ?_
    cases c7
    exact h2 _ () [] trivial (by simp [q])
   refine M.zH y ?_
   iterate 2 refine wps_q q ?_
   apply wN
   cases c7
   exact h2 _ () [] trivial (by simp [q])
  refine M.cI a0 (fun n1 a0 => ?_) fun n2 a0 => ?_
  ·refine M.zS y ?_
   iterate 3 refine wps_q q ?_
   obtain ⟨⟨j1, n3⟩, j2, a0⟩ := bS a0
   try dsimp only at a0
   refine wps_callC (n := 2) [(.take, .tmp 41)] [(.cptr 0 1, .tmp 39), (.cptr 1 1, .tmp 39)] rfl rfl rfl (Ent.ok (E := E) (f := 60)) (Con.ok j2) fun K r => ?_; simp [q]; apply r
   iterate 7 first|refine wps_q q ?_|apply wN|refine M.zS y ?_|refine M.block ?_
   refine M.loopO [] [1, 4, 9, 43, 44, 45] [4, 9] (fun v : Int × (List (List Bool)) => ⟨[(1, .t (vi i2)), (4, .ref (.box 4) 0 []), (9, .ref (.box 9) 0 []), (43, .t (.sl false 3 (List.map GLoan.enc j1))), (44, .t (vi (j1.length : Int))), (45, .t (vi v.1))], [(4, [vi x1.Op, vi x1.A, vi x1.B, vi x1.C, vi x1.Num, vs x1.Name, .sl false 1 (List.map vi x1.Args)]), (9, [.sl true 1 (List.map (eSl true 1 vb) v.2)])]⟩) (impl_held_l2 x1 i2 j1) _ ((0 : Int), n3) a0 (by simp [q]) ?_
   intro g q3 c1 j3
   obtain ⟨l7, n4⟩ := g
   simp only [impl_held_l2] at c1
   try dsimp only
   refine M.zS y ?_
   refine wps_q q ?_
   apply wN
   refine M.seq ?_
   refine M.cI c1 (fun n5 c1 => ?_) fun n6 c1 => ?_
   ·refine M.skip ?_
    refine M.seq ?_
    refine M.block ?_
    refine M.zS y ?_
    refine wps_q q ?_
    obtain ⟨j4, j5, c1⟩ := bS c1
    obtain ⟨h3, h4, h5, h6⟩ := gS j5
    iterate 5 (refine wps_q q ?_ rfl (by simp [h3, h4, h5, h6]; rfl))
    apply wN
    obtain ⟨n7, j6, c1⟩ := bS c1
    obtain ⟨c2, a5, a6, a7⟩ := gS j6
    have a8 := a5; try simp at a8
    try simp only [Int.toNat_natCast] at a6 a7
    refine M.dT rfl (y _ rfl) (en 50 [.al (.box 9) 0 [] none, rf 4 1, .t (vi x1.A), .ref (.box 9) 0 [(x1.A.toNat, 0)], .al (.box 9) 0 [(x1.A.toNat, 0)] none, .t (vi l7), rf 14 0, .t (vi j4.At), .t (vi i2), .t (vb (j4.At == i2))]) [[], [], [1], [0, 1, 2], rg 0 4, [], [], [6], [], [6, 7, 8], rg 0 10, rg 0 11] (by simp) (by simp) (by simp [look]) rfl rfl rfl ?_ fun K w => ?_
    ·refine ⟨?_, ?_, ?_, ?_, ?_, ?_, ?_, ?_, ?_, ?_, trivial⟩
     all_goals (intro τ hbx hb hd hf K w; try simp [vsAt] at hd; simp [vsAt] at hf; first | (refine wC rfl fun K' z => ?_; simp [q, hbx, hb, hd, hf, c2, a5, a6, a7, a8]; exact z _ (wN (w _ (by simp [vsAt, hbx, c2, a5, a6, a7, a8])))))
    obtain ⟨q4, j7, c1⟩ := bS c1
    obtain ⟨e5, e6, e7, e8⟩ := gS j7
    refine wps_q q ?_ rfl (by simp [c2, a5, a6, a7, a8, e5, e6, e7, e8]; rfl)
    obtain ⟨l8, j8, c1⟩ := bZ c1
    have e9 : (List.map vb n7).set l7.toNat (vb (j4.At == i2)) = List.map vb l8 := set_map (f := vb) j8
    try simp only [Int.toNat_natCast] at e9
    obtain ⟨n8, j9, c1⟩ := bZ c1
    have g0 : (List.map (eSl true 1 vb) n4).set x1.A.toNat (.sl true 1 (List.map vb l8)) = List.map (eSl true 1 vb) n8 := set_map (f := (eSl true 1 vb)) j9
    try simp only [Int.toNat_natCast] at g0
    refine wps_q q ?_ rfl (by simp [c2, a5, a6, a7, a8, e5, e6, e7, e8, e9, g0]; rfl)
    apply wN; apply w
    refine M.zH y ?_
    iterate 2 refine wps_q q ?_
    apply wN
    cases c1
    exact ⟨_, [], rfl, by simp [q]⟩
   refine M.exit ?_
   have n9 := congrArg some (j3 _ (Option.some.inj c1).symm)
   cases n9
   exact c5 _ () [] trivial (by simp [q])
  refine M.zS y ?_
  iterate 2 refine wps_q q ?_
  apply wN
  refine M.cI a0 (fun o0 a0 => ?_) fun o1 a0 => ?_
  ·obtain ⟨i5, k0, a0⟩ := bS a0
   obtain ⟨c3, a9, b0, b1⟩ := gS k0
   have b2 := a9; try simp at b2
   try simp only [Int.toNat_natCast] at b0 b1
   obtain ⟨q5, k1, a0⟩ := bS a0
   obtain ⟨b3, b4, l9⟩ := aS k1
   simp [eSl] at b3 b4
   refine M.dT rfl (y _ rfl) (en 64 [.al (.box 9) 0 [] none, rf 4 1, .t (vi x1.A), .t (.sl false 1 (List.map (eSl false 1 vb) a4)), rf 4 2, .t (vi x1.B), .rop [.sl false 1 (List.map vb i5)] 0, .t (.sl false 1 (List.map vb i5)), .t (.sl true 1 (List.map vb i5))]) [[], [], [1], [], [], [4], [3, 4, 5], rg 3 4, rg 3 5, rg 0 9, rg 0 10] (by simp) (by simp) (by simp [look]) rfl rfl rfl ?_ fun K w => ?_
   ·refine ⟨?_, ?_, ?_, ?_, ?_, ?_, ?_, ?_, ?_, trivial⟩
    all_goals (intro τ hbx hb hd hf K w; try simp [vsAt] at hd; simp [vsAt] at hf; first | (refine wC rfl fun K' z => ?_; simp [q, hbx, hb, hd, hf, c3, a9, b0, b1, b2, b3, b4]; exact z _ (wN (w _ (by simp [vsAt, hbx, c3, a9, b0, b1, b2, b3, b4])))))
   obtain ⟨q6, k2, a0⟩ := bS a0
   obtain ⟨g3, c8, c9, d4⟩ := gS k2
   have d5 := c8; try simp at d5
   try simp only [Int.toNat_natCast] at c9 d4
   refine wps_q q ?_ rfl (by simp [c3, a9, b0, b1, b2, b3, b4, g3, c8, c9, d4, d5]; rfl)
   obtain ⟨o2, k3, a0⟩ := bZ a0
   have g4 : (List.map (eSl true 1 vb) i3).set x1.A.toNat (.sl true 1 (List.map vb i5)) = List.map (eSl true 1 vb) o2 := set_map (f := (eSl true 1 vb)) k3
   try simp only [Int.toNat_natCast] at g4
   refine wps_q q ?_ rfl (by simp [c3, a9, b0, b1, b2, b3, b4, g3, c8, c9, d4, d5, g4]; rfl)
   apply wN; apply w
   cases a0
   exact c5 _ () [] trivial (by simp [q])
  obtain ⟨o3, d6, a0⟩ := bS a0
  refine M.seqC [3, 4, 9, 12, 31, 74] [4, 6, 9] (fun _ : Unit => ⟨[(3, .t (.sl false 1 (List.map (eSl false 1 vb) a4))), (4, .ref (.box 4) 0 []), (9, .ref (.box 9) 0 []), (12, .clo 60 [.bx 6, .bx 9]), (31, .t (vi x1.Op)), (74, .t (vb o3))], [(4, [vi x1.Op, vi x1.A, vi x1.B, vi x1.C, vi x1.Num, vs x1.Name, .sl false 1 (List.map vi x1.Args)]), (6, [.sl false 3 (List.map GLoan.enc a3)]), (9, [.sl true 1 (List.map (eSl true 1 vb) i3)])]⟩) (fun _ => True) (fun _ _ => ?_) fun q7 h7 => ?_
  rotate_left
  ·refine M.zS y ?_
   iterate 2 refine wps_q q ?_
   apply wN
   refine M.cI d6 (fun o4 d6 => ?_) fun o5 d6 => ?_
   ·refine M.skip ?_
    cases d6
    exact h7 _ () [] trivial (by simp [q])
   refine M.zH y ?_
   iterate 2 refine wps_q q ?_
   apply wN
   cases d6
   exact h7 _ () [] trivial (by simp [q])
  refine M.cI a0 (fun o6 a0 => ?_) fun o7 a0 => ?_
  ·refine M.zS y ?_
   iterate 3 refine wps_q q ?_
   obtain ⟨⟨q8, o8⟩, k4, a0⟩ := bS a0
   try dsimp only at a0
   refine wps_callC (n := 2) [(.take, .tmp 79)] [(.cptr 0 1, .tmp 77), (.cptr 1 1, .tmp 77)] rfl rfl rfl (Ent.ok (E := E) (f := 60)) (Con.ok k4) fun K r => ?_; simp [q]; apply r
   apply wN
   obtain ⟨i6, k5, a0⟩ := bS a0
   obtain ⟨c4, b5, b6, b7⟩ := gS k5
   have b8 := b5; try simp at b8
   try simp only [Int.toNat_natCast] at b6 b7
   obtain ⟨q9, k6, a0⟩ := bS a0
   obtain ⟨b9, c0, m0⟩ := aS k6
   simp [eSl] at b9 c0
   refine M.dT rfl (y _ rfl) (en 81 [.al (.box 9) 0 [] none, rf 4 1, .t (vi x1.A), .t (.sl false 1 (List.map (eSl false 1 vb) a4)), rf 4 2, .t (vi x1.B), .rop [.sl false 1 (List.map vb i6)] 0, .t (.sl false 1 (List.map vb i6)), .t (.sl true 1 (List.map vb i6))]) [[], [], [1], [], [], [4], [3, 4, 5], rg 3 4, rg 3 5, rg 0 9, rg 0 10] (by simp) (by simp) (by simp [look]) rfl rfl rfl ?_ fun K w => ?_
   ·refine ⟨?_, ?_, ?_, ?_, ?_, ?_, ?_, ?_, ?_, trivial⟩
    all_goals (intro τ hbx hb hd hf K w; try simp [vsAt] at hd; simp [vsAt] at hf; first | (refine wC rfl fun K' z => ?_; simp [q, hbx, hb, hd, hf, c4, b5, b6, b7, b8, b9, c0]; exact z _ (wN (w _ (by simp [vsAt, hbx, c4, b5, b6, b7, b8, b9, c0])))))
   obtain ⟨r1, k7, a0⟩ := bS a0
   obtain ⟨g5, d7, d8, d9⟩ := gS k7
   have e0 := d7; try simp at e0
   try simp only [Int.toNat_natCast] at d8 d9
   refine wps_q q ?_ rfl (by simp [c4, b5, b6, b7, b8, b9, c0, g5, d7, d8, d9, e0]; rfl)
   obtain ⟨o9, k8, a0⟩ := bZ a0
   have g6 : (List.map (eSl true 1 vb) o8).set x1.A.toNat (.sl true 1 (List.map vb i6)) = List.map (eSl true 1 vb) o9 := set_map (f := (eSl true 1 vb)) k8
   try simp only [Int.toNat_natCast] at g6
   refine wps_q q ?_ rfl (by simp [c4, b5, b6, b7, b8, b9, c0, g5, d7, d8, d9, e0, g6]; rfl)
   apply wN; apply w
   cases a0
   exact c5 _ () [] trivial (by simp [q])
  refine M.zS y ?_
  iterate 2 refine wps_q q ?_
  apply wN
  refine M.cI a0 (fun p0 a0 => ?_) fun p1 a0 => ?_
  ·refine M.zS y ?_
   iterate 3 refine wps_q q ?_
   obtain ⟨⟨p2, p3⟩, k9, a0⟩ := bS a0
   try dsimp only at a0
   refine wps_callC (n := 2) [(.take, .tmp 95)] [(.cptr 0 1, .tmp 93), (.cptr 1 1, .tmp 93)] rfl rfl rfl (Ent.ok (E := E) (f := 60)) (Con.ok k9) fun K r => ?_; simp [q]; apply r
   iterate 8 first|refine wps_q q ?_|apply wN|refine M.zS y ?_|refine M.block ?_
   refine M.loopO [] [9, 12, 98, 99, 100] [6, 9] (fun v : Int × (List GLoan) × (List (List Bool)) => ⟨[(9, .ref (.box 9) 0 []), (12, .clo 60 [.bx 6, .bx 9]), (98, .t (.sl false 1 (List.map vi x1.Args))), (99, .t (vi (x1.Args.length : Int))), (100, .t (vi v.1))], [(6, [.sl false 3 (List.map GLoan.enc v.2.1)]), (9, [.sl true 1 (List.map (eSl true 1 vb) v.2.2)])]⟩) (impl_held_l3 x1) _ ((0 : Int), p2, p3) a0 (by simp [q]) ?_
   intro g r2 e1 l0
   obtain ⟨r3, r4, r5⟩ := g
   simp only [impl_held_l3] at e1
   try dsimp only
   refine M.zS y ?_
   refine wps_q q ?_
   apply wN
   refine M.seq ?_
   refine M.cI e1 (fun p4 e1 => ?_) fun p5 e1 => ?_
   ·refine M.skip ?_
    refine M.seq ?_
    refine M.block ?_
    refine M.zS y ?_
    obtain ⟨r6, l1, e1⟩ := bS e1
    obtain ⟨h8, h9, i0, i1⟩ := gS l1
    iterate 3 (refine wps_q q ?_ rfl (by simp [h8, h9, i0, i1]; rfl))
    apply wN
    refine M.zH y ?_
    iterate 2 refine wps_q q ?_
    obtain ⟨⟨r7, r8⟩, l2, e1⟩ := bS e1
    try dsimp only at e1
    refine wps_callC (n := 2) [(.take, .tmp 105)] [(.cptr 0 1, .tmp 104), (.cptr 1 1, .tmp 104)] rfl rfl rfl (Ent.ok (E := E) (f := 60)) (Con.ok l2) fun K r => ?_; simp [q]; apply r
    apply wN
    refine M.zH y ?_
    iterate 2 refine wps_q q ?_
    apply wN
    cases e1
    exact ⟨_, [], rfl, by simp [q]⟩
   refine M.exit ?_
   have p6 := congrArg some (l0 _ (Option.some.inj e1).symm)
   cases p6
   exact c5 _ () [] trivial (by simp [q])
  refine M.zS y ?_
  iterate 2 refine wps_q q ?_
  apply wN
  refine M.cI a0 (fun p7 a0 => ?_) fun p8 a0 => ?_
  ·refine M.zH y ?_
   iterate 3 refine wps_q q ?_
   obtain ⟨⟨r9, s0⟩, l3, a0⟩ := bS a0
   try dsimp only at a0
   refine wps_callC (n := 2) [(.take, .tmp 112)] [(.cptr 0 1, .tmp 110), (.cptr 1 1, .tmp 110)] rfl rfl rfl (Ent.ok (E := E) (f := 60)) (Con.ok l3) fun K r => ?_; simp [q]; apply r
   apply wN
   cases a0
   exact c5 _ () [] trivial (by simp [q])
  refine M.zH y ?_
  iterate 2 refine wps_q q ?_
  obtain ⟨s1, l4, a0⟩ := bS a0
  refine wps_c [(.take, .tmp 33)] q (Ent.ok (E := E) (f := 61)) (Con.ok l4) ?_
  obtain ⟨⟨s2, s3⟩, l5, a0⟩ := bS a0
  try dsimp only at a0
  refine wps_callC (n := 2) [(.take, .tmp 34)] [(.cptr 0 1, .tmp 32), (.cptr 1 1, .tmp 32)] rfl rfl rfl (Ent.ok (E := E) (f := 60)) (Con.ok l5) fun K r => ?_; simp [q]; apply r
  apply wN
  cases a0
  exact c5 _ () [] trivial (by simp [q])
 refine M.zS y ?_
 iterate 2 refine wps_q q ?_
 apply wN
 cases h
 refine M.ret ?_
 simp [thenS, iB, res34]
instance e34_ : Ent E 34 := ⟨ent34⟩
end Go.Proofs.T
