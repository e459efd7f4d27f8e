import Derived.Test.YteimlhpimngjfaaDoorW0
import Derived.Test.YteimlhpimngjfaaDoorW12
import Derived.Test.YteimlhpimngjfaaDoorW13
import Derived.Test.YteimlhpimngjfaaDoorW3
import Derived.Test.YteimlhpimngjfaaDoorW4
set_option linter.unusedVariables false
set_option linter.unusedSimpArgs false
set_option linter.unusedVariables false
set_option linter.unusedSimpArgs false
set_option maxHeartbeats 8000000
set_option maxRecDepth 100000
namespace Go.Proofs.T
open Go.OM
theorem res9 : Tryd.f9.results.toList = [.tmp 2] := rfl
theorem ent9 : Enters E.P 9 := eO Tryd.func9 (by simp [Tryd.f9]) rfl
instance c9_ (c1 : GCode) {r0 : List (List (List Bool))} : Con E 9 (impl_HoldsAt c1 = some r0) [.val (GCode.enc false c1)] [.sl true 1 (List.map (eSl true 1 (eSl true 1 vb)) r0)] [] := Con.mk fun h => by
 refine oB Tryd.func9 rfl (by simp [Tryd.f9]) fun C (q : C.N = 110) hP => ?_
 have y := pinB0 hP
 unfold impl_HoldsAt at h
 refine M.zS y ?_
 iterate 2 refine wps_q q ?_
 apply wN
 refine M.seq ?_
 refine M.zS y ?_
 refine wps_q q ?_
 obtain ⟨r2, o9, h⟩ := bS h
 refine wps_c [(.take, .tmp 15)] q (Ent.ok (E := E) (f := 30)) (Con.ok o9) ?_
 refine wps_q q ?_
 apply wN
 refine M.cI h (fun r9 h => ?_) fun s0 h => ?_
 ·refine M.zS y ?_
  refine wps_q q ?_
  apply wN
  cases h
  refine M.ret ?_
  simp [thenS, iB, res9]
 refine M.skip ?_
 refine M.zS y ?_
 refine wps_q q ?_
 obtain ⟨r6, p0, h⟩ := bS h
 refine wps_c [(.take, .tmp 18)] q (Ent.ok (E := E) (f := 31)) (Con.ok p0) ?_
 iterate 5 first|refine wps_q q ?_|apply wN|refine M.zS y ?_
 obtain ⟨e7, p1, h⟩ := bS h
 refine M.seqC [1, 3, 4] [1] (fun _ : Unit => ⟨[(1, .ref (.box 1) 0 []), (3, .t (.sl true 3 (List.map GLoan.enc r6))), (4, .t (.sl true 1 (List.map (eSl true 1 (eSl true 1 vb)) e7)))], [(1, [vs c1.Name, vi c1.Params, .sl false 1 (List.map vi c1.Locals), .sl false 7 (List.map (GIns.enc false) c1.Words)])]⟩) (fun _ => True) (fun _ _ => ?_) fun K9 p2 => ?_
 rotate_left
 ·refine M.zS y ?_
  iterate 4 refine wps_q q ?_
  apply wN
  refine M.block ?_
  refine M.loopO [] [1, 3, 4, 22, 23] [1] (fun v : (List (List (List Bool))) × Int => ⟨[(1, .ref (.box 1) 0 []), (3, .t (.sl true 3 (List.map GLoan.enc r6))), (4, .t (.sl true 1 (List.map (eSl true 1 (eSl true 1 vb)) v.1))), (22, .t (vi (c1.Words.length : Int))), (23, .t (vi v.2))], [(1, [vs c1.Name, vi c1.Params, .sl false 1 (List.map vi c1.Locals), .sl false 7 (List.map (GIns.enc false) c1.Words)])]⟩) (impl_HoldsAt_l1 c1 r6) _ ([], (0 : Int)) p1 (by simp [q]) ?_
  intro g s1 d8 l4
  obtain ⟨i2, s2⟩ := g
  simp only [impl_HoldsAt_l1] at d8
  try dsimp only
  refine M.zS y ?_
  refine wps_q q ?_
  apply wN
  refine M.seq ?_
  refine M.cI d8 (fun p3 d8 => ?_) fun p4 d8 => ?_
  ·refine M.skip ?_
   refine M.seq ?_
   refine M.block ?_
   refine M.zH y ?_
   iterate 6 refine wps_q q ?_
   obtain ⟨p5, l5, d8⟩ := bS d8
   refine wps_c [(.take, .tmp 28), (.take, .tmp 30), (.take, .const (.bool false))] q (Ent.ok (E := E) (f := 32)) (Con.ok l5) ?_
   refine wps_q q ?_
   obtain ⟨p6, l6, d8⟩ := bS d8
   obtain ⟨e8, e9, i3⟩ := aS l6
   have g0 : List.map (eSl true 1 (eSl true 1 vb)) i2 ++ List.map (eSl true 1 (eSl true 1 vb)) [p5] = List.map (eSl true 1 (eSl true 1 vb)) p6 := app_map (f := (eSl true 1 (eSl true 1 vb))) i3
   simp [eSl, eSl, eSl] at e8 e9 g0
   iterate 2 (refine wps_q q ?_ rfl (by simp [e8, e9, g0]; rfl))
   apply wN
   refine M.zH y ?_
   iterate 2 refine wps_q q ?_
   apply wN
   cases d8
   exact ⟨_, [], rfl, by simp [q]⟩
  refine M.exit ?_
  have p7 := congrArg some (l4 _ (Option.some.inj d8).symm)
  cases p7
  exact p2 _ () [] trivial (by simp [q])
 refine M.zS y ?_
 refine wps_q q ?_
 obtain ⟨c5, l7, h⟩ := bS h
 refine wps_c [(.take, .tmp 35)] q ent33 (Con.ok l7) ?_
 refine wps_q q ?_
 apply wN
 obtain ⟨h0, l8, h⟩ := bS h
 refine M.seqC [4] [] (fun _ : Unit => ⟨[(4, .t (.sl true 1 (List.map (eSl true 1 (eSl true 1 vb)) h0)))], []⟩) (fun _ => True) (fun _ _ => ?_) fun s3 l9 => ?_
 rotate_left
 ·refine M.zS y ?_
  refine wps_q q ?_
  apply wN
  refine M.block ?_
  refine M.loopO [] [1, 3, 4, 5, 6] [1] (fun v : (List (List (List Bool))) × Bool => ⟨[(1, .ref (.box 1) 0 []), (3, .t (.sl true 3 (List.map GLoan.enc r6))), (4, .t (.sl true 1 (List.map (eSl true 1 (eSl true 1 vb)) v.1))), (5, .t (.sl true 1 (List.map vb c5))), (6, .t (vb v.2))], [(1, [vs c1.Name, vi c1.Params, .sl false 1 (List.map vi c1.Locals), .sl false 7 (List.map (GIns.enc false) c1.Words)])]⟩) (impl_HoldsAt_l2 c1 r6 c5) _ (e7, true) l8 (by simp [q]) ?_
  intro g s4 i1 m0
  obtain ⟨i4, m1⟩ := g
  simp only [impl_HoldsAt_l2] at i1
  try dsimp only
  refine M.seq ?_
  refine M.zS y ?_
  refine wps_q q ?_
  apply wN
  refine M.cI i1 (fun p8 i1 => ?_) fun p9 i1 => ?_
  ·iterate 12 first|refine wps_q q ?_|apply wN|refine M.zS y ?_|refine M.skip ?_|refine M.block ?_
   refine M.loopO [] [1, 3, 4, 5, 6, 39, 40, 41] [1] (fun v : (List (List (List Bool))) × Bool × Int => ⟨[(1, .ref (.box 1) 0 []), (3, .t (.sl true 3 (List.map GLoan.enc r6))), (4, .t (.sl true 1 (List.map (eSl true 1 (eSl true 1 vb)) v.1))), (5, .t (.sl true 1 (List.map vb c5))), (6, .t (vb v.2.1)), (39, .t (.sl false 7 (List.map (GIns.enc false) c1.Words))), (40, .t (vi (c1.Words.length : Int))), (41, .t (vi v.2.2))], [(1, [vs c1.Name, vi c1.Params, .sl false 1 (List.map vi c1.Locals), .sl false 7 (List.map (GIns.enc false) c1.Words)])]⟩) (impl_HoldsAt_l3 c1 r6 c5) _ (i4, false, (0 : Int)) i1 (by simp [q]) ?_
   intro g s5 d9 m2
   obtain ⟨i5, h1, c6⟩ := g
   simp only [impl_HoldsAt_l3] at d9
   try dsimp only
   refine M.zS y ?_
   refine wps_q q ?_
   apply wN
   refine M.seq ?_
   refine M.cI d9 (fun q0 d9 => ?_) fun q1 d9 => ?_
   ·refine M.skip ?_
    obtain ⟨⟨h2, e0⟩, a0, d9⟩ := bS d9
    try dsimp only at d9
    refine M.seqC [1, 3, 4, 5, 6, 39, 40, 41] [1] (fun _ : Unit => ⟨[(1, .ref (.box 1) 0 []), (3, .t (.sl true 3 (List.map GLoan.enc r6))), (4, .t (.sl true 1 (List.map (eSl true 1 (eSl true 1 vb)) h2))), (5, .t (.sl true 1 (List.map vb c5))), (6, .t (vb e0)), (39, .t (.sl false 7 (List.map (GIns.enc false) c1.Words))), (40, .t (vi (c1.Words.length : Int))), (41, .t (vi c6))], [(1, [vs c1.Name, vi c1.Params, .sl false 1 (List.map vi c1.Locals), .sl false 7 (List.map (GIns.enc false) c1.Words)])]⟩) (fun _ => True) (fun _ _ => ?_) fun s6 i6 => ?_
    rotate_left
    ·refine M.block ?_
     refine M.zS y ?_
     refine wps_q q ?_
     obtain ⟨q2, m3, a0⟩ := bS a0
     obtain ⟨i7, i8, i9, j0⟩ := gS m3
     iterate 5 (refine wps_q q ?_ rfl (by simp [i7, i8, i9, j0]; rfl))
     apply wN
     refine M.seq ?_
     refine M.zS y ?_
     iterate 2 refine wps_q q ?_
     obtain ⟨s7, m4, a0⟩ := bS a0
     obtain ⟨j1, j2, j3, j4⟩ := gS m4
     iterate 3 (refine wps_q q ?_ rfl (by simp [j1, j2, j3, j4]; rfl))
     apply wN
     refine M.cI a0 (fun q3 a0 => ?_) fun q4 a0 => ?_
     ·refine M.exit ?_
      cases a0
      exact i6 _ () [] trivial (by simp [q])
     refine M.skip ?_
     refine M.seq ?_
     obtain ⟨s8, m5, a0⟩ := bS a0
     obtain ⟨a8, a9, b0, b1⟩ := gS m5
     refine M.dT rfl (y _ rfl) (en 51 [.t (GIns.enc false q2), .t (vi c6), .al (.slot 3) 0 [] none, .al (.slot 4) 0 [] none, .t (vi c6), .ref (.slot 4) 0 [(c6.toNat, 0)], .al (.slot 4) 0 [(c6.toNat, 0)] none]) [[], [], [], [], [], [3, 4], [3, 4, 5], rg 0 7, rg 0 8] (by simp) (by simp) (by simp [look]) rfl rfl rfl ?_ fun K u => ?_
     ·refine ⟨?_, ?_, ?_, ?_, ?_, ?_, ?_, trivial⟩
      all_goals (intro τ hbx hb hd hf K u; try simp [vsAt] at hd; simp [vsAt] at hf; first | (refine wC rfl fun K' w => ?_; simp [q, hbx, hb, hd, hf, a8, a9, b0, b1]; exact w _ (wN (u _ (by simp [vsAt, hbx, a8, a9, b0, b1])))))
     obtain ⟨c4, m6, a0⟩ := bS a0
     refine wps_c [(.take, .tmp 51), (.take, .tmp 52), (.bor, .tmp 53), (.bor, .tmp 57)] q ent34 (Con.ok m6) ?_ rfl rfl (by simp [a8, a9, b0, b1]; rfl)
     refine wps_q q ?_ rfl (by simp [a8, a9, b0, b1]; rfl)
     apply wN; apply u
     refine M.zS y ?_
     iterate 2 refine wps_q q ?_
     obtain ⟨c2, m7, a0⟩ := bS a0
     refine wps_c [(.take, .tmp 59), (.take, .tmp 60)] q (Ent.ok (E := E) (f := 35)) (Con.ok m7) ?_
     iterate 2 refine wps_q q ?_
     apply wN
     refine M.block ?_
     refine M.loopO [] [1, 3, 4, 5, 6, 9, 39, 40, 41, 61, 62, 63] [1] (fun v : (List (List (List Bool))) × Bool × Int => ⟨[(1, .ref (.box 1) 0 []), (3, .t (.sl true 3 (List.map GLoan.enc r6))), (4, .t (.sl true 1 (List.map (eSl true 1 (eSl true 1 vb)) v.1))), (5, .t (.sl true 1 (List.map vb c5))), (6, .t (vb v.2.1)), (9, .t (.sl true 1 (List.map (eSl true 1 vb) c4))), (39, .t (.sl false 7 (List.map (GIns.enc false) c1.Words))), (40, .t (vi (c1.Words.length : Int))), (41, .t (vi c6)), (61, .t (.sl true 1 (List.map vi c2))), (62, .t (vi (c2.length : Int))), (63, .t (vi v.2.2))], [(1, [vs c1.Name, vi c1.Params, .sl false 1 (List.map vi c1.Locals), .sl false 7 (List.map (GIns.enc false) c1.Words)])]⟩) (impl_HoldsAt_l4 c4 c2) _ (i5, h1, (0 : Int)) a0 (by simp [q]) ?_
     intro g s9 e1 m8
     obtain ⟨j5, h3, j6⟩ := g
     simp only [impl_HoldsAt_l4] at e1
     try dsimp only
     refine M.zS y ?_
     refine wps_q q ?_
     apply wN
     refine M.seq ?_
     refine M.cI e1 (fun q5 e1 => ?_) fun q6 e1 => ?_
     ·refine M.skip ?_
      obtain ⟨⟨h4, e2⟩, h5, e1⟩ := bS e1
      try dsimp only at e1
      refine M.seqC [1, 3, 4, 5, 6, 9, 39, 40, 41, 61, 62, 63] [1] (fun _ : Unit => ⟨[(1, .ref (.box 1) 0 []), (3, .t (.sl true 3 (List.map GLoan.enc r6))), (4, .t (.sl true 1 (List.map (eSl true 1 (eSl true 1 vb)) h4))), (5, .t (.sl true 1 (List.map vb c5))), (6, .t (vb e2)), (9, .t (.sl true 1 (List.map (eSl true 1 vb) c4))), (39, .t (.sl false 7 (List.map (GIns.enc false) c1.Words))), (40, .t (vi (c1.Words.length : Int))), (41, .t (vi c6)), (61, .t (.sl true 1 (List.map vi c2))), (62, .t (vi (c2.length : Int))), (63, .t (vi j6))], [(1, [vs c1.Name, vi c1.Params, .sl false 1 (List.map vi c1.Locals), .sl false 7 (List.map (GIns.enc false) c1.Words)])]⟩) (fun _ => True) (fun _ _ => ?_) fun t0 m9 => ?_
      rotate_left
      ·refine M.block ?_
       refine M.zS y ?_
       obtain ⟨h6, n0, h5⟩ := bS h5
       obtain ⟨j7, j8, j9, k0⟩ := gS n0
       iterate 3 (refine wps_q q ?_ rfl (by simp [j7, j8, j9, k0]; rfl))
       iterate 7 first|refine wps_q q ?_|apply wN|refine M.zS y ?_|refine M.block ?_
       refine M.loopO [] [1, 3, 4, 5, 6, 9, 11, 39, 40, 41, 61, 62, 63, 68, 69] [1] (fun v : (List (List (List Bool))) × Bool × Int => ⟨[(1, .ref (.box 1) 0 []), (3, .t (.sl true 3 (List.map GLoan.enc r6))), (4, .t (.sl true 1 (List.map (eSl true 1 (eSl true 1 vb)) v.1))), (5, .t (.sl true 1 (List.map vb c5))), (6, .t (vb v.2.1)), (9, .t (.sl true 1 (List.map (eSl true 1 vb) c4))), (11, .t (vi h6)), (39, .t (.sl false 7 (List.map (GIns.enc false) c1.Words))), (40, .t (vi (c1.Words.length : Int))), (41, .t (vi c6)), (61, .t (.sl true 1 (List.map vi c2))), (62, .t (vi (c2.length : Int))), (63, .t (vi j6)), (68, .t (vi (c4.length : Int))), (69, .t (vi v.2.2))], [(1, [vs c1.Name, vi c1.Params, .sl false 1 (List.map vi c1.Locals), .sl false 7 (List.map (GIns.enc false) c1.Words)])]⟩) (impl_HoldsAt_l5 c4 h6) _ (j5, h3, (0 : Int)) h5 (by simp [q]) ?_
       intro g t1 e3 n1
       obtain ⟨k1, h7, e4⟩ := g
       simp only [impl_HoldsAt_l5] at e3
       try dsimp only
       refine M.zS y ?_
       refine wps_q q ?_
       apply wN
       refine M.seq ?_
       refine M.cI e3 (fun q7 e3 => ?_) fun q8 e3 => ?_
       ·refine M.skip ?_
        obtain ⟨⟨h8, e5⟩, h9, e3⟩ := bS e3
        try dsimp only at e3
        refine M.seqC [1, 3, 4, 5, 6, 9, 11, 39, 40, 41, 61, 62, 63, 68, 69] [1] (fun _ : Unit => ⟨[(1, .ref (.box 1) 0 []), (3, .t (.sl true 3 (List.map GLoan.enc r6))), (4, .t (.sl true 1 (List.map (eSl true 1 (eSl true 1 vb)) h8))), (5, .t (.sl true 1 (List.map vb c5))), (6, .t (vb e5)), (9, .t (.sl true 1 (List.map (eSl true 1 vb) c4))), (11, .t (vi h6)), (39, .t (.sl false 7 (List.map (GIns.enc false) c1.Words))), (40, .t (vi (c1.Words.length : Int))), (41, .t (vi c6)), (61, .t (.sl true 1 (List.map vi c2))), (62, .t (vi (c2.length : Int))), (63, .t (vi j6)), (68, .t (vi (c4.length : Int))), (69, .t (vi e4))], [(1, [vs c1.Name, vi c1.Params, .sl false 1 (List.map vi c1.Locals), .sl false 7 (List.map (GIns.enc false) c1.Words)])]⟩) (fun _ => True) (fun _ _ => ?_) fun t2 n2 => ?_
        rotate_left
        ·iterate 8 first|refine wps_q q ?_|apply wN|refine M.zS y ?_|refine M.block ?_
         obtain ⟨n3, n4, h9⟩ := bS h9
         obtain ⟨g1, g2, g3, g4⟩ := gS n4
         iterate 4 (refine wps_q q ?_ rfl (by simp [g1, g2, g3, g4]; rfl))
         apply wN
         refine M.block ?_
         refine M.loopO [] [1, 3, 4, 5, 6, 9, 11, 12, 39, 40, 41, 61, 62, 63, 68, 69, 75, 76, 77] [1] (fun v : (List (List (List Bool))) × Bool × Int => ⟨[(1, .ref (.box 1) 0 []), (3, .t (.sl true 3 (List.map GLoan.enc r6))), (4, .t (.sl true 1 (List.map (eSl true 1 (eSl true 1 vb)) v.1))), (5, .t (.sl true 1 (List.map vb c5))), (6, .t (vb v.2.1)), (9, .t (.sl true 1 (List.map (eSl true 1 vb) c4))), (11, .t (vi h6)), (12, .t (vi e4)), (39, .t (.sl false 7 (List.map (GIns.enc false) c1.Words))), (40, .t (vi (c1.Words.length : Int))), (41, .t (vi c6)), (61, .t (.sl true 1 (List.map vi c2))), (62, .t (vi (c2.length : Int))), (63, .t (vi j6)), (68, .t (vi (c4.length : Int))), (69, .t (vi e4)), (75, .al (.slot 9) 0 [(e4.toNat, 0)] none), (76, .t (vi (n3.length : Int))), (77, .t (vi v.2.2))], [(1, [vs c1.Name, vi c1.Params, .sl false 1 (List.map vi c1.Locals), .sl false 7 (List.map (GIns.enc false) c1.Words)])]⟩) (impl_HoldsAt_l6 h6 e4 n3) _ (k1, h7, (0 : Int)) h9 (by simp [q]) ?_
         intro g t3 a1 n5
         obtain ⟨g5, i0, n6⟩ := g
         simp only [impl_HoldsAt_l6] at a1
         try dsimp only
         refine M.zS y ?_
         refine wps_q q ?_
         apply wN
         refine M.seq ?_
         refine M.cI a1 (fun q9 a1 => ?_) fun r1 a1 => ?_
         ·refine M.skip ?_
          refine M.seq ?_
          refine M.block ?_
          refine M.zS y ?_
          refine wps_q q ?_
          obtain ⟨t4, n7, a1⟩ := bS a1
          obtain ⟨k2, k3, k4, k5⟩ := gS n7
          iterate 4 (refine wps_q q ?_ rfl (by simp [g1, g2, g3, g4, k2, k3, k4, k5]; rfl))
          apply wN
          obtain ⟨r3, a2, a1⟩ := bS a1
          refine M.seqRC rfl (y _ rfl) [1, 3, 4, 5, 6, 9, 11, 12, 13, 39, 40, 41, 61, 62, 63, 68, 69, 75, 76, 77, 95] [1] (fun _ : Unit => ⟨[(1, .ref (.box 1) 0 []), (3, .t (.sl true 3 (List.map GLoan.enc r6))), (4, .t (.sl true 1 (List.map (eSl true 1 (eSl true 1 vb)) g5))), (5, .t (.sl true 1 (List.map vb c5))), (6, .t (vb i0)), (9, .t (.sl true 1 (List.map (eSl true 1 vb) c4))), (11, .t (vi h6)), (12, .t (vi e4)), (13, .t (vi n6)), (39, .t (.sl false 7 (List.map (GIns.enc false) c1.Words))), (40, .t (vi (c1.Words.length : Int))), (41, .t (vi c6)), (61, .t (.sl true 1 (List.map vi c2))), (62, .t (vi (c2.length : Int))), (63, .t (vi j6)), (68, .t (vi (c4.length : Int))), (69, .t (vi e4)), (75, .al (.slot 9) 0 [(e4.toNat, 0)] none), (76, .t (vi (n3.length : Int))), (77, .t (vi n6)), (95, .t (vb r3))], [(1, [vs c1.Name, vi c1.Params, .sl false 1 (List.map vi c1.Locals), .sl false 7 (List.map (GIns.enc false) c1.Words)])]⟩) (fun _ => True) (fun _ _ => ?_) fun t5 k6 => ?_
          rotate_left
          ·refine wps_q q ?_
           refine wps_q q ?_
           rcases ite_or a2 with ⟨c3, a2⟩ | ⟨e6, a2⟩
           ·have a3 := c3
            try simp at a3
            iterate 2 (refine wps_q q ?_ rfl (by simp [c3, a3]; rfl))
            obtain ⟨t6, n8, a2⟩ := bS a2
            obtain ⟨b2, b3, b4, b5⟩ := gS n8
            iterate 3 (refine wps_q q ?_ rfl (by simp [c3, a3, b2, b3, b4, b5]; rfl))
            obtain ⟨t7, n9, a2⟩ := bS a2
            obtain ⟨c7, c8, c9, d0⟩ := gS n9
            iterate 3 (refine wps_q q ?_ rfl (by simp [c3, a3, b2, b3, b4, b5, c7, c8, c9, d0]; rfl))
            obtain ⟨t8, o0, a2⟩ := bS a2
            obtain ⟨g6, g7, g8, g9⟩ := gS o0
            iterate 4 (refine wps_q q ?_ rfl (by simp [c3, a3, b2, b3, b4, b5, c7, c8, c9, d0, g6, g7, g8, g9]; rfl))
            refine wN ?_
            cases a2
            exact k6 _ () [] trivial (by simp [q, c3, a3, b2, b3, b4, b5, c7, c8, c9, d0, g6, g7, g8, g9])
           have b6 := e6
           try simp at b6
           iterate 11 (refine wO fun K z => ?_; simp [q, e6, b6]; apply z)
           refine wps_q q ?_ rfl (by simp [e6, b6]; rfl)
           refine wN ?_
           cases a2
           exact k6 _ () [] trivial (by simp [q, e6, b6])
          refine M.cI a1 (fun r4 a1 => ?_) fun r5 a1 => ?_
          ·refine M.zS y ?_
           iterate 2 refine wps_q q ?_
           obtain ⟨r7, o1, a1⟩ := bS a1
           obtain ⟨b7, b8, b9, c0⟩ := gS o1
           iterate 3 (refine wps_q q ?_ rfl (by simp [b7, b8, b9, c0]; rfl))
           obtain ⟨o2, k7, a1⟩ := bS a1
           obtain ⟨a4, a5, a6, a7⟩ := gS k7
           iterate 3 (refine wps_q q ?_ rfl (by simp [b7, b8, b9, c0, a4, a5, a6, a7]; rfl))
           obtain ⟨r8, k8, a1⟩ := bS a1
           obtain ⟨d1, d2, d3, d4⟩ := gS k8
           refine wps_q q ?_ rfl (by simp [b7, b8, b9, c0, a4, a5, a6, a7, d1, d2, d3, d4]; rfl)
           obtain ⟨k9, l0, a1⟩ := bZ a1
           have d5 : (List.map vb o2).set n6.toNat (vb true) = List.map vb k9 := set_map (f := vb) l0
           try simp only [Int.toNat_natCast] at d5
           obtain ⟨l1, l2, a1⟩ := bZ a1
           have d6 : (List.map (eSl true 1 vb) r7).set e4.toNat (.sl true 1 (List.map vb k9)) = List.map (eSl true 1 vb) l1 := set_map (f := (eSl true 1 vb)) l2
           try simp only [Int.toNat_natCast] at d6
           obtain ⟨o3, l3, a1⟩ := bZ a1
           have d7 : (List.map (eSl true 1 (eSl true 1 vb)) g5).set h6.toNat (.sl true 1 (List.map (eSl true 1 vb) l1)) = List.map (eSl true 1 (eSl true 1 vb)) o3 := set_map (f := (eSl true 1 (eSl true 1 vb))) l3
           try simp only [Int.toNat_natCast] at d7
           refine wps_q q ?_ rfl (by simp [b7, b8, b9, c0, a4, a5, a6, a7, d1, d2, d3, d4, d5, d6, d7]; rfl)
           apply wN
           refine M.zH y ?_
           refine wps_q q ?_
           apply wN
           refine M.zH y ?_
           iterate 2 refine wps_q q ?_
           apply wN
           cases a1
           exact ⟨_, [], rfl, by simp [q]⟩
          refine M.skip ?_
          refine M.zH y ?_
          iterate 2 refine wps_q q ?_
          apply wN
          cases a1
          exact ⟨_, [], rfl, by simp [q]⟩
         refine M.exit ?_
         have o4 := congrArg some (n5 _ (Option.some.inj a1).symm)
         cases o4
         exact n2 _ () [] trivial (by simp [q])
        refine M.zH y ?_
        iterate 2 refine wps_q q ?_
        apply wN
        cases e3
        exact ⟨_, [], rfl, by simp [q]⟩
       refine M.exit ?_
       have o5 := congrArg some (n1 _ (Option.some.inj e3).symm)
       cases o5
       exact m9 _ () [] trivial (by simp [q])
      refine M.zH y ?_
      iterate 2 refine wps_q q ?_
      apply wN
      cases e1
      exact ⟨_, [], rfl, by simp [q]⟩
     refine M.exit ?_
     have o6 := congrArg some (m8 _ (Option.some.inj e1).symm)
     cases o6
     exact i6 _ () [] trivial (by simp [q])
    refine M.zH y ?_
    iterate 2 refine wps_q q ?_
    apply wN
    cases d9
    exact ⟨_, [], rfl, by simp [q]⟩
   refine M.exit ?_
   have o7 := congrArg some (m2 _ (Option.some.inj d9).symm)
   cases o7
   exact ⟨_, [], rfl, by simp [q]⟩
  refine M.exit ?_
  have o8 := congrArg some (m0 _ (Option.some.inj i1).symm)
  cases o8
  exact l9 _ () [] trivial (by simp [q])
 refine M.zS y ?_
 iterate 2 refine wps_q q ?_
 apply wN
 cases h
 refine M.ret ?_
 simp [thenS, iB, res9]
instance e9_ : Ent E 9 := ⟨ent9⟩
end Go.Proofs.T
