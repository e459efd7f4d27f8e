import Derived.Test.YteimlhpimngjfaaDoorW1
import Derived.Test.YteimlhpimngjfaaDoorW3
import Derived.Test.YteimlhpimngjfaaDoorW5
set_option linter.unusedVariables false
set_option linter.unusedSimpArgs false
set_option linter.unusedVariables false
set_option linter.unusedSimpArgs false
set_option maxHeartbeats 8000000
set_option maxRecDepth 100000
namespace Go.Proofs.T
open Go.OM
theorem res25 : Tryd.f25.results.toList = [.tmp 6] := rfl
theorem ent25 : Enters E.P 25 := eO Tryd.func25 (by simp [Tryd.f25]) rfl
instance c25_ (c1 : GCode) (a2 : List GLoan) (a1 : List Bool) {r0 : List (List (List Bool))} : Con E 25 (spec_l15Holds c1 a2 a1 = some r0) [.val (GCode.enc false c1), .val (.sl false 3 (List.map GLoan.enc a2)), .val (.sl false 1 (List.map vb a1))] [.sl true 1 (List.map (eSl true 1 (eSl true 1 vb)) r0)] [] := Con.mk fun h => by
 refine ok_of_bodyB (fn := Tryd.f25) Tryd.func25 rfl (by simp [Tryd.f25]) fun C hN hP hB => ?_
 have e3 : C.PB = [] := hB rfl
 have y : ∀ l, pinK [] l = true → pinB C.pin l = true := pO (by rw [hP]; rfl)
 have q : C.N = 134 := hN
 clear hN
 unfold spec_l15Holds at h
 refine M.zS y ?_
 iterate 2 refine wps_q q ?_
 apply wN
 refine M.thaw 3 e3 (by rw [q]; decide) fun K z => ?_; simp [q]; apply z
 refine M.zS y ?_
 iterate 2 refine wps_q q ?_
 apply wN
 obtain ⟨a0, g5, h⟩ := bS h
 refine M.seqC [1, 2, 3, 7] [] (fun _ : Unit => ⟨[(1, .t (.sl false 3 (List.map GLoan.enc a2))), (2, .t (.sl false 1 (List.map vb a1))), (3, .rop [vs c1.Name, vi c1.Params, .sl false 1 (List.map vi c1.Locals), .sl false 7 (List.map (GIns.enc false) c1.Words)] 0), (7, .t (.sl true 1 (List.map (eSl true 1 (eSl true 1 vb)) a0)))], []⟩) (fun _ => True) (fun _ _ => ?_) fun K5 g6 => ?_
 rotate_left
 ·refine M.zS y ?_
  refine wps_q q ?_
  apply wN
  refine M.block ?_
  refine M.loopO [] [1, 2, 3, 7, 8] [] (fun v : (List (List (List Bool))) × Int => ⟨[(1, .t (.sl false 3 (List.map GLoan.enc a2))), (2, .t (.sl false 1 (List.map vb a1))), (3, .rop [vs c1.Name, vi c1.Params, .sl false 1 (List.map vi c1.Locals), .sl false 7 (List.map (GIns.enc false) c1.Words)] 0), (7, .t (.sl true 1 (List.map (eSl true 1 (eSl true 1 vb)) v.1))), (8, .t (vi v.2))], []⟩) (holdsM1 c1 a2) _ ([], (0 : Int)) g5 (by simp [q]) ?_
  intro g n0 h9 g7
  obtain ⟨g8, i8⟩ := g
  simp only [holdsM1] at h9
  try dsimp only
  refine M.seq ?_
  refine M.zS y ?_
  iterate 5 refine wps_q q ?_
  apply wN
  refine M.cI h9 (fun e4 h9 => ?_) fun e5 h9 => ?_
  ·refine M.skip ?_
   refine M.seq ?_
   refine M.block ?_
   refine M.zH y ?_
   iterate 6 refine wps_q q ?_
   obtain ⟨k3, g9, h9⟩ := bS h9
   refine wps_c [(.take, .tmp 28), (.take, .tmp 30), (.take, .const (.bool false))] q (Ent.ok (E := E) (f := 54)) (Con.ok g9) ?_
   refine wps_q q ?_
   obtain ⟨k4, h0, h9⟩ := bS h9
   obtain ⟨d0, d1, e7⟩ := aS h0
   have d2 : List.map (eSl true 1 (eSl true 1 vb)) g8 ++ List.map (eSl true 1 (eSl true 1 vb)) [k3] = List.map (eSl true 1 (eSl true 1 vb)) k4 := app_map (f := (eSl true 1 (eSl true 1 vb))) e7
   simp [eSl, eSl, eSl] at d0 d1 d2
   iterate 2 (refine wps_q q ?_ rfl (by simp [d0, d1, d2]; rfl))
   apply wN
   refine M.zH y ?_
   iterate 3 refine wps_q q ?_
   apply wN
   cases h9
   exact ⟨_, [], rfl, by simp [q]⟩
  refine M.exit ?_
  have b4 := congrArg some (g7 _ (Option.some.inj h9).symm)
  cases b4
  exact g6 _ () [] trivial (by simp [q])
 refine M.zS y ?_
 refine wps_q q ?_
 apply wN
 refine M.seq ?_
 refine M.zS y ?_
 refine wps_q q ?_
 apply wN
 refine M.rows (n := 7) (ts := a0) [1, 2, 3, 7] rfl rfl (by intro e he; simp only [List.mem_cons, List.mem_nil_iff, or_false] at he; rcases he with rfl | rfl | rfl | rfl | rfl | rfl <;> first | exact .inl ⟨_, rfl⟩ | exact .inr ⟨_, _, rfl⟩) e3 hP (by simp) fun C2 H hC hpin hPK n1 => ?_
 have a3 : C2.N = 134 := hC.trans q
 rw [q] at hPK ⊢
 have a4 : ∀ l, pinK [1, 2, 3, 7] l = true → pinB C2.pin l = true := pO hpin
 simp only [put]
 simp only [Nat.reduceEqDiff, if_false, if_true, reduceIte]
 refine M.block ?_
 refine M.loopJ (fun v : (List (List (List Bool))) × Bool × Int => ⟨[(1, .t (.sl false 3 (List.map GLoan.enc a2))), (2, .t (.sl false 1 (List.map vb a1))), (3, .rop [vs c1.Name, vi c1.Params, .sl false 1 (List.map vi c1.Locals), .sl false 7 (List.map (GIns.enc false) c1.Words)] 0), (7, .t (.sl false 1 (hdT H 0 a0))), (9, .t (vb v.2.1)), (10, .t (vi v.2.2))], bxR 134 v.1.flatten⟩) (fun v => shp v.1 = shp a0) (holdsM2 c1 a2 a1) _ (a0, true, 0) h rfl Conv.refl ?_
 rintro ⟨out, sm, round⟩ s2 hSh h2 k0
 simp only [holdsM2] at h2
 try dsimp only at hSh ⊢
 refine M.seq ?_
 cases sm with
 | false =>
  simp only [Bool.false_eq_true, if_false] at h2
  refine M.sR rfl (a4 _ rfl) fun K u => ?_
  iterate 2 (refine wC rfl fun K z => ?_; simp [a3]; apply z)
  iterate 13 (first | (refine wC rfl fun K z => ?_; simp [a3]; apply z) | (refine wO fun K z => ?_; simp [a3]; apply z))
  refine wC rfl fun K z => ?_; simp [a3]; apply z
  apply wN; apply u
  refine M.condF (by simp) ?_
  refine M.exit ?_
  have b4 := congrArg some (k0 _ (Option.some.inj h2).symm)
  cases b4
  show RowsPost _ _ _ _ _ _ _ _
  refine ⟨_, [], rfl, shp_len hSh, shp_flat hSh, by simp, ?_⟩
  simp only [thenS]
  refine M.zS y ?_
  iterate 2 refine wps_q q ?_
  apply wN
  refine M.ret ?_
  simp [thenS, iB, res25]
 | true =>
  simp only [if_true] at h2
  refine M.sR rfl (a4 _ rfl) fun K u => ?_
  iterate 16 (refine wC rfl fun K z => ?_; simp [a3]; apply z)
  apply wN; apply u
  rcases ite_or h2 with ⟨k5, h2⟩ | ⟨k6, h2⟩
  ·refine M.cT' (by simp) k5 ?_
   refine M.skip ?_
   show M E C2 _ _ _
   obtain ⟨v3, k7, h2⟩ := bS h2
   refine M.seqJ (fun _ : Unit => ⟨[(1, .t (.sl false 3 (List.map GLoan.enc a2))), (2, .t (.sl false 1 (List.map vb a1))), (3, .rop [vs c1.Name, vi c1.Params, .sl false 1 (List.map vi c1.Locals), .sl false 7 (List.map (GIns.enc false) c1.Words)] 0), (7, .t (.sl false 1 (hdT H 0 a0))), (9, .t (vb v3.2)), (10, .t (vi round))], bxR 134 v3.1.flatten⟩) (fun _ => shp v3.1 = shp a0) (fun _ k8 => ?_) fun K3 k9 => ?_
   ·refine M.reg rfl (a4 _ rfl) fun K u => ?_
    iterate 3 (refine wC rfl fun K z => ?_; simp [a3]; apply z)
    apply wN; apply u
    cases h2
    exact ⟨_, rfl, k8, Conv.rows [1, 2, 3, 7, 9, 10] (by decide) rfl rfl⟩
   refine M.block ?_
   refine M.sR rfl (a4 _ rfl) fun K u => ?_
   refine wC rfl fun K z => ?_; simp [a3]; apply z
   apply wN; apply u
   refine M.sR rfl (a4 _ rfl) fun K u => ?_
   refine wC rfl fun K z => ?_; simp [a3]; apply z
   apply wN; apply u
   refine M.block ?_
   refine M.loopJ (fun v : (List (List (List Bool))) × Bool × Int => ⟨[(1, .t (.sl false 3 (List.map GLoan.enc a2))), (2, .t (.sl false 1 (List.map vb a1))), (3, .rop [vs c1.Name, vi c1.Params, .sl false 1 (List.map vi c1.Locals), .sl false 7 (List.map (GIns.enc false) c1.Words)] 0), (7, .t (.sl false 1 (hdT H 0 a0))), (9, .t (vb v.2.1)), (10, .t (vi round)), (11, .t (vi v.2.2))], bxR 134 v.1.flatten⟩) (fun v => shp v.1 = shp a0) (holdsM3 c1 a2 a1) _ (out, false, 0) k7 hSh (Conv.rows [1, 2, 3, 7, 9, 10, 11] (by decide) rfl rfl) ?_
   clear hSh h2
   rintro ⟨out, sm, i⟩ s3 hSh h3 l0
   simp only [holdsM3] at h3
   try dsimp only at hSh ⊢
   refine M.seq ?_
   refine M.sR rfl (a4 _ rfl) fun K u => ?_
   iterate 5 (refine wC rfl fun K z => ?_; simp [a3]; apply z)
   apply wN; apply u
   rcases ite_or h3 with ⟨l1, h3⟩ | ⟨l2, h3⟩
   ·refine M.cT' (by simp) l1 ?_
    refine M.skip ?_
    show M E C2 _ _ _
    obtain ⟨rb, hrb, h3⟩ := bS h3
    obtain ⟨hra, h1, hrc, hrd⟩ := gS hrb
    refine M.seq ?_
    refine M.block ?_
    refine M.seq ?_
    refine M.sR rfl (a4 _ rfl) fun K u => ?_
    iterate 2 (refine wC rfl fun K z => ?_; simp [a3]; apply z)
    iterate 3 (refine wC rfl fun K z => ?_; simp [a3, hra, h1, hrc, hrd]; apply z)
    apply wN; apply u
    rcases ite_or h3 with ⟨l3, h3⟩ | ⟨l4, h3⟩
    ·refine M.cT' (by simp) l3 ?_
     refine M.exit ?_
     show M E C2 _ _ _
     refine M.reg rfl (a4 _ rfl) fun K u => ?_
     iterate 3 (refine wC rfl fun K z => ?_; simp [a3]; apply z)
     apply wN; apply u
     cases h3
     exact ⟨_, rfl, hSh, Conv.rows [1, 2, 3, 7, 9, 10, 11] (by decide) rfl rfl⟩
    refine M.cF' (by simp) l4 ?_
    refine M.skip ?_
    show M E C2 _ _ _
    obtain ⟨x9, k1, h3⟩ := bS h3
    obtain ⟨d3, d4, d5, d6⟩ := gS k1
    obtain ⟨a9, k2, h3⟩ := bS h3
    obtain ⟨d7, i0, d8, i1⟩ := gS k2
    obtain ⟨behind, hbh, h3⟩ := bS h3
    obtain ⟨u9, c9, b5⟩ := shp_get hSh d8
    have hrow : (hdT H 0 a0)[i.toNat]? = some (.sl false 1 (List.map (Row.enc H) (rowsAt out i))) := by
     rw [hdT_get H a0 0 _ _ c9, b5, ← shp_take hSh]
     simp only [rowsAt, hdR, d8, Option.getD_some, List.map_map, Nat.zero_add]; rfl
    have a5 : ∀ hl : i.toNat < (hdT H 0 a0).length, (hdT H 0 a0)[i.toNat]'hl = .sl false 1 (List.map (Row.enc H) (rowsAt out i)) := fun hl => (List.getElem?_eq_some_iff.1 hrow).2
    have hlt : i < ((hdT H 0 a0).length : Int) := by rw [hdT_len]; have := (List.getElem?_eq_some_iff.1 c9).1; omega
    refine M.seq ?_
    refine M.dT rfl (a4 _ rfl) [(64, .t (.sl false 3 (List.map GLoan.enc a2))), (65, .rop [vs c1.Name, vi c1.Params, .sl false 1 (List.map vi c1.Locals), .sl false 7 (List.map (GIns.enc false) c1.Words)] 3), (66, .t (.sl false 7 (List.map (GIns.enc false) c1.Words))), (67, .t (vi i)), (68, .rop [vi x9.Op, vi x9.A, vi x9.B, vi x9.C, vi x9.Num, vs x9.Name, .sl false 1 (List.map vi x9.Args)] 0), (69, .t (GIns.enc false x9)), (70, .t (vi i)), (71, .t (.sl false 1 (hdT H 0 a0))), (72, .t (vi i)), (73, .rop [.sl false 1 (List.map (Row.enc H) (rowsAt out i))] 0), (74, .t (.sl false 1 (List.map (Row.enc H) (rowsAt out i))))] [[], [], [1], [], [1, 2, 3], rg 1 4, [], [], [], [7, 8], [7, 8, 9], rg 0 11, rg 0 12] (by simp) (by simp) (by simp [look]) rfl rfl rfl ?_ fun K u => ?_
    ·refine ⟨?_, ?_, ?_, ?_, ?_, ?_, ?_, ?_, ?_, ?_, ?_, trivial⟩
     all_goals (intro τ hbx hb hd hf K u; try simp [vsAt] at hd; simp [vsAt] at hf; first | (refine wC rfl fun K' w => ?_; simp [a3, hbx, hb, hd, hf, d3, d4, d5, d6, d7, hrow, a5, hlt]; exact w _ (wN (u _ (by simp [vsAt, hbx, d3, d4, d5, d6, d7, hrow, a5, hlt])))))
    refine wL [(.take, .tmp 64), (.take, .tmp 69), (.take, .tmp 70), (.take, .tmp 74)] rfl rfl ent55 (spec_l15Behind_ok H _ _ _ _ hbh) fun K z => ?_; simp [a3]; apply z
    refine wC rfl fun K z => ?_; simp [a3]; apply z
    apply wN; apply u
    show M E C2 _ _ _
    obtain ⟨list, hli, h3⟩ := bS h3
    refine M.sR rfl (a4 _ rfl) fun K u => ?_
    iterate 2 (refine wC rfl fun K z => ?_; simp [a3]; apply z)
    refine wL [(.take, .tmp 76), (.take, .tmp 77)] rfl rfl (Ent.ok (E := E) (f := 56)) (Con.ok hli) fun K z => ?_; simp [a3]; apply z
    refine wC rfl fun K z => ?_; simp [a3]; apply z
    apply wN; apply u
    refine M.sR rfl (a4 _ rfl) fun K u => ?_
    refine wC rfl fun K z => ?_; simp [a3]; apply z
    apply wN; apply u
    obtain ⟨v4, g5, h3⟩ := bS h3
    refine M.block ?_
    refine M.loopJ (fun v : (List (List (List Bool))) × Bool × Int => ⟨[(1, .t (.sl false 3 (List.map GLoan.enc a2))), (2, .t (.sl false 1 (List.map vb a1))), (3, .rop [vs c1.Name, vi c1.Params, .sl false 1 (List.map vi c1.Locals), .sl false 7 (List.map (GIns.enc false) c1.Words)] 0), (7, .t (.sl false 1 (hdT H 0 a0))), (9, .t (vb v.2.1)), (10, .t (vi round)), (11, .t (vi i)), (12, .t (.sl true 1 (List.map (Row.enc H) behind))), (13, .t (.sl true 1 (List.map vi list))), (14, .t (vi v.2.2))], bxR 134 v.1.flatten⟩) (fun v => shp v.1 = shp a0) (holdsM4 c1 a2 behind list) _ (out, sm, 0) g5 hSh (Conv.rows [1, 2, 3, 7, 9, 10, 11, 12, 13, 14] (by decide) rfl rfl) ?_
    clear hSh a5 hrow hlt c9 b5 k2 d7 i0 d8 i1 k1 d3 d4 d5 d6 hbh hli
    rintro ⟨out, sm, k⟩ s4 hSh h4 l5
    simp only [holdsM4] at h4
    try dsimp only at hSh ⊢
    refine M.seq ?_
    refine M.sR rfl (a4 _ rfl) fun K u => ?_
    iterate 4 (refine wC rfl fun K z => ?_; simp [a3]; apply z)
    apply wN; apply u
    rcases ite_or h4 with ⟨l6, h4⟩ | ⟨i2, h4⟩
    ·refine M.cT' (by simp) l6 ?_
     refine M.skip ?_
     show M E C2 _ _ _
     obtain ⟨v5, l7, h4⟩ := bS h4
     refine M.seqJ (fun _ : Unit => ⟨[(1, .t (.sl false 3 (List.map GLoan.enc a2))), (2, .t (.sl false 1 (List.map vb a1))), (3, .rop [vs c1.Name, vi c1.Params, .sl false 1 (List.map vi c1.Locals), .sl false 7 (List.map (GIns.enc false) c1.Words)] 0), (7, .t (.sl false 1 (hdT H 0 a0))), (9, .t (vb v5.2)), (10, .t (vi round)), (11, .t (vi i)), (12, .t (.sl true 1 (List.map (Row.enc H) behind))), (13, .t (.sl true 1 (List.map vi list))), (14, .t (vi k))], bxR 134 v5.1.flatten⟩) (fun _ => shp v5.1 = shp a0) (fun _ l8 => ?_) fun K5 g6 => ?_
     ·refine M.reg rfl (a4 _ rfl) fun K u => ?_
      iterate 3 (refine wC rfl fun K z => ?_; simp [a3]; apply z)
      apply wN; apply u
      cases h4
      exact ⟨_, rfl, l8, Conv.rows [1, 2, 3, 7, 9, 10, 11, 12, 13, 14] (by decide) rfl rfl⟩
     refine M.block ?_
     refine M.sR rfl (a4 _ rfl) fun K u => ?_
     refine wC rfl fun K z => ?_; simp [a3]; apply z
     apply wN; apply u
     refine M.block ?_
     refine M.loopJ (fun v : (List (List (List Bool))) × Bool × Int => ⟨[(1, .t (.sl false 3 (List.map GLoan.enc a2))), (2, .t (.sl false 1 (List.map vb a1))), (3, .rop [vs c1.Name, vi c1.Params, .sl false 1 (List.map vi c1.Locals), .sl false 7 (List.map (GIns.enc false) c1.Words)] 0), (7, .t (.sl false 1 (hdT H 0 a0))), (9, .t (vb v.2.1)), (10, .t (vi round)), (11, .t (vi i)), (12, .t (.sl true 1 (List.map (Row.enc H) behind))), (13, .t (.sl true 1 (List.map vi list))), (14, .t (vi k)), (15, .t (vi v.2.2))], bxR 134 v.1.flatten⟩) (fun v => shp v.1 = shp a0) (holdsM5 c1 a2 behind list k) _ (out, sm, 0) l7 hSh (Conv.rows [1, 2, 3, 7, 9, 10, 11, 12, 13, 14, 15] (by decide) rfl rfl) ?_
     clear hSh
     rintro ⟨out, sm, j⟩ s5 hSh h5 l9
     simp only [holdsM5] at h5
     try dsimp only at hSh ⊢
     refine M.seq ?_
     refine M.sR rfl (a4 _ rfl) fun K u => ?_
     iterate 5 (refine wC rfl fun K z => ?_; simp [a3]; apply z)
     apply wN; apply u
     rcases ite_or h5 with ⟨i3, h5⟩ | ⟨e4, h5⟩
     ·refine M.cT' (by simp) i3 ?_
      refine M.skip ?_
      show M E C2 _ _ _
      obtain ⟨v6, m0, h5⟩ := bS h5
      refine M.seqJ (fun _ : Unit => ⟨[(1, .t (.sl false 3 (List.map GLoan.enc a2))), (2, .t (.sl false 1 (List.map vb a1))), (3, .rop [vs c1.Name, vi c1.Params, .sl false 1 (List.map vi c1.Locals), .sl false 7 (List.map (GIns.enc false) c1.Words)] 0), (7, .t (.sl false 1 (hdT H 0 a0))), (9, .t (vb v6.2)), (10, .t (vi round)), (11, .t (vi i)), (12, .t (.sl true 1 (List.map (Row.enc H) behind))), (13, .t (.sl true 1 (List.map vi list))), (14, .t (vi k)), (15, .t (vi j))], bxR 134 v6.1.flatten⟩) (fun _ => shp v6.1 = shp a0) (fun _ m1 => ?_) fun K6 m2 => ?_
      ·refine M.reg rfl (a4 _ rfl) fun K u => ?_
       iterate 3 (refine wC rfl fun K z => ?_; simp [a3]; apply z)
       apply wN; apply u
       cases h5
       exact ⟨_, rfl, m1, Conv.rows [1, 2, 3, 7, 9, 10, 11, 12, 13, 14, 15] (by decide) rfl rfl⟩
      refine M.block ?_
      refine M.sR rfl (a4 _ rfl) fun K u => ?_
      refine wC rfl fun K z => ?_; simp [a3]; apply z
      apply wN; apply u
      refine M.block ?_
      refine M.loopJ (fun v : (List (List (List Bool))) × Bool × Int => ⟨[(1, .t (.sl false 3 (List.map GLoan.enc a2))), (2, .t (.sl false 1 (List.map vb a1))), (3, .rop [vs c1.Name, vi c1.Params, .sl false 1 (List.map vi c1.Locals), .sl false 7 (List.map (GIns.enc false) c1.Words)] 0), (7, .t (.sl false 1 (hdT H 0 a0))), (9, .t (vb v.2.1)), (10, .t (vi round)), (11, .t (vi i)), (12, .t (.sl true 1 (List.map (Row.enc H) behind))), (13, .t (.sl true 1 (List.map vi list))), (14, .t (vi k)), (15, .t (vi j)), (16, .t (vi v.2.2))], bxR 134 v.1.flatten⟩) (fun v => shp v.1 = shp a0) (holdsM6 a2 behind list k j) _ (out, sm, 0) m0 hSh (Conv.rows [1, 2, 3, 7, 9, 10, 11, 12, 13, 14, 15, 16] (by decide) rfl rfl) ?_
      clear hSh
      rintro ⟨out, sm, n⟩ s6 hSh h6 m3
      simp only [holdsM6] at h6
      try dsimp only at hSh ⊢
      refine M.seq ?_
      refine M.sR rfl (a4 _ rfl) fun K u => ?_
      iterate 4 (refine wC rfl fun K z => ?_; simp [a3]; apply z)
      apply wN; apply u
      rcases ite_or h6 with ⟨e5, h6⟩ | ⟨i4, h6⟩
      ·refine M.cT' (by simp) e5 ?_
       refine M.skip ?_
       show M E C2 _ _ _
       obtain ⟨e6, m4, h6⟩ := bS h6
       obtain ⟨i5, i6, i7, i9⟩ := gS m4
       obtain ⟨b6, j0, h6⟩ := bS h6
       obtain ⟨e8, b7, a8, d9⟩ := gS j0
       have hbox : ∀ (p : Nat) (r : List Bool), out.flatten[p]? = some r → r ≠ [] → ∃ b off cap, H p = .slice (some ⟨b, off, none⟩) r.length cap ∧ (134 + p, b, off, r.length) ∈ C2.PK := fun p r hp hr => by
        have h7 := congrArg (fun l => l[p]?) (shp_flat hSh)
        simp only [List.getElem?_map, hp, Option.map_some] at h7
        obtain ⟨m5, h8, h9⟩ := Option.map_eq_some_iff.1 h7.symm
        obtain ⟨b, off, cap, m6, m7⟩ := hPK p m5 h8 (fun h => hr (by subst h; exact List.length_eq_zero_iff.1 h9.symm))
        exact ⟨b, off, cap, by rw [← h9]; exact m6, by rw [← h9]; exact m7⟩
       refine M.seq ?_
       refine M.block ?_
       refine M.seqRV rfl (a4 _ rfl) fun K u => ?_
       iterate 4 (refine V_cons rfl fun K z => ?_; simp [a3, i5, i6, i7, i9]; apply z)
       refine V_cons rfl fun K z => ?_; simp [a3]; apply z
       cases e6 with
       | row l =>
        simp only [rowV] at j0 b7 a8 d9
        iterate 3 (refine V_cons rfl fun K z => ?_; simp [a3, e8, b7, a8, d9]; apply z)
        refine V_keep (show Conv E C2 _ ⟨[(1, .t (.sl false 3 (List.map GLoan.enc a2))), (2, .t (.sl false 1 (List.map vb a1))), (3, .rop [vs c1.Name, vi c1.Params, .sl false 1 (List.map vi c1.Locals), .sl false 7 (List.map (GIns.enc false) c1.Words)] 0), (7, .t (.sl false 1 (hdT H 0 a0))), (9, .t (vb sm)), (10, .t (vi round)), (11, .t (vi i)), (12, .t (.sl true 1 (List.map (Row.enc H) behind))), (13, .t (.sl true 1 (List.map vi list))), (14, .t (vi k)), (15, .t (vi j)), (16, .t (vi n)), (105, .t (vb b6))], bxR 134 out.flatten⟩ from Conv.rows [1, 2, 3, 7, 9, 10, 11, 12, 13, 14, 15, 16, 105] (by decide) rfl rfl) ?_
        cases b6 with
        | false =>
         simp only [Bool.false_eq_true, if_false] at h6
         iterate 14 (refine V_op fun KV hJV => ?_; refine wO fun K z => ?_; simp [a3]; apply z; refine wN (hJV _ ?_); clear hJV)
         refine V_cons rfl fun K z => ?_; simp [a3]; apply z
         apply V_nil; apply u
         refine M.condF (by simp) ?_
         refine M.skip ?_
         show M E C2 _ _ _
         refine M.reg rfl (a4 _ rfl) fun K u => ?_
         iterate 3 (refine wC rfl fun K z => ?_; simp [a3]; apply z)
         apply wN; apply u
         cases h6
         exact ⟨_, rfl, hSh, Conv.rows [1, 2, 3, 7, 9, 10, 11, 12, 13, 14, 15, 16] (by decide) rfl rfl⟩
        | true =>
         simp only [if_true] at h6
         obtain ⟨t6, j1, h6⟩ := bS h6
         obtain ⟨b8, b9, c0, c2⟩ := gS j1
         obtain ⟨a6, j2, h6⟩ := bS h6
         obtain ⟨c3, j3, a7, j4⟩ := gS j2
         obtain ⟨r6, j5, h6⟩ := bS h6
         obtain ⟨c4, j6, b0, j7⟩ := gS j5
         obtain ⟨b2, j8, h6⟩ := bS h6
         obtain ⟨c5, c6, b3, j9⟩ := gS j8
         obtain ⟨u9, c9, b5⟩ := shp_get hSh a7
         have hrow : (hdT H 0 a0)[t6.toNat]? = some (.sl false 1 (List.map (Row.enc H) (rowsAt out t6))) := by
          rw [hdT_get H a0 0 _ _ c9, b5, ← shp_take hSh]
          simp only [rowsAt, hdR, a7, Option.getD_some, List.map_map, Nat.zero_add]; rfl
         have a5 : ∀ hl : t6.toNat < (hdT H 0 a0).length, (hdT H 0 a0)[t6.toNat]'hl = .sl false 1 (List.map (Row.enc H) (rowsAt out t6)) := fun hl => (List.getElem?_eq_some_iff.1 hrow).2
         have hlt : t6 < ((hdT H 0 a0).length : Int) := by rw [hdT_len]; have := (List.getElem?_eq_some_iff.1 c9).1; omega
         have e0 : (rowsAt out t6)[j.toNat]? = some (.old (rowNo out t6.toNat j.toNat)) := by
          have := (List.getElem?_eq_some_iff.1 b0).1
          simp only [rowsAt, a7, Option.getD_some, List.getElem?_map, List.getElem?_range' this, Option.map_some, Nat.one_mul, rowNo]
         have e9 : j < ((rowsAt out t6).length : Int) := by have := (List.getElem?_eq_some_iff.1 e0).1; omega
         have g0 : (List.map (Row.enc H) (rowsAt out t6))[j.toNat]? = some (.v (H (rowNo out t6.toNat j.toNat))) := by rw [List.getElem?_map, e0]; rfl
         have g1 : ∀ hl : j.toNat < (rowsAt out t6).length, (rowsAt out t6)[j.toNat]'hl = .old (rowNo out t6.toNat j.toNat) := fun hl => (List.getElem?_eq_some_iff.1 e0).2
         have hra := row_at a7 b0
         have b1 : r6 ≠ [] := fun h => by subst h; simp at b3
         obtain ⟨g2, c7, c8, g3, g4⟩ := hbox _ r6 hra b1
         iterate 3 (refine V_cons rfl fun K z => ?_; simp [a3]; apply z)
         iterate 2 (refine V_cons rfl fun K z => ?_; simp [a3, b8, b9, c0, c2]; apply z)
         iterate 2 (refine V_cons rfl fun K z => ?_; simp [a3, c3, hrow, a5, hlt]; apply z)
         refine V_cons rfl fun K z => ?_; simp [a3]; apply z
         iterate 2 (refine V_cons rfl fun K z => ?_; simp [a3, c4, e9, g0, g1, Row.enc]; apply z)
         refine V_cons rfl fun K z => ?_; simp [a3]; apply z
         refine V_rawIdx rfl (by simp) (by simp [elemSize, kindOf]) (show _ = some (Value.slice (some ⟨g2, c7, none⟩) r6.length c8) by simp [g3]) (kk := .i64) (m := n) (by simp) c5 c6 g4 ?_
         simp [a3]
         refine V_rowLoad rfl (by simp) ⟨⟨1, 1, .bool, [.v (.bool false)]⟩, by simp, rfl, rfl⟩ (by simp) (look_bxR _ _ _ _ hra b1) b3 ?_
         simp [a3]
         iterate 2 (refine V_cons rfl fun K z => ?_; simp [a3]; apply z)
         apply V_nil; apply u
         rcases ite_or h6 with ⟨e1, h6⟩ | ⟨e2, h6⟩
         ·refine M.cT' (by simp) e1 ?_
          refine M.seqRV rfl (a4 _ rfl) fun K u => ?_
          iterate 3 (refine V_cons rfl fun K z => ?_; simp [a3]; apply z)
          iterate 2 (refine V_cons rfl fun K z => ?_; simp [a3, b8, b9, c0, c2]; apply z)
          iterate 2 (refine V_cons rfl fun K z => ?_; simp [a3, c3, hrow, a5, hlt]; apply z)
          refine V_cons rfl fun K z => ?_; simp [a3]; apply z
          iterate 2 (refine V_cons rfl fun K z => ?_; simp [a3, c4, e9, g0, g1, Row.enc]; apply z)
          refine V_cons rfl fun K z => ?_; simp [a3]; apply z
          refine V_rawIdx rfl (by simp) (by simp [elemSize, kindOf]) (show _ = some (Value.slice (some ⟨g2, c7, none⟩) r6.length c8) by simp [g3]) (kk := .i64) (m := n) (by simp) c5 c6 g4 ?_
          simp [a3]
          refine V_rowStore (b := true) (m := n.toNat) (r := r6) rfl (by simp) rfl ⟨⟨1, 1, .bool, [.v (.bool false)]⟩, by simp, rfl, rfl⟩ (by simp) (look_bxR _ _ _ _ hra b1) (by omega) (by simp [St.takeN, isNil]) ?_
          rw [put_bxR _ _ _ _ _ hra b1 (fun h => by have := congrArg List.length h; simp at this; subst this; simp at b3), ← row_set a7 b0]
          apply V_nil; apply u
          refine M.conv (show Conv E C2 _ ⟨[(1, .t (.sl false 3 (List.map GLoan.enc a2))), (2, .t (.sl false 1 (List.map vb a1))), (3, .rop [vs c1.Name, vi c1.Params, .sl false 1 (List.map vi c1.Locals), .sl false 7 (List.map (GIns.enc false) c1.Words)] 0), (7, .t (.sl false 1 (hdT H 0 a0))), (9, .t (vb sm)), (10, .t (vi round)), (11, .t (vi i)), (12, .t (.sl true 1 (List.map (Row.enc H) behind))), (13, .t (.sl true 1 (List.map vi list))), (14, .t (vi k)), (15, .t (vi j)), (16, .t (vi n))], bxR 134 (out.set t6.toNat (a6.set j.toNat (r6.set n.toNat true))).flatten⟩ from Conv.rows [1, 2, 3, 7, 9, 10, 11, 12, 13, 14, 15, 16] (by decide) rfl rfl) ?_
          refine M.reg rfl (a4 _ rfl) fun K u => ?_
          refine wC rfl fun K z => ?_; simp [a3]; apply z
          apply wN; apply u
          show M E C2 _ _ _
          refine M.reg rfl (a4 _ rfl) fun K u => ?_
          iterate 3 (refine wC rfl fun K z => ?_; simp [a3]; apply z)
          apply wN; apply u
          cases h6
          exact ⟨_, rfl, (shp_set a7 b0 (by simp)).trans hSh, Conv.rows [1, 2, 3, 7, 9, 10, 11, 12, 13, 14, 15, 16] (by decide) rfl rfl⟩
         refine M.cF' (by simp) e2 ?_
         refine M.skip ?_
         show M E C2 _ _ _
         refine M.reg rfl (a4 _ rfl) fun K u => ?_
         iterate 3 (refine wC rfl fun K z => ?_; simp [a3]; apply z)
         apply wN; apply u
         cases h6
         exact ⟨_, rfl, hSh, Conv.rows [1, 2, 3, 7, 9, 10, 11, 12, 13, 14, 15, 16] (by decide) rfl rfl⟩
       | old p =>
        simp only [rowV] at j0 b7 a8 d9
        obtain ⟨r, hr⟩ : ∃ r, out.flatten[p]? = some r := by
         cases hq : out.flatten[p]? with
         | none => rw [hq] at a8; simp at a8
         | some r => exact ⟨r, rfl⟩
        rw [hr] at a8 b7
        simp only [Option.getD_some] at a8 b7
        have hne : r ≠ [] := fun h => by subst h; simp at a8
        obtain ⟨bb, off, cap, m8, m9⟩ := hbox p r hr hne
        refine V_rawIdx rfl (by simp) (by simp [elemSize, kindOf]) (show _ = some (Value.slice (some ⟨bb, off, none⟩) r.length cap) by simp [Row.enc, m8]) (kk := .i64) (m := n) (by simp) e8 b7 m9 ?_
        simp [a3]
        refine V_rowLoad rfl (by simp) ⟨⟨1, 1, .bool, [.v (.bool false)]⟩, by simp, rfl, rfl⟩ (by simp) (look_bxR _ _ _ _ hr hne) a8 ?_
        simp [a3]
        refine V_cons rfl fun K z => ?_; simp [a3]; apply z
        refine V_keep (show Conv E C2 _ ⟨[(1, .t (.sl false 3 (List.map GLoan.enc a2))), (2, .t (.sl false 1 (List.map vb a1))), (3, .rop [vs c1.Name, vi c1.Params, .sl false 1 (List.map vi c1.Locals), .sl false 7 (List.map (GIns.enc false) c1.Words)] 0), (7, .t (.sl false 1 (hdT H 0 a0))), (9, .t (vb sm)), (10, .t (vi round)), (11, .t (vi i)), (12, .t (.sl true 1 (List.map (Row.enc H) behind))), (13, .t (.sl true 1 (List.map vi list))), (14, .t (vi k)), (15, .t (vi j)), (16, .t (vi n)), (105, .t (vb b6))], bxR 134 out.flatten⟩ from Conv.rows [1, 2, 3, 7, 9, 10, 11, 12, 13, 14, 15, 16, 105] (by decide) rfl rfl) ?_
        cases b6 with
        | false =>
         simp only [Bool.false_eq_true, if_false] at h6
         iterate 14 (refine V_op fun KV hJV => ?_; refine wO fun K z => ?_; simp [a3]; apply z; refine wN (hJV _ ?_); clear hJV)
         refine V_cons rfl fun K z => ?_; simp [a3]; apply z
         apply V_nil; apply u
         refine M.condF (by simp) ?_
         refine M.skip ?_
         show M E C2 _ _ _
         refine M.reg rfl (a4 _ rfl) fun K u => ?_
         iterate 3 (refine wC rfl fun K z => ?_; simp [a3]; apply z)
         apply wN; apply u
         cases h6
         exact ⟨_, rfl, hSh, Conv.rows [1, 2, 3, 7, 9, 10, 11, 12, 13, 14, 15, 16] (by decide) rfl rfl⟩
        | true =>
         simp only [if_true] at h6
         obtain ⟨t6, j1, h6⟩ := bS h6
         obtain ⟨b8, b9, c0, c2⟩ := gS j1
         obtain ⟨a6, j2, h6⟩ := bS h6
         obtain ⟨c3, j3, a7, j4⟩ := gS j2
         obtain ⟨r6, j5, h6⟩ := bS h6
         obtain ⟨c4, j6, b0, j7⟩ := gS j5
         obtain ⟨b2, j8, h6⟩ := bS h6
         obtain ⟨c5, c6, b3, j9⟩ := gS j8
         obtain ⟨u9, c9, b5⟩ := shp_get hSh a7
         have hrow : (hdT H 0 a0)[t6.toNat]? = some (.sl false 1 (List.map (Row.enc H) (rowsAt out t6))) := by
          rw [hdT_get H a0 0 _ _ c9, b5, ← shp_take hSh]
          simp only [rowsAt, hdR, a7, Option.getD_some, List.map_map, Nat.zero_add]; rfl
         have a5 : ∀ hl : t6.toNat < (hdT H 0 a0).length, (hdT H 0 a0)[t6.toNat]'hl = .sl false 1 (List.map (Row.enc H) (rowsAt out t6)) := fun hl => (List.getElem?_eq_some_iff.1 hrow).2
         have hlt : t6 < ((hdT H 0 a0).length : Int) := by rw [hdT_len]; have := (List.getElem?_eq_some_iff.1 c9).1; omega
         have e0 : (rowsAt out t6)[j.toNat]? = some (.old (rowNo out t6.toNat j.toNat)) := by
          have := (List.getElem?_eq_some_iff.1 b0).1
          simp only [rowsAt, a7, Option.getD_some, List.getElem?_map, List.getElem?_range' this, Option.map_some, Nat.one_mul, rowNo]
         have e9 : j < ((rowsAt out t6).length : Int) := by have := (List.getElem?_eq_some_iff.1 e0).1; omega
         have g0 : (List.map (Row.enc H) (rowsAt out t6))[j.toNat]? = some (.v (H (rowNo out t6.toNat j.toNat))) := by rw [List.getElem?_map, e0]; rfl
         have g1 : ∀ hl : j.toNat < (rowsAt out t6).length, (rowsAt out t6)[j.toNat]'hl = .old (rowNo out t6.toNat j.toNat) := fun hl => (List.getElem?_eq_some_iff.1 e0).2
         have hra := row_at a7 b0
         have b1 : r6 ≠ [] := fun h => by subst h; simp at b3
         obtain ⟨g2, c7, c8, g3, g4⟩ := hbox _ r6 hra b1
         iterate 3 (refine V_cons rfl fun K z => ?_; simp [a3]; apply z)
         iterate 2 (refine V_cons rfl fun K z => ?_; simp [a3, b8, b9, c0, c2]; apply z)
         iterate 2 (refine V_cons rfl fun K z => ?_; simp [a3, c3, hrow, a5, hlt]; apply z)
         refine V_cons rfl fun K z => ?_; simp [a3]; apply z
         iterate 2 (refine V_cons rfl fun K z => ?_; simp [a3, c4, e9, g0, g1, Row.enc]; apply z)
         refine V_cons rfl fun K z => ?_; simp [a3]; apply z
         refine V_rawIdx rfl (by simp) (by simp [elemSize, kindOf]) (show _ = some (Value.slice (some ⟨g2, c7, none⟩) r6.length c8) by simp [g3]) (kk := .i64) (m := n) (by simp) c5 c6 g4 ?_
         simp [a3]
         refine V_rowLoad rfl (by simp) ⟨⟨1, 1, .bool, [.v (.bool false)]⟩, by simp, rfl, rfl⟩ (by simp) (look_bxR _ _ _ _ hra b1) b3 ?_
         simp [a3]
         iterate 2 (refine V_cons rfl fun K z => ?_; simp [a3]; apply z)
         apply V_nil; apply u
         rcases ite_or h6 with ⟨e1, h6⟩ | ⟨e2, h6⟩
         ·refine M.cT' (by simp) e1 ?_
          refine M.seqRV rfl (a4 _ rfl) fun K u => ?_
          iterate 3 (refine V_cons rfl fun K z => ?_; simp [a3]; apply z)
          iterate 2 (refine V_cons rfl fun K z => ?_; simp [a3, b8, b9, c0, c2]; apply z)
          iterate 2 (refine V_cons rfl fun K z => ?_; simp [a3, c3, hrow, a5, hlt]; apply z)
          refine V_cons rfl fun K z => ?_; simp [a3]; apply z
          iterate 2 (refine V_cons rfl fun K z => ?_; simp [a3, c4, e9, g0, g1, Row.enc]; apply z)
          refine V_cons rfl fun K z => ?_; simp [a3]; apply z
          refine V_rawIdx rfl (by simp) (by simp [elemSize, kindOf]) (show _ = some (Value.slice (some ⟨g2, c7, none⟩) r6.length c8) by simp [g3]) (kk := .i64) (m := n) (by simp) c5 c6 g4 ?_
          simp [a3]
          refine V_rowStore (b := true) (m := n.toNat) (r := r6) rfl (by simp) rfl ⟨⟨1, 1, .bool, [.v (.bool false)]⟩, by simp, rfl, rfl⟩ (by simp) (look_bxR _ _ _ _ hra b1) (by omega) (by simp [St.takeN, isNil]) ?_
          rw [put_bxR _ _ _ _ _ hra b1 (fun h => by have := congrArg List.length h; simp at this; subst this; simp at b3), ← row_set a7 b0]
          apply V_nil; apply u
          refine M.conv (show Conv E C2 _ ⟨[(1, .t (.sl false 3 (List.map GLoan.enc a2))), (2, .t (.sl false 1 (List.map vb a1))), (3, .rop [vs c1.Name, vi c1.Params, .sl false 1 (List.map vi c1.Locals), .sl false 7 (List.map (GIns.enc false) c1.Words)] 0), (7, .t (.sl false 1 (hdT H 0 a0))), (9, .t (vb sm)), (10, .t (vi round)), (11, .t (vi i)), (12, .t (.sl true 1 (List.map (Row.enc H) behind))), (13, .t (.sl true 1 (List.map vi list))), (14, .t (vi k)), (15, .t (vi j)), (16, .t (vi n))], bxR 134 (out.set t6.toNat (a6.set j.toNat (r6.set n.toNat true))).flatten⟩ from Conv.rows [1, 2, 3, 7, 9, 10, 11, 12, 13, 14, 15, 16] (by decide) rfl rfl) ?_
          refine M.reg rfl (a4 _ rfl) fun K u => ?_
          refine wC rfl fun K z => ?_; simp [a3]; apply z
          apply wN; apply u
          show M E C2 _ _ _
          refine M.reg rfl (a4 _ rfl) fun K u => ?_
          iterate 3 (refine wC rfl fun K z => ?_; simp [a3]; apply z)
          apply wN; apply u
          cases h6
          exact ⟨_, rfl, (shp_set a7 b0 (by simp)).trans hSh, Conv.rows [1, 2, 3, 7, 9, 10, 11, 12, 13, 14, 15, 16] (by decide) rfl rfl⟩
         refine M.cF' (by simp) e2 ?_
         refine M.skip ?_
         show M E C2 _ _ _
         refine M.reg rfl (a4 _ rfl) fun K u => ?_
         iterate 3 (refine wC rfl fun K z => ?_; simp [a3]; apply z)
         apply wN; apply u
         cases h6
         exact ⟨_, rfl, hSh, Conv.rows [1, 2, 3, 7, 9, 10, 11, 12, 13, 14, 15, 16] (by decide) rfl rfl⟩
      refine M.cF' (by simp) i4 ?_
      refine M.exit ?_
      have b4 := congrArg some (m3 _ (Option.some.inj h6).symm)
      cases b4
      exact m2 _ () hSh (Conv.rows [1, 2, 3, 7, 9, 10, 11, 12, 13, 14, 15] (by decide) rfl rfl)
     refine M.cF' (by simp) e4 ?_
     refine M.exit ?_
     have b4 := congrArg some (l9 _ (Option.some.inj h5).symm)
     cases b4
     exact g6 _ () hSh (Conv.rows [1, 2, 3, 7, 9, 10, 11, 12, 13, 14] (by decide) rfl rfl)
    refine M.cF' (by simp) i2 ?_
    refine M.exit ?_
    have b4 := congrArg some (l5 _ (Option.some.inj h4).symm)
    cases b4
    show M E C2 _ _ _
    refine M.reg rfl (a4 _ rfl) fun K u => ?_
    iterate 3 (refine wC rfl fun K z => ?_; simp [a3]; apply z)
    apply wN; apply u
    cases h3
    exact ⟨_, rfl, hSh, Conv.rows [1, 2, 3, 7, 9, 10, 11] (by decide) rfl rfl⟩
   refine M.cF' (by simp) l2 ?_
   refine M.exit ?_
   have b4 := congrArg some (l0 _ (Option.some.inj h3).symm)
   cases b4
   exact k9 _ () hSh (Conv.rows [1, 2, 3, 7, 9, 10] (by decide) rfl rfl)
  refine M.cF' (by simp) k6 ?_
  refine M.exit ?_
  have b4 := congrArg some (k0 _ (Option.some.inj h2).symm)
  cases b4
  show RowsPost _ _ _ _ _ _ _ _
  refine ⟨_, [], rfl, shp_len hSh, shp_flat hSh, by simp, ?_⟩
  simp only [thenS]
  refine M.zS y ?_
  iterate 2 refine wps_q q ?_
  apply wN
  refine M.ret ?_
  simp [thenS, iB, res25]
instance e25_ : Ent E 25 := ⟨ent25⟩
end Go.Proofs.T
