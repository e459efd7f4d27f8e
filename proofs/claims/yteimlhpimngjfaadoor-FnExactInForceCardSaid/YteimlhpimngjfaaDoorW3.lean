import Derived.Test.YteimlhpimngjfaaDoorW0
import Derived.Test.YteimlhpimngjfaaDoorW1
set_option linter.unusedVariables false
set_option linter.unusedSimpArgs false
set_option linter.unusedVariables false
set_option linter.unusedSimpArgs false
set_option maxHeartbeats 8000000
set_option maxRecDepth 100000
namespace Go.Proofs.T
open Go.OM
section
attribute [local irreducible] Hg SWp St.wps thenS iB Lv Ct Lp VL Option.bind getI sAt sSub sCat appI mkI subI setI bindS loopP ite Dr
instance e57_ : Ent E 57 := ent_of Tryd.func57
instance c57_ (a1 : GIns) {r0 : GIns} : Con E 57 (laws_toIns a1 = some r0) [.val (GIns.enc false a1)] [GIns.enc true r0] [] := by
 refine h_fn Tryd.func57 fun C q => ?_
 unfold laws_toIns
 repeat' first | refine And.intro ?_ ?_ | refine Prod.forall.2 ?_ | (intro _; try dsimp only) | refine h_lo ?_ | exact Z | refine S ?_
instance e73_ : Ent E 73 := ent_of Tryd.func73
instance c73_ (c1 : GCode) (n2 : Int) {r0 : Bool} : Con E 73 (spec_l11Place c1 n2 = some r0) [.val (GCode.enc false c1), .val (vi n2)] [vb r0] [] := by
 refine h_fn Tryd.func73 fun C q => ?_
 unfold spec_l11Place
 repeat' first | refine And.intro ?_ ?_ | refine Prod.forall.2 ?_ | (intro _; try dsimp only) | refine h_lo ?_ | exact Z | refine S ?_
instance e78_ : Ent E 78 := ent_of Tryd.func78
instance c78_ (s1 : ByteArray) {r0 : Bool} : Con E 78 (impl_KeyWord s1 = some r0) [.val (vs s1)] [vb r0] [] := by
 refine h_fn Tryd.func78 fun C q => ?_
 unfold impl_KeyWord
 repeat' first | refine And.intro ?_ ?_ | refine Prod.forall.2 ?_ | (intro _; try dsimp only) | refine h_lo ?_ | exact Z | refine S ?_
end
theorem res40 : Tryd.f40.results.toList = [.tmp 4] := rfl
theorem ent40 : Enters E.P 40 := eO Tryd.func40 (by simp [Tryd.f40]) rfl
theorem laws_markInsS_ok (a1 : List GIns) (k2 : Int) {r0 : Int} {q0 : List GIns} (h : laws_markInsS a1 k2 = some (r0, q0)) : OkIO E 40 [.val (.sl true 7 (List.map (GIns.enc true) a1)), .val (vi k2)] [vi r0] [] [(0, .sl true 7 (List.map (GIns.enc true) q0))] := by
 refine okIO_of_body (fn := Tryd.f40) [(0, .sl true 7 (List.map (GIns.enc true) q0))] Tryd.func40 rfl (by simp [Tryd.f40]) rfl fun C hN hP => ?_
 have y : ∀ l, pinK [0] l = true → pinB C.pin l = true := pO (by rw [hP]; rfl)
 have q : C.N = 63 := hN
 clear hN
 unfold laws_markInsS at h
 refine SWp.zS y ?_
 refine wps_q q ?_
 apply wN
 obtain ⟨⟨h7, h8⟩, i0, h⟩ := bS h
 try dsimp only at h
 refine SWp.seqC [0, 1] [] (fun _ : Unit => ⟨[(0, .t (.sl true 7 (List.map (GIns.enc true) h7))), (1, .t (vi h8))], []⟩) (fun _ => True) (fun _ _ => ?_) fun K4 i1 => ?_
 rotate_left
 ·refine SWp.zS y ?_
  refine wps_q q ?_
  apply wN
  refine SWp.block ?_
  refine SWp.loopO [] [0, 1, 5] [] (fun v : (List GIns) × Int × Int => ⟨[(0, .t (.sl true 7 (List.map (GIns.enc true) v.1))), (1, .t (vi v.2.1)), (5, .t (vi v.2.2))], []⟩) (laws_markInsS_l1) _ (a1, k2, (0 : Int)) i0 (by simp [q]) ?_
  intro g i9 h9 e4
  obtain ⟨a6, k7, i8⟩ := g
  simp only [laws_markInsS_l1] at h9
  try dsimp only
  refine SWp.seq ?_
  refine SWp.zS y ?_
  iterate 4 refine wps_q q ?_
  apply wN
  refine SWp.cI h9 (fun i2 h9 => ?_) fun i3 h9 => ?_
  ·refine SWp.skip ?_
   refine SWp.seq ?_
   refine SWp.block ?_
   refine SWp.zS y ?_
   iterate 3 refine wps_q q ?_
   obtain ⟨d7, e5, h9⟩ := bS h9
   obtain ⟨a5, a7, a8, a9⟩ := gS e5
   iterate 2 (refine wps_q q ?_ rfl (by simp [a5, a7, a8, a9]; rfl))
   obtain ⟨h1, e6, h9⟩ := bZ h9
   have b0 : (List.map (GIns.enc true) a6).set i8.toNat (.agg [vi k7, vi d7.A, vi d7.B, vi d7.C, vi d7.Num, vs d7.Name, .sl true 1 (List.map vi d7.Args)]) = List.map (GIns.enc true) h1 := set_map (f := (GIns.enc true)) e6
   try simp only [Int.toNat_natCast] at b0
   refine wps_q q ?_ rfl (by simp [a5, a7, a8, a9, b0]; rfl)
   iterate 10 first|refine wps_q q ?_|apply wN|refine SWp.zS y ?_
   obtain ⟨d8, e7, h9⟩ := bS h9
   obtain ⟨b1, b2, b3, b4⟩ := gS e7
   iterate 2 (refine wps_q q ?_ rfl (by simp [b1, b2, b3, b4]; rfl))
   obtain ⟨h2, e8, h9⟩ := bZ h9
   have b5 : (List.map (GIns.enc true) h1).set i8.toNat (.agg [vi d8.Op, vi (IntKind.wrap .i64 (k7 + 1)), vi d8.B, vi d8.C, vi d8.Num, vs d8.Name, .sl true 1 (List.map vi d8.Args)]) = List.map (GIns.enc true) h2 := set_map (f := (GIns.enc true)) e8
   try simp only [Int.toNat_natCast] at b5
   refine wps_q q ?_ rfl (by simp [b1, b2, b3, b4, b5]; rfl)
   iterate 10 first|refine wps_q q ?_|apply wN|refine SWp.zS y ?_
   obtain ⟨d9, e9, h9⟩ := bS h9
   obtain ⟨b6, b7, b8, b9⟩ := gS e9
   iterate 2 (refine wps_q q ?_ rfl (by simp [b6, b7, b8, b9]; rfl))
   obtain ⟨h3, g0, h9⟩ := bZ h9
   have c0 : (List.map (GIns.enc true) h2).set i8.toNat (.agg [vi d9.Op, vi d9.A, vi (IntKind.wrap .i64 ((IntKind.wrap .i64 (k7 + 1)) + 1)), vi d9.C, vi d9.Num, vs d9.Name, .sl true 1 (List.map vi d9.Args)]) = List.map (GIns.enc true) h3 := set_map (f := (GIns.enc true)) g0
   try simp only [Int.toNat_natCast] at c0
   refine wps_q q ?_ rfl (by simp [b6, b7, b8, b9, c0]; rfl)
   iterate 10 first|refine wps_q q ?_|apply wN|refine SWp.zS y ?_
   obtain ⟨e0, g1, h9⟩ := bS h9
   obtain ⟨c1, c2, c3, c4⟩ := gS g1
   iterate 2 (refine wps_q q ?_ rfl (by simp [c1, c2, c3, c4]; rfl))
   obtain ⟨h4, g2, h9⟩ := bZ h9
   have c5 : (List.map (GIns.enc true) h3).set i8.toNat (.agg [vi e0.Op, vi e0.A, vi e0.B, vi (IntKind.wrap .i64 ((IntKind.wrap .i64 ((IntKind.wrap .i64 (k7 + 1)) + 1)) + 1)), vi e0.Num, vs e0.Name, .sl true 1 (List.map vi e0.Args)]) = List.map (GIns.enc true) h4 := set_map (f := (GIns.enc true)) g2
   try simp only [Int.toNat_natCast] at c5
   refine wps_q q ?_ rfl (by simp [c1, c2, c3, c4, c5]; rfl)
   iterate 10 first|refine wps_q q ?_|apply wN|refine SWp.zS y ?_
   obtain ⟨e1, g3, h9⟩ := bS h9
   obtain ⟨c6, c7, c8, c9⟩ := gS g3
   iterate 2 (refine wps_q q ?_ rfl (by simp [c6, c7, c8, c9]; rfl))
   obtain ⟨h5, g4, h9⟩ := bZ h9
   have d0 : (List.map (GIns.enc true) h4).set i8.toNat (.agg [vi e1.Op, vi e1.A, vi e1.B, vi e1.C, vi (IntKind.wrap .i64 ((IntKind.wrap .i64 ((IntKind.wrap .i64 ((IntKind.wrap .i64 (k7 + 1)) + 1)) + 1)) + 1)), vs e1.Name, .sl true 1 (List.map vi e1.Args)]) = List.map (GIns.enc true) h5 := set_map (f := (GIns.enc true)) g4
   try simp only [Int.toNat_natCast] at d0
   refine wps_q q ?_ rfl (by simp [c6, c7, c8, c9, d0]; rfl)
   iterate 10 first|refine wps_q q ?_|apply wN|refine SWp.zS y ?_
   obtain ⟨i4, g5, h9⟩ := bS h9
   refine wps_c [(.take, .tmp 49)] q (Ent.ok (E := E) (f := 63)) (Con.ok g5) ?_
   obtain ⟨e2, g6, h9⟩ := bS h9
   obtain ⟨d1, d2, d3, d4⟩ := gS g6
   iterate 2 (refine wps_q q ?_ rfl (by simp [d1, d2, d3, d4]; rfl))
   obtain ⟨h6, g7, h9⟩ := bZ h9
   have d5 : (List.map (GIns.enc true) h5).set i8.toNat (.agg [vi e2.Op, vi e2.A, vi e2.B, vi e2.C, vi e2.Num, vs i4, .sl true 1 (List.map vi e2.Args)]) = List.map (GIns.enc true) h6 := set_map (f := (GIns.enc true)) g7
   try simp only [Int.toNat_natCast] at d5
   refine wps_q q ?_ rfl (by simp [d1, d2, d3, d4, d5]; rfl)
   iterate 6 first|refine wps_q q ?_|apply wN|refine SWp.zS y ?_
   refine SWp.zH y ?_
   iterate 2 refine wps_q q ?_
   obtain ⟨e3, g8, h9⟩ := bS h9
   obtain ⟨a0, a2, a3, a4⟩ := gS g8
   iterate 4 (refine wps_q q ?_ rfl (by simp [a0, a2, a3, a4]; rfl))
   obtain ⟨⟨j0, i5⟩, g9, h9⟩ := bS h9
   try dsimp only at h9
   refine wps_callIO rfl ent39 (laws_markIntS_ok _ _ g9) fun K u => ?_; simp [q, a0, a2, a3, a4]; apply u
   obtain ⟨i6, h0, h9⟩ := bZ h9
   have d6 : (List.map (GIns.enc true) h6).set i8.toNat (.agg [vi e3.Op, vi e3.A, vi e3.B, vi e3.C, vi e3.Num, vs e3.Name, .sl true 1 (List.map vi i5)]) = List.map (GIns.enc true) i6 := set_map (f := (GIns.enc true)) h0
   try simp only [Int.toNat_natCast] at d6
   refine wps_q q ?_ rfl (by simp [a0, a2, a3, a4, d6]; rfl)
   apply wN
   refine SWp.zH y ?_
   iterate 3 refine wps_q q ?_
   apply wN
   cases h9
   exact ⟨_, [], rfl, by simp [q]⟩
  refine SWp.exit ?_
  have i7 := congrArg some (e4 _ (Option.some.inj h9).symm)
  cases i7
  exact i1 _ () [] trivial (by simp [q])
 refine SWp.zS y ?_
 iterate 2 refine wps_q q ?_
 apply wN
 cases h
 refine SWp.ret ?_
 simp [thenS, iB, res40]
end Go.Proofs.T
