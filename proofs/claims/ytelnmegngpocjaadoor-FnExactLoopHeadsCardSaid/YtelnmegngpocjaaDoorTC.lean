import Derived.Test.YtelnmegngpocjaaDoorTB
import Derived.KernelRfl
set_option linter.unusedVariables false
set_option linter.unusedSimpArgs false
set_option maxHeartbeats 1000000
namespace Go.Proofs.T
open Go.OM
theorem res15 : Tryd.f15.results.toList = [.tmp 4] := rfl
theorem ent15 : Enters E.P 15 := enters_of Tryd.func15 (by simp [Tryd.f15]) rfl
theorem laws_eqCode_ok (a1 : GCode) (b2 : GCode) {r0 : Bool} (h : laws_eqCode a1 b2 = some r0) : Ok E 15 [.val (GCode.enc false a1), .val (GCode.enc false b2)] [vb r0] [] := by
  refine ok_of_body (fn := Tryd.f15) Tryd.func15 rfl (by simp [Tryd.f15]) fun C hN hP => ?_
  have hPB : ∀ l, pinK [] l = true → pinB C.pin l = true := pinB_of (by rw [hP]; rfl)
  have hN' : C.N = 27 := hN
  clear hN
  unfold laws_eqCode at h
  refine SWp.seqR rfl (hPB _ rfl) fun K hK => ?_
  iterate 3 (refine wps_cons rfl fun K hK => ?_; simp [hN']; refine hK _ ?_; clear hK)
  refine wps_nil (hK _ ?_); clear hK
  refine SWp.seq ?_
  refine SWp.seqR rfl (hPB _ rfl) fun K hK => ?_
  iterate 5 (refine wps_cons rfl fun K hK => ?_; simp [hN']; refine hK _ ?_; clear hK)
  refine wps_nil (hK _ ?_); clear hK
  rcases ite_or h with ⟨hb3, h⟩ | ⟨hb4, h⟩
  · refine SWp.condT' (b := !(sEq a1.Name b2.Name)) (by simp) hb3 ?_
    refine SWp.seqR rfl (hPB _ rfl) fun K hK => ?_
    refine wps_cons rfl fun K hK => ?_; simp [hN']; refine hK _ ?_; clear hK
    refine wps_nil (hK _ ?_); clear hK
    cases h
    refine SWp.ret ?_
    simp [thenS, inBlockS, res15]
  · refine SWp.condF' (b := !(sEq a1.Name b2.Name)) (by simp) hb4 ?_
    refine SWp.skip ?_
    show SWp E C _ _ _
    refine SWp.seq ?_
    refine SWp.seqR rfl (hPB _ rfl) fun K hK => ?_
    iterate 5 (refine wps_cons rfl fun K hK => ?_; simp [hN']; refine hK _ ?_; clear hK)
    refine wps_nil (hK _ ?_); clear hK
    rcases ite_or h with ⟨hb5, h⟩ | ⟨hb6, h⟩
    · refine SWp.condT' (b := a1.Params != b2.Params) (by simp) hb5 ?_
      refine SWp.seqR rfl (hPB _ rfl) fun K hK => ?_
      refine wps_cons rfl fun K hK => ?_; simp [hN']; refine hK _ ?_; clear hK
      refine wps_nil (hK _ ?_); clear hK
      cases h
      refine SWp.ret ?_
      simp [thenS, inBlockS, res15]
    · refine SWp.condF' (b := a1.Params != b2.Params) (by simp) hb6 ?_
      refine SWp.skip ?_
      show SWp E C _ _ _
      refine SWp.seq ?_
      refine SWp.seqR rfl (hPB _ rfl) fun K hK => ?_
      iterate 4 (refine wps_cons rfl fun K hK => ?_; simp [hN']; refine hK _ ?_; clear hK)
      obtain ⟨r7, hc8, h⟩ := bind_some h
      refine wps_call [(.take, .tmp 16), (.take, .tmp 18)] rfl rfl ent14 (laws_eqIntS_ok _ _ hc8) fun K hK => ?_; simp [hN']; refine hK _ ?_; clear hK
      refine wps_cons rfl fun K hK => ?_; simp [hN']; refine hK _ ?_; clear hK
      refine wps_nil (hK _ ?_); clear hK
      rcases ite_or h with ⟨hb9, h⟩ | ⟨hb10, h⟩
      · refine SWp.condT' (b := !r7) (by simp) hb9 ?_
        refine SWp.seqR rfl (hPB _ rfl) fun K hK => ?_
        refine wps_cons rfl fun K hK => ?_; simp [hN']; refine hK _ ?_; clear hK
        refine wps_nil (hK _ ?_); clear hK
        cases h
        refine SWp.ret ?_
        simp [thenS, inBlockS, res15]
      · refine SWp.condF' (b := !r7) (by simp) hb10 ?_
        refine SWp.skip ?_
        show SWp E C _ _ _
        refine SWp.seq ?_
        refine SWp.seqR rfl (hPB _ rfl) fun K hK => ?_
        iterate 4 (refine wps_cons rfl fun K hK => ?_; simp [hN']; refine hK _ ?_; clear hK)
        obtain ⟨r11, hc12, h⟩ := bind_some h
        refine wps_call [(.take, .tmp 22), (.take, .tmp 24)] rfl rfl ent53 (laws_eqInsS_ok _ _ hc12) fun K hK => ?_; simp [hN']; refine hK _ ?_; clear hK
        refine wps_cons rfl fun K hK => ?_; simp [hN']; refine hK _ ?_; clear hK
        refine wps_nil (hK _ ?_); clear hK
        rcases ite_or h with ⟨hb13, h⟩ | ⟨hb14, h⟩
        · refine SWp.condT' (b := !r11) (by simp) hb13 ?_
          refine SWp.seqR rfl (hPB _ rfl) fun K hK => ?_
          refine wps_cons rfl fun K hK => ?_; simp [hN']; refine hK _ ?_; clear hK
          refine wps_nil (hK _ ?_); clear hK
          cases h
          refine SWp.ret ?_
          simp [thenS, inBlockS, res15]
        · refine SWp.condF' (b := !r11) (by simp) hb14 ?_
          refine SWp.skip ?_
          show SWp E C _ _ _
          refine SWp.seqR rfl (hPB _ rfl) fun K hK => ?_
          refine wps_cons rfl fun K hK => ?_; simp [hN']; refine hK _ ?_; clear hK
          refine wps_nil (hK _ ?_); clear hK
          cases h
          refine SWp.ret ?_
          simp [thenS, inBlockS, res15]
end Go.Proofs.T
set_option linter.unusedVariables false
set_option linter.unusedSimpArgs false
set_option maxHeartbeats 1000000
namespace Go.Proofs.T
open Go.OM
theorem res17 : Tryd.f17.results.toList = [.tmp 4] := rfl
theorem ent17 : Enters E.P 17 := enters_of Tryd.func17 (by simp [Tryd.f17]) rfl
theorem laws_markIntS_ok (a1 : List Int) (k2 : Int) {r0 : Int} {q0 : List Int} (h : laws_markIntS a1 k2 = some (r0, q0)) : OkIO E 17 [.val (.sl true 1 (List.map vi a1)), .val (vi k2)] [vi r0] [] [(0, .sl true 1 (List.map vi q0))] := by
  refine okIO_of_body (fn := Tryd.f17) [(0, .sl true 1 (List.map vi q0))] Tryd.func17 rfl (by simp [Tryd.f17]) rfl fun C hN hP => ?_
  have hPB : ∀ l, pinK [0] l = true → pinB C.pin l = true := pinB_of (by rw [hP]; rfl)
  have hN' : C.N = 19 := hN
  clear hN
  unfold laws_markIntS at h
  refine SWp.seqR rfl (hPB _ rfl) fun K hK => ?_
  refine wps_cons rfl fun K hK => ?_; simp [hN']; refine hK _ ?_; clear hK
  refine wps_nil (hK _ ?_); clear hK
  obtain ⟨⟨a17, k18⟩, hj3, h⟩ := bind_some h
  try dsimp only at h
  refine SWp.seqC [0, 1] [] (fun _ : Unit => ⟨[(0, .t (.sl true 1 (List.map vi a17))), (1, .t (vi k18))], []⟩) (fun _ => True) (fun _ _ => ?_) fun K4 hK4 => ?_
  rotate_left
  · refine SWp.seqR rfl (hPB _ rfl) fun K hK => ?_
    refine wps_cons rfl fun K hK => ?_; simp [hN']; refine hK _ ?_; clear hK
    refine wps_nil (hK _ ?_); clear hK
    refine SWp.block ?_
    refine SWp.loopO [] [0, 1, 5] [] (fun v : (List Int) × Int × Int => ⟨[(0, .t (.sl true 1 (List.map vi v.1))), (1, .t (vi v.2.1)), (5, .t (vi v.2.2))], []⟩) (laws_markIntS_l1) _ (a1, k2, 0) hj3 (by simp [hN']) ?_
    intro g s11 h9 ho10
    obtain ⟨a6, k7, i8⟩ := g
    simp only [laws_markIntS_l1] at h9
    try dsimp only
    refine SWp.seq ?_
    refine SWp.seqR rfl (hPB _ rfl) fun K hK => ?_
    iterate 4 (refine wps_cons rfl fun K hK => ?_; simp [hN']; refine hK _ ?_; clear hK)
    refine wps_nil (hK _ ?_); clear hK
    rcases ite_or h9 with ⟨hb12, h9⟩ | ⟨hb13, h9⟩
    · refine SWp.condT' (b := decide (i8 < (a6.length : Int))) (by simp) hb12 ?_
      refine SWp.skip ?_
      show SWp E C _ _ _
      refine SWp.seq ?_
      refine SWp.block ?_
      refine SWp.seqR rfl (hPB _ rfl) fun K hK => ?_
      iterate 3 (refine wps_cons rfl fun K hK => ?_; simp [hN']; refine hK _ ?_; clear hK)
      obtain ⟨e14, he14, h9⟩ := bind_some h9
      obtain ⟨he14a, he14b, he14c, he14d⟩ := getI_some he14
      refine wps_cons rfl fun K hK => ?_; simp [hN', he14a, he14b, he14c, he14d]; refine hK _ ?_; clear hK
      obtain ⟨l15, hl15, h9⟩ := bindS_some h9
      have hl15f : (List.map vi a6).set i8.toNat (vi k7) = List.map vi l15 := set_map (f := vi) hl15
      try simp only [Int.toNat_natCast] at hl15f
      refine wps_cons rfl fun K hK => ?_; simp [hN', he14a, he14b, he14c, he14d, hl15f]; refine hK _ ?_; clear hK
      refine wps_nil (hK _ ?_); clear hK
      refine SWp.reg rfl (hPB _ rfl) fun K hK => ?_
      iterate 3 (refine wps_cons rfl fun K hK => ?_; simp [hN']; refine hK _ ?_; clear hK)
      refine wps_nil (hK _ ?_); clear hK
      show SWp E C _ _ _
      refine SWp.reg rfl (hPB _ rfl) fun K hK => ?_
      iterate 3 (refine wps_cons rfl fun K hK => ?_; simp [hN']; refine hK _ ?_; clear hK)
      refine wps_nil (hK _ ?_); clear hK
      cases h9
      exact ⟨_, [], rfl, by simp [hN']⟩
    · refine SWp.condF' (b := decide (i8 < (a6.length : Int))) (by simp) hb13 ?_
      refine SWp.exit ?_
      have h16 := congrArg some (ho10 _ (Option.some.inj h9).symm)
      cases h16
      exact hK4 _ () [] trivial (by simp [hN'])
  refine SWp.seqR rfl (hPB _ rfl) fun K hK => ?_
  iterate 2 (refine wps_cons rfl fun K hK => ?_; simp [hN']; refine hK _ ?_; clear hK)
  refine wps_nil (hK _ ?_); clear hK
  cases h
  refine SWp.ret ?_
  simp [thenS, inBlockS, res17]
end Go.Proofs.T
set_option linter.unusedVariables false
set_option linter.unusedSimpArgs false
set_option maxHeartbeats 1000000
namespace Go.Proofs.T
open Go.OM
theorem res98 : Tryd.f98.results.toList = [.tmp 2] := rfl
theorem ent98 : Enters E.P 98 := enters_of Tryd.func98 (by simp [Tryd.f98]) rfl
theorem laws_markText_ok (k1 : Int) {r0 : ByteArray} (h : laws_markText k1 = some r0) : Ok E 98 [.val (vi k1)] [vs r0] [] := by
  refine ok_of_body (fn := Tryd.f98) Tryd.func98 rfl (by simp [Tryd.f98]) fun C hN hP => ?_
  have hPB : ∀ l, pinK [] l = true → pinB C.pin l = true := pinB_of (by rw [hP]; rfl)
  have hN' : C.N = 20 := hN
  clear hN
  unfold laws_markText at h
  refine SWp.seqR rfl (hPB _ rfl) fun K hK => ?_
  refine wps_cons rfl fun K hK => ?_; simp [hN']; refine hK _ ?_; clear hK
  refine wps_nil (hK _ ?_); clear hK
  refine SWp.seq ?_
  refine SWp.seqR rfl (hPB _ rfl) fun K hK => ?_
  iterate 2 (refine wps_cons rfl fun K hK => ?_; simp [hN']; refine hK _ ?_; clear hK)
  refine wps_nil (hK _ ?_); clear hK
  rcases ite_or h with ⟨hb2, h⟩ | ⟨hb3, h⟩
  · refine SWp.condT' (b := decide (k1 ≤ 0)) (by simp) hb2 ?_
    refine SWp.seqR rfl (hPB _ rfl) fun K hK => ?_
    refine wps_cons rfl fun K hK => ?_; simp [hN']; refine hK _ ?_; clear hK
    refine wps_nil (hK _ ?_); clear hK
    cases h
    refine SWp.ret ?_
    simp [thenS, inBlockS, res98]
  · refine SWp.condF' (b := decide (k1 ≤ 0)) (by simp) hb3 ?_
    refine SWp.skip ?_
    show SWp E C _ _ _
    refine SWp.seqR rfl (hPB _ rfl) fun K hK => ?_
    refine wps_cons rfl fun K hK => ?_; simp [hN']; refine hK _ ?_; clear hK
    refine wps_nil (hK _ ?_); clear hK
    obtain ⟨out16, hj4, h⟩ := bind_some h
    refine SWp.seqC [3] [] (fun _ : Unit => ⟨[(3, .t (vs out16))], []⟩) (fun _ => True) (fun _ _ => ?_) fun K5 hK5 => ?_
    rotate_left
    · refine SWp.block ?_
      refine SWp.loopO [] [0, 3] [] (fun v : Int × ByteArray => ⟨[(0, .t (vi v.1)), (3, .t (vs v.2))], []⟩) (laws_markText_l1) _ (k1, (⟨#[]⟩ : ByteArray)) hj4 (by simp [hN']) ?_
      intro g s11 h9 ho10
      obtain ⟨k7, out8⟩ := g
      simp only [laws_markText_l1] at h9
      try dsimp only
      refine SWp.seq ?_
      refine SWp.seqR rfl (hPB _ rfl) fun K hK => ?_
      iterate 2 (refine wps_cons rfl fun K hK => ?_; simp [hN']; refine hK _ ?_; clear hK)
      refine wps_nil (hK _ ?_); clear hK
      rcases ite_or h9 with ⟨hb12, h9⟩ | ⟨hb13, h9⟩
      · refine SWp.condT' (b := decide (k7 > 0)) (by simp) hb12 ?_
        refine SWp.skip ?_
        show SWp E C _ _ _
        refine SWp.block ?_
        refine SWp.seqR rfl (hPB _ rfl) fun K hK => ?_
        iterate 7 (refine wps_cons rfl fun K hK => ?_; simp [hN']; refine hK _ ?_; clear hK)
        obtain ⟨t14, ht14, h9⟩ := bind_some h9
        obtain ⟨ht14a, ht14b⟩ := sCat_some ht14
        iterate 2 (refine wps_cons rfl fun K hK => ?_; simp [hN', ht14a, ht14b]; refine hK _ ?_; clear hK)
        refine wps_nil (hK _ ?_); clear hK
        refine SWp.reg rfl (hPB _ rfl) fun K hK => ?_
        iterate 3 (refine wps_cons rfl fun K hK => ?_; simp [hN']; refine hK _ ?_; clear hK)
        refine wps_nil (hK _ ?_); clear hK
        cases h9
        exact ⟨_, [], rfl, by simp [hN']⟩
      · refine SWp.condF' (b := decide (k7 > 0)) (by simp) hb13 ?_
        refine SWp.exit ?_
        have h15 := congrArg some (ho10 _ (Option.some.inj h9).symm)
        cases h15
        exact hK5 _ () [] trivial (by simp [hN'])
    refine SWp.seqR rfl (hPB _ rfl) fun K hK => ?_
    refine wps_cons rfl fun K hK => ?_; simp [hN']; refine hK _ ?_; clear hK
    obtain ⟨t17, ht17, h⟩ := bind_some h
    obtain ⟨ht17a, ht17b⟩ := sCat_some ht17
    iterate 2 (refine wps_cons rfl fun K hK => ?_; simp [hN', ht17a, ht17b]; refine hK _ ?_; clear hK)
    refine wps_nil (hK _ ?_); clear hK
    cases h
    refine SWp.ret ?_
    simp [thenS, inBlockS, res98]
end Go.Proofs.T
set_option linter.unusedVariables false
set_option linter.unusedSimpArgs false
set_option maxHeartbeats 1000000
namespace Go.Proofs.T
open Go.OM
theorem res54 : Tryd.f54.results.toList = [.tmp 4] := rfl
theorem ent54 : Enters E.P 54 := enters_of Tryd.func54 (by simp [Tryd.f54]) rfl
theorem laws_markInsS_ok (a1 : List GIns) (k2 : Int) {r0 : Int} {q0 : List GIns} (h : laws_markInsS a1 k2 = some (r0, q0)) : OkIO E 54 [.val (.sl true 7 (List.map (GIns.enc true) a1)), .val (vi k2)] [vi r0] [] [(0, .sl true 7 (List.map (GIns.enc true) q0))] := by
  refine okIO_of_body (fn := Tryd.f54) [(0, .sl true 7 (List.map (GIns.enc true) q0))] Tryd.func54 rfl (by simp [Tryd.f54]) rfl fun C hN hP => ?_
  have hPB : ∀ l, pinK [0] l = true → pinB C.pin l = true := pinB_of (by rw [hP]; rfl)
  have hN' : C.N = 63 := hN
  clear hN
  unfold laws_markInsS at h
  refine SWp.seqR rfl (hPB _ rfl) fun K hK => ?_
  refine wps_cons rfl fun K hK => ?_; simp [hN']; refine hK _ ?_; clear hK
  refine wps_nil (hK _ ?_); clear hK
  obtain ⟨⟨a34, k35⟩, hj3, h⟩ := bind_some h
  try dsimp only at h
  refine SWp.seqC [0, 1] [] (fun _ : Unit => ⟨[(0, .t (.sl true 7 (List.map (GIns.enc true) a34))), (1, .t (vi k35))], []⟩) (fun _ => True) (fun _ _ => ?_) fun K4 hK4 => ?_
  rotate_left
  · refine SWp.seqR rfl (hPB _ rfl) fun K hK => ?_
    refine wps_cons rfl fun K hK => ?_; simp [hN']; refine hK _ ?_; clear hK
    refine wps_nil (hK _ ?_); clear hK
    refine SWp.block ?_
    refine SWp.loopO [] [0, 1, 5] [] (fun v : (List GIns) × Int × Int => ⟨[(0, .t (.sl true 7 (List.map (GIns.enc true) v.1))), (1, .t (vi v.2.1)), (5, .t (vi v.2.2))], []⟩) (laws_markInsS_l1) _ (a1, k2, 0) hj3 (by simp [hN']) ?_
    intro g s11 h9 ho10
    obtain ⟨a6, k7, i8⟩ := g
    simp only [laws_markInsS_l1] at h9
    try dsimp only
    refine SWp.seq ?_
    refine SWp.seqR rfl (hPB _ rfl) fun K hK => ?_
    iterate 4 (refine wps_cons rfl fun K hK => ?_; simp [hN']; refine hK _ ?_; clear hK)
    refine wps_nil (hK _ ?_); clear hK
    rcases ite_or h9 with ⟨hb12, h9⟩ | ⟨hb13, h9⟩
    · refine SWp.condT' (b := decide (i8 < (a6.length : Int))) (by simp) hb12 ?_
      refine SWp.skip ?_
      show SWp E C _ _ _
      refine SWp.seq ?_
      refine SWp.block ?_
      refine SWp.seqR rfl (hPB _ rfl) fun K hK => ?_
      iterate 3 (refine wps_cons rfl fun K hK => ?_; simp [hN']; refine hK _ ?_; clear hK)
      obtain ⟨e14, he14, h9⟩ := bind_some h9
      obtain ⟨he14a, he14b, he14c, he14d⟩ := getI_some he14
      iterate 2 (refine wps_cons rfl fun K hK => ?_; simp [hN', he14a, he14b, he14c, he14d]; refine hK _ ?_; clear hK)
      obtain ⟨l15, hl15, h9⟩ := bindS_some h9
      have hl15f : (List.map (GIns.enc true) a6).set i8.toNat (.agg [vi k7, vi e14.A, vi e14.B, vi e14.C, vi e14.Num, vs e14.Name, .sl true 1 (List.map vi e14.Args)]) = List.map (GIns.enc true) l15 := set_map (f := (GIns.enc true)) hl15
      try simp only [Int.toNat_natCast] at hl15f
      refine wps_cons rfl fun K hK => ?_; simp [hN', he14a, he14b, he14c, he14d, hl15f]; refine hK _ ?_; clear hK
      refine wps_nil (hK _ ?_); clear hK
      refine SWp.seqR rfl (hPB _ rfl) fun K hK => ?_
      iterate 3 (refine wps_cons rfl fun K hK => ?_; simp [hN']; refine hK _ ?_; clear hK)
      refine wps_nil (hK _ ?_); clear hK
      refine SWp.seqR rfl (hPB _ rfl) fun K hK => ?_
      iterate 3 (refine wps_cons rfl fun K hK => ?_; simp [hN']; refine hK _ ?_; clear hK)
      obtain ⟨e16, he16, h9⟩ := bind_some h9
      obtain ⟨he16a, he16b, he16c, he16d⟩ := getI_some he16
      iterate 2 (refine wps_cons rfl fun K hK => ?_; simp [hN', he16a, he16b, he16c, he16d]; refine hK _ ?_; clear hK)
      obtain ⟨l17, hl17, h9⟩ := bindS_some h9
      have hl17f : (List.map (GIns.enc true) l15).set i8.toNat (.agg [vi e16.Op, vi (IntKind.wrap .i64 (k7 + 1)), vi e16.B, vi e16.C, vi e16.Num, vs e16.Name, .sl true 1 (List.map vi e16.Args)]) = List.map (GIns.enc true) l17 := set_map (f := (GIns.enc true)) hl17
      try simp only [Int.toNat_natCast] at hl17f
      refine wps_cons rfl fun K hK => ?_; simp [hN', he16a, he16b, he16c, he16d, hl17f]; refine hK _ ?_; clear hK
      refine wps_nil (hK _ ?_); clear hK
      refine SWp.seqR rfl (hPB _ rfl) fun K hK => ?_
      iterate 3 (refine wps_cons rfl fun K hK => ?_; simp [hN']; refine hK _ ?_; clear hK)
      refine wps_nil (hK _ ?_); clear hK
      refine SWp.seqR rfl (hPB _ rfl) fun K hK => ?_
      iterate 3 (refine wps_cons rfl fun K hK => ?_; simp [hN']; refine hK _ ?_; clear hK)
      obtain ⟨e18, he18, h9⟩ := bind_some h9
      obtain ⟨he18a, he18b, he18c, he18d⟩ := getI_some he18
      iterate 2 (refine wps_cons rfl fun K hK => ?_; simp [hN', he18a, he18b, he18c, he18d]; refine hK _ ?_; clear hK)
      obtain ⟨l19, hl19, h9⟩ := bindS_some h9
      have hl19f : (List.map (GIns.enc true) l17).set i8.toNat (.agg [vi e18.Op, vi e18.A, vi (IntKind.wrap .i64 ((IntKind.wrap .i64 (k7 + 1)) + 1)), vi e18.C, vi e18.Num, vs e18.Name, .sl true 1 (List.map vi e18.Args)]) = List.map (GIns.enc true) l19 := set_map (f := (GIns.enc true)) hl19
      try simp only [Int.toNat_natCast] at hl19f
      refine wps_cons rfl fun K hK => ?_; simp [hN', he18a, he18b, he18c, he18d, hl19f]; refine hK _ ?_; clear hK
      refine wps_nil (hK _ ?_); clear hK
      refine SWp.seqR rfl (hPB _ rfl) fun K hK => ?_
      iterate 3 (refine wps_cons rfl fun K hK => ?_; simp [hN']; refine hK _ ?_; clear hK)
      refine wps_nil (hK _ ?_); clear hK
      refine SWp.seqR rfl (hPB _ rfl) fun K hK => ?_
      iterate 3 (refine wps_cons rfl fun K hK => ?_; simp [hN']; refine hK _ ?_; clear hK)
      obtain ⟨e20, he20, h9⟩ := bind_some h9
      obtain ⟨he20a, he20b, he20c, he20d⟩ := getI_some he20
      iterate 2 (refine wps_cons rfl fun K hK => ?_; simp [hN', he20a, he20b, he20c, he20d]; refine hK _ ?_; clear hK)
      obtain ⟨l21, hl21, h9⟩ := bindS_some h9
      have hl21f : (List.map (GIns.enc true) l19).set i8.toNat (.agg [vi e20.Op, vi e20.A, vi e20.B, vi (IntKind.wrap .i64 ((IntKind.wrap .i64 ((IntKind.wrap .i64 (k7 + 1)) + 1)) + 1)), vi e20.Num, vs e20.Name, .sl true 1 (List.map vi e20.Args)]) = List.map (GIns.enc true) l21 := set_map (f := (GIns.enc true)) hl21
      try simp only [Int.toNat_natCast] at hl21f
      refine wps_cons rfl fun K hK => ?_; simp [hN', he20a, he20b, he20c, he20d, hl21f]; refine hK _ ?_; clear hK
      refine wps_nil (hK _ ?_); clear hK
      refine SWp.seqR rfl (hPB _ rfl) fun K hK => ?_
      iterate 3 (refine wps_cons rfl fun K hK => ?_; simp [hN']; refine hK _ ?_; clear hK)
      refine wps_nil (hK _ ?_); clear hK
      refine SWp.seqR rfl (hPB _ rfl) fun K hK => ?_
      iterate 3 (refine wps_cons rfl fun K hK => ?_; simp [hN']; refine hK _ ?_; clear hK)
      obtain ⟨e22, he22, h9⟩ := bind_some h9
      obtain ⟨he22a, he22b, he22c, he22d⟩ := getI_some he22
      iterate 2 (refine wps_cons rfl fun K hK => ?_; simp [hN', he22a, he22b, he22c, he22d]; refine hK _ ?_; clear hK)
      obtain ⟨l23, hl23, h9⟩ := bindS_some h9
      have hl23f : (List.map (GIns.enc true) l21).set i8.toNat (.agg [vi e22.Op, vi e22.A, vi e22.B, vi e22.C, vi (IntKind.wrap .i64 ((IntKind.wrap .i64 ((IntKind.wrap .i64 ((IntKind.wrap .i64 (k7 + 1)) + 1)) + 1)) + 1)), vs e22.Name, .sl true 1 (List.map vi e22.Args)]) = List.map (GIns.enc true) l23 := set_map (f := (GIns.enc true)) hl23
      try simp only [Int.toNat_natCast] at hl23f
      refine wps_cons rfl fun K hK => ?_; simp [hN', he22a, he22b, he22c, he22d, hl23f]; refine hK _ ?_; clear hK
      refine wps_nil (hK _ ?_); clear hK
      refine SWp.seqR rfl (hPB _ rfl) fun K hK => ?_
      iterate 3 (refine wps_cons rfl fun K hK => ?_; simp [hN']; refine hK _ ?_; clear hK)
      refine wps_nil (hK _ ?_); clear hK
      refine SWp.seqR rfl (hPB _ rfl) fun K hK => ?_
      iterate 3 (refine wps_cons rfl fun K hK => ?_; simp [hN']; refine hK _ ?_; clear hK)
      obtain ⟨r24, hc25, h9⟩ := bind_some h9
      refine wps_call [(.take, .tmp 49)] rfl rfl ent98 (laws_markText_ok _ hc25) fun K hK => ?_; simp [hN']; refine hK _ ?_; clear hK
      obtain ⟨e26, he26, h9⟩ := bind_some h9
      obtain ⟨he26a, he26b, he26c, he26d⟩ := getI_some he26
      iterate 2 (refine wps_cons rfl fun K hK => ?_; simp [hN', he26a, he26b, he26c, he26d]; refine hK _ ?_; clear hK)
      obtain ⟨l27, hl27, h9⟩ := bindS_some h9
      have hl27f : (List.map (GIns.enc true) l23).set i8.toNat (.agg [vi e26.Op, vi e26.A, vi e26.B, vi e26.C, vi e26.Num, vs r24, .sl true 1 (List.map vi e26.Args)]) = List.map (GIns.enc true) l27 := set_map (f := (GIns.enc true)) hl27
      try simp only [Int.toNat_natCast] at hl27f
      refine wps_cons rfl fun K hK => ?_; simp [hN', he26a, he26b, he26c, he26d, hl27f]; refine hK _ ?_; clear hK
      refine wps_nil (hK _ ?_); clear hK
      refine SWp.seqR rfl (hPB _ rfl) fun K hK => ?_
      iterate 3 (refine wps_cons rfl fun K hK => ?_; simp [hN']; refine hK _ ?_; clear hK)
      refine wps_nil (hK _ ?_); clear hK
      refine SWp.reg rfl (hPB _ rfl) fun K hK => ?_
      iterate 2 (refine wps_cons rfl fun K hK => ?_; simp [hN']; refine hK _ ?_; clear hK)
      obtain ⟨e28, he28, h9⟩ := bind_some h9
      obtain ⟨he28a, he28b, he28c, he28d⟩ := getI_some he28
      iterate 4 (refine wps_cons rfl fun K hK => ?_; simp [hN', he28a, he28b, he28c, he28d]; refine hK _ ?_; clear hK)
      obtain ⟨⟨r29, q30⟩, hc31, h9⟩ := bind_some h9
      try dsimp only at h9
      refine wps_callIO rfl ent17 (laws_markIntS_ok _ _ hc31) fun K hK => ?_; simp [hN', he28a, he28b, he28c, he28d]; refine hK _ ?_; clear hK
      obtain ⟨l32, hl32, h9⟩ := bindS_some h9
      have hl32f : (List.map (GIns.enc true) l27).set i8.toNat (.agg [vi e28.Op, vi e28.A, vi e28.B, vi e28.C, vi e28.Num, vs e28.Name, .sl true 1 (List.map vi q30)]) = List.map (GIns.enc true) l32 := set_map (f := (GIns.enc true)) hl32
      try simp only [Int.toNat_natCast] at hl32f
      refine wps_cons rfl fun K hK => ?_; simp [hN', he28a, he28b, he28c, he28d, hl32f]; refine hK _ ?_; clear hK
      refine wps_nil (hK _ ?_); clear hK
      show SWp E C _ _ _
      refine SWp.reg rfl (hPB _ rfl) fun K hK => ?_
      iterate 3 (refine wps_cons rfl fun K hK => ?_; simp [hN']; refine hK _ ?_; clear hK)
      refine wps_nil (hK _ ?_); clear hK
      cases h9
      exact ⟨_, [], rfl, by simp [hN']⟩
    · refine SWp.condF' (b := decide (i8 < (a6.length : Int))) (by simp) hb13 ?_
      refine SWp.exit ?_
      have h33 := congrArg some (ho10 _ (Option.some.inj h9).symm)
      cases h33
      exact hK4 _ () [] trivial (by simp [hN'])
  refine SWp.seqR rfl (hPB _ rfl) fun K hK => ?_
  iterate 2 (refine wps_cons rfl fun K hK => ?_; simp [hN']; refine hK _ ?_; clear hK)
  refine wps_nil (hK _ ?_); clear hK
  cases h
  refine SWp.ret ?_
  simp [thenS, inBlockS, res54]
end Go.Proofs.T
set_option linter.unusedVariables false
set_option linter.unusedSimpArgs false
set_option maxHeartbeats 1000000
namespace Go.Proofs.T
open Go.OM
theorem res16 : Tryd.f16.results.toList = [.tmp 4] := rfl
theorem ent16 : Enters E.P 16 := enters_of Tryd.func16 (by simp [Tryd.f16]) rfl
theorem laws_markCode_ok (a1 : GCode) (k2 : Int) {r0 : Int} {q0 : GCode} (h : laws_markCode a1 k2 = some (r0, q0)) : OkIO E 16 [.val (GCode.enc true a1), .val (vi k2)] [vi r0] [] [(0, GCode.enc true q0)] := by
  refine okIO_of_body (fn := Tryd.f16) [(0, GCode.enc true q0)] Tryd.func16 rfl (by simp [Tryd.f16]) rfl fun C hN hP => ?_
  have hPB : ∀ l, pinK [0] l = true → pinB C.pin l = true := pinB_of (by rw [hP]; rfl)
  obtain ⟨V, hVp⟩ := pin_one (n := 0) (by rw [hP]; rfl)
  have hN' : C.N = 14 := hN
  clear hN
  unfold laws_markCode at h
  refine SWp.seqRW rfl (hPB _ rfl) fun K hK => ?_
  refine W_box 4 rfl rfl hVp (X := GCode.enc true a1) (by simp) (by simp) fun cs hcs hl K hK => ?_
  obtain ⟨p0, p1, p2, p3, rfl⟩ : ∃ p0 p1 p2 p3, cs = [p0, p1, p2, p3] := by match cs, hl with | [p0, p1, p2, p3], _ => exact ⟨p0, p1, p2, p3, rfl⟩
  simp [hN']; refine hK _ ?_; clear hK
  refine W_op fun KW hKW => ?_
  refine wps_cons rfl fun K hK => ?_; simp [hN']; refine hK _ ?_; clear hK
  refine wps_nil (hKW _ ?_); clear hKW
  refine W_nil (hK _ ?_); clear hK
  refine SWp.seqRW rfl (hPB _ rfl) fun K hK => ?_
  refine W_op fun KW hKW => ?_
  refine wps_cons rfl fun K hK => ?_; simp [hN']; refine hK _ ?_; clear hK
  refine wps_nil (hKW _ ?_); clear hKW
  refine W_op fun KW hKW => ?_
  refine wps_cons rfl fun K hK => ?_; simp [hN']; refine hK _ ?_; clear hK
  refine wps_nil (hKW _ ?_); clear hKW
  refine W_op fun KW hKW => ?_
  refine wps_cons rfl fun K hK => ?_; simp [hN']; refine hK _ ?_; clear hK
  refine wps_nil (hKW _ ?_); clear hKW
  obtain ⟨⟨r3, q4⟩, hc5, h⟩ := bind_some h
  try dsimp only at h
  refine W_call 0 2 none rfl rfl ent17 hVp hcs (laws_markIntS_ok _ _ hc5) fun K hK => ?_; simp [hN']; refine hK _ ?_; clear hK
  refine W_op fun KW hKW => ?_
  refine wps_cons rfl fun K hK => ?_; simp [hN']; refine hK _ ?_; clear hK
  refine wps_nil (hKW _ ?_); clear hKW
  refine W_nil (hK _ ?_); clear hK
  refine SWp.seqRW rfl (hPB _ rfl) fun K hK => ?_
  refine W_op fun KW hKW => ?_
  refine wps_cons rfl fun K hK => ?_; simp [hN']; refine hK _ ?_; clear hK
  refine wps_nil (hKW _ ?_); clear hKW
  refine W_op fun KW hKW => ?_
  refine wps_cons rfl fun K hK => ?_; simp [hN']; refine hK _ ?_; clear hK
  refine wps_nil (hKW _ ?_); clear hKW
  refine W_op fun KW hKW => ?_
  refine wps_cons rfl fun K hK => ?_; simp [hN']; refine hK _ ?_; clear hK
  refine wps_nil (hKW _ ?_); clear hKW
  obtain ⟨⟨r6, q7⟩, hc8, h⟩ := bind_some h
  try dsimp only at h
  refine W_call 0 3 none rfl rfl ent54 hVp hcs (laws_markInsS_ok _ _ hc8) fun K hK => ?_; simp [hN']; refine hK _ ?_; clear hK
  refine W_op fun KW hKW => ?_
  refine wps_cons rfl fun K hK => ?_; simp [hN']; refine hK _ ?_; clear hK
  refine wps_nil (hKW _ ?_); clear hKW
  refine W_nil (hK _ ?_); clear hK
  refine SWp.seqRW rfl (hPB _ rfl) fun K hK => ?_
  refine W_op fun KW hKW => ?_
  refine wps_cons rfl fun K hK => ?_; simp [hN']; refine hK _ ?_; clear hK
  refine wps_nil (hKW _ ?_); clear hKW
  refine W_op fun KW hKW => ?_
  refine wps_cons rfl fun K hK => ?_; simp [hN']; refine hK _ ?_; clear hK
  refine wps_nil (hKW _ ?_); clear hKW
  refine W_nil (hK _ ?_); clear hK
  cases h
  refine SWp.ret ?_
  simp [thenS, inBlockS, res16]
end Go.Proofs.T
set_option linter.unusedVariables false
set_option linter.unusedSimpArgs false
set_option maxHeartbeats 1000000
namespace Go.Proofs.T
open Go.OM
theorem res18 : Tryd.f18.results.toList = [.tmp 4] := rfl
theorem ent18 : Enters E.P 18 := enters_of Tryd.func18 (by simp [Tryd.f18]) rfl
theorem laws_heldIntS_ok (a1 : List Int) (k2 : Int) {r0 : Int} (h : laws_heldIntS a1 k2 = some r0) : Ok E 18 [.val (.sl false 1 (List.map vi a1)), .val (vi k2)] [vi r0] [] := by
  refine ok_of_body (fn := Tryd.f18) Tryd.func18 rfl (by simp [Tryd.f18]) fun C hN hP => ?_
  have hPB : ∀ l, pinK [] l = true → pinB C.pin l = true := pinB_of (by rw [hP]; rfl)
  have hN' : C.N = 21 := hN
  clear hN
  unfold laws_heldIntS at h
  refine SWp.seqR rfl (hPB _ rfl) fun K hK => ?_
  refine wps_cons rfl fun K hK => ?_; simp [hN']; refine hK _ ?_; clear hK
  refine wps_nil (hK _ ?_); clear hK
  obtain ⟨j5, hj3, h⟩ := bind_some h
  refine SWp.seqC [1] [] (fun v : Int => ⟨[(1, .t (vi v))], []⟩) (fun v => j5 = Sum.inl v) (fun v hv => ?_) fun K4 hK4 => ?_
  rotate_left
  · refine SWp.seqR rfl (hPB _ rfl) fun K hK => ?_
    refine wps_cons rfl fun K hK => ?_; simp [hN']; refine hK _ ?_; clear hK
    refine wps_nil (hK _ ?_); clear hK
    refine SWp.block ?_
    refine SWp.loopO [] [0, 1, 5] [] (fun v : Int × Int => ⟨[(0, .t (.sl false 1 (List.map vi a1))), (1, .t (vi v.1)), (5, .t (vi v.2))], []⟩) (laws_heldIntS_l1 a1) _ (k2, 0) hj3 (by simp [hN']) ?_
    intro g s10 h8 ho9
    obtain ⟨k6, i7⟩ := g
    simp only [laws_heldIntS_l1] at h8
    try dsimp only
    refine SWp.seq ?_
    refine SWp.seqR rfl (hPB _ rfl) fun K hK => ?_
    iterate 4 (refine wps_cons rfl fun K hK => ?_; simp [hN']; refine hK _ ?_; clear hK)
    refine wps_nil (hK _ ?_); clear hK
    rcases ite_or h8 with ⟨hb11, h8⟩ | ⟨hb12, h8⟩
    · refine SWp.condT' (b := decide (i7 < (a1.length : Int))) (by simp) hb11 ?_
      refine SWp.skip ?_
      show SWp E C _ _ _
      refine SWp.seq ?_
      refine SWp.block ?_
      refine SWp.seq ?_
      refine SWp.seqR rfl (hPB _ rfl) fun K hK => ?_
      iterate 2 (refine wps_cons rfl fun K hK => ?_; simp [hN']; refine hK _ ?_; clear hK)
      obtain ⟨e13, he13, h8⟩ := bind_some h8
      obtain ⟨he13a, he13b, he13c, he13d⟩ := getI_some he13
      iterate 4 (refine wps_cons rfl fun K hK => ?_; simp [hN', he13a, he13b, he13c, he13d]; refine hK _ ?_; clear hK)
      refine wps_nil (hK _ ?_); clear hK
      rcases ite_or h8 with ⟨hb14, h8⟩ | ⟨hb15, h8⟩
      · refine SWp.condT' (b := e13 != k6) (by simp) hb14 ?_
        refine SWp.seqR rfl (hPB _ rfl) fun K hK => ?_
        refine wps_cons rfl fun K hK => ?_; simp [hN']; refine hK _ ?_; clear hK
        refine wps_nil (hK _ ?_); clear hK
        have h16 := congrArg some (ho9 _ (Option.some.inj h8).symm)
        cases h16
        try dsimp only at h
        cases h
        refine SWp.ret ?_
        simp [thenS, inBlockS, res18]
      · refine SWp.condF' (b := e13 != k6) (by simp) hb15 ?_
        refine SWp.skip ?_
        show SWp E C _ _ _
        refine SWp.reg rfl (hPB _ rfl) fun K hK => ?_
        iterate 3 (refine wps_cons rfl fun K hK => ?_; simp [hN']; refine hK _ ?_; clear hK)
        refine wps_nil (hK _ ?_); clear hK
        show SWp E C _ _ _
        refine SWp.reg rfl (hPB _ rfl) fun K hK => ?_
        iterate 3 (refine wps_cons rfl fun K hK => ?_; simp [hN']; refine hK _ ?_; clear hK)
        refine wps_nil (hK _ ?_); clear hK
        cases h8
        exact ⟨_, [], rfl, by simp [hN']⟩
    · refine SWp.condF' (b := decide (i7 < (a1.length : Int))) (by simp) hb12 ?_
      refine SWp.exit ?_
      have h17 := congrArg some (ho9 _ (Option.some.inj h8).symm)
      cases h17
      exact hK4 _ _ [] rfl (by simp [hN'])
  subst hv
  obtain ⟨k18, hv⟩ : ∃ y, y = v := ⟨_, rfl⟩
  subst hv
  try dsimp only at h ⊢
  refine SWp.seqR rfl (hPB _ rfl) fun K hK => ?_
  iterate 2 (refine wps_cons rfl fun K hK => ?_; simp [hN']; refine hK _ ?_; clear hK)
  refine wps_nil (hK _ ?_); clear hK
  cases h
  refine SWp.ret ?_
  simp [thenS, inBlockS, res18]
end Go.Proofs.T
set_option linter.unusedVariables false
set_option linter.unusedSimpArgs false
set_option maxHeartbeats 1000000
namespace Go.Proofs.T
open Go.OM
theorem res3 : Tryd.f3.results.toList = [.tmp 2] := rfl
theorem laws_FnExactLoopHeads_ok (aC1 : GCode) {r0 : Bool} (h : laws_FnExactLoopHeads aC1 = some r0) : Ok E 3 [.val (GCode.enc false aC1)] [vb r0] [] := by
  refine ok_of_body (fn := Tryd.f3) Tryd.func3 rfl (by simp [Tryd.f3]) fun C hN hP => ?_
  have hPB : ∀ l, pinK [] l = true → pinB C.pin l = true := pinB_of (by rw [hP]; rfl)
  have hN' : C.N = 69 := hN
  clear hN
  unfold laws_FnExactLoopHeads at h
  refine SWp.seqR rfl (hPB _ rfl) fun K hK => ?_
  iterate 2 (refine wps_cons rfl fun K hK => ?_; simp [hN']; refine hK _ ?_; clear hK)
  refine wps_nil (hK _ ?_); clear hK
  refine SWp.seqR rfl (hPB _ rfl) fun K hK => ?_
  refine wps_cons rfl fun K hK => ?_; simp [hN']; refine hK _ ?_; clear hK
  refine wps_nil (hK _ ?_); clear hK
  refine SWp.seqR rfl (hPB _ rfl) fun K hK => ?_
  iterate 2 (refine wps_cons rfl fun K hK => ?_; simp [hN']; refine hK _ ?_; clear hK)
  obtain ⟨r2, hc3, h⟩ := bind_some h
  refine wps_call [(.take, .tmp 11), (.take, .tmp 12)] rfl rfl ent10 (laws_szCode_ok _ _ hc3) fun K hK => ?_; simp [hN']; refine hK _ ?_; clear hK
  refine wps_cons rfl fun K hK => ?_; simp [hN']; refine hK _ ?_; clear hK
  refine wps_nil (hK _ ?_); clear hK
  refine SWp.seq ?_
  refine SWp.seqR rfl (hPB _ rfl) fun K hK => ?_
  iterate 2 (refine wps_cons rfl fun K hK => ?_; simp [hN']; refine hK _ ?_; clear hK)
  refine wps_nil (hK _ ?_); clear hK
  rcases ite_or h with ⟨hb4, h⟩ | ⟨hb5, h⟩
  · refine SWp.condT' (b := decide (r2 < 0)) (by simp) hb4 ?_
    refine SWp.seqR rfl (hPB _ rfl) fun K hK => ?_
    refine wps_cons rfl fun K hK => ?_; simp [hN']; refine hK _ ?_; clear hK
    refine wps_nil (hK _ ?_); clear hK
    cases h
    refine SWp.ret ?_
    simp [thenS, inBlockS, res3]
  · refine SWp.condF' (b := decide (r2 < 0)) (by simp) hb5 ?_
    refine SWp.skip ?_
    show SWp E C _ _ _
    refine SWp.seqR rfl (hPB _ rfl) fun K hK => ?_
    refine wps_cons rfl fun K hK => ?_; simp [hN']; refine hK _ ?_; clear hK
    obtain ⟨r6, hc7, h⟩ := bind_some h
    refine wps_call [(.take, .tmp 16)] rfl rfl ent12 (laws_toCode_ok _ hc7) fun K hK => ?_; simp [hN']; refine hK _ ?_; clear hK
    obtain ⟨r8, hc9, h⟩ := bind_some h
    refine wps_call [(.bor, .tmp 17)] rfl rfl ent11 (spec_LoopHeads_ok _ hc9) fun K hK => ?_; simp [hN']; refine hK _ ?_; clear hK
    refine wps_cons rfl fun K hK => ?_; simp [hN']; refine hK _ ?_; clear hK
    refine wps_nil (hK _ ?_); clear hK
    refine SWp.seqR rfl (hPB _ rfl) fun K hK => ?_
    refine wps_cons rfl fun K hK => ?_; simp [hN']; refine hK _ ?_; clear hK
    obtain ⟨r10, hc11, h⟩ := bind_some h
    refine wps_call [(.take, .tmp 19)] rfl rfl ent12 (laws_toCode_ok _ hc11) fun K hK => ?_; simp [hN']; refine hK _ ?_; clear hK
    iterate 2 (refine wps_cons rfl fun K hK => ?_; simp [hN']; refine hK _ ?_; clear hK)
    refine wps_nil (hK _ ?_); clear hK
    refine SWp.seqR rfl (hPB _ rfl) fun K hK => ?_
    refine wps_cons rfl fun K hK => ?_; simp [hN']; refine hK _ ?_; clear hK
    obtain ⟨r12, hc13, h⟩ := bind_some h
    refine wps_call [(.bor, .tmp 21)] rfl rfl ent13 (impl_LoopHeads_ok _ hc13) fun K hK => ?_; simp [hN']; refine hK _ ?_; clear hK
    refine wps_cons rfl fun K hK => ?_; simp [hN']; refine hK _ ?_; clear hK
    refine wps_nil (hK _ ?_); clear hK
    refine SWp.seq ?_
    refine SWp.seqR rfl (hPB _ rfl) fun K hK => ?_
    iterate 2 (refine wps_cons rfl fun K hK => ?_; simp [hN']; refine hK _ ?_; clear hK)
    obtain ⟨r14, hc15, h⟩ := bind_some h
    refine wps_call [(.bor, .tmp 23), (.bor, .tmp 24)] rfl rfl ent14 (laws_eqIntS_ok _ _ hc15) fun K hK => ?_; simp [hN']; refine hK _ ?_; clear hK
    refine wps_cons rfl fun K hK => ?_; simp [hN']; refine hK _ ?_; clear hK
    refine wps_nil (hK _ ?_); clear hK
    rcases ite_or h with ⟨hb16, h⟩ | ⟨hb17, h⟩
    · refine SWp.condT' (b := !r14) (by simp) hb16 ?_
      refine SWp.seqR rfl (hPB _ rfl) fun K hK => ?_
      refine wps_cons rfl fun K hK => ?_; simp [hN']; refine hK _ ?_; clear hK
      refine wps_nil (hK _ ?_); clear hK
      cases h
      refine SWp.ret ?_
      simp [thenS, inBlockS, res3]
    · refine SWp.condF' (b := !r14) (by simp) hb17 ?_
      refine SWp.skip ?_
      show SWp E C _ _ _
      refine SWp.seq ?_
      refine SWp.seq ?_
      obtain ⟨r19, hc20, h⟩ := bind_some h
      refine SWp.drawT rfl (hPB _ rfl) [(27, .al (.box 5) 0 [] (some 4)), (28, .t (GCode.enc false aC1)), (29, .t (GCode.enc true r19))] [[], [], [1], [0, 1, 2], [0, 1, 2, 3]] (by simp) (by simp) (by simp [look]) rfl rfl rfl ?_ fun K hK => ?_
      · refine ⟨?_, ?_, ?_, trivial⟩
        all_goals (intro τ hbx hb hd hf K hK; try simp [vsAt] at hd; simp [vsAt] at hf; first | (refine wps_cons rfl fun K' hK' => ?_; simp [hN', hbx, hb, hd, hf]; exact hK' _ (wps_nil (hK _ (by simp [vsAt, hbx])))) | (refine wps_call [(.take, .tmp 28)] rfl rfl ent12 (laws_toCode_ok _ hc20) fun K' hK' => ?_; simp [hN', hbx, hb, hd, hf]; exact hK' _ (wps_nil (hK _ (by simp [vsAt, hbx])))))
      obtain ⟨r21, hc22, h⟩ := bind_some h
      refine wps_call [(.bor, .tmp 27), (.bor, .tmp 29)] rfl rfl ent15 (laws_eqCode_ok _ _ hc22) fun K hK => ?_; simp [hN']; refine hK _ ?_; clear hK
      refine wps_cons rfl fun K hK => ?_; simp [hN']; refine hK _ ?_; clear hK
      refine wps_nil (hK _ ?_); clear hK
      show SWp E C _ _ _
      rcases ite_or h with ⟨hb23, h⟩ | ⟨hb24, h⟩
      · refine SWp.condT' (b := !r21) (by simp) hb23 ?_
        refine SWp.seqR rfl (hPB _ rfl) fun K hK => ?_
        refine wps_cons rfl fun K hK => ?_; simp [hN']; refine hK _ ?_; clear hK
        refine wps_nil (hK _ ?_); clear hK
        cases h
        refine SWp.ret ?_
        simp [thenS, inBlockS, res3]
      · refine SWp.condF' (b := !r21) (by simp) hb24 ?_
        refine SWp.skip ?_
        show SWp E C _ _ _
        refine SWp.seqR rfl (hPB _ rfl) fun K hK => ?_
        refine wps_cons rfl fun K hK => ?_; simp [hN']; refine hK _ ?_; clear hK
        refine wps_nil (hK _ ?_); clear hK
        refine SWp.seqR rfl (hPB _ rfl) fun K hK => ?_
        iterate 2 (refine wps_cons rfl fun K hK => ?_; simp [hN']; refine hK _ ?_; clear hK)
        obtain ⟨⟨r25, q26⟩, hc27, h⟩ := bind_some h
        try dsimp only at h
        refine wps_callIO rfl ent16 (laws_markCode_ok _ _ hc27) fun K hK => ?_; simp [hN']; refine hK _ ?_; clear hK
        refine wps_cons rfl fun K hK => ?_; simp [hN']; refine hK _ ?_; clear hK
        refine wps_nil (hK _ ?_); clear hK
        refine SWp.seq ?_
        obtain ⟨v34, hj28, h⟩ := bind_some h
        refine SWp.seqRC rfl (hPB _ rfl) [1, 4, 6, 42] [1] (fun _ : Unit => ⟨[(1, .ref (.box 1) 0 []), (4, .t (.sl true 1 (List.map vi r8))), (6, .t (.sl true 1 (List.map vi r12))), (42, .t (vb v34))], [(1, [vs aC1.Name, vi aC1.Params, .sl false 1 (List.map vi aC1.Locals), .sl false 7 (List.map (GIns.enc false) aC1.Words)])]⟩) (fun _ => True) (fun _ _ => ?_) fun K29 hK29 => ?_
        rotate_left
        · refine wps_cons rfl fun K hK => ?_; simp [hN']; refine hK _ ?_; clear hK
          iterate 2 (refine wps_cons rfl fun K hK => ?_; simp [hN']; refine hK _ ?_; clear hK)
          rcases ite_or hj28 with ⟨hb30, hj28⟩ | ⟨hb31, hj28⟩
          · have hb30s := hb30
            try simp at hb30s
            iterate 4 (refine wps_off fun K hK => ?_; simp [hN', hb30, hb30s]; refine hK _ ?_; clear hK)
            refine wps_cons rfl fun K hK => ?_; simp [hN', hb30, hb30s]; refine hK _ ?_; clear hK
            refine wps_nil ?_
            cases hj28
            exact hK29 _ () [] trivial (by simp [hN', hb30, hb30s])
          · have hb31s := hb31
            try simp at hb31s
            iterate 2 (refine wps_cons rfl fun K hK => ?_; simp [hN', hb31, hb31s]; refine hK _ ?_; clear hK)
            obtain ⟨r32, hc33, hj28⟩ := bind_some hj28
            refine wps_call [(.bor, .tmp 38), (.bor, .tmp 39)] rfl rfl ent14 (laws_eqIntS_ok _ _ hc33) fun K hK => ?_; simp [hN', hb31, hb31s]; refine hK _ ?_; clear hK
            iterate 2 (refine wps_cons rfl fun K hK => ?_; simp [hN', hb31, hb31s]; refine hK _ ?_; clear hK)
            refine wps_nil ?_
            cases hj28
            exact hK29 _ () [] trivial (by simp [hN', hb31, hb31s])
        rcases ite_or h with ⟨hb35, h⟩ | ⟨hb36, h⟩
        · refine SWp.condT' (b := v34) (by simp) hb35 ?_
          refine SWp.seqR rfl (hPB _ rfl) fun K hK => ?_
          refine wps_cons rfl fun K hK => ?_; simp [hN']; refine hK _ ?_; clear hK
          refine wps_nil (hK _ ?_); clear hK
          cases h
          refine SWp.ret ?_
          simp [thenS, inBlockS, res3]
        · refine SWp.condF' (b := v34) (by simp) hb36 ?_
          refine SWp.skip ?_
          show SWp E C _ _ _
          refine SWp.seqR rfl (hPB _ rfl) fun K hK => ?_
          refine wps_cons rfl fun K hK => ?_; simp [hN']; refine hK _ ?_; clear hK
          refine wps_nil (hK _ ?_); clear hK
          refine SWp.seqR rfl (hPB _ rfl) fun K hK => ?_
          iterate 2 (refine wps_cons rfl fun K hK => ?_; simp [hN']; refine hK _ ?_; clear hK)
          obtain ⟨⟨r37, q38⟩, hc39, h⟩ := bind_some h
          try dsimp only at h
          refine wps_callIO rfl ent17 (laws_markIntS_ok _ _ hc39) fun K hK => ?_; simp [hN']; refine hK _ ?_; clear hK
          refine wps_cons rfl fun K hK => ?_; simp [hN']; refine hK _ ?_; clear hK
          refine wps_nil (hK _ ?_); clear hK
          refine SWp.seqR rfl (hPB _ rfl) fun K hK => ?_
          refine wps_cons rfl fun K hK => ?_; simp [hN']; refine hK _ ?_; clear hK
          refine wps_nil (hK _ ?_); clear hK
          refine SWp.seqR rfl (hPB _ rfl) fun K hK => ?_
          iterate 2 (refine wps_cons rfl fun K hK => ?_; simp [hN']; refine hK _ ?_; clear hK)
          obtain ⟨r40, hc41, h⟩ := bind_some h
          refine wps_call [(.bor, .tmp 46), (.take, .tmp 47)] rfl rfl ent18 (laws_heldIntS_ok _ _ hc41) fun K hK => ?_; simp [hN']; refine hK _ ?_; clear hK
          refine wps_cons rfl fun K hK => ?_; simp [hN']; refine hK _ ?_; clear hK
          refine wps_nil (hK _ ?_); clear hK
          refine SWp.seq ?_
          refine SWp.seqR rfl (hPB _ rfl) fun K hK => ?_
          iterate 2 (refine wps_cons rfl fun K hK => ?_; simp [hN']; refine hK _ ?_; clear hK)
          refine wps_nil (hK _ ?_); clear hK
          rcases ite_or h with ⟨hb42, h⟩ | ⟨hb43, h⟩
          · refine SWp.condT' (b := decide (r40 < 0)) (by simp) hb42 ?_
            refine SWp.seqR rfl (hPB _ rfl) fun K hK => ?_
            refine wps_cons rfl fun K hK => ?_; simp [hN']; refine hK _ ?_; clear hK
            refine wps_nil (hK _ ?_); clear hK
            cases h
            refine SWp.ret ?_
            simp [thenS, inBlockS, res3]
          · refine SWp.condF' (b := decide (r40 < 0)) (by simp) hb43 ?_
            refine SWp.skip ?_
            show SWp E C _ _ _
            refine SWp.seq ?_
            refine SWp.seqR rfl (hPB _ rfl) fun K hK => ?_
            iterate 3 (refine wps_cons rfl fun K hK => ?_; simp [hN']; refine hK _ ?_; clear hK)
            refine wps_nil (hK _ ?_); clear hK
            rcases ite_or h with ⟨hb44, h⟩ | ⟨hb45, h⟩
            · refine SWp.condT' (b := r40 != r37) (by simp) hb44 ?_
              refine SWp.seqR rfl (hPB _ rfl) fun K hK => ?_
              refine wps_cons rfl fun K hK => ?_; simp [hN']; refine hK _ ?_; clear hK
              refine wps_nil (hK _ ?_); clear hK
              cases h
              refine SWp.ret ?_
              simp [thenS, inBlockS, res3]
            · refine SWp.condF' (b := r40 != r37) (by simp) hb45 ?_
              refine SWp.skip ?_
              show SWp E C _ _ _
              refine SWp.seqR rfl (hPB _ rfl) fun K hK => ?_
              refine wps_cons rfl fun K hK => ?_; simp [hN']; refine hK _ ?_; clear hK
              obtain ⟨r46, hc47, h⟩ := bind_some h
              refine wps_call [(.take, .tmp 54)] rfl rfl ent12 (laws_toCode_ok _ hc47) fun K hK => ?_; simp [hN']; refine hK _ ?_; clear hK
              obtain ⟨r48, hc49, h⟩ := bind_some h
              refine wps_call [(.bor, .tmp 55)] rfl rfl ent13 (impl_LoopHeads_ok _ hc49) fun K hK => ?_; simp [hN']; refine hK _ ?_; clear hK
              refine wps_cons rfl fun K hK => ?_; simp [hN']; refine hK _ ?_; clear hK
              refine wps_nil (hK _ ?_); clear hK
              refine SWp.seq ?_
              refine SWp.seqR rfl (hPB _ rfl) fun K hK => ?_
              iterate 2 (refine wps_cons rfl fun K hK => ?_; simp [hN']; refine hK _ ?_; clear hK)
              obtain ⟨r50, hc51, h⟩ := bind_some h
              refine wps_call [(.bor, .tmp 57), (.bor, .tmp 58)] rfl rfl ent14 (laws_eqIntS_ok _ _ hc51) fun K hK => ?_; simp [hN']; refine hK _ ?_; clear hK
              refine wps_cons rfl fun K hK => ?_; simp [hN']; refine hK _ ?_; clear hK
              refine wps_nil (hK _ ?_); clear hK
              rcases ite_or h with ⟨hb52, h⟩ | ⟨hb53, h⟩
              · refine SWp.condT' (b := !r50) (by simp) hb52 ?_
                refine SWp.seqR rfl (hPB _ rfl) fun K hK => ?_
                refine wps_cons rfl fun K hK => ?_; simp [hN']; refine hK _ ?_; clear hK
                refine wps_nil (hK _ ?_); clear hK
                cases h
                refine SWp.ret ?_
                simp [thenS, inBlockS, res3]
              · refine SWp.condF' (b := !r50) (by simp) hb53 ?_
                refine SWp.skip ?_
                show SWp E C _ _ _
                refine SWp.seqR rfl (hPB _ rfl) fun K hK => ?_
                refine wps_cons rfl fun K hK => ?_; simp [hN']; refine hK _ ?_; clear hK
                refine wps_nil (hK _ ?_); clear hK
                refine SWp.seqR rfl (hPB _ rfl) fun K hK => ?_
                iterate 2 (refine wps_cons rfl fun K hK => ?_; simp [hN']; refine hK _ ?_; clear hK)
                obtain ⟨r54, hc55, h⟩ := bind_some h
                refine wps_call [(.bor, .tmp 61), (.take, .tmp 62)] rfl rfl ent18 (laws_heldIntS_ok _ _ hc55) fun K hK => ?_; simp [hN']; refine hK _ ?_; clear hK
                refine wps_cons rfl fun K hK => ?_; simp [hN']; refine hK _ ?_; clear hK
                refine wps_nil (hK _ ?_); clear hK
                refine SWp.seq ?_
                refine SWp.seqR rfl (hPB _ rfl) fun K hK => ?_
                iterate 2 (refine wps_cons rfl fun K hK => ?_; simp [hN']; refine hK _ ?_; clear hK)
                refine wps_nil (hK _ ?_); clear hK
                rcases ite_or h with ⟨hb56, h⟩ | ⟨hb57, h⟩
                · refine SWp.condT' (b := decide (r54 < 0)) (by simp) hb56 ?_
                  refine SWp.seqR rfl (hPB _ rfl) fun K hK => ?_
                  refine wps_cons rfl fun K hK => ?_; simp [hN']; refine hK _ ?_; clear hK
                  refine wps_nil (hK _ ?_); clear hK
                  cases h
                  refine SWp.ret ?_
                  simp [thenS, inBlockS, res3]
                · refine SWp.condF' (b := decide (r54 < 0)) (by simp) hb57 ?_
                  refine SWp.skip ?_
                  show SWp E C _ _ _
                  refine SWp.seq ?_
                  refine SWp.seqR rfl (hPB _ rfl) fun K hK => ?_
                  iterate 3 (refine wps_cons rfl fun K hK => ?_; simp [hN']; refine hK _ ?_; clear hK)
                  refine wps_nil (hK _ ?_); clear hK
                  rcases ite_or h with ⟨hb58, h⟩ | ⟨hb59, h⟩
                  · refine SWp.condT' (b := r54 != r37) (by simp) hb58 ?_
                    refine SWp.seqR rfl (hPB _ rfl) fun K hK => ?_
                    refine wps_cons rfl fun K hK => ?_; simp [hN']; refine hK _ ?_; clear hK
                    refine wps_nil (hK _ ?_); clear hK
                    cases h
                    refine SWp.ret ?_
                    simp [thenS, inBlockS, res3]
                  · refine SWp.condF' (b := r54 != r37) (by simp) hb59 ?_
                    refine SWp.skip ?_
                    show SWp E C _ _ _
                    refine SWp.seqR rfl (hPB _ rfl) fun K hK => ?_
                    refine wps_cons rfl fun K hK => ?_; simp [hN']; refine hK _ ?_; clear hK
                    refine wps_nil (hK _ ?_); clear hK
                    cases h
                    refine SWp.ret ?_
                    simp [thenS, inBlockS, res3]
end Go.Proofs.T
set_option linter.unusedVariables false
set_option linter.unusedSimpArgs false
namespace Go.OM
theorem w64 {n : Int} (h1 : -9223372036854775808 ≤ n) (h2 : n ≤ 9223372036854775807) : IntKind.wrap .i64 n = n := wrap64 h1 h2
theorem w64_succ {k n : Nat} (hk : k < n) (hn : n ≤ maxLen) : IntKind.wrap .i64 ((k : Int) + 1) = ((k + 1 : Nat) : Int) := by
  have hn' : n ≤ 9223372036854775807 := hn
  rw [w64 (by omega) (by omega)]; omega
@[simp] theorem getI_nat {α : Type} (l : List α) (k : Nat) : getI l (k : Int) = l[k]? := by simp [getI]
theorem getI_at {α : Type} {l : List α} {k : Nat} (hk : k < l.length) : getI l (k : Int) = some l[k] := by simp [hk]
theorem getI_zero {α : Type} (l : List α) : getI l 0 = l[0]? := by simp [getI]
theorem sEq_iff (x y : ByteArray) : sEq x y = decide (x = y) := by
  unfold sEq
  have hxy : x.toList = y.toList ↔ x = y := by
    constructor
    · intro h
      have hx : ∀ z : ByteArray, z.toList = z.data.toList := by
        intro z
        have loop : ∀ (n i : Nat) (r : List UInt8), z.size - i = n → ByteArray.toList.loop z i r = r.reverse ++ z.data.toList.drop i := by
          intro n
          induction n with
          | zero =>
            intro i r hn
            unfold ByteArray.toList.loop
            rw [if_neg (by omega), List.drop_eq_nil_of_le (by have : z.data.toList.length = z.size := Array.length_toList
                                                              omega)]
            simp
          | succ n ih =>
            intro i r hn
            unfold ByteArray.toList.loop
            rw [if_pos (by omega), ih (i + 1) _ (by omega)]
            have hlt : i < z.data.toList.length := by have : z.data.toList.length = z.size := Array.length_toList
                                                      omega
            rw [List.drop_eq_getElem_cons hlt]
            have hz : i < z.size := by omega
            simp [ByteArray.get!, Array.getElem!_eq_getD, Array.getD, hz]
        unfold ByteArray.toList
        rw [loop _ 0 [] rfl]; simp
      rw [hx, hx] at h
      cases x; cases y
      simp only [ByteArray.mk.injEq]
      exact Array.toList_inj.1 h
    · intro h; rw [h]
  by_cases h : x = y
  · simp [h]
  · have : ¬ (x.toList = y.toList) := fun e => h (hxy.1 e)
    simp [h, this]
theorem ofNat_lt_true {k n : Nat} (h : k < n) : decide ((k : Int) < (n : Int)) = true := by simpa using h
theorem len_not_lt (n : Nat) : decide ((n : Int) < (n : Int)) = false := by simp
theorem szS_gen {α : Type} (ok : α → Prop) (a : List α) (f : Int × Int → Option ((Int × Int) ⊕ (Int ⊕ Int))) (B : Int)
    (hf : ∀ (m : Int) (k : Nat) (h0 : 0 ≤ m) (h1 : m ≤ B) (hk : k < a.length), ∃ r, r ≤ m ∧ (0 ≤ r → ok a[k]) ∧ f (m, k) = some (if r < 0 then .inr (.inr (-1)) else .inl (r, ((k + 1 : Nat) : Int))))
    (he : ∀ m, f (m, a.length) = some (.inr (.inl m))) (n : Int) (h0 : 0 ≤ n) (h1 : n ≤ B) :
    ∃ j, loopP f (n, 0) = some j ∧ (j = .inr (-1) ∨ ∃ m, j = .inl m ∧ 0 ≤ m ∧ m ≤ n ∧ ∀ x ∈ a, ok x) := by
  refine loopP_run (f := f) (fun s : Int × Int => ∃ k : Nat, s.2 = k ∧ k ≤ a.length ∧ 0 ≤ s.1 ∧ s.1 ≤ n ∧ ∀ (j : Nat) (h : j < a.length), j < k → ok a[j]) (fun s => a.length - s.2.toNat) _ ?_ (n, 0) ⟨0, rfl, by omega, h0, by simp, fun j _ h => by omega⟩
  rintro ⟨m, i⟩ ⟨k, hi, hk, h2, h3, h4⟩
  simp only at hi h2 h3
  subst hi
  by_cases hlt : k < a.length
  · obtain ⟨r, r1, r2, r3⟩ := hf m k h2 (by omega) hlt
    rw [r3]
    by_cases hr : r < 0
    · right
      rw [if_pos hr]
      exact ⟨_, rfl, .inl rfl⟩
    · left
      rw [if_neg hr]
      refine ⟨_, rfl, ⟨k + 1, rfl, by omega, by simp only; omega, by simp only; omega, fun j h hj => ?_⟩, ?_⟩
      · by_cases e : j = k
        · subst e; exact r2 (by omega)
        · exact h4 j h (by omega)
      · simp only [Int.toNat_natCast]; omega
  · right
    have hke : k = a.length := by omega
    subst hke
    rw [he]
    refine ⟨_, rfl, .inr ⟨m, rfl, h2, h3, fun x hx => ?_⟩⟩
    obtain ⟨j, hj, rfl⟩ := List.mem_iff_getElem.1 hx
    exact h4 j hj hj
theorem toS_gen {α : Type} (a : List α) (z : α) (f : List α × Int → Option ((List α × Int) ⊕ List α))
    (hf : ∀ (out : List α) (k : Nat) (hk : k < a.length), out.length = a.length → f (out, k) = some (.inl (out.set k a[k], ((k + 1 : Nat) : Int))))
    (he : ∀ out, f (out, a.length) = some (.inr out)) : loopP f (List.replicate a.length z, 0) = some a := by
  obtain ⟨r, h1, h2⟩ := loopP_run (fun s : List α × Int => ∃ k : Nat, s.2 = k ∧ k ≤ a.length ∧ s.1.length = a.length ∧ ∀ j, j < k → s.1[j]? = a[j]?) (fun s => a.length - s.2.toNat) (fun r => r = a) (f := f) (by
    rintro ⟨out, i⟩ ⟨k, hi, hk, h2, h3⟩
    simp only at hi h2 h3
    subst hi
    by_cases hlt : k < a.length
    · left
      rw [hf out k hlt h2]
      refine ⟨_, rfl, ⟨k + 1, rfl, by omega, by simpa using h2, fun j hj => ?_⟩, by simp only [Int.toNat_natCast]; omega⟩
      simp only [List.getElem?_set]
      by_cases e : k = j
      · subst e; simp [h2, hlt]
      · rw [if_neg e]; exact h3 j (by omega)
    · right
      have hke : k = a.length := by omega
      subst hke
      rw [he]
      refine ⟨_, rfl, ?_⟩
      apply List.ext_getElem?
      intro j
      by_cases hj : j < a.length
      · exact h3 j hj
      · rw [List.getElem?_eq_none (by omega), List.getElem?_eq_none (by omega)]) (List.replicate a.length z, 0) ⟨0, rfl, by omega, by simp, fun j h => by omega⟩
  rw [h1, h2]
theorem eqS_gen {α : Type} (a b : List α) (p : α → α → Bool) (hp : ∀ x ∈ a, ∀ y, y ∈ b → (p x y = true ↔ x = y)) (hlen : a.length = b.length) (f : Int → Option (Int ⊕ (Unit ⊕ Bool)))
    (hf : ∀ (k : Nat) (hk : k < a.length) (hk2 : k < b.length), f k = some (if p a[k] b[k] = true then .inl ((k + 1 : Nat) : Int) else .inr (.inr false)))
    (he : f a.length = some (.inr (.inl ()))) : (a = b → loopP f 0 = some (.inl ())) ∧ (a ≠ b → loopP f 0 = some (.inr false)) := by
  obtain ⟨r, h1, h2⟩ := loopP_run (fun i : Int => ∃ k : Nat, i = k ∧ k ≤ a.length ∧ ∀ j, j < k → a[j]? = b[j]?) (fun i => a.length - i.toNat) (fun r => (r = .inl () ∧ a = b) ∨ (r = .inr false ∧ a ≠ b)) (f := f) (by
    rintro i ⟨k, rfl, hk, h3⟩
    by_cases hlt : k < a.length
    · have hlt2 : k < b.length := by omega
      rw [hf k hlt hlt2]
      by_cases hpk : p a[k] b[k] = true
      · left
        rw [if_pos hpk]
        refine ⟨_, rfl, ⟨k + 1, rfl, by omega, fun j hj => ?_⟩, by simp only [Int.toNat_natCast]; omega⟩
        by_cases e : j = k
        · subst e
          rw [List.getElem?_eq_getElem hlt, List.getElem?_eq_getElem hlt2, (hp _ (List.getElem_mem hlt) _ (List.getElem_mem hlt2)).1 hpk]
        · exact h3 j (by omega)
      · right
        rw [if_neg hpk]
        refine ⟨_, rfl, .inr ⟨rfl, fun e => hpk ?_⟩⟩
        subst e
        exact (hp _ (List.getElem_mem hlt) _ (List.getElem_mem hlt)).2 rfl
    · right
      have hke : k = a.length := by omega
      subst hke
      rw [he]
      refine ⟨_, rfl, .inl ⟨rfl, ?_⟩⟩
      apply List.ext_getElem?
      intro j
      by_cases hj : j < a.length
      · exact h3 j hj
      · rw [List.getElem?_eq_none (by omega), List.getElem?_eq_none (by omega)]) 0 ⟨0, rfl, by omega, fun j h => by omega⟩
  rcases h2 with ⟨e, hab⟩ | ⟨e, hab⟩
  · exact ⟨fun _ => by rw [h1, e], fun h => absurd hab h⟩
  · exact ⟨fun h => absurd h hab, fun _ => by rw [h1, e]⟩
theorem mkI_len {α : Type} (b : Int) (n : Nat) (z : α) (h1 : b * n ≤ 140737488355328) (h2 : (n : Int) ≤ 140737488355328) : mkI b (n : Int) z = some (List.replicate n z) := by
  unfold mkI
  rw [if_pos ⟨by omega, h1, h2⟩]
  simp
theorem bindS_def {α β : Type} (x : α) (f : α → β) : bindS x f = f x := rfl
end Go.OM
set_option linter.unusedVariables false
set_option linter.unusedSimpArgs false
namespace Go.OM
theorem loopP_inr {α ρ : Type} {f : α → Option (α ⊕ ρ)} {a : α} {r : ρ} (h : f a = some (.inr r)) : loopP f a = some r := by rw [loopP_eq, h]; rfl
theorem loopP_inl {α ρ : Type} {f : α → Option (α ⊕ ρ)} {a b : α} (h : f a = some (.inl b)) : loopP f a = loopP f b := by rw [loopP_eq, h]; rfl
theorem loopP_find {α ρ : Type} (l : List α) (q : α → Option ρ) (f : Int → Option (Int ⊕ (Unit ⊕ ρ)))
    (hf : ∀ (k : Nat) (h : k < l.length), f k = some (match q l[k] with | none => .inl ((k + 1 : Nat) : Int) | some r => .inr (.inr r)))
    (he : f l.length = some (.inr (.inl ()))) : loopP f 0 = some (match l.findSome? q with | some r => .inr r | none => .inl ()) := by
  have key : ∀ (n k : Nat), n = l.length - k → k ≤ l.length → loopP f k = some (match (l.drop k).findSome? q with | some r => .inr r | none => .inl ()) := by
    intro n
    induction n with
    | zero =>
      intro k hn hk
      have : k = l.length := by omega
      subst this
      rw [loopP_inr he, List.drop_length]; rfl
    | succ n ih =>
      intro k hn hk
      have hlt : k < l.length := by omega
      rw [List.drop_eq_getElem_cons hlt, List.findSome?_cons]
      cases hq : q l[k] with
      | none =>
        have h1 := hf k hlt
        rw [hq] at h1
        rw [loopP_inl h1]
        exact ih (k + 1) (by omega) (by omega)
      | some r =>
        have h1 := hf k hlt
        rw [hq] at h1
        rw [loopP_inr h1]
  have := key l.length 0 (by omega) (by omega)
  simpa using this
theorem find_all {α : Type} (l : List α) (p : α → Bool) (b : Bool) : l.findSome? (fun x => if p x = true then none else some b) = if l.all p = true then none else some b := by
  induction l with
  | nil => rfl
  | cons x l ih =>
    rw [List.findSome?_cons, List.all_cons]
    cases hp : p x <;> simp [ih]
theorem find_any {α : Type} (l : List α) (p : α → Bool) (b : Bool) : l.findSome? (fun x => if p x = true then some b else none) = if l.any p = true then some b else none := by
  induction l with
  | nil => rfl
  | cons x l ih =>
    rw [List.findSome?_cons, List.any_cons]
    cases hp : p x <;> simp [ih]
theorem loopP_all {α : Type} (l : List α) (p : α → Bool) (f : Int → Option (Int ⊕ (Unit ⊕ Bool)))
    (hf : ∀ (k : Nat) (h : k < l.length), f k = some (if p l[k] = true then .inl ((k + 1 : Nat) : Int) else .inr (.inr false)))
    (he : f l.length = some (.inr (.inl ()))) : loopP f 0 = some (if l.all p = true then .inl () else .inr false) := by
  rw [loopP_find l (fun x => if p x = true then none else some false) f (fun k h => by rw [hf k h]; cases p l[k] <;> rfl) he, find_all]
  cases l.all p <;> rfl
theorem loopP_any {α : Type} (l : List α) (p : α → Bool) (f : Int → Option (Int ⊕ (Unit ⊕ Bool)))
    (hf : ∀ (k : Nat) (h : k < l.length), f k = some (if p l[k] = true then .inr (.inr true) else .inl ((k + 1 : Nat) : Int)))
    (he : f l.length = some (.inr (.inl ()))) : loopP f 0 = some (if l.any p = true then .inr true else .inl ()) := by
  rw [loopP_find l (fun x => if p x = true then some true else none) f (fun k h => by rw [hf k h]; cases p l[k] <;> rfl) he, find_any]
  cases l.any p <;> rfl
def foldE {α σ ρ : Type} (g : σ → α → σ ⊕ ρ) (fin : σ → ρ) : List α → σ → ρ
  | [], s => fin s
  | x :: l, s => match g s x with
    | .inl s' => foldE g fin l s'
    | .inr r => r
theorem loopP_fold {α σ τ ρ : Type} (l : List α) (mk : σ → Nat → τ) (I : Nat → σ → Prop) (g : σ → α → σ ⊕ ρ) (fin : σ → ρ) (f : τ → Option (τ ⊕ ρ))
    (hf : ∀ (s : σ) (k : Nat) (h : k < l.length), I k s → (∃ s', g s l[k] = .inl s' ∧ f (mk s k) = some (.inl (mk s' (k + 1))) ∧ I (k + 1) s') ∨ ∃ r, g s l[k] = .inr r ∧ f (mk s k) = some (.inr r))
    (he : ∀ s, I l.length s → f (mk s l.length) = some (.inr (fin s))) (s : σ) (h0 : I 0 s) : loopP f (mk s 0) = some (foldE g fin l s) := by
  have key : ∀ (n k : Nat) (s : σ), n = l.length - k → k ≤ l.length → I k s → loopP f (mk s k) = some (foldE g fin (l.drop k) s) := by
    intro n
    induction n with
    | zero =>
      intro k s hn hk hI
      have : k = l.length := by omega
      subst this
      rw [loopP_inr (he s hI), List.drop_length]; rfl
    | succ n ih =>
      intro k s hn hk hI
      have hlt : k < l.length := by omega
      rw [List.drop_eq_getElem_cons hlt]
      rcases hf s k hlt hI with ⟨s', h1, h2, h3⟩ | ⟨r, h1, h2⟩
      · rw [loopP_inl h2, ih (k + 1) s' (by omega) (by omega) h3]
        simp only [foldE, h1]
      · rw [loopP_inr h2]
        simp only [foldE, h1]
  have := key l.length 0 s (by omega) (by omega) h0
  simpa using this
theorem markS_gen {α : Type} (ok : α → Prop) (M : α → Int → Int → Prop) (W : Nat) (B : Int) (f : List α × Int × Int → Option ((List α × Int × Int) ⊕ (List α × Int)))
    (hf : ∀ (out : List α) (k : Int) (i : Nat) (hi : i < out.length), out.length ≤ 1048576 → 0 ≤ k → k + W ≤ B → ok out[i] → ∃ k' x', k ≤ k' ∧ k' ≤ k + W ∧ M x' k k' ∧ f (out, k, i) = some (.inl (out.set i x', k', ((i + 1 : Nat) : Int))))
    (he : ∀ out k, f (out, k, (out.length : Int)) = some (.inr (out, k)))
    (a : List α) (ha : a.length ≤ 1048576) (hok : ∀ x ∈ a, ok x) (k : Int) (h0 : 0 ≤ k) (h1 : k + W * 1048576 ≤ B) :
    ∃ k' a', loopP f (a, k, 0) = some (a', k') ∧ k ≤ k' ∧ k' ≤ k + W * 1048576 ∧ a'.length = a.length ∧ ∃ ks : Nat → Int, ks 0 = k ∧ ks a.length = k' ∧ ∀ (j : Nat) (hj : j < a'.length), M a'[j] (ks j) (ks (j + 1)) ∧ 0 ≤ ks j ∧ ks j ≤ ks (j + 1) ∧ ks j ≤ B := by
  have hWm : ∀ j : Nat, j ≤ a.length → (W : Int) * j ≤ W * 1048576 := fun j hj => Int.mul_le_mul_of_nonneg_left (by omega) (by omega)
  have hWs : ∀ j : Nat, j < a.length → (W : Int) * j + W ≤ W * 1048576 := fun j hj => by
    have : (W : Int) * j + W = W * ((j + 1 : Nat) : Int) := by rw [Int.natCast_succ, Int.mul_add, Int.mul_one]
    rw [this]
    exact Int.mul_le_mul_of_nonneg_left (by omega) (by omega)
  obtain ⟨r, g1, g2⟩ := loopP_run (f := f) (fun s : List α × Int × Int => ∃ j : Nat, s.2.2 = j ∧ j ≤ a.length ∧ s.1.length = a.length ∧ (∀ l, j ≤ l → s.1[l]? = a[l]?) ∧ k ≤ s.2.1 ∧ s.2.1 ≤ k + W * j ∧ ∃ ks : Nat → Int, ks 0 = k ∧ ks j = s.2.1 ∧ ∀ (l : Nat), l < j → ∃ x, s.1[l]? = some x ∧ M x (ks l) (ks (l + 1)) ∧ 0 ≤ ks l ∧ ks l ≤ ks (l + 1) ∧ ks l ≤ B) (fun s => a.length - s.2.2.toNat)
    (fun r => k ≤ r.2 ∧ r.2 ≤ k + W * 1048576 ∧ r.1.length = a.length ∧ ∃ ks : Nat → Int, ks 0 = k ∧ ks a.length = r.2 ∧ ∀ (j : Nat) (hj : j < r.1.length), M r.1[j] (ks j) (ks (j + 1)) ∧ 0 ≤ ks j ∧ ks j ≤ ks (j + 1) ∧ ks j ≤ B) (by
    rintro ⟨out, m, i⟩ ⟨j, hi, hj, hl, hsame, hm1, hm2, ks, e0, e1, e2⟩
    simp only at hi hl hsame hm1 hm2 e1 e2
    subst hi
    have hWj := hWm j hj
    by_cases hlt : j < a.length
    · left
      have hlt2 : j < out.length := by omega
      have hWsj := hWs j hlt
      have hoj : out[j] = a[j] := by
        have := hsame j (Nat.le_refl _)
        rw [List.getElem?_eq_getElem hlt2, List.getElem?_eq_getElem hlt] at this
        exact Option.some.inj this
      obtain ⟨k', x', q1, q2, q3, q4⟩ := hf out m j hlt2 (by omega) (by omega) (by omega) (hoj ▸ hok _ (List.getElem_mem hlt))
      refine ⟨(out.set j x', k', ((j + 1 : Nat) : Int)), q4, ⟨j + 1, rfl, by omega, by simpa using hl, fun l hl' => ?_, by simp only; omega, ?_, fun l => if l ≤ j then ks l else k', by simp [e0], by simp only [show ¬ (j + 1 ≤ j) by omega, if_false], fun l hl' => ?_⟩, by simp only [Int.toNat_natCast]; omega⟩
      · simp only
        rw [List.getElem?_set_ne (by omega)]
        exact hsame l (by omega)
      · simp only
        have : (W : Int) * ((j + 1 : Nat) : Int) = W * j + W := by rw [Int.natCast_succ, Int.mul_add, Int.mul_one]
        omega
      · by_cases hlj : l = j
        · subst hlj
          refine ⟨x', by simp [hlt2], ?_⟩
          simp only [Nat.le_refl, if_true, show ¬ (l + 1 ≤ l) by omega, if_false, e1]
          exact ⟨q3, by omega, q1, by omega⟩
        · obtain ⟨x, p1, p2⟩ := e2 l (by omega)
          refine ⟨x, by rw [List.getElem?_set_ne (by omega)]; exact p1, ?_⟩
          simp only [show l ≤ j by omega, show l + 1 ≤ j by omega, if_true]
          exact p2
    · right
      have hja : j = a.length := by omega
      subst hja
      refine ⟨(out, m), by rw [← hl]; exact he out m, hm1, by simp only; omega, hl, ks, e0, e1, fun j hj => ?_⟩
      obtain ⟨x, p1, p2⟩ := e2 j (by simp only at hj; omega)
      simp only at hj
      rw [List.getElem?_eq_getElem hj] at p1
      injection p1 with p1
      subst p1
      exact p2) (a, k, 0) ⟨0, rfl, by omega, rfl, fun _ _ => rfl, by simp, by simp, fun _ => k, rfl, rfl, fun l h => by omega⟩
  obtain ⟨a', k'⟩ := r
  exact ⟨k', a', g1, g2⟩
theorem heldS_gen {α : Type} (a : List α) (M : α → Int → Int → Prop) (B : Int) (ks : Nat → Int) (g : Int × Int → Option ((Int × Int) ⊕ (Int ⊕ Int)))
    (hk : ∀ (j : Nat) (hj : j < a.length), M a[j] (ks j) (ks (j + 1)) ∧ 0 ≤ ks j ∧ ks j ≤ ks (j + 1) ∧ ks j ≤ B)
    (hg : ∀ (j : Nat) (hj : j < a.length) (k k' : Int), M a[j] k k' → 0 ≤ k → k ≤ k' → k ≤ B → g (k, j) = some (.inl (k', ((j + 1 : Nat) : Int))))
    (he : ∀ k, g (k, (a.length : Int)) = some (.inr (.inl k))) : loopP g (ks 0, 0) = some (.inl (ks a.length)) := by
  have key : ∀ (n k : Nat), n = a.length - k → k ≤ a.length → loopP g (ks k, (k : Int)) = some (.inl (ks a.length)) := by
    intro n
    induction n with
    | zero =>
      intro k hn hk'
      have : k = a.length := by omega
      subst this
      exact loopP_inr (he _)
    | succ n ih =>
      intro k hn hk'
      have hlt : k < a.length := by omega
      obtain ⟨q1, q2, q3, q4⟩ := hk k hlt
      rw [loopP_inl (hg k hlt _ _ q1 q2 q3 q4)]
      exact ih (k + 1) (by omega) (by omega)
  exact key a.length 0 (by omega) (by omega)
theorem getI_set {α : Type} {l : List α} {k : Nat} {x : α} (hk : k < l.length) : getI (l.set k x) (k : Int) = some x := by simp [hk]
theorem sCat_ok' {x y : ByteArray} (h : x.size + y.size ≤ 9223372036854775807) : sCat x y = some (x ++ y) := by unfold sCat; rw [if_pos h]
theorem bytesOf_size' (l : List Int) : (bytesOf l).size = l.length := by simp [bytesOf, ByteArray.size]
theorem text_loop (f : Int × ByteArray → Option ((Int × ByteArray) ⊕ ByteArray))
    (hf : ∀ (k : Int) (o : ByteArray), 0 < k → ∃ x : Int, f (k, o) = (sCat (bytesOf [x]) o).bind fun t => some (.inl (IntKind.wrap .i64 (Int.tdiv k 10), t)))
    (he : ∀ (k : Int) (o : ByteArray), k ≤ 0 → f (k, o) = some (.inr o)) (k : Int) (h0 : 0 ≤ k) (h1 : k ≤ 9223372036854775807) :
    ∃ z, loopP f (k, ⟨#[]⟩) = some z ∧ z.size ≤ 64 := by
  obtain ⟨r, g1, g2⟩ := loopP_run (f := f) (fun s : Int × ByteArray => 0 ≤ s.1 ∧ ∃ d : Nat, d ≤ 64 ∧ s.1 < 2 ^ d ∧ s.2.size + d ≤ 64) (fun s => s.1.toNat) (fun z => z.size ≤ 64) (by
    rintro ⟨k, o⟩ ⟨g0, d, gd, g1, g2⟩
    simp only at g0 g1 g2
    by_cases hk : 0 < k
    · left
      obtain ⟨x, hx⟩ := hf k o hk
      have hd : d ≠ 0 := by rintro rfl; simp at g1; omega
      have hs : (bytesOf [x]).size = 1 := by rw [bytesOf_size']; rfl
      have hdiv : Int.tdiv k 10 = k / 10 := Int.tdiv_eq_ediv_of_nonneg g0
      have hkb : k ≤ 9223372036854775807 ∨ 9223372036854775807 < k := by omega
      have hw : IntKind.wrap .i64 (Int.tdiv k 10) = k / 10 := by
        rw [hdiv]
        have h64 : (2 : Int) ^ d ≤ 2 ^ 64 := by
          have := Nat.pow_le_pow_right (show 0 < 2 by omega) gd
          exact_mod_cast this
        exact w64 (by omega) (by simp at h64; omega)
      refine ⟨(k / 10, bytesOf [x] ++ o), ?_, ⟨by simp only; omega, d - 1, by omega, ?_, ?_⟩, by simp only; omega⟩
      · rw [hx, sCat_ok' (by omega), Option.bind_some, hw]
      · simp only
        have e : (2 : Int) ^ d = 2 ^ (d - 1) * 2 := by rw [← Int.pow_succ]; congr 1; omega
        omega
      · simp only [ByteArray.size_append, hs]; omega
    · right
      exact ⟨o, he k o (by omega), by omega⟩) (k, ⟨#[]⟩) ⟨h0, 64, Nat.le_refl _, by simp; omega, by show 0 + 64 ≤ 64; omega⟩
  exact ⟨r, g1, g2⟩
end Go.OM
set_option linter.unusedVariables false
set_option linter.unusedSimpArgs false
set_option maxHeartbeats 1000000
namespace Go.OM
def GIns.le (n : Nat) (a : GIns) : Prop := (a.Name.size ≤ n) ∧ (a.Args.length ≤ n)
theorem GIns.ext' (a b : GIns) : a = b ↔ a.Op = b.Op ∧ a.A = b.A ∧ a.B = b.B ∧ a.C = b.C ∧ a.Num = b.Num ∧ a.Name = b.Name ∧ a.Args = b.Args := by cases a; cases b; simp
def GCode.le (n : Nat) (a : GCode) : Prop := (a.Name.size ≤ n) ∧ (a.Locals.length ≤ n) ∧ (a.Words.length ≤ n ∧ ∀ x ∈ a.Words, GIns.le n x)
theorem GCode.ext' (a b : GCode) : a = b ↔ a.Name = b.Name ∧ a.Params = b.Params ∧ a.Locals = b.Locals ∧ a.Words = b.Words := by cases a; cases b; simp
def GNode.le (n : Nat) (a : GNode) : Prop := (a.Name.size ≤ n) ∧ (a.Kids.length ≤ n)
theorem GNode.ext' (a b : GNode) : a = b ↔ a.Kind = b.Kind ∧ a.Num = b.Num ∧ a.Name = b.Name ∧ a.Kids = b.Kids := by cases a; cases b; simp
def GParam.le (n : Nat) (a : GParam) : Prop := (a.Name.size ≤ n)
theorem GParam.ext' (a b : GParam) : a = b ↔ a.Name = b.Name ∧ a.Typ = b.Typ := by cases a; cases b; simp
def GFn.le (n : Nat) (a : GFn) : Prop := (a.Name.size ≤ n) ∧ (a.Params.length ≤ n ∧ ∀ x ∈ a.Params, GParam.le n x)
theorem GFn.ext' (a b : GFn) : a = b ↔ a.Name = b.Name ∧ a.Params = b.Params ∧ a.Res = b.Res ∧ a.Body = b.Body ∧ a.Ret = b.Ret := by cases a; cases b; simp
def GProgram.le (n : Nat) (a : GProgram) : Prop := (a.Nodes.length ≤ n ∧ ∀ x ∈ a.Nodes, GNode.le n x) ∧ (a.Fns.length ≤ n ∧ ∀ x ∈ a.Fns, GFn.le n x)
theorem GProgram.ext' (a b : GProgram) : a = b ↔ a.Nodes = b.Nodes ∧ a.Fns = b.Fns := by cases a; cases b; simp
def GMeasure.le (n : Nat) (a : GMeasure) : Prop := True
theorem GMeasure.ext' (a b : GMeasure) : a = b ↔ a.Fns = b.Fns ∧ a.Nodes = b.Nodes ∧ a.Steps = b.Steps ∧ a.Values = b.Values ∧ a.Blocks = b.Blocks ∧ a.Lets = b.Lets ∧ a.News = b.News ∧ a.Lends = b.Lends ∧ a.Deep = b.Deep := by cases a; cases b; simp
def GBlock.le (n : Nat) (a : GBlock) : Prop := (a.Next.length ≤ n)
theorem GBlock.ext' (a b : GBlock) : a = b ↔ a.From = b.From ∧ a.To = b.To ∧ a.Next = b.Next := by cases a; cases b; simp
def GLoan.le (n : Nat) (a : GLoan) : Prop := True
theorem GLoan.ext' (a b : GLoan) : a = b ↔ a.At = b.At ∧ a.Of = b.Of ∧ a.Mut = b.Mut := by cases a; cases b; simp
theorem laws_szIntS_p (a : List Int) (hw : a.length ≤ maxLen) (n : Int) (h0 : 0 ≤ n) (h1 : n ≤ 1048576) : ∃ r, laws_szIntS a n = some r ∧ r ≤ n ∧ (0 ≤ r → a.length ≤ 1048576) := by
  have hw' : a.length ≤ 9223372036854775807 := hw
  unfold laws_szIntS
  rw [w64 (by omega) (by omega)]
  split
  · exact ⟨_, rfl, by omega, fun h => by omega⟩
  · rename_i h; simp only [decide_eq_true_eq] at h; exact ⟨_, rfl, by omega, fun h => by omega⟩
theorem laws_toIntS_p (a : List Int) (h : a.length ≤ 1048576) : laws_toIntS a = some a := by
  have hl : a.length ≤ 1048576 := h
  unfold laws_toIntS
  rw [mkI_len _ _ _ (by omega) (by omega)]
  simp only [Option.bind_some]
  rw [toS_gen a _ (laws_toIntS_l1 a) (fun out k hk ho => ?_) (fun out => by simp [laws_toIntS_l1])]
  · rfl
  · simp only [laws_toIntS_l1, ofNat_lt_true hk, if_true, getI_at hk, Option.bind_some, getI_at (show k < out.length by omega), bindS_def, Int.toNat_natCast, w64_succ hk (show a.length ≤ maxLen by show _ ≤ 9223372036854775807; omega)]
theorem laws_eqIntS_p (a b : List Int) (ha : a.length ≤ 1048576) (hb : b.length ≤ 1048576) : laws_eqIntS a b = some (decide (a = b)) := by
  have hl : a.length ≤ 1048576 := ha
  unfold laws_eqIntS
  by_cases hlen : a.length = b.length
  · have hlen' : ((a.length : Int) != (b.length : Int)) = false := by simp [hlen]
    simp only [hlen', Bool.false_eq_true, if_false]
    have key := eqS_gen a b (fun x y => !(x != y)) (fun x _ y _ => by simp) hlen (laws_eqIntS_l1 a b) (fun k hk hk2 => ?_) (by simp [laws_eqIntS_l1])
    · by_cases e : a = b
      · rw [key.1 e]; simp [e]
      · rw [key.2 e]; simp [e]
    simp only [laws_eqIntS_l1, ofNat_lt_true hk, if_true, getI_at hk, getI_at hk2, Option.bind_some, w64_succ hk (show a.length ≤ maxLen by show _ ≤ 9223372036854775807; omega)]
    try (by_cases e : a[k] = b[k] <;> simp [e])
  · have hlen' : ((a.length : Int) != (b.length : Int)) = true := by simp; omega
    have hne : a ≠ b := fun e => hlen (by rw [e])
    simp [hlen', hne]
theorem laws_szIns_p (a : GIns) (hw : GIns.le maxLen a) (n : Int) (h0 : 0 ≤ n) (h1 : n ≤ 1048576) : ∃ r, laws_szIns a n = some r ∧ r ≤ n ∧ (0 ≤ r → GIns.le 1048576 a) := by
  obtain ⟨hw0, hw1⟩ := hw
  unfold laws_szIns
  have hs0 : a.Name.size ≤ 9223372036854775807 := hw0
  simp only [w64 (n := n - (a.Name.size : Int)) (by omega) (by omega)]
  by_cases hn0 : (n - (a.Name.size : Int)) < 0
  · simp only [hn0, decide_true, if_true]; exact ⟨_, rfl, by omega, fun h => by omega⟩
  simp only [hn0, decide_false, Bool.false_eq_true, if_false]
  obtain ⟨r1, q1a, q1b, q1c⟩ := laws_szIntS_p a.Args hw1 (n - (a.Name.size : Int)) (by omega) (by omega)
  simp only [q1a, Option.bind_some]
  by_cases hn1 : r1 < 0
  · simp only [hn1, decide_true, if_true]; exact ⟨_, rfl, by omega, fun h => by omega⟩
  simp only [hn1, decide_false, Bool.false_eq_true, if_false]
  exact ⟨_, rfl, by omega, fun _ => ⟨by omega, q1c (by omega)⟩⟩
theorem laws_toIns_p (a : GIns) (h : GIns.le 1048576 a) : laws_toIns a = some a := by
  obtain ⟨h0, h1⟩ := h
  unfold laws_toIns
  simp only [laws_toIntS_p a.Args h1, Option.bind_some]
theorem laws_eqIns_p (a b : GIns) (ha : GIns.le 1048576 a) (hb : GIns.le 1048576 b) : laws_eqIns a b = some (decide (a = b)) := by
  obtain ⟨ha0, ha1⟩ := ha
  obtain ⟨hb0, hb1⟩ := hb
  unfold laws_eqIns
  try simp only [sEq_iff, Option.bind_some, laws_eqIntS_p a.Args b.Args ha1 hb1]
  rw [show decide (a = b) = decide (a.Op = b.Op ∧ a.A = b.A ∧ a.B = b.B ∧ a.C = b.C ∧ a.Num = b.Num ∧ a.Name = b.Name ∧ a.Args = b.Args) from by simp only [GIns.ext' a b]]

  by_cases e0 : a.Op = b.Op
  case neg => simp [e0]
  by_cases e1 : a.A = b.A
  case neg => simp [e1, e0]
  by_cases e2 : a.B = b.B
  case neg => simp [e2, e0, e1]
  by_cases e3 : a.C = b.C
  case neg => simp [e3, e0, e1, e2]
  by_cases e4 : a.Num = b.Num
  case neg => simp [e4, e0, e1, e2, e3]
  by_cases e5 : a.Name = b.Name
  case neg => simp [e5, e0, e1, e2, e3, e4]
  by_cases e6 : a.Args = b.Args
  case neg => simp [e6, e0, e1, e2, e3, e4, e5]
  simp [e0, e1, e2, e3, e4, e5, e6]
theorem laws_szInsS_p (a : List GIns) (hw : a.length ≤ maxLen ∧ ∀ x ∈ a, GIns.le maxLen x) (n : Int) (h0 : 0 ≤ n) (h1 : n ≤ 1048576) : ∃ r, laws_szInsS a n = some r ∧ r ≤ n ∧ (0 ≤ r → a.length ≤ 1048576 ∧ ∀ x ∈ a, GIns.le 1048576 x) := by
  have hw' : a.length ≤ 9223372036854775807 := hw.1
  unfold laws_szInsS
  rw [w64 (by omega) (by omega)]
  split
  · exact ⟨_, rfl, by omega, fun h => by omega⟩
  · rename_i h
    simp only [decide_eq_true_eq] at h
    have hf : ∀ (m : Int) (k : Nat) (g0 : 0 ≤ m) (g1 : m ≤ 1048576) (hk : k < a.length), ∃ r, r ≤ m ∧ (0 ≤ r → (fun x : GIns => GIns.le 1048576 x) a[k]) ∧ laws_szInsS_l1 a (m, k) = some (if r < 0 then .inr (.inr (-1)) else .inl (r, ((k + 1 : Nat) : Int))) := by
      intro m k g0 g1 hk
      obtain ⟨r, r1, r2, r3⟩ := laws_szIns_p a[k] (hw.2 _ (List.getElem_mem hk)) m g0 g1
      refine ⟨r, r2, r3, ?_⟩
      simp only [laws_szInsS_l1, ofNat_lt_true hk, if_true, getI_at hk, Option.bind_some, r1, w64_succ hk hw.1]
      by_cases hr : r < 0 <;> simp [hr]
    obtain ⟨j, hj, hj2⟩ := szS_gen _ a (laws_szInsS_l1 a) 1048576 hf (fun m => by simp [laws_szInsS_l1]) (n - a.length) (by omega) (by omega)
    rcases hj2 with rfl | ⟨m, rfl, q1, q2, q3⟩
    · exact ⟨-1, by rw [hj]; rfl, by omega, fun h => by omega⟩
    · exact ⟨m, by rw [hj]; rfl, by omega, fun _ => ⟨by omega, q3⟩⟩
theorem laws_toInsS_p (a : List GIns) (h : a.length ≤ 1048576 ∧ ∀ x ∈ a, GIns.le 1048576 x) : laws_toInsS a = some a := by
  have hl : a.length ≤ 1048576 := h.1
  unfold laws_toInsS
  rw [mkI_len _ _ _ (by omega) (by omega)]
  simp only [Option.bind_some]
  rw [toS_gen a _ (laws_toInsS_l1 a) (fun out k hk ho => ?_) (fun out => by simp [laws_toInsS_l1])]
  · rfl
  · simp only [laws_toInsS_l1, ofNat_lt_true hk, if_true, getI_at hk, Option.bind_some, laws_toIns_p a[k] (h.2 _ (List.getElem_mem hk)), getI_at (show k < out.length by omega), bindS_def, Int.toNat_natCast, w64_succ hk (show a.length ≤ maxLen by show _ ≤ 9223372036854775807; omega)]
theorem laws_eqInsS_p (a b : List GIns) (ha : a.length ≤ 1048576 ∧ ∀ x ∈ a, GIns.le 1048576 x) (hb : b.length ≤ 1048576 ∧ ∀ x ∈ b, GIns.le 1048576 x) : laws_eqInsS a b = some (decide (a = b)) := by
  have hl : a.length ≤ 1048576 := ha.1
  unfold laws_eqInsS
  by_cases hlen : a.length = b.length
  · have hlen' : ((a.length : Int) != (b.length : Int)) = false := by simp [hlen]
    simp only [hlen', Bool.false_eq_true, if_false]
    have key := eqS_gen a b (fun x y => decide (x = y)) (fun x _ y _ => by simp) hlen (laws_eqInsS_l1 a b) (fun k hk hk2 => ?_) (by simp [laws_eqInsS_l1])
    · by_cases e : a = b
      · rw [key.1 e]; simp [e]
      · rw [key.2 e]; simp [e]
    simp only [laws_eqInsS_l1, ofNat_lt_true hk, if_true, getI_at hk, getI_at hk2, Option.bind_some, laws_eqIns_p a[k] b[k] (ha.2 _ (List.getElem_mem hk)) (hb.2 _ (List.getElem_mem hk2)), w64_succ hk (show a.length ≤ maxLen by show _ ≤ 9223372036854775807; omega)]
    try (by_cases e : a[k] = b[k] <;> simp [e])
  · have hlen' : ((a.length : Int) != (b.length : Int)) = true := by simp; omega
    have hne : a ≠ b := fun e => hlen (by rw [e])
    simp [hlen', hne]
theorem laws_szCode_p (a : GCode) (hw : GCode.le maxLen a) (n : Int) (h0 : 0 ≤ n) (h1 : n ≤ 1048576) : ∃ r, laws_szCode a n = some r ∧ r ≤ n ∧ (0 ≤ r → GCode.le 1048576 a) := by
  obtain ⟨hw0, hw1, hw2⟩ := hw
  unfold laws_szCode
  have hs0 : a.Name.size ≤ 9223372036854775807 := hw0
  simp only [w64 (n := n - (a.Name.size : Int)) (by omega) (by omega)]
  by_cases hn0 : (n - (a.Name.size : Int)) < 0
  · simp only [hn0, decide_true, if_true]; exact ⟨_, rfl, by omega, fun h => by omega⟩
  simp only [hn0, decide_false, Bool.false_eq_true, if_false]
  obtain ⟨r1, q1a, q1b, q1c⟩ := laws_szIntS_p a.Locals hw1 (n - (a.Name.size : Int)) (by omega) (by omega)
  simp only [q1a, Option.bind_some]
  by_cases hn1 : r1 < 0
  · simp only [hn1, decide_true, if_true]; exact ⟨_, rfl, by omega, fun h => by omega⟩
  simp only [hn1, decide_false, Bool.false_eq_true, if_false]
  obtain ⟨r2, q2a, q2b, q2c⟩ := laws_szInsS_p a.Words hw2 r1 (by omega) (by omega)
  simp only [q2a, Option.bind_some]
  by_cases hn2 : r2 < 0
  · simp only [hn2, decide_true, if_true]; exact ⟨_, rfl, by omega, fun h => by omega⟩
  simp only [hn2, decide_false, Bool.false_eq_true, if_false]
  exact ⟨_, rfl, by omega, fun _ => ⟨by omega, q1c (by omega), q2c (by omega)⟩⟩
theorem laws_toCode_p (a : GCode) (h : GCode.le 1048576 a) : laws_toCode a = some a := by
  obtain ⟨h0, h1, h2⟩ := h
  unfold laws_toCode
  simp only [laws_toIntS_p a.Locals h1, laws_toInsS_p a.Words h2, Option.bind_some]
theorem laws_eqCode_p (a b : GCode) (ha : GCode.le 1048576 a) (hb : GCode.le 1048576 b) : laws_eqCode a b = some (decide (a = b)) := by
  obtain ⟨ha0, ha1, ha2⟩ := ha
  obtain ⟨hb0, hb1, hb2⟩ := hb
  unfold laws_eqCode
  try simp only [sEq_iff, Option.bind_some, laws_eqIntS_p a.Locals b.Locals ha1 hb1, laws_eqInsS_p a.Words b.Words ha2 hb2]
  rw [show decide (a = b) = decide (a.Name = b.Name ∧ a.Params = b.Params ∧ a.Locals = b.Locals ∧ a.Words = b.Words) from by simp only [GCode.ext' a b]]
  by_cases e0 : a.Name = b.Name <;> by_cases e1 : a.Params = b.Params <;> by_cases e2 : a.Locals = b.Locals <;> by_cases e3 : a.Words = b.Words <;> simp [e0, e1, e2, e3]
theorem laws_markText_p (k : Int) (h0 : 0 ≤ k) (h1 : k ≤ 9223372036854775807) : ∃ z, laws_markText k = some z := by
  unfold laws_markText
  by_cases hk : k ≤ 0
  · simp [hk]
  · simp only [hk, decide_false, Bool.false_eq_true, if_false]
    obtain ⟨z, h2, h3⟩ := text_loop laws_markText_l1 (fun k o hk => ⟨IntKind.wrap .u8 (IntKind.wrap .i64 (48 + (Int.tmod k 10))), by simp only [laws_markText_l1, gt_iff_lt, hk, decide_true, if_true]⟩) (fun k o hk => by simp only [laws_markText_l1, gt_iff_lt, show ¬ 0 < k by omega, decide_false, Bool.false_eq_true, if_false]) k h0 h1
    rw [h2]
    have hs : (⟨#[109]⟩ : ByteArray).size = 1 := rfl
    simp only [Option.bind_some]
    rw [sCat_ok' (by rw [hs]; omega)]
    exact ⟨_, rfl⟩
theorem laws_markIntS_p (a : List Int) (ha : a.length ≤ 1048576) (k : Int) (h0 : 0 ≤ k) (h1 : k + 1048576 ≤ 4611686018427387904) : ∃ k' a', laws_markIntS a k = some (k', a') ∧ k ≤ k' ∧ k' ≤ k + 1048576 ∧ laws_heldIntS a' k = some k' := by
  have hlen : a.length ≤ 1048576 := ha
  have hM : ∃ k' a', loopP laws_markIntS_l1 (a, k, 0) = some (a', k') ∧ k ≤ k' ∧ k' ≤ k + 1 * 1048576 ∧ a'.length = a.length ∧ ∃ ks : Nat → Int, ks 0 = k ∧ ks a.length = k' ∧ ∀ (j : Nat) (hj : j < a'.length), (fun (x : Int) (k k' : Int) => x = k ∧ k' = (k + 1)) a'[j] (ks j) (ks (j + 1)) ∧ 0 ≤ ks j ∧ ks j ≤ ks (j + 1) ∧ ks j ≤ 4611686018427387904 := by
    refine markS_gen (fun x : Int => True) (fun (x : Int) (k k' : Int) => x = k ∧ k' = (k + 1)) 1 4611686018427387904 laws_markIntS_l1 (fun out k i hi hlen h0 h1 hok => ?_) (fun out k => by simp [laws_markIntS_l1]) a hlen (fun x hx => trivial) k h0 (by omega)
    refine ⟨(k + 1), k, by omega, by omega, ?_, ?_⟩
    · simp []
    · simp (disch := omega) only [laws_markIntS_l1, ofNat_lt_true hi, if_true, getI_at, getI_set, Option.bind_some, bindS_def, Int.toNat_natCast, List.length_set, List.set_set, w64, Int.natCast_add, Int.natCast_one]
  obtain ⟨k', a', h2, h3, h4, h5, ks, e0, e1, h6⟩ := hM
  refine ⟨k', a', by unfold laws_markIntS; rw [h2]; rfl, h3, by omega, ?_⟩
  have hg : loopP (laws_heldIntS_l1 a') (ks 0, 0) = some (.inl (ks a'.length)) := by
    refine heldS_gen a' (fun (x : Int) (k k' : Int) => x = k ∧ k' = (k + 1)) 4611686018427387904 ks (laws_heldIntS_l1 a') h6 (fun j hj k k' hm h0 hk h1 => ?_) (fun k => by simp [laws_heldIntS_l1])
    have hjl : a'.length ≤ 1048576 := by omega
    obtain ⟨y0, yk⟩ := hm
    subst yk
    have hw1 : IntKind.wrap .i64 ((j : Int) + 1) = (j : Int) + 1 := w64 (by omega) (by omega)
    simp only [laws_heldIntS_l1, ofNat_lt_true hj, getI_at hj, hw1, if_true, Option.bind_some]
    simp (disch := omega) [w64, sEq_iff, y0]
  unfold laws_heldIntS
  rw [e0, h5, e1] at hg
  rw [hg]
  rfl
theorem laws_markInsS_p (a : List GIns) (ha : a.length ≤ 1048576 ∧ ∀ x ∈ a, GIns.le 1048576 x) (k : Int) (h0 : 0 ≤ k) (h1 : k + 1099517919232 ≤ 4611686018427387904) : ∃ k' a', laws_markInsS a k = some (k', a') ∧ k ≤ k' ∧ k' ≤ k + 1099517919232 := by
  have hlen : a.length ≤ 1048576 := ha.1
  have hM : ∃ k' a', loopP laws_markInsS_l1 (a, k, 0) = some (a', k') ∧ k ≤ k' ∧ k' ≤ k + 1048582 * 1048576 ∧ a'.length = a.length ∧ ∃ ks : Nat → Int, ks 0 = k ∧ ks a.length = k' ∧ ∀ (j : Nat) (hj : j < a'.length), (fun (x : GIns) (k k' : Int) => True) a'[j] (ks j) (ks (j + 1)) ∧ 0 ≤ ks j ∧ ks j ≤ ks (j + 1) ∧ ks j ≤ 4611686018427387904 := by
    refine markS_gen (fun x : GIns => GIns.le 1048576 x) (fun (x : GIns) (k k' : Int) => True) 1048582 4611686018427387904 laws_markInsS_l1 (fun out k i hi hlen h0 h1 hok => ?_) (fun out k => by simp [laws_markInsS_l1]) a hlen (fun x hx => ha.2 x hx) k h0 (by omega)
    obtain ⟨hok_Name, hok_Args⟩ := hok
    obtain ⟨z5, hz5⟩ := laws_markText_p (((((k + 1) + 1) + 1) + 1) + 1) (by omega) (by omega)
    obtain ⟨q6, b6, mm6, l6, u6, hh6⟩ := laws_markIntS_p out[i].Args hok_Args ((((((k + 1) + 1) + 1) + 1) + 1) + 1) (by omega) (by omega)
    refine ⟨q6, (⟨k, (k + 1), ((k + 1) + 1), (((k + 1) + 1) + 1), ((((k + 1) + 1) + 1) + 1), z5, b6⟩ : GIns), by omega, by omega, trivial, ?_⟩
    · simp (disch := omega) only [laws_markInsS_l1, ofNat_lt_true hi, if_true, getI_at, getI_set, Option.bind_some, bindS_def, Int.toNat_natCast, List.length_set, List.set_set, w64, hz5, mm6, Int.natCast_add, Int.natCast_one]
  obtain ⟨k', a', h2, h3, h4, h5, ks, e0, e1, h6⟩ := hM
  refine ⟨k', a', by unfold laws_markInsS; rw [h2]; rfl, h3, by omega⟩
theorem laws_markCode_p (a : GCode) (ha : GCode.le 1048576 a) (k : Int) (h0 : 0 ≤ k) (h1 : k + 1099518967810 ≤ 4611686018427387904) : ∃ k' a', laws_markCode a k = some (k', a') ∧ k ≤ k' ∧ k' ≤ k + 1099518967810 := by
  obtain ⟨ha_Name, ha_Locals, ha_Words⟩ := ha
  obtain ⟨k0, b0, m0, l0, u0, e0⟩ := laws_markIntS_p a.Locals ha_Locals k (by omega) (by omega)
  obtain ⟨k1, b1, m1, l1, u1⟩ := laws_markInsS_p a.Words ha_Words k0 (by omega) (by omega)
  refine ⟨k1, ⟨a.Name, a.Params, b0, b1⟩, ?_, by omega, by omega⟩
  · unfold laws_markCode; simp [m0, m1]
end Go.OM
set_option linter.unusedVariables false
set_option linter.unusedSimpArgs false
namespace Go.OM
theorem ite_some {α : Type} {c : Prop} [Decidable c] (a b : α) : (if c then some a else some b) = some (if c then a else b) := by split <;> rfl
def inB (x a b : Int) : Bool := decide (a ≤ x) && decide (x ≤ b)
theorem inB_iff {x a b : Int} : inB x a b = true ↔ a ≤ x ∧ x ≤ b := by simp [inB]
theorem impl_in_eq (x a b : Int) : impl_in x a b = some (inB x a b) := by
  unfold impl_in inB
  by_cases h : a ≤ x <;> simp [h]
theorem spec_in_eq (x a b : Int) : spec_l01In x a b = some (inB x a b) := by
  unfold spec_l01In inB
  by_cases h : a ≤ x <;> simp [h]
def bI (z : ByteArray) : List Int := z.data.toList.map fun x => ((x.toNat : Nat) : Int)
theorem bI_length (z : ByteArray) : (bI z).length = z.size := by rw [bI, List.length_map]; exact Array.length_toList
theorem sAt_bI {z : ByteArray} {k : Nat} (h : k < (bI z).length) : sAt z k = some (bI z)[k] := by
  have h1 : k < z.size := by rw [← bI_length]; exact h
  unfold sAt
  rw [if_pos ⟨by omega, by omega⟩]
  simp only [byteAt, Int.toNat_natCast, bI]
  have e : z.data.toList.length = z.size := Array.length_toList
  have h2 : k < z.data.toList.length := by omega
  rw [List.getD_eq_getElem?_getD, List.getElem?_eq_getElem h2]
  simp only [Option.getD_some, List.getElem_map]
def letterB (b : Int) : Bool := inB b 97 122
def figureB (b : Int) : Bool := inB b 48 57
theorem impl_isLetter_eq (b : Int) : impl_isLetter b = some (letterB b) := by
  unfold impl_isLetter letterB inB
  by_cases h : 97 ≤ b <;> simp [h]
theorem impl_isFigure_eq (b : Int) : impl_isFigure b = some (figureB b) := by
  unfold impl_isFigure figureB inB
  by_cases h : 48 ≤ b <;> simp [h]
theorem spec_l03Letter_eq (b : Int) : spec_l03Letter b = some (letterB b) := by
  unfold spec_l03Letter letterB inB
  by_cases h : 97 ≤ b <;> simp [h]
theorem spec_l03Figure_eq (b : Int) : spec_l03Figure b = some (figureB b) := by
  unfold spec_l03Figure figureB inB
  by_cases h : 48 ≤ b <;> simp [h]
def keys : List ByteArray := [⟨#[102, 110]⟩, ⟨#[108, 101, 116]⟩, ⟨#[105, 102]⟩, ⟨#[101, 108, 115, 101]⟩, ⟨#[119, 104, 105, 108, 101]⟩, ⟨#[112, 114, 105, 110, 116]⟩, ⟨#[100, 111]⟩, ⟨#[110, 101, 119]⟩, ⟨#[99, 108, 111, 110, 101]⟩, ⟨#[109, 117, 116]⟩, ⟨#[105, 110, 112, 117, 116]⟩, ⟨#[105, 110, 116]⟩, ⟨#[98, 111, 120]⟩, ⟨#[114, 101, 116]⟩]
def keyB (s : ByteArray) : Bool := keys.any fun w => sEq w s
theorem keys_split : strings_Split (⟨#[102, 110, 32, 108, 101, 116, 32, 105, 102, 32, 101, 108, 115, 101, 32, 119, 104, 105, 108, 101, 32, 112, 114, 105, 110, 116, 32, 100, 111, 32, 110, 101, 119, 32, 99, 108, 111, 110, 101, 32, 109, 117, 116, 32, 105, 110, 112, 117, 116, 32, 105, 110, 116, 32, 98, 111, 120, 32, 114, 101, 116]⟩ : ByteArray) (⟨#[32]⟩ : ByteArray) = some keys := by kernel_rfl
theorem any_loop (l : List ByteArray) (s : ByteArray) (hl : l.length ≤ 1048576) (f : Int → Option (Int ⊕ (Unit ⊕ Bool)))
    (hf : ∀ i, f i = if (decide (i < (l.length : Int))) = true then (getI l i).bind fun e => if (sEq e s) = true then some (Sum.inr (Sum.inr true)) else some (Sum.inl (IntKind.wrap .i64 (i + 1))) else some (Sum.inr (Sum.inl ()))) :
    loopP f 0 = some (if (l.any fun w => sEq w s) = true then .inr true else .inl ()) := by
  refine loopP_any l (fun w => sEq w s) f (fun k hk => ?_) (by rw [hf]; simp)
  rw [hf]
  simp only [ofNat_lt_true hk, if_true, getI_at hk, Option.bind_some, w64_succ hk (show l.length ≤ maxLen by show _ ≤ 9223372036854775807; omega), ite_some]
theorem spec_KeyWord_eq (s : ByteArray) : spec_KeyWord s = some (keyB s) := by
  unfold spec_KeyWord spec_l03Keys
  simp only [Option.bind_some]
  have h := any_loop keys s (by decide) (spec_KeyWord_l1 s keys) (fun i => by simp only [spec_KeyWord_l1])
  unfold keys at h
  rw [h]
  unfold keyB keys
  simp only [Option.bind_some]
  split <;> rename_i h2 <;> split at h2 <;> simp_all
theorem impl_KeyWord_eq (s : ByteArray) : impl_KeyWord s = some (keyB s) := by
  unfold impl_KeyWord impl_oneOf
  rw [keys_split]
  simp only [Option.bind_some]
  rw [any_loop keys s (by decide) (impl_oneOf_l1 s keys) (fun i => by simp only [impl_oneOf_l1])]
  unfold keyB
  simp only [Option.bind_some]
  cases keys.any fun w => sEq w s <;> rfl
def charB (b : Int) : Bool := letterB b || figureB b
def nameB (s : ByteArray) : Bool := inB s.size 1 8 && (letterB ((bI s).getD 0 0) && ((bI s).all charB && !keyB s))
theorem name_loop (s : ByteArray) (hs : s.size ≤ 8) (f : Int → Option (Int ⊕ (Unit ⊕ Bool)))
    (hf : ∀ (k : Nat) (h : k < (bI s).length), f k = some (if charB (bI s)[k] = true then .inl (IntKind.wrap .i64 ((k : Int) + 1)) else .inr (.inr false)))
    (he : f s.size = some (.inr (.inl ()))) : loopP f 0 = some (if (bI s).all charB = true then .inl () else .inr false) := by
  refine loopP_all (bI s) charB f (fun k hk => ?_) (by rw [bI_length]; exact he)
  rw [hf k hk, w64_succ hk (show (bI s).length ≤ maxLen by rw [bI_length]; show _ ≤ 9223372036854775807; omega)]
theorem bI_zero {s : ByteArray} (h : 1 ≤ s.size) : sAt s 0 = some ((bI s).getD 0 0) := by
  have h1 : 0 < (bI s).length := by rw [bI_length]; omega
  have := sAt_bI h1
  rw [show ((0 : Nat) : Int) = 0 from rfl] at this
  rw [this, List.getD_eq_getElem?_getD, List.getElem?_eq_getElem h1]; rfl
theorem impl_NameOk_eq (s : ByteArray) : impl_NameOk s = some (nameB s) := by
  unfold impl_NameOk nameB
  simp only [impl_in_eq, Option.bind_some]
  by_cases hi : inB s.size 1 8 = true
  · have hi' := inB_iff.1 hi
    rw [bI_zero (by omega), name_loop s (by omega) (impl_NameOk_l1 s) (fun k hk => ?_) (by simp [impl_NameOk_l1])]
    · simp only [hi, impl_isLetter_eq, impl_KeyWord_eq, Option.bind_some, Bool.not_true, Bool.false_eq_true, if_false, Bool.true_and]
      cases letterB ((bI s).getD 0 0) <;> cases (bI s).all charB <;> cases keyB s <;> rfl
    · have hk2 : k < s.size := by rw [← bI_length]; exact hk
      simp only [impl_NameOk_l1, ofNat_lt_true hk2, if_true, sAt_bI hk, impl_isLetter_eq, impl_isFigure_eq, Option.bind_some]
      rw [show charB (bI s)[k] = (letterB (bI s)[k] || figureB (bI s)[k]) from rfl]
      cases letterB (bI s)[k] <;> cases figureB (bI s)[k] <;> rfl
  · simp [Bool.eq_false_iff.2 hi]
theorem spec_NameOk_eq (s : ByteArray) : spec_NameOk s = some (nameB s) := by
  unfold spec_NameOk nameB
  simp only [spec_in_eq, Option.bind_some]
  by_cases hi : inB s.size 1 8 = true
  · have hi' := inB_iff.1 hi
    rw [bI_zero (by omega), name_loop s (by omega) (spec_NameOk_l1 s) (fun k hk => ?_) (by simp [spec_NameOk_l1])]
    · simp only [hi, spec_l03Letter_eq, spec_KeyWord_eq, Option.bind_some, Bool.not_true, Bool.false_eq_true, if_false, Bool.true_and]
      cases letterB ((bI s).getD 0 0) <;> cases (bI s).all charB <;> cases keyB s <;> rfl
    · have hk2 : k < s.size := by rw [← bI_length]; exact hk
      simp only [spec_NameOk_l1, ofNat_lt_true hk2, if_true, sAt_bI hk, spec_l03Letter_eq, spec_l03Figure_eq, Option.bind_some]
      rw [show charB (bI s)[k] = (letterB (bI s)[k] || figureB (bI s)[k]) from rfl]
      cases letterB (bI s)[k] <;> cases figureB (bI s)[k] <;> rfl
  · simp [Bool.eq_false_iff.2 hi]
end Go.OM
set_option linter.unusedVariables false
set_option linter.unusedSimpArgs false
namespace Go.OM
def hasBB (op : Int) : Bool := inB op 2 7 || (inB op 9 12 || (op == 14 || op == 15))
def hasCB (op : Int) : Bool := inB op 10 12
def hasAB (op : Int) : Bool := inB op 1 17 || (op == 19 || op == 20)
theorem impl_hasA_eq (op : Int) : impl_hasA op = some (hasAB op) := by
  unfold impl_hasA hasAB
  simp only [impl_in_eq, Option.bind_some]
  cases inB op 1 17 <;> cases op == 19 <;> rfl
theorem impl_hasB_eq (op : Int) : impl_hasB op = some (hasBB op) := by
  unfold impl_hasB hasBB
  simp only [impl_in_eq, Option.bind_some]
  cases inB op 2 7 <;> cases inB op 9 12 <;> cases op == 14 <;> rfl
theorem spec_l11HasB_eq (op : Int) : spec_l11HasB op = some (hasBB op) := by
  unfold spec_l11HasB hasBB
  simp only [spec_in_eq, Option.bind_some]
  cases inB op 2 7 <;> cases inB op 9 12 <;> cases op == 14 <;> rfl
theorem impl_hasC_eq (op : Int) : impl_hasC op = some (hasCB op) := by simp only [impl_hasC, impl_in_eq, Option.bind_some, hasCB]
theorem spec_l11HasC_eq (op : Int) : spec_l11HasC op = some (hasCB op) := by simp only [spec_l11HasC, spec_in_eq, Option.bind_some, hasCB]
def placeB (n : Nat) (v : Int) : Bool := inB v 0 ((n : Int) - 1)
theorem w64_pred {n : Nat} (h : n ≤ 1048576) : IntKind.wrap .i64 ((n : Int) - 1) = (n : Int) - 1 := w64 (by omega) (by omega)
theorem impl_isPlace_eq (c : GCode) (hc : c.Locals.length ≤ 1048576) (v : Int) (b : Bool) : impl_isPlace c v b = some (if b = true then placeB c.Locals.length v else v == 0) := by
  unfold impl_isPlace
  simp only [impl_in_eq, Option.bind_some, w64_pred hc, placeB, ite_some]
theorem spec_l11Place_eq (c : GCode) (hc : c.Locals.length ≤ 1048576) (v : Int) : spec_l11Place c v = some (placeB c.Locals.length v) := by
  unfold spec_l11Place
  simp only [spec_in_eq, Option.bind_some, w64_pred hc, placeB]
def aB (n : Nat) (x : GIns) : Bool := if (x.Op == 13 || x.Op == 20) = true then (x.A == -1 || placeB n x.A) else if (x.Op == 18) = true then x.A == 0 else placeB n x.A
def bB (n : Nat) (x : GIns) : Bool := if hasBB x.Op = true then placeB n x.B else x.B == 0
def cB (n : Nat) (x : GIns) : Bool := if hasCB x.Op = true then placeB n x.C else x.C == 0
def numB (m : Nat) (x : GIns) : Bool := if (x.Op == 1) = true then inB x.Num 0 1000000000 else if (x.Op == 18 || x.Op == 19) = true then inB x.Num 0 ((m : Int) - 1) else x.Num == 0
def restB (n : Nat) (x : GIns) : Bool := if (x.Op != 13) = true then sEq x.Name ⟨#[]⟩ && ((x.Args.length : Int) == 0) else x.Args.all (placeB n) && (nameB x.Name && decide ((x.Args.length : Int) ≤ 3))
def wordB (n m : Nat) (x : GIns) : Bool := inB x.Op 1 20 && (aB n x && (bB n x && (cB n x && (numB m x && restB n x))))
theorem args_loop (c : GCode) (x : GIns) (n : Nat) (hx : x.Args.length ≤ 1048576) (f : Int → Option (Int ⊕ (Unit ⊕ Bool)))
    (hf : ∀ (k : Nat) (h : k < x.Args.length), f k = some (if placeB n x.Args[k] = true then .inl (IntKind.wrap .i64 ((k : Int) + 1)) else .inr (.inr false)))
    (he : f x.Args.length = some (.inr (.inl ()))) : loopP f 0 = some (if x.Args.all (placeB n) = true then .inl () else .inr false) := by
  refine loopP_all x.Args (placeB n) f (fun k hk => ?_) he
  rw [hf k hk, w64_succ hk (show x.Args.length ≤ maxLen by show _ ≤ 9223372036854775807; omega)]
theorem inB_zero (x : Int) : inB x 0 0 = (x == 0) := by
  rw [Bool.eq_iff_iff, inB_iff, beq_iff_eq]
  omega
theorem aB_eq {n : Nat} {x : GIns} (h0 : inB x.Op 1 20 = true) : ((if (x.Op == 13) = true then x.A == -1 else if (x.Op == 20) = true then x.A == -1 else false) || (if hasAB x.Op = true then placeB n x.A else x.A == 0)) = aB n x := by
  have h1 := inB_iff.1 h0
  have hA : hasAB x.Op = !(x.Op == 18) := by
    unfold hasAB
    by_cases h18 : x.Op = 18
    · simp [h18, inB]
    · by_cases h17 : x.Op ≤ 17
      · have : inB x.Op 1 17 = true := inB_iff.2 ⟨h1.1, h17⟩
        simp [this, h18]
      · have h3 : x.Op = 19 ∨ x.Op = 20 := by omega
        rcases h3 with h3 | h3 <;> simp [h3]
  unfold aB
  rw [hA]
  by_cases h13 : x.Op = 13
  · simp [h13]
  · by_cases h20 : x.Op = 20
    · simp [h20]
    · by_cases h18 : x.Op = 18
      · simp [h18]
      · simp [h13, h20, h18]
theorem numB_eq (m : Nat) (x : GIns) : inB x.Num 0 (if (x.Op == 1) = true then 1000000000 else if (if (x.Op == 18) = true then x.Op == 18 else x.Op == 19) = true then (m : Int) - 1 else 0) = numB m x := by
  unfold numB
  cases x.Op == 1
  · cases x.Op == 18
    · cases x.Op == 19 <;> simp [inB_zero]
    · simp
  · simp
theorem impl_WordOk_eq (c : GCode) (x : GIns) (hc : c.Locals.length ≤ 1048576) (hm : c.Words.length ≤ 1048576) (hx : x.Args.length ≤ 1048576) : impl_WordOk c x = some (wordB c.Locals.length c.Words.length x) := by
  unfold impl_WordOk
  rw [args_loop c x c.Locals.length hx (impl_WordOk_l1 c x) (fun k hk => by
    simp only [impl_WordOk_l1, ofNat_lt_true hk, if_true, getI_at hk, Option.bind_some, impl_isPlace_eq c hc]
    cases placeB c.Locals.length x.Args[k] <;> rfl) (by simp [impl_WordOk_l1])]
  simp only [impl_in_eq, impl_hasA_eq, impl_hasB_eq, impl_hasC_eq, impl_isPlace_eq c hc, impl_NameOk_eq, Option.bind_some, w64_pred hm, ite_some, numB_eq]
  unfold wordB
  by_cases h0 : inB x.Op 1 20 = true
  · rw [← aB_eq h0]
    simp only [h0, Bool.not_true, Bool.false_eq_true, if_false, Bool.true_and]
    generalize (if (x.Op == 13) = true then x.A == -1 else if (x.Op == 20) = true then x.A == -1 else false) = N
    generalize (if hasAB x.Op = true then placeB c.Locals.length x.A else x.A == 0) = P
    have hQ : (if hasBB x.Op = true then placeB c.Locals.length x.B else x.B == 0) = bB c.Locals.length x := rfl
    have hR : (if hasCB x.Op = true then placeB c.Locals.length x.C else x.C == 0) = cB c.Locals.length x := rfl
    rw [hQ, hR]
    unfold restB
    generalize bB c.Locals.length x = Q
    generalize cB c.Locals.length x = R
    generalize numB c.Words.length x = U
    generalize (x.Op != 13) = o
    generalize sEq x.Name ⟨#[]⟩ = e
    generalize ((x.Args.length : Int) == 0) = l0
    generalize x.Args.all (placeB c.Locals.length) = al
    generalize nameB x.Name = nm
    generalize decide ((x.Args.length : Int) ≤ 3) = l3
    cases N <;> cases P <;> cases Q <;> cases R <;> cases U <;> cases o <;> cases al <;> cases nm <;> cases e <;> rfl
  · simp [Bool.eq_false_iff.2 h0]
theorem spec_l11A_eq (c : GCode) (x : GIns) (hc : c.Locals.length ≤ 1048576) : spec_l11A c x = some (aB c.Locals.length x) := by
  unfold spec_l11A aB
  simp only [spec_l11Place_eq c hc, Option.bind_some, ite_some]
  cases x.Op == 13 <;> cases x.Op == 20 <;> cases x.A == -1 <;> cases x.Op == 18 <;> rfl
theorem spec_WordOk_eq (c : GCode) (x : GIns) (hc : c.Locals.length ≤ 1048576) (hm : c.Words.length ≤ 1048576) (hx : x.Args.length ≤ 1048576) : spec_WordOk c x = some (wordB c.Locals.length c.Words.length x) := by
  unfold spec_WordOk
  rw [args_loop c x c.Locals.length hx (spec_WordOk_l1 c x) (fun k hk => by
    simp only [spec_WordOk_l1, ofNat_lt_true hk, if_true, getI_at hk, Option.bind_some, spec_l11Place_eq c hc]
    cases placeB c.Locals.length x.Args[k] <;> rfl) (by simp [spec_WordOk_l1])]
  simp only [spec_in_eq, spec_l11A_eq c x hc, spec_l11HasB_eq, spec_l11HasC_eq, spec_l11Place_eq c hc, spec_NameOk_eq, Option.bind_some, w64_pred hm]
  unfold wordB bB cB numB restB
  have e1 : (x.B != 0) = !(x.B == 0) := rfl
  have e2 : (x.C != 0) = !(x.C == 0) := rfl
  have e3 : (x.Num != 0) = !(x.Num == 0) := rfl
  rw [e1, e2, e3]
  generalize inB x.Op 1 20 = O
  generalize aB c.Locals.length x = A
  generalize hasBB x.Op = hb
  generalize hasCB x.Op = hcc
  generalize placeB c.Locals.length x.B = pB
  generalize placeB c.Locals.length x.C = pC
  generalize (x.B == 0) = zB
  generalize (x.C == 0) = zC
  generalize (x.Num == 0) = zN
  generalize inB x.Num 0 1000000000 = n1
  generalize inB x.Num 0 ((c.Words.length : Int) - 1) = n2
  generalize (x.Op == 1) = o1
  generalize (x.Op == 18) = o18
  generalize (x.Op == 19) = o19
  generalize (x.Op != 13) = o
  generalize sEq x.Name ⟨#[]⟩ = e
  generalize ((x.Args.length : Int) == 0) = l0
  generalize x.Args.all (placeB c.Locals.length) = al
  generalize nameB x.Name = nm
  generalize decide ((x.Args.length : Int) ≤ 3) = l3
  have rest : (if o = true then (Option.bind (if e = true then some l0 else some false) fun v85 => some v85) else match (if al = true then (Sum.inl () : Unit ⊕ Bool) else Sum.inr false) with | Sum.inr z => some z | Sum.inl () => Option.bind (if nm = true then some l3 else some false) fun v109 => some v109) = some (if o = true then e && l0 else al && (nm && l3)) := by
    cases o <;> cases e <;> cases al <;> cases nm <;> rfl
  cases O
  · rfl
  cases A
  · rfl
  cases hb <;> cases pB <;> cases zB <;> cases hcc <;> cases pC <;> cases zC <;> first | rfl | (cases o1 <;> cases o18 <;> cases o19 <;> cases n1 <;> cases n2 <;> cases zN <;> first | rfl | exact rest)
def codeB (c : GCode) : Bool := nameB c.Name && (decide (c.Locals.length ≤ 200) && (inB c.Params 0 c.Locals.length && (inB c.Words.length 1 400 && ((match c.Words[c.Words.length - 1]? with | some x => x.Op == 20 | none => false) && (c.Locals.all (fun t => inB t 1 4) && c.Words.all (wordB c.Locals.length c.Words.length))))))
theorem codes_eq (c : GCode) (h : GCode.le 1048576 c) (g : Option Bool)
    (hg : g = Option.bind (
    (some (nameB c.Name)).bind fun r4 =>
    if (!r4) = true then
      some true
    else
      if (decide ((c.Locals.length : Int) > 200)) = true then
        some true
      else
        (some (inB c.Params 0 (c.Locals.length : Int))).bind fun r10 =>
        if (!r10) = true then
          some true
        else
          (some (inB (c.Words.length : Int) 1 400)).bind fun r14 =>
          if (!r14) = true then
            some true
          else
            (getI c.Words (IntKind.wrap .i64 ((c.Words.length : Int) - 1))).bind fun e18 =>
            some (e18.Op != 20)) fun v19 =>
  if v19 = true then
    some false
  else
    Option.bind (some (if (c.Locals.all fun t => inB t 1 4) = true then (Sum.inl () : Unit ⊕ Bool) else Sum.inr false)) fun j24 =>
    match j24 with
    | Sum.inr z => some z
    | Sum.inl () =>
      Option.bind (some (if c.Words.all (wordB c.Locals.length c.Words.length) = true then (Sum.inl () : Unit ⊕ Bool) else Sum.inr false)) fun j40 =>
      match j40 with
      | Sum.inr z => some z
      | Sum.inl () =>
        some true) : g = some (codeB c) := by
  subst hg
  obtain ⟨h1, h2, h3⟩ := h
  rw [w64_pred h3.1]
  unfold codeB
  have hd : decide ((c.Locals.length : Int) > 200) = !decide (c.Locals.length ≤ 200) := by
    by_cases e : c.Locals.length ≤ 200
    · simp [e]; omega
    · simp [e]; omega
  rw [hd]
  cases nameB c.Name
  · rfl
  cases decide (c.Locals.length ≤ 200)
  · rfl
  cases inB c.Params 0 (c.Locals.length : Int)
  · rfl
  cases hw : inB (c.Words.length : Int) 1 400
  · rfl
  · have hw' := inB_iff.1 hw
    have hlt : c.Words.length - 1 < c.Words.length := by omega
    rw [show (c.Words.length : Int) - 1 = ((c.Words.length - 1 : Nat) : Int) by omega, getI_at hlt, List.getElem?_eq_getElem hlt]
    simp only [Option.bind_some, Bool.not_true, Bool.false_eq_true, if_false, Bool.true_and, bne]
    cases c.Words[c.Words.length - 1].Op == 20
    · rfl
    cases c.Locals.all fun t => inB t 1 4
    · rfl
    cases c.Words.all (wordB c.Locals.length c.Words.length) <;> rfl
theorem impl_CodeOk_eq (c : GCode) (h : GCode.le 1048576 c) : impl_CodeOk c = some (codeB c) := by
  have h' := h
  obtain ⟨h1, h2, h3⟩ := h
  refine codes_eq c h' _ ?_
  unfold impl_CodeOk
  rw [loopP_all c.Locals (fun t => inB t 1 4) (impl_CodeOk_l1 c) (fun k hk => by
      simp only [impl_CodeOk_l1, ofNat_lt_true hk, if_true, getI_at hk, Option.bind_some, impl_in_eq, w64_succ hk (show c.Locals.length ≤ maxLen by show _ ≤ 9223372036854775807; omega)]
      cases inB c.Locals[k] 1 4 <;> rfl) (by simp [impl_CodeOk_l1]),
    loopP_all c.Words (wordB c.Locals.length c.Words.length) (impl_CodeOk_l2 c) (fun k hk => by
      simp only [impl_CodeOk_l2, ofNat_lt_true hk, if_true, getI_at hk, Option.bind_some, impl_WordOk_eq c c.Words[k] h2 h3.1 (h3.2 _ (List.getElem_mem hk)).2, w64_succ hk (show c.Words.length ≤ maxLen by show _ ≤ 9223372036854775807; omega)]
      cases wordB c.Locals.length c.Words.length c.Words[k] <;> rfl) (by simp [impl_CodeOk_l2])]
  simp only [impl_NameOk_eq, impl_in_eq]
  rfl
theorem spec_CodeOk_eq (c : GCode) (h : GCode.le 1048576 c) : spec_CodeOk c = some (codeB c) := by
  have h' := h
  obtain ⟨h1, h2, h3⟩ := h
  refine codes_eq c h' _ ?_
  unfold spec_CodeOk
  rw [loopP_all c.Locals (fun t => inB t 1 4) (spec_CodeOk_l1 c) (fun k hk => by
      simp only [spec_CodeOk_l1, ofNat_lt_true hk, if_true, getI_at hk, Option.bind_some, spec_in_eq, w64_succ hk (show c.Locals.length ≤ maxLen by show _ ≤ 9223372036854775807; omega)]
      cases inB c.Locals[k] 1 4 <;> rfl) (by simp [spec_CodeOk_l1]),
    loopP_all c.Words (wordB c.Locals.length c.Words.length) (spec_CodeOk_l2 c) (fun k hk => by
      simp only [spec_CodeOk_l2, ofNat_lt_true hk, if_true, getI_at hk, Option.bind_some, spec_WordOk_eq c c.Words[k] h2 h3.1 (h3.2 _ (List.getElem_mem hk)).2, w64_succ hk (show c.Words.length ≤ maxLen by show _ ≤ 9223372036854775807; omega)]
      cases wordB c.Locals.length c.Words.length c.Words[k] <;> rfl) (by simp [spec_CodeOk_l2])]
  simp only [spec_NameOk_eq, spec_in_eq]
  rfl
end Go.OM
set_option linter.unusedVariables false
set_option linter.unusedSimpArgs false
namespace Go.OM
theorem codeB_facts {c : GCode} (h : codeB c = true) : nameB c.Name = true ∧ c.Locals.length ≤ 200 ∧ (0 ≤ c.Params ∧ c.Params ≤ c.Locals.length) ∧ (1 ≤ c.Words.length ∧ c.Words.length ≤ 400) ∧ (∃ x, c.Words[c.Words.length - 1]? = some x ∧ x.Op = 20) ∧ (∀ t ∈ c.Locals, 1 ≤ t ∧ t ≤ 4) ∧ ∀ x ∈ c.Words, wordB c.Locals.length c.Words.length x = true := by
  unfold codeB at h
  simp only [Bool.and_eq_true, decide_eq_true_eq, inB_iff, List.all_eq_true] at h
  obtain ⟨h1, h2, h3, h4, h5, h6, h7⟩ := h
  refine ⟨h1, h2, h3, ⟨by omega, by omega⟩, ?_, h6, h7⟩
  split at h5
  · rename_i x hx
    exact ⟨x, hx, by simpa using h5⟩
  · cases h5
theorem wordB_num {n m : Nat} {x : GIns} (h : wordB n m x = true) (hop : x.Op = 18 ∨ x.Op = 19) : 0 ≤ x.Num ∧ x.Num < m := by
  unfold wordB at h
  simp only [Bool.and_eq_true] at h
  have h5 := h.2.2.2.2.1
  unfold numB at h5
  rcases hop with e | e
  · simp [e, inB] at h5; omega
  · simp [e, inB] at h5; omega
theorem foldE_inl {α σ ρ : Type} (h : σ → α → σ) (fin : σ → ρ) : ∀ (l : List α) (s : σ), foldE (fun s x => (.inl (h s x) : σ ⊕ ρ)) fin l s = fin (l.foldl h s)
  | [], s => rfl
  | x :: l, s => by simp only [foldE, List.foldl_cons]; exact foldE_inl h fin l _
theorem foldl_filter {α : Type} (p : α → Bool) : ∀ (l s : List α), l.foldl (fun s e => if p e = true then s ++ [e] else s) s = s ++ l.filter p
  | [], s => by simp
  | x :: l, s => by
    rw [List.foldl_cons, foldl_filter p l, List.filter_cons]
    cases p x <;> simp
theorem app1 {n : Nat} {s : List Int} {e : Int} (h : s.length ≤ 1048576) (hn : n ≤ 64) : appI n s [e] = some (s ++ [e]) := by
  unfold appI
  have h1 : (s.length + [e].length) * n ≤ (s.length + [e].length) * 64 := Nat.mul_le_mul_left _ hn
  rw [if_pos ⟨by simp only [List.length_cons, List.length_nil] at h1 ⊢; omega, by simp only [List.length_cons, List.length_nil]; omega⟩]
def addL (out : List Int) (n : Int) : List Int := if out.contains n = true then out else out ++ [n]
theorem addL_len (out : List Int) (n : Int) : (addL out n).length ≤ out.length + 1 := by
  unfold addL; split <;> simp
theorem spec_l11Add_eq (out : List Int) (n : Int) (h : out.length ≤ 1048576) : spec_l11Add out n = some (addL out n) := by
  unfold spec_l11Add addL
  rw [loopP_find out (fun e => if (e == n) = true then some out else none) (spec_l11Add_l1 out n) (fun k hk => by
    simp only [spec_l11Add_l1, ofNat_lt_true hk, if_true, getI_at hk, Option.bind_some, w64_succ hk (show out.length ≤ maxLen by show _ ≤ 9223372036854775807; omega)]
    cases out[k] == n <;> rfl) (by simp [spec_l11Add_l1])]
  have key : ∀ l : List Int, l.findSome? (fun e => if (e == n) = true then some out else none) = if l.contains n = true then some out else none := by
    intro l
    induction l with
    | nil => rfl
    | cons x l ih =>
      rw [List.findSome?_cons, List.contains_cons]
      by_cases hx : x = n
      · simp [hx]
      · have h1 : (x == n) = false := by simpa using hx
        have h2 : (n == x) = false := by simpa using fun e => hx e.symm
        rw [h1, h2, Bool.false_or, ← ih]
        rfl
  rw [key]
  cases out.contains n
  · simp only [Bool.false_eq_true, if_false, Option.bind_some, app1 (n := 8) h (by omega)]
  · rfl
def bndB (m : Nat) (e : Int) : Bool := inB e 0 ((m : Int) - 1)
theorem impl_Next_loop (c : GCode) (hm : c.Words.length ≤ 1048576) (l : List Int) (hl : l.length ≤ 1000) : loopP (impl_Next_l1 c l) ([], 0) = some (l.filter (bndB c.Words.length)) := by
  have := loopP_fold l (fun (s : List Int) k => (s, (k : Int))) (fun k s => s.length ≤ k) (fun s e => .inl (if bndB c.Words.length e = true then s ++ [e] else s)) id (impl_Next_l1 c l) (fun s k hk hI => by
    left
    simp only [impl_Next_l1, ofNat_lt_true hk, if_true, getI_at hk, Option.bind_some, impl_in_eq, w64_pred hm, w64_succ hk (show l.length ≤ maxLen by show _ ≤ 9223372036854775807; omega)]
    unfold bndB
    cases hb : inB l[k] 0 ((c.Words.length : Int) - 1)
    · exact ⟨s, by simp, rfl, by omega⟩
    · exact ⟨s ++ [l[k]], by simp, by rw [if_pos rfl, app1 (by omega) (by omega)]; rfl, by simp; omega⟩) (fun s _ => by simp [impl_Next_l1]) [] (by simp)
  rw [foldE_inl, foldl_filter] at this
  simpa using this
theorem spec_Next_loop (c : GCode) (hm : c.Words.length ≤ 1048576) (l : List Int) (hl : l.length ≤ 1000) : loopP (spec_Next_l1 c l) ([], 0) = some ((l.filter (bndB c.Words.length)).foldl addL []) := by
  have := loopP_fold l (fun (s : List Int) k => (s, (k : Int))) (fun k s => s.length ≤ k) (fun s e => .inl (if bndB c.Words.length e = true then addL s e else s)) id (spec_Next_l1 c l) (fun s k hk hI => by
    left
    simp only [spec_Next_l1, ofNat_lt_true hk, if_true, getI_at hk, Option.bind_some, spec_in_eq, w64_pred hm, w64_succ hk (show l.length ≤ maxLen by show _ ≤ 9223372036854775807; omega), spec_l11Add_eq s l[k] (by omega)]
    unfold bndB
    cases hb : inB l[k] 0 ((c.Words.length : Int) - 1)
    · exact ⟨s, by simp, rfl, by omega⟩
    · exact ⟨addL s l[k], by simp, rfl, by have := addL_len s l[k]; omega⟩) (fun s _ => by simp [spec_Next_l1]) [] (by simp)
  rw [foldE_inl] at this
  have key : ∀ (l s : List Int), l.foldl (fun s e => if bndB c.Words.length e = true then addL s e else s) s = (l.filter (bndB c.Words.length)).foldl addL s := by
    intro l
    induction l with
    | nil => intro s; rfl
    | cons x l ih =>
      intro s
      rw [List.foldl_cons, ih, List.filter_cons]
      cases bndB c.Words.length x <;> rfl
  rw [key] at this
  simpa using this
def rawNext (x : GIns) (i : Nat) : List Int := if x.Op = 20 then [] else if x.Op = 18 then [x.Num] else if x.Op = 19 then [((i + 1 : Nat) : Int), x.Num] else [((i + 1 : Nat) : Int)]
def nextI (c : GCode) (i : Nat) : List Int := match c.Words[i]? with
  | some x => (rawNext x i).filter (bndB c.Words.length)
  | none => []
def nextS (c : GCode) (i : Nat) : List Int := (nextI c i).foldl addL []
theorem impl_Next_eq (c : GCode) (hm : c.Words.length ≤ 1048576) (i : Nat) (hi : i < c.Words.length) : impl_Next c i = some (nextI c i) := by
  unfold impl_Next nextI
  have hin : inB (i : Int) 0 ((c.Words.length : Int) - 1) = true := inB_iff.2 ⟨by omega, by omega⟩
  have hw : IntKind.wrap .i64 ((i : Int) + 1) = ((i + 1 : Nat) : Int) := w64_succ hi (show c.Words.length ≤ maxLen by show _ ≤ 9223372036854775807; omega)
  simp only [impl_in_eq, w64_pred hm, Option.bind_some, hin, Bool.not_true, Bool.false_eq_true, if_false, getI_at hi, List.getElem?_eq_getElem hi, hw]
  have e : (if (c.Words[i].Op == 20) = true then some [] else if (c.Words[i].Op == 18) = true then some [c.Words[i].Num] else if (c.Words[i].Op == 19) = true then (appI 8 [((i + 1 : Nat) : Int)] [c.Words[i].Num]).bind fun l17 => some l17 else some [((i + 1 : Nat) : Int)]) = some (rawNext c.Words[i] i) := by
    unfold rawNext
    rw [app1 (by simp) (by omega)]
    by_cases h1 : c.Words[i].Op = 20
    · simp [h1]
    · by_cases h2 : c.Words[i].Op = 18
      · simp [h2]
      · by_cases h3 : c.Words[i].Op = 19
        · simp [h3]
        · simp [h1, h2, h3]
  rw [e]
  have hl : (rawNext c.Words[i] i).length ≤ 1000 := by unfold rawNext; split <;> (try split) <;> (try split) <;> simp
  simp only [Option.bind_some, impl_Next_loop c hm _ hl]
theorem spec_Next_eq (c : GCode) (hm : c.Words.length ≤ 1048576) (i : Nat) (hi : i < c.Words.length) : spec_Next c i = some (nextS c i) := by
  unfold spec_Next nextS nextI
  have hin : inB (i : Int) 0 ((c.Words.length : Int) - 1) = true := inB_iff.2 ⟨by omega, by omega⟩
  have hw : IntKind.wrap .i64 ((i : Int) + 1) = ((i + 1 : Nat) : Int) := w64_succ hi (show c.Words.length ≤ maxLen by show _ ≤ 9223372036854775807; omega)
  simp only [spec_in_eq, w64_pred hm, Option.bind_some, hin, Bool.not_true, Bool.false_eq_true, if_false, getI_at hi, List.getElem?_eq_getElem hi, hw]
  have e : (if (c.Words[i].Op == 20) = true then some [] else if (c.Words[i].Op == 18) = true then some [c.Words[i].Num] else if (c.Words[i].Op == 19) = true then some [((i + 1 : Nat) : Int), c.Words[i].Num] else some [((i + 1 : Nat) : Int)]) = some (rawNext c.Words[i] i) := by
    unfold rawNext
    by_cases h1 : c.Words[i].Op = 20
    · simp [h1]
    · by_cases h2 : c.Words[i].Op = 18
      · simp [h2]
      · by_cases h3 : c.Words[i].Op = 19
        · simp [h3]
        · simp [h1, h2, h3]
  rw [e]
  have hl : (rawNext c.Words[i] i).length ≤ 1000 := by unfold rawNext; split <;> (try split) <;> (try split) <;> simp
  simp only [Option.bind_some, spec_Next_loop c hm _ hl]
theorem mem_addL {out : List Int} {n m : Int} : m ∈ addL out n ↔ m ∈ out ∨ m = n := by
  unfold addL
  by_cases h : out.contains n = true
  · rw [if_pos h]
    have := List.contains_iff_mem.1 h
    constructor
    · exact .inl
    · rintro (h | rfl)
      · exact h
      · exact this
  · rw [if_neg h]; simp
theorem mem_foldl_addL (m : Int) : ∀ (l s : List Int), m ∈ l.foldl addL s ↔ m ∈ s ∨ m ∈ l
  | [], s => by simp
  | x :: l, s => by rw [List.foldl_cons, mem_foldl_addL m l, mem_addL, List.mem_cons, or_assoc]
theorem mem_nextS {c : GCode} {i : Nat} {m : Int} : m ∈ nextS c i ↔ m ∈ nextI c i := by unfold nextS; rw [mem_foldl_addL]; simp
theorem nextI_bnd {c : GCode} {i : Nat} {m : Int} (h : m ∈ nextI c i) : 0 ≤ m ∧ m < c.Words.length := by
  unfold nextI at h
  split at h
  · have := (List.mem_filter.1 h).2
    have := inB_iff.1 this
    omega
  · simp at h
end Go.OM
set_option linter.unusedVariables false
set_option linter.unusedSimpArgs false
namespace Go.OM
inductive Reach (next : Nat → List Int) (root : Nat) : Nat → Prop
  | base : Reach next root root
  | step {i : Nat} {m : Int} : Reach next root i → m ∈ next i → Reach next root m.toNat
theorem Reach.congr {next next' : Nat → List Int} {root : Nat} (h : ∀ i m, m ∈ next i ↔ m ∈ next' i) {n : Nat} : Reach next root n ↔ Reach next' root n := by
  constructor
  · intro r
    induction r with
    | base => exact .base
    | step _ hm ih => exact .step ih ((h _ _).1 hm)
  · intro r
    induction r with
    | base => exact .base
    | step _ hm ih => exact .step ih ((h _ _).2 hm)
def vis (s : List Bool × List Int) (m : Int) : List Bool × List Int := if s.1[m.toNat]? = some true then s else (s.1.set m.toNat true, s.2 ++ [m])
theorem count_set {l : List Bool} {k : Nat} (hk : k < l.length) (h : l[k]? ≠ some true) : (l.set k true).count true = l.count true + 1 := by
  induction l generalizing k with
  | nil => simp at hk
  | cons x l ih =>
    cases k with
    | zero =>
      simp only [List.getElem?_cons_zero, ne_eq, Option.some.injEq] at h
      have : x = false := by cases x <;> simp_all
      subst this
      simp [List.set_cons_zero]
    | succ k =>
      simp only [List.length_cons] at hk
      simp only [List.getElem?_cons_succ] at h
      rw [List.set_cons_succ, List.count_cons, List.count_cons, ih (by omega) h]
      omega
theorem vis_len (s : List Bool × List Int) (m : Int) : (vis s m).1.length = s.1.length := by unfold vis; split <;> simp
theorem vis_count {s : List Bool × List Int} {m : Int} (h : m.toNat < s.1.length) : (vis s m).2.length + s.1.count true = s.2.length + (vis s m).1.count true := by
  unfold vis
  split
  · rfl
  · rename_i hn
    simp only [List.length_append, List.length_cons, List.length_nil]
    rw [count_set h hn]; omega
theorem vis_mono {s : List Bool × List Int} {m : Int} {n : Nat} (h : s.1[n]? = some true) : (vis s m).1[n]? = some true := by
  unfold vis
  split
  · exact h
  · simp only [List.getElem?_set]
    split
    · rename_i e
      subst e
      have := (List.getElem?_eq_some_iff.1 h).1
      simp [this]
    · exact h
theorem vis_self {s : List Bool × List Int} {m : Int} (h : m.toNat < s.1.length) : (vis s m).1[m.toNat]? = some true := by
  unfold vis
  split
  · rename_i e; exact e
  · simp [h]
theorem vis_new {s : List Bool × List Int} {m : Int} {n : Nat} (h : (vis s m).1[n]? = some true) : s.1[n]? = some true ∨ (n = m.toNat ∧ m ∈ (vis s m).2) := by
  unfold vis at h ⊢
  split at h
  · exact .inl h
  · rename_i hn
    rw [if_neg hn]
    simp only [List.getElem?_set] at h
    split at h
    · rename_i e; exact .inr ⟨e.symm, by simp⟩
    · exact .inl h
theorem vis_todo {s : List Bool × List Int} {m x : Int} (h : x ∈ (vis s m).2) : x ∈ s.2 ∨ x = m := by
  unfold vis at h
  split at h
  · exact .inl h
  · simpa using h
theorem vis_sub {s : List Bool × List Int} {m x : Int} (h : x ∈ s.2) : x ∈ (vis s m).2 := by
  unfold vis
  split
  · exact h
  · simp [h]
structure VisL (W : Nat) (s s' : List Bool × List Int) (nl : List Int) : Prop where
  len : s'.1.length = s.1.length
  count : s'.2.length + s.1.count true = s.2.length + s'.1.count true
  cle : s.1.count true ≤ s'.1.count true
  mono : ∀ n : Nat, s.1[n]? = some true → s'.1[n]? = some true
  all : ∀ m ∈ nl, s'.1[m.toNat]? = some true
  new : ∀ n : Nat, s'.1[n]? = some true → s.1[n]? = some true ∨ ∃ m ∈ nl, n = m.toNat ∧ m ∈ s'.2
  todo : ∀ x ∈ s'.2, x ∈ s.2 ∨ x ∈ nl
  sub : ∀ x ∈ s.2, x ∈ s'.2
theorem visL : ∀ (nl : List Int) (s : List Bool × List Int), (∀ m ∈ nl, m.toNat < s.1.length) → VisL 0 s (nl.foldl vis s) nl
  | [], s, _ => ⟨rfl, rfl, Nat.le_refl _, fun _ h => h, by simp, fun _ h => .inl h, fun _ h => .inl h, fun _ h => h⟩
  | m :: nl, s, h => by
    have h1 : m.toNat < s.1.length := h m (by simp)
    have ih := visL nl (vis s m) (fun x hx => by rw [vis_len]; exact h x (by simp [hx]))
    have hc := vis_count h1
    have hcl : s.1.count true ≤ (vis s m).1.count true := by
      unfold vis
      split
      · exact Nat.le_refl _
      · rename_i hn; rw [count_set h1 hn]; omega
    rw [List.foldl_cons]
    refine ⟨ih.len.trans (vis_len s m), ?_, Nat.le_trans hcl ih.cle, fun n hn => ih.mono n (vis_mono hn), fun x hx => ?_, fun n hn => ?_, fun x hx => ?_, fun x hx => ih.sub x (vis_sub hx)⟩
    · have := ih.count; omega
    · rcases List.mem_cons.1 hx with rfl | hx
      · exact ih.mono _ (vis_self h1)
      · exact ih.all x hx
    · rcases ih.new n hn with h2 | ⟨x, h2, h3, h4⟩
      · rcases vis_new h2 with h3 | ⟨h3, h4⟩
        · exact .inl h3
        · exact .inr ⟨m, by simp, h3, ih.sub _ h4⟩
      · exact .inr ⟨x, by simp [h2], h3, h4⟩
    · rcases ih.todo x hx with h2 | h2
      · rcases vis_todo h2 with h3 | h3
        · exact .inl h3
        · exact .inr (by simp [h3])
      · exact .inr (by simp [h2])
theorem vis_app (a : List Int) (h : List Bool) (b : List Int) (m : Int) : vis (h, a ++ b) m = ((vis (h, b) m).1, a ++ (vis (h, b) m).2) := by
  unfold vis
  simp only
  split <;> simp
theorem foldl_vis_app : ∀ (nl : List Int) (a : List Int) (h : List Bool) (b : List Int), nl.foldl vis (h, a ++ b) = ((nl.foldl vis (h, b)).1, a ++ (nl.foldl vis (h, b)).2)
  | [], _, _, _ => rfl
  | m :: nl, a, h, b => by
    rw [List.foldl_cons, List.foldl_cons, vis_app, foldl_vis_app nl a]
structure WInv (W root : Nat) (next : Nat → List Int) (s : List Bool × List Int) : Prop where
  len : s.1.length = W
  cnt : s.2.length ≤ s.1.count true
  bnd : ∀ x ∈ s.2, 0 ≤ x ∧ x < W
  rt : s.1[root]? = some true
  sound : ∀ n : Nat, s.1[n]? = some true → Reach next root n
  closed : ∀ n : Nat, s.1[n]? = some true → (n : Int) ∈ s.2 ∨ ∀ m ∈ next n, s.1[m.toNat]? = some true
  tdo : ∀ x ∈ s.2, s.1[x.toNat]? = some true
theorem WInv.go {W root : Nat} {next : Nat → List Int} {s : List Bool × List Int} (H : WInv W root next s) (hn : ∀ (i : Nat), i < W → ∀ m ∈ next i, 0 ≤ m ∧ m < W) {e : Int} {rest nl : List Int} (he : e ∈ s.2)
    (h1 : ∀ x ∈ s.2, x = e ∨ x ∈ rest) (h2 : ∀ x ∈ rest, x ∈ s.2) (h3 : rest.length + 1 = s.2.length) (h4 : ∀ m, m ∈ nl ↔ m ∈ next e.toNat) :
    WInv W root next (nl.foldl vis (s.1, rest)) ∧ 2 * (W - (nl.foldl vis (s.1, rest)).1.count true) + (nl.foldl vis (s.1, rest)).2.length < 2 * (W - s.1.count true) + s.2.length := by
  have heb := H.bnd e he
  have hb : ∀ m ∈ nl, 0 ≤ m ∧ m < W := fun m hm => hn e.toNat (by omega) m ((h4 m).1 hm)
  have V := visL nl (s.1, rest) (fun m hm => by have := hb m hm; have := H.len; simp only; omega)
  have c1 := V.count
  have c2 := V.cle
  have c3 := H.cnt
  have c4 : (nl.foldl vis (s.1, rest)).1.count true ≤ W := by
    have := List.count_le_length (a := true) (l := (nl.foldl vis (s.1, rest)).1)
    have := V.len
    have := H.len
    simp only at *; omega
  simp only at c1 c2
  refine ⟨⟨V.len.trans H.len, by omega, fun x hx => ?_, V.mono _ H.rt, fun n hn' => ?_, fun n hn' => ?_, fun x hx => ?_⟩, by omega⟩
  · rcases V.todo x hx with h | h
    · exact H.bnd x (h2 x h)
    · exact hb x h
  · rcases V.new n hn' with h | ⟨m, h, rfl, _⟩
    · exact H.sound n h
    · exact .step (H.sound _ (H.tdo e he)) ((h4 m).1 h)
  · rcases V.new n hn' with h | ⟨m, h, h5, h6⟩
    · rcases H.closed n h with h5 | h5
      · rcases h1 _ h5 with h6 | h6
        · right
          intro m hm
          have : e.toNat = n := by omega
          exact V.all m ((h4 m).2 (this ▸ hm))
        · exact .inl (V.sub _ h6)
      · exact .inr fun m hm => V.mono _ (h5 m hm)
    · left
      have := hb m h
      have e1 : (n : Int) = m := by omega
      rw [e1]; exact h6
  · rcases V.todo x hx with h | h
    · exact V.mono _ (H.tdo x (h2 x h))
    · exact V.all x h
open Classical in
noncomputable def reachL (W root : Nat) (next : Nat → List Int) : List Bool := (List.range W).map fun n => decide (Reach next root n)
theorem WInv.done {W root : Nat} {next : Nat → List Int} {s : List Bool × List Int} (H : WInv W root next s) (hn : ∀ (i : Nat), i < W → ∀ m ∈ next i, 0 ≤ m ∧ m < W) (h : s.2 = []) : s.1 = reachL W root next := by
  have hcl : ∀ n : Nat, Reach next root n → s.1[n]? = some true := by
    intro n r
    induction r with
    | base => exact H.rt
    | step _ hm ih =>
      rcases H.closed _ ih with h5 | h5
      · rw [h] at h5; cases h5
      · exact h5 _ hm
  apply List.ext_getElem?
  intro n
  unfold reachL
  by_cases hlt : n < W
  · have hlt2 : n < s.1.length := by rw [H.len]; exact hlt
    rw [List.getElem?_eq_getElem hlt2, List.getElem?_map, List.getElem?_range hlt]
    simp only [Option.map_some, Option.some.injEq]
    by_cases r : Reach next root n
    · have := hcl n r
      rw [List.getElem?_eq_getElem hlt2] at this
      simp only [Option.some.injEq] at this
      simp [this, r]
    · have : s.1[n] ≠ true := fun e => r (H.sound n (by rw [List.getElem?_eq_getElem hlt2, e]))
      simp [r, this]
  · rw [List.getElem?_eq_none (by rw [H.len]; omega), List.getElem?_eq_none (by simp; omega)]
theorem wl_loop {τ ρ : Type} (f : τ → Option (τ ⊕ ρ)) (abs : τ → List Bool × List Int) (Ok : τ → Prop) (W root : Nat) (next : Nat → List Int) (fin : τ → ρ) (hn : ∀ (i : Nat), i < W → ∀ m ∈ next i, 0 ≤ m ∧ m < W)
    (hstep : ∀ t, Ok t → WInv W root next (abs t) → (abs t).2 ≠ [] → ∃ (t' : τ) (e : Int) (rest nl : List Int), f t = some (.inl t') ∧ Ok t' ∧ e ∈ (abs t).2 ∧ (∀ x ∈ (abs t).2, x = e ∨ x ∈ rest) ∧ (∀ x ∈ rest, x ∈ (abs t).2) ∧ rest.length + 1 = (abs t).2.length ∧ (∀ m, m ∈ nl ↔ m ∈ next e.toNat) ∧ abs t' = nl.foldl vis ((abs t).1, rest))
    (hend : ∀ t, Ok t → (abs t).2 = [] → f t = some (.inr (fin t))) (t : τ) (h0 : Ok t) (h1 : WInv W root next (abs t)) : ∃ t', loopP f t = some (fin t') ∧ Ok t' ∧ (abs t').1 = reachL W root next := by
  obtain ⟨r, g1, t', g2, g3, g4⟩ := loopP_run (f := f) (fun t => Ok t ∧ WInv W root next (abs t)) (fun t => 2 * (W - (abs t).1.count true) + (abs t).2.length) (fun r => ∃ t', r = fin t' ∧ Ok t' ∧ (abs t').1 = reachL W root next) (by
    rintro t ⟨k1, k2⟩
    by_cases hd : (abs t).2 = []
    · right
      exact ⟨_, hend t k1 hd, t, rfl, k1, k2.done hn hd⟩
    · left
      obtain ⟨t', e, rest, nl, q1, q2, q3, q4, q5, q6, q7, q8⟩ := hstep t k1 k2 hd
      obtain ⟨p1, p2⟩ := k2.go hn q3 q4 q5 q6 q7
      exact ⟨t', q1, ⟨q2, by rw [q8]; exact p1⟩, by rw [q8]; exact p2⟩) t ⟨h0, h1⟩
  exact ⟨t', by rw [g1, g2], g3, g4⟩
theorem winv_start {W : Nat} {next : Nat → List Int} (hW : 0 < W) : WInv W 0 next ((List.replicate W false).set 0 true, [0]) := by
  have hc : ((List.replicate W false).set 0 true).count true = 1 := by
    rw [count_set (by simpa using hW) (by simp [hW])]
    simp [List.count_replicate]
  refine ⟨by simp, by rw [hc]; simp, by simp; omega, by simp [hW], fun n h => ?_, fun n h => ?_, by simp [hW]⟩
  · simp only [List.getElem?_set, List.length_replicate] at h
    split at h
    · rename_i e; subst e; exact .base
    · simp [List.getElem?_replicate] at h
  · simp only [List.getElem?_set, List.length_replicate] at h
    split at h
    · rename_i e; subst e; exact .inl (by simp)
    · simp [List.getElem?_replicate] at h
theorem vis_loop {ρ : Type} (r : List Int) (W : Nat) (hW : W ≤ 1000000) (hr : ∀ m ∈ r, 0 ≤ m ∧ m < W) (f : List Bool × List Int × Int → Option ((List Bool × List Int × Int) ⊕ ρ)) (fin : List Bool × List Int → ρ)
    (hf : ∀ (o : List Bool) (t : List Int) (k : Nat) (hk : k < r.length), o.length = W → t.length ≤ 1000000 → f (o, t, k) = some (.inl ((vis (o, t) r[k]).1, (vis (o, t) r[k]).2, ((k + 1 : Nat) : Int))))
    (he : ∀ o t, f (o, t, r.length) = some (.inr (fin (o, t)))) (o : List Bool) (t : List Int) (ho : o.length = W) (ht : t.length ≤ o.count true) : loopP f (o, t, 0) = some (fin (r.foldl vis (o, t))) := by
  have := loopP_fold r (fun (s : List Bool × List Int) k => (s.1, s.2, (k : Int))) (fun k s => s.1.length = W ∧ s.2.length ≤ s.1.count true) (fun s e => .inl (vis s e)) fin f (fun s k hk hI => by
    left
    obtain ⟨h1, h2⟩ := hI
    have hcw := List.count_le_length (a := true) (l := s.1)
    have hb := hr _ (List.getElem_mem hk)
    refine ⟨_, rfl, hf s.1 s.2 k hk h1 (by omega), by rw [vis_len]; exact h1, ?_⟩
    have := vis_count (s := s) (m := r[k]) (by omega)
    omega) (fun s _ => he s.1 s.2) (o, t) ⟨ho, ht⟩
  rw [foldE_inl] at this
  exact this
theorem vis_get {o : List Bool} {m : Int} (h0 : 0 ≤ m) (h : m < o.length) : getI o m = some (o[m.toNat]'(by omega)) := by
  have : m = ((m.toNat : Nat) : Int) := by omega
  conv => lhs; rw [this]
  exact getI_at (by omega)
theorem vis_eq {o : List Bool} {t : List Int} {m : Int} (h : m.toNat < o.length) : vis (o, t) m = if o[m.toNat] = true then (o, t) else (o.set m.toNat true, t ++ [m]) := by
  unfold vis
  simp only [List.getElem?_eq_getElem h, Option.some.injEq]
end Go.OM
set_option linter.unusedVariables false
set_option linter.unusedSimpArgs false
namespace Go.OM
abbrev Tab := List (List Bool)
structure TabOk (W L : Nat) (t : Tab) : Prop where
  len : t.length = W
  row : ∀ r ∈ t, r.length = L
theorem TabOk.set {W L : Nat} {t : Tab} (h : TabOk W L t) (n : Nat) {r : List Bool} (hr : r.length = L) : TabOk W L (t.set n r) :=
  ⟨by simpa using h.len, fun x hx => by
    rcases List.mem_or_eq_of_mem_set hx with h1 | h1
    · exact h.row x h1
    · rw [h1]; exact hr⟩
theorem w64_nat {k n : Nat} (hk : k < n) (hn : n ≤ 1048576) : IntKind.wrap .i64 ((k : Int) + 1) = ((k + 1 : Nat) : Int) := w64_succ hk (show n ≤ maxLen by show _ ≤ 9223372036854775807; omega)
theorem fill_loop {ρ : Type} (L : Nat) (b : Bool) (f : List Bool × Int → Option ((List Bool × Int) ⊕ ρ)) (fin : List Bool → ρ)
    (hf : ∀ (r : List Bool) (k : Nat), r.length = L → k < L → f (r, k) = some (.inl (r.set k b, ((k + 1 : Nat) : Int)))) (he : ∀ r : List Bool, r.length = L → f (r, L) = some (.inr (fin r))) (r0 : List Bool) (h0 : r0.length = L) :
    loopP f (r0, 0) = some (fin (List.replicate L b)) := by
  obtain ⟨r, h1, h2⟩ := loopP_run (f := f) (fun s : List Bool × Int => ∃ k : Nat, s.2 = k ∧ k ≤ L ∧ s.1.length = L ∧ ∀ j, j < k → s.1[j]? = some b) (fun s => L - s.2.toNat) (fun r => r = fin (List.replicate L b)) (by
    rintro ⟨r, i⟩ ⟨k, rfl, hk, hl, hs⟩
    simp only at hl hs hk
    by_cases hlt : k < L
    · left
      refine ⟨_, hf r k hl hlt, ⟨k + 1, rfl, by omega, by simpa using hl, fun j hj => ?_⟩, by simp only [Int.toNat_natCast]; omega⟩
      simp only [List.getElem?_set]
      by_cases e : k = j
      · subst e; simp [hl, hlt]
      · rw [if_neg e]; exact hs j (by omega)
    · right
      have hkL : k = L := by omega
      subst hkL
      refine ⟨_, he r hl, ?_⟩
      congr 1
      apply List.ext_getElem?
      intro j
      by_cases hj : j < k
      · rw [hs j hj, List.getElem?_replicate, if_pos hj]
      · rw [List.getElem?_eq_none (by omega), List.getElem?_replicate, if_neg hj]) (r0, 0) ⟨0, rfl, by omega, h0, fun j h => by omega⟩
  rw [h1, h2]
theorem app1g {α : Type} {n : Nat} {s : List α} {e : α} (h : s.length ≤ 1048576) (hn : n ≤ 64) : appI n s [e] = some (s ++ [e]) := by
  unfold appI
  have h1 : (s.length + [e].length) * n ≤ (s.length + [e].length) * 64 := Nat.mul_le_mul_left _ hn
  rw [if_pos ⟨by simp only [List.length_cons, List.length_nil] at h1 ⊢; omega, by simp only [List.length_cons, List.length_nil]; omega⟩]
theorem rep_loop {α : Type} (W : Nat) (hW : W ≤ 1048576) (x : α) (f : List α × Int → Option ((List α × Int) ⊕ List α))
    (hf : ∀ (o : List α) (k : Nat), o.length ≤ 1048576 → k < W → f (o, k) = some (.inl (o ++ [x], ((k + 1 : Nat) : Int)))) (he : ∀ o, f (o, W) = some (.inr o)) : loopP f ([], 0) = some (List.replicate W x) := by
  obtain ⟨r, h1, h2⟩ := loopP_run (f := f) (fun s : List α × Int => ∃ k : Nat, s.2 = k ∧ k ≤ W ∧ s.1 = List.replicate k x) (fun s => W - s.2.toNat) (fun r => r = List.replicate W x) (by
    rintro ⟨o, i⟩ ⟨k, rfl, hk, ho⟩
    simp only at ho hk
    by_cases hlt : k < W
    · left
      refine ⟨_, hf o k (by rw [ho]; simp; omega) hlt, ⟨k + 1, rfl, by omega, ?_⟩, by simp only [Int.toNat_natCast]; omega⟩
      simp only [ho, List.replicate_succ']
    · right
      have hkL : k = W := by omega
      subst hkL
      exact ⟨_, he o, ho⟩) ([], 0) ⟨0, rfl, by omega, rfl⟩
  rw [h1, h2]
theorem impl_table_eq (W L : Nat) (hW : W ≤ 1048576) (hL : L ≤ 1048576) (b : Bool) : impl_table W L b = some (List.replicate W (List.replicate L b)) := by
  unfold impl_table
  rw [rep_loop W hW (List.replicate L b) (impl_table_l1 W L b) (fun o k ho hk => by
    simp only [impl_table_l1, ofNat_lt_true hk, if_true]
    rw [mkI_len _ _ _ (by omega) (by omega)]
    simp only [Option.bind_some]
    rw [fill_loop L b (impl_table_l2 b (List.replicate L false)) id (fun r k hr hk => by
      simp only [impl_table_l2, List.length_replicate, ofNat_lt_true hk, if_true, getI_at (show k < r.length by omega), Option.bind_some, bindS_def, Int.toNat_natCast, w64_nat hk hL]) (fun r hr => by simp [impl_table_l2]) _ (by simp)]
    simp only [Option.bind_some, id, app1g ho (show 24 ≤ 64 by omega), w64_nat hk hW]) (fun o => by simp [impl_table_l1])]
  rfl
theorem tab_rep (W L : Nat) (b : Bool) : TabOk W L (List.replicate W (List.replicate L b)) := ⟨by simp, fun r hr => by rw [(List.mem_replicate.1 hr).2]; simp⟩
theorem rowU_loop {ρ : Type} (out : Tab) (n L : Nat) (hn : n < out.length) (row : List Bool) (hrow : out[n]? = some row) (hL : row.length = L) (u : Nat → Bool → Bool) (f : Tab × Bool × Int → Option ((Tab × Bool × Int) ⊕ ρ)) (fin : Tab → Bool → ρ)
    (hf : ∀ (r : List Bool) (m : Bool) (k : Nat) (hk : k < r.length), r.length = L → f (out.set n r, m, k) = some (.inl (if u k r[k] = r[k] then (out.set n r, m, ((k + 1 : Nat) : Int)) else (out.set n (r.set k (u k r[k])), true, ((k + 1 : Nat) : Int)))))
    (he : ∀ (r : List Bool) (m : Bool), r.length = L → f (out.set n r, m, L) = some (.inr (fin (out.set n r) m))) (more : Bool) :
    loopP f (out, more, 0) = some (fin (out.set n (row.mapIdx u)) (more || decide (row.mapIdx u ≠ row))) := by
  have hself : out = out.set n row := by
    apply List.ext_getElem?
    intro j
    rw [List.getElem?_set]
    by_cases e : n = j
    · subst e; rw [if_pos rfl, if_pos hn]; exact hrow
    · rw [if_neg e]
  obtain ⟨r, h1, h2⟩ := loopP_run (f := f) (fun s : Tab × Bool × Int => ∃ (k : Nat) (r : List Bool), s.2.2 = k ∧ k ≤ L ∧ r.length = L ∧ s.1 = out.set n r ∧ (∀ (j : Nat), r[j]? = if j < k then (row.mapIdx u)[j]? else row[j]?) ∧ (s.2.1 = true ↔ more = true ∨ ∃ j, j < k ∧ (row.mapIdx u)[j]? ≠ row[j]?)) (fun s => L - s.2.2.toNat) (fun x => x = fin (out.set n (row.mapIdx u)) (more || decide (row.mapIdx u ≠ row))) (by
    rintro ⟨o, m, i⟩ ⟨k, r, rfl, hk, hr, ho, hrj, hm⟩
    simp only at ho hm hk
    subst ho
    by_cases hlt : k < L
    · left
      have hkr : k < r.length := by omega
      have hkrow : k < row.length := by omega
      have hrk : r[k] = row[k] := by
        have := hrj k
        rw [if_neg (by omega), List.getElem?_eq_getElem hkr, List.getElem?_eq_getElem hkrow] at this
        exact Option.some.inj this
      have hmk : (row.mapIdx u)[k]? = some (u k row[k]) := by rw [List.getElem?_mapIdx, List.getElem?_eq_getElem hkrow]; rfl
      have hrk2 : row[k]? = some row[k] := List.getElem?_eq_getElem hkrow
      refine ⟨_, hf r m k hkr hr, ?_, ?_⟩
      · by_cases hu : u k r[k] = r[k]
        · rw [if_pos hu]
          refine ⟨k + 1, r, rfl, by omega, hr, rfl, fun j => ?_, ?_⟩
          · by_cases e : j = k
            · subst e
              rw [hrj j, if_neg (by omega), if_pos (by omega), hmk, hrk2, ← hrk, hu]
            · rw [hrj j]
              by_cases e2 : j < k
              · rw [if_pos e2, if_pos (by omega)]
              · rw [if_neg e2, if_neg (by omega)]
          · simp only
            rw [hm]
            constructor
            · rintro (h | ⟨j, h, h'⟩)
              · exact .inl h
              · exact .inr ⟨j, by omega, h'⟩
            · rintro (h | ⟨j, h, h'⟩)
              · exact .inl h
              · refine .inr ⟨j, ?_, h'⟩
                rcases Nat.lt_or_ge j k with h3 | h3
                · exact h3
                · exfalso
                  have : j = k := by omega
                  subst this
                  rw [hmk, hrk2, ← hrk, hu] at h'
                  exact h' rfl
        · rw [if_neg hu]
          refine ⟨k + 1, r.set k (u k r[k]), rfl, by omega, by simpa using hr, rfl, fun j => ?_, ?_⟩
          · rw [List.getElem?_set]
            by_cases e : k = j
            · subst e
              rw [if_pos rfl, if_pos hkr, if_pos (by omega), hmk, hrk]
            · rw [if_neg e, hrj j]
              by_cases e2 : j < k
              · rw [if_pos e2, if_pos (by omega)]
              · rw [if_neg e2, if_neg (by omega)]
          · simp only
            refine ⟨fun _ => .inr ⟨k, by omega, ?_⟩, fun _ => trivial⟩
            rw [hmk, hrk2, ← hrk]
            intro h
            exact hu (Option.some.inj h)
      · split <;> (simp only [Int.toNat_natCast]; omega)
    · right
      have hkL : k = L := by omega
      subst hkL
      have hrr : r = row.mapIdx u := by
        apply List.ext_getElem?
        intro j
        rw [hrj j]
        by_cases hj : j < k
        · rw [if_pos hj]
        · rw [if_neg hj, List.getElem?_eq_none (by omega), List.getElem?_eq_none (by simp; omega)]
      subst hrr
      refine ⟨_, he _ m hr, ?_⟩
      congr 1
      rw [Bool.eq_iff_iff, hm]
      simp only [Bool.or_eq_true, decide_eq_true_eq]
      constructor
      · rintro (h | ⟨j, h, h'⟩)
        · exact .inl h
        · exact .inr fun e => h' (by rw [e])
      · rintro (h | h)
        · exact .inl h
        · right
          refine Classical.byContradiction fun hn => h ?_
          apply List.ext_getElem?
          intro j
          refine Classical.byContradiction fun hj => hn ⟨j, ?_, hj⟩
          rcases Nat.lt_or_ge j k with h3 | h3
          · exact h3
          · exfalso
            exact hj (by rw [List.getElem?_eq_none (by simp; omega), List.getElem?_eq_none (by omega)])) (out, more, 0) ⟨0, row, rfl, by omega, hL, hself, fun j => by simp, by simp⟩
  rw [h1, h2]
def cntR (r : List Bool) : Nat := r.count true
def cntT (t : Tab) : Nat := (t.map cntR).sum
theorem cntT_set {t : Tab} {n : Nat} {row r : List Bool} (h : t[n]? = some row) : cntT (t.set n r) + cntR row = cntT t + cntR r := by
  unfold cntT
  induction t generalizing n with
  | nil => simp at h
  | cons x t ih =>
    cases n with
    | zero =>
      simp only [List.getElem?_cons_zero, Option.some.injEq] at h
      subst h
      simp only [List.set_cons_zero, List.map_cons, List.sum_cons]; omega
    | succ n =>
      simp only [List.getElem?_cons_succ] at h
      have := ih h
      simp only [List.set_cons_succ, List.map_cons, List.sum_cons]; omega
theorem cntR_down : ∀ (row : List Bool) (u : Nat → Bool → Bool), (∀ k, u k false = false) → cntR (row.mapIdx u) ≤ cntR row ∧ (row.mapIdx u ≠ row → cntR (row.mapIdx u) < cntR row)
  | [], _, _ => ⟨by simp, fun h => absurd (by simp) h⟩
  | b :: row, u, hu => by
    have ih := cntR_down row (fun k => u (k + 1)) (fun k => hu _)
    have e : (b :: row).mapIdx u = u 0 b :: row.mapIdx (fun k => u (k + 1)) := by simp [List.mapIdx_cons]
    rw [e]
    unfold cntR at ih ⊢
    cases b with
    | false =>
      rw [hu 0]
      simp only [List.count_cons, Bool.false_eq_true, beq_iff_eq, if_false, Nat.add_zero, ne_eq, List.cons.injEq, true_and]
      exact ih
    | true =>
      cases hb : u 0 true with
      | true =>
        simp only [List.count_cons, beq_self_eq_true, if_true, ne_eq, List.cons.injEq, true_and]
        exact ⟨by omega, fun h => by have := ih.2 h; omega⟩
      | false =>
        simp only [List.count_cons, beq_self_eq_true, if_true, Bool.false_eq_true, beq_iff_eq, if_false]
        exact ⟨by omega, fun _ => by omega⟩
end Go.OM
set_option linter.unusedVariables false
set_option linter.unusedSimpArgs false
namespace Go.OM
theorem getI_in {α : Type} {l : List α} {v : Int} (h0 : 0 ≤ v) (h : v < l.length) : getI l v = some (l[v.toNat]'(by omega)) := by
  have : v = ((v.toNat : Nat) : Int) := by omega
  conv => lhs; rw [this]
  exact getI_at (by omega)
end Go.OM
set_option linter.unusedVariables false
set_option linter.unusedSimpArgs false
namespace Go.OM
structure Dn (W L : Nat) (s s' : Tab × Bool) : Prop where
  ok : TabOk W L s'.1
  le : cntT s'.1 ≤ cntT s.1
  lt : s'.2 = true → s.2 = true ∨ cntT s'.1 < cntT s.1
  keep : s.2 = true → s'.2 = true
theorem Dn.refl {W L : Nat} {s : Tab × Bool} (h : TabOk W L s.1) : Dn W L s s := ⟨h, Nat.le_refl _, .inl, id⟩
theorem Dn.trans {W L : Nat} {s s' s2 : Tab × Bool} (h : Dn W L s s') (h2 : Dn W L s' s2) : Dn W L s s2 :=
  ⟨h2.ok, Nat.le_trans h2.le h.le, fun e => by
    rcases h2.lt e with e | e
    · rcases h.lt e with e | e
      · exact .inl e
      · exact .inr (Nat.lt_of_le_of_lt h2.le e)
    · exact .inr (Nat.lt_of_lt_of_le e h.le), fun e => h2.keep (h.keep e)⟩
theorem nextS_cases (c : GCode) (i : Nat) : nextS c i = nextI c i ∨ ∃ a, nextI c i = [a, a] ∧ nextS c i = [a] := by
  unfold nextS
  have hl : (nextI c i).length ≤ 2 := by
    unfold nextI
    split
    · refine Nat.le_trans (List.length_filter_le _ _) ?_
      unfold rawNext; split <;> (try split) <;> (try split) <;> simp
    · simp
  match h : nextI c i, hl with
  | [], _ => exact .inl rfl
  | [a], _ => left; simp [addL]
  | [a, b], _ =>
    by_cases e : a = b
    · subst e
      exact .inr ⟨a, rfl, by simp [addL]⟩
    · left
      have : ¬ b = a := fun h => e h.symm
      simp [addL, this]
  | _ :: _ :: _ :: _, hq => simp only [List.length_cons] at hq; omega
theorem nextI_len (c : GCode) (i : Nat) : (nextI c i).length ≤ 2 := by
  unfold nextI
  split
  · refine Nat.le_trans (List.length_filter_le _ _) ?_
    unfold rawNext; split <;> (try split) <;> (try split) <;> simp
  · simp
theorem nextS_len (c : GCode) (i : Nat) : (nextS c i).length ≤ 2 := by
  rcases nextS_cases c i with h | ⟨a, h1, h2⟩
  · rw [h]; exact nextI_len c i
  · rw [h2]; simp
end Go.OM
set_option linter.unusedVariables false
set_option linter.unusedSimpArgs false
namespace Go.OM
theorem hasInt_eq (l : List Int) (n : Int) (hl : l.length ≤ 1048576) : impl_hasInt l n = some (l.contains n) := by
  unfold impl_hasInt
  rw [loopP_any l (fun e => e == n) (impl_hasInt_l1 l n) (fun k hk => by
    simp only [impl_hasInt_l1, ofNat_lt_true hk, if_true, getI_at hk, Option.bind_some, w64_nat hk hl]
    cases l[k] == n <;> rfl) (by simp [impl_hasInt_l1])]
  have : (l.any fun e => e == n) = l.contains n := by
    induction l with
    | nil => rfl
    | cons x l ih =>
      rw [List.any_cons, List.contains_cons, ih (by simp at hl; omega)]
      congr 1
      rw [Bool.eq_iff_iff, beq_iff_eq, beq_iff_eq]
      exact eq_comm
  rw [this]
  cases l.contains n <;> rfl
theorem find_range {ρ : Type} (n : Nat) (q : Nat → Option ρ) (f : Int → Option (Int ⊕ (Unit ⊕ ρ)))
    (hf : ∀ (k : Nat), k < n → f k = some (match q k with | none => .inl ((k + 1 : Nat) : Int) | some r => .inr (.inr r)))
    (he : f n = some (.inr (.inl ()))) : loopP f 0 = some (match (List.range n).findSome? q with | some r => .inr r | none => .inl ()) :=
  loopP_find (List.range n) q f (fun k hk => by
    have hk' : k < n := by simpa using hk
    rw [hf k hk', List.getElem_range]
    all_goals (cases q k <;> rfl)) (by rw [List.length_range]; exact he)
end Go.OM
set_option linter.unusedVariables false
set_option linter.unusedSimpArgs false
namespace Go.OM
end Go.OM
set_option linter.unusedVariables false
set_option linter.unusedSimpArgs false
namespace Go.OM
end Go.OM
set_option linter.unusedVariables false
set_option linter.unusedSimpArgs false
namespace Go.OM
end Go.OM
set_option linter.unusedVariables false
set_option linter.unusedSimpArgs false
namespace Go.OM
structure Bd (n : Nat) (C : Int) (m : List Int) : Prop where
  len : m.length = n
  bnd : ∀ v ∈ m, 0 ≤ v ∧ v ≤ C
theorem Bd.mono {n : Nat} {C C' : Int} {m : List Int} (h : Bd n C m) (hc : C ≤ C') : Bd n C' m := ⟨h.len, fun v hv => by have := h.bnd v hv; omega⟩
theorem Bd.getD {n : Nat} {C : Int} {m : List Int} (h : Bd n C m) (hC : 0 ≤ C) (k : Nat) : 0 ≤ m.getD k 0 ∧ m.getD k 0 ≤ C := by
  rw [List.getD_eq_getElem?_getD]
  cases hk : m[k]? with
  | none => exact ⟨Int.le_refl 0, hC⟩
  | some v => exact h.bnd v (List.mem_of_getElem? hk)
theorem Bd.set {n : Nat} {C d : Int} {m : List Int} (h : Bd n C m) (hC : 0 ≤ C) (hd : 0 ≤ d) (k : Nat) : Bd n (C + d) (m.set k (m.getD k 0 + d)) := ⟨by rw [List.length_set]; exact h.len, fun v hv => by
  rcases List.mem_or_eq_of_mem_set hv with h1 | h1
  · have := h.bnd v h1; omega
  · have := h.getD hC k; omega⟩
end Go.OM
set_option linter.unusedVariables false
set_option linter.unusedSimpArgs false
namespace Go.OM
end Go.OM
set_option linter.unusedVariables false
set_option linter.unusedSimpArgs false
namespace Go.OM
def jmpB (x : GIns) : Bool := x.Op == 18 || x.Op == 19
def endB (x : GIns) : Bool := x.Op == 18 || (x.Op == 19 || x.Op == 20)
def hstep (c : GCode) (H : List Bool) (i : Nat) : List Bool := match c.Words[i]? with
  | some x => let H1 := if jmpB x = true then H.set x.Num.toNat true else H
    if endB x = true then H1.set (i + 1) true else H1
  | none => H
theorem hstep_len (c : GCode) (H : List Bool) (i : Nat) : (hstep c H i).length = H.length := by
  unfold hstep
  split
  · simp only
    split <;> split <;> simp
  · rfl
def headsB (c : GCode) : List Bool := ((List.range c.Words.length).foldl (hstep c) ((List.replicate (c.Words.length + 1) false).set 0 true)).set c.Words.length true
theorem set_comm' (H : List Bool) (a b : Nat) : (H.set a true).set b true = (H.set b true).set a true := by
  by_cases e : a = b
  · subst e; rfl
  · exact List.set_comm _ _ e
theorem hstep_set (c : GCode) (H : List Bool) (i a : Nat) : hstep c (H.set a true) i = (hstep c H i).set a true := by
  unfold hstep
  split
  · rename_i x hx
    simp only
    split <;> split <;> simp only [set_comm' _ a]
  · rfl
theorem hfold_set (c : GCode) (a : Nat) : ∀ (l : List Nat) (H : List Bool), l.foldl (hstep c) (H.set a true) = (l.foldl (hstep c) H).set a true
  | [], H => rfl
  | i :: l, H => by rw [List.foldl_cons, List.foldl_cons, hstep_set, hfold_set c a l]
theorem heads_loop {ρ : Type} (c : GCode) (hc : codeB c = true) (f : List Bool × Int → Option ((List Bool × Int) ⊕ ρ)) (fin : List Bool → ρ)
    (hf : ∀ (H : List Bool) (k : Nat) (x : GIns), H.length = c.Words.length + 1 → k < c.Words.length → getI c.Words k = some x → f (H, k) = (Option.bind (Option.bind (if (x.Op == 18) = true then some true else some (x.Op == 19)) fun v29 => if v29 = true then (getI H x.Num).bind fun e32 => some (List.set H x.Num.toNat true) else some H) fun b => Option.bind (if (x.Op == 18) = true then some true else if (x.Op == 19) = true then some true else some (x.Op == 20)) fun v41 =>
      if v41 = true then (getI b (IntKind.wrap .i64 ((k : Int) + 1))).bind fun e44 => some (Sum.inl (List.set b ((IntKind.wrap .i64 ((k : Int) + 1)).toNat) true, IntKind.wrap .i64 ((k : Int) + 1))) else some (Sum.inl (b, IntKind.wrap .i64 ((k : Int) + 1)))))
    (he : ∀ H, f (H, c.Words.length) = some (.inr (fin H))) (H : List Bool) (hH : H.length = c.Words.length + 1) : loopP f (H, 0) = some (fin ((List.range c.Words.length).foldl (hstep c) H)) := by
  obtain ⟨_, _, _, ⟨hw1, hw2⟩, _, _, hwd⟩ := codeB_facts hc
  have := loopP_fold (List.range c.Words.length) (fun (s : List Bool) k => (s, (k : Int))) (fun k s => s.length = c.Words.length + 1) (fun s i => .inl (hstep c s i)) fin f (fun s k hk hI => by
    left
    have hk' : k < c.Words.length := by simpa using hk
    refine ⟨_, rfl, ?_, (hstep_len c s _).trans hI⟩
    rw [hf s k c.Words[k] hI hk' (getI_at hk')]
    have hw : IntKind.wrap .i64 ((k : Int) + 1) = ((k + 1 : Nat) : Int) := w64_nat hk' (by omega)
    simp only [hw, List.getElem_range, Int.toNat_natCast]
    unfold hstep
    rw [List.getElem?_eq_getElem hk']
    simp only
    have e1 : (if (c.Words[k].Op == 18) = true then some true else some (c.Words[k].Op == 19)) = some (jmpB c.Words[k]) := by
      unfold jmpB; cases c.Words[k].Op == 18 <;> rfl
    have e2 : (if (c.Words[k].Op == 18) = true then some true else if (c.Words[k].Op == 19) = true then some true else some (c.Words[k].Op == 20)) = some (endB c.Words[k]) := by
      unfold endB; cases c.Words[k].Op == 18 <;> cases c.Words[k].Op == 19 <;> rfl
    rw [e1, e2]
    simp only [Option.bind_some]
    cases hj : jmpB c.Words[k] with
    | true =>
      have hop : c.Words[k].Op = 18 ∨ c.Words[k].Op = 19 := by unfold jmpB at hj; simpa using hj
      have hn := wordB_num (hwd _ (List.getElem_mem hk')) hop
      simp only [if_true]
      rw [getI_in hn.1 (by omega)]
      simp only [Option.bind_some]
      cases endB c.Words[k] with
      | true =>
        simp only [if_true]
        rw [getI_at (show k + 1 < (s.set c.Words[k].Num.toNat true).length by simp; omega)]
        rfl
      | false => rfl
    | false =>
      simp only [Bool.false_eq_true, if_false, Option.bind_some]
      cases endB c.Words[k] with
      | true =>
        simp only [if_true]
        rw [getI_at (show k + 1 < s.length by omega)]
        rfl
      | false => rfl) (fun s _ => by
    rw [List.length_range]; exact he s) H hH
  rw [foldE_inl] at this
  exact this
theorem hfold_len (c : GCode) : ∀ (l : List Nat) (H : List Bool), (l.foldl (hstep c) H).length = H.length
  | [], H => rfl
  | i :: l, H => by rw [List.foldl_cons, hfold_len c l, hstep_len]
theorem headsB_len (c : GCode) : (headsB c).length = c.Words.length + 1 := by
  unfold headsB; rw [List.length_set, hfold_len]; simp
theorem mk_wrap {n : Nat} (h : n ≤ 1048576) : IntKind.wrap .i64 ((n : Int) + 1) = ((n + 1 : Nat) : Int) := by rw [w64 (by omega) (by omega)]; omega
theorem spec_l29Heads_eq (c : GCode) (hc : codeB c = true) : spec_l29Heads c = some (headsB c) := by
  obtain ⟨_, _, _, ⟨hw1, hw2⟩, _⟩ := codeB_facts hc
  unfold spec_l29Heads
  rw [mk_wrap (by omega), mkI_len _ _ _ (by omega) (by omega)]
  have h0 : getI (List.replicate (c.Words.length + 1) false) 0 = some false := by rw [getI_zero, List.getElem?_replicate, if_pos (by omega)]
  simp only [Option.bind_some, h0, bindS_def]
  rw [heads_loop c hc (spec_l29Heads_l1 c) id (fun H k x hH hk hx => by simp only [spec_l29Heads_l1, ofNat_lt_true hk, if_true, hx, Option.bind_some, bindS_def]) (fun H => by simp [spec_l29Heads_l1]) _ (by simp)]
  simp only [Option.bind_some, id]
  rw [getI_at (show c.Words.length < ((List.range c.Words.length).foldl (hstep c) ((List.replicate (c.Words.length + 1) false).set 0 true)).length by rw [hfold_len]; simp)]
  simp only [Option.bind_some, Int.toNat_natCast]
  rfl
def bstep (H : List Bool) (s : List GBlock × Int) (i : Nat) : List GBlock × Int := if H[i]? = some true then (s.1 ++ [⟨s.2, (i : Int), []⟩], (i : Int)) else s
def rawBlocks (c : GCode) : List GBlock := ((List.range' 1 c.Words.length).foldl (bstep (headsB c)) ([], 0)).1
theorem blocks_loop {ρ : Type} (W : Nat) (hW : W ≤ 400) (H : List Bool) (hH : H.length = W + 1) (f : List GBlock × Int × Int → Option ((List GBlock × Int × Int) ⊕ ρ)) (fin : List GBlock → ρ)
    (hf : ∀ (o : List GBlock) (e : Int) (k : Nat), 1 ≤ k → k ≤ W → f (o, e, k) = (getI H k).bind fun e59 => if e59 = true then (appI 40 o [(⟨e, (k : Int), []⟩ : GBlock)]).bind fun l62 => some (Sum.inl (l62, (k : Int), IntKind.wrap .i64 ((k : Int) + 1))) else some (Sum.inl (o, e, IntKind.wrap .i64 ((k : Int) + 1))))
    (he : ∀ o e, f (o, e, ((W + 1 : Nat) : Int)) = some (.inr (fin o))) : loopP f ([], 0, 1) = some (fin ((List.range' 1 W).foldl (bstep H) ([], 0)).1) := by
  have := loopP_fold (List.range' 1 W) (fun (s : List GBlock × Int) k => (s.1, s.2, ((k + 1 : Nat) : Int))) (fun k s => s.1.length ≤ k) (fun s i => .inl (bstep H s i)) (fun s => fin s.1) f (fun s k hk hI => by
    left
    have hk' : k < W := by simpa using hk
    have hkH : k + 1 < H.length := by omega
    refine ⟨_, rfl, ?_, ?_⟩
    · rw [hf s.1 s.2 (k + 1) (by omega) (by omega), getI_at hkH]
      have hw : IntKind.wrap .i64 (((k + 1 : Nat) : Int) + 1) = ((k + 1 + 1 : Nat) : Int) := by rw [w64 (by omega) (by omega)]; omega
      simp only [Option.bind_some, hw, app1g (n := 40) (show s.1.length ≤ 1048576 by omega) (by omega)]
      have hr : (List.range' 1 W)[k] = k + 1 := by rw [List.getElem_range']; omega
      rw [hr]
      unfold bstep
      rw [List.getElem?_eq_getElem hkH]
      cases H[k + 1] <;> rfl
    · unfold bstep
      split
      · simp; omega
      · omega) (fun s _ => by rw [List.length_range']; exact he s.1 s.2) ([], 0) (by simp)
  rw [foldE_inl] at this
  exact this
def Chain (H : List Bool) : Nat → List GBlock → Nat → Prop
  | s, [], e => s = e
  | s, b :: bs, e => b.From = s ∧ b.Next = [] ∧ ∃ t : Nat, b.To = t ∧ s < t ∧ (∀ j, s < j → j < t → H[j]? ≠ some true) ∧ H[t]? = some true ∧ Chain H t bs e
theorem Chain.snoc {H : List Bool} : ∀ {B : List GBlock} {s e i : Nat}, Chain H s B e → e < i → (∀ j, e < j → j < i → H[j]? ≠ some true) → H[i]? = some true → Chain H s (B ++ [⟨(e : Int), (i : Int), []⟩]) i
  | [], s, e, i, h, h1, h2, h3 => by
    simp only [Chain] at h
    subst h
    exact ⟨rfl, rfl, i, rfl, h1, h2, h3, rfl⟩
  | b :: B, s, e, i, h, h1, h2, h3 => by
    obtain ⟨q1, q2, t, q3, q4, q5, q6, q7⟩ := h
    exact ⟨q1, q2, t, q3, q4, q5, q6, q7.snoc h1 h2 h3⟩
theorem fold_chain {H : List Bool} (W : Nat) : ∀ (n : Nat), n ≤ W → ∃ e : Nat, e ≤ n ∧ (((List.range' 1 n).foldl (bstep H) ([], 0)).2 = (e : Int)) ∧ Chain H 0 ((List.range' 1 n).foldl (bstep H) ([], 0)).1 e ∧ ∀ j, e < j → j ≤ n → H[j]? ≠ some true
  | 0, _ => ⟨0, Nat.le_refl _, rfl, rfl, fun j h1 h2 => by omega⟩
  | n + 1, hn => by
    obtain ⟨e, h1, h2, h3, h4⟩ := fold_chain W n (by omega)
    rw [List.range'_1_concat, List.foldl_append, List.foldl_cons, List.foldl_nil]
    generalize (List.range' 1 n).foldl (bstep H) ([], 0) = s at *
    unfold bstep
    by_cases hH : H[1 + n]? = some true
    · rw [if_pos hH]
      refine ⟨n + 1, by omega, by simp only; omega, ?_, fun j h5 h6 => by omega⟩
      have := h3.snoc (i := 1 + n) (by omega) (fun j h5 h6 => h4 j h5 (by omega)) hH
      simp only
      rw [h2]
      rwa [show n + 1 = 1 + n by omega]
    · rw [if_neg hH]
      refine ⟨e, by omega, h2, h3, fun j h5 h6 => ?_⟩
      by_cases h7 : j ≤ n
      · exact h4 j h5 h7
      · have : j = 1 + n := by omega
        rw [this]; exact hH
theorem rawBlocks_chain {c : GCode} (hc : codeB c = true) : Chain (headsB c) 0 (rawBlocks c) c.Words.length := by
  obtain ⟨e, h1, h2, h3, h4⟩ := fold_chain (H := headsB c) c.Words.length c.Words.length (Nat.le_refl _)
  have hW : (headsB c)[c.Words.length]? = some true := by
    unfold headsB
    rw [List.getElem?_set, if_pos rfl, if_pos (by rw [hfold_len]; simp)]
  have : e = c.Words.length := by
    rcases Nat.lt_or_ge e c.Words.length with h | h
    · exact absurd hW (h4 _ h (Nat.le_refl _))
    · omega
  subst this
  exact h3
theorem Chain.le {H : List Bool} : ∀ {B : List GBlock} {s e : Nat}, Chain H s B e → s + B.length ≤ e
  | [], s, e, h => by simp only [Chain] at h; simp [h]
  | b :: B, s, e, h => by
    obtain ⟨q1, q2, t, q3, q4, q5, q6, q7⟩ := h
    have := q7.le
    simp only [List.length_cons]; omega
theorem Chain.get {H : List Bool} : ∀ {B : List GBlock} {s e : Nat}, Chain H s B e → ∀ (k : Nat) (hk : k < B.length), ∃ f t : Nat, B[k] = ⟨(f : Int), (t : Int), []⟩ ∧ s + k ≤ f ∧ f < t ∧ t ≤ e ∧ H[t]? = some true ∧ (∀ j, f < j → j < t → H[j]? ≠ some true)
  | b :: B, s, e, h, 0, hk => by
    obtain ⟨q1, q2, t, q3, q4, q5, q6, q7⟩ := h
    have := q7.le
    refine ⟨s, t, ?_, by omega, q4, by omega, q6, q5⟩
    obtain ⟨bf, bt, bn⟩ := b
    simp only at q1 q2 q3
    simp [q1, q2, q3]
  | b :: B, s, e, h, k + 1, hk => by
    obtain ⟨q1, q2, t, q3, q4, q5, q6, q7⟩ := h
    obtain ⟨f, t', g1, g2, g3⟩ := q7.get k (by simpa using hk)
    exact ⟨f, t', by simpa using g1, by omega, g3⟩
theorem Chain.at {H : List Bool} : ∀ {B : List GBlock} {s e : Nat}, Chain H s B e → ∀ (i : Nat), s ≤ i → i < e → (i = s ∨ H[i]? = some true) → ∃ (b : Nat) (hb : b < B.length), B[b].From = (i : Int) ∧ (∀ k (hk : k < B.length), (B[k].From ≤ (i : Int) ∧ (i : Int) < B[k].To) → k = b) ∧ ((i : Int) < B[b].To) ∧ ∀ k (hk : k < B.length), B[k].From = (i : Int) → k = b
  | [], s, e, h, i, h1, h2, _ => by simp only [Chain] at h; omega
  | b :: B, s, e, h, i, h1, h2, h3 => by
    obtain ⟨q1, q2, t, q3, q4, q5, q6, q7⟩ := h
    by_cases hit : i < t
    · have his : i = s := by
        rcases h3 with h3 | h3
        · exact h3
        · rcases Nat.lt_or_ge s i with h5 | h5
          · exact absurd h3 (q5 i h5 hit)
          · omega
      subst his
      refine ⟨0, by simp, by simpa using q1, fun k hk hp => ?_, by simp [q3]; omega, fun k hk hp => ?_⟩
      · cases k with
        | zero => rfl
        | succ k =>
          exfalso
          obtain ⟨f, t', g1, g2, g3⟩ := q7.get k (by simpa using hk)
          simp only [List.getElem_cons_succ, g1] at hp
          omega
      · cases k with
        | zero => rfl
        | succ k =>
          exfalso
          obtain ⟨f, t', g1, g2, g3⟩ := q7.get k (by simpa using hk)
          simp only [List.getElem_cons_succ, g1] at hp
          omega
    · obtain ⟨b', hb', g1, g2, g3, g4⟩ := q7.at i (by omega) h2 (by
        rcases h3 with h3 | h3
        · omega
        · exact .inr h3)
      refine ⟨b' + 1, by simpa using hb', by simpa using g1, fun k hk hp => ?_, by simpa using g3, fun k hk hp => ?_⟩
      · cases k with
        | zero =>
          exfalso
          simp only [List.getElem_cons_zero, q3] at hp
          omega
        | succ k => rw [g2 k (by simpa using hk) (by simpa using hp)]
      · cases k with
        | zero =>
          exfalso
          simp only [List.getElem_cons_zero, q1] at hp
          omega
        | succ k => rw [g4 k (by simpa using hk) (by simpa using hp)]
end Go.OM
set_option linter.unusedVariables false
set_option linter.unusedSimpArgs false
namespace Go.OM
theorem set_mono {H : List Bool} {a j : Nat} (h : H[j]? = some true) : (H.set a true)[j]? = some true := by
  rw [List.getElem?_set]
  split
  · have := (List.getElem?_eq_some_iff.1 h).1
    rename_i e
    subst e
    rw [if_pos this]
  · exact h
theorem hstep_mono {c : GCode} {H : List Bool} {i j : Nat} (h : H[j]? = some true) : (hstep c H i)[j]? = some true := by
  unfold hstep
  split
  · simp only
    split <;> split
    · exact set_mono (set_mono h)
    · exact set_mono h
    · exact set_mono h
    · exact h
  · exact h
theorem hfold_mono {c : GCode} {j : Nat} : ∀ (l : List Nat) {H : List Bool}, H[j]? = some true → (l.foldl (hstep c) H)[j]? = some true
  | [], _, h => h
  | i :: l, H, h => by rw [List.foldl_cons]; exact hfold_mono l (hstep_mono h)
theorem hfold_mark {c : GCode} {x : GIns} {i : Nat} (hx : c.Words[i]? = some x) (hj : jmpB x = true) : ∀ (l : List Nat) {H : List Bool}, i ∈ l → x.Num.toNat < H.length → (l.foldl (hstep c) H)[x.Num.toNat]? = some true
  | [], _, h, _ => by cases h
  | k :: l, H, h, hl => by
    rw [List.foldl_cons]
    by_cases e : i = k
    · subst e
      refine hfold_mono l ?_
      unfold hstep
      rw [hx]
      simp only [hj, if_true]
      split
      · exact set_mono (by rw [List.getElem?_set, if_pos rfl, if_pos hl])
      · rw [List.getElem?_set, if_pos rfl, if_pos hl]
    · exact hfold_mark hx hj l (by
        rcases List.mem_cons.1 h with h | h
        · exact absurd h e
        · exact h) (by rw [hstep_len]; exact hl)
theorem succ_head {c : GCode} (hc : codeB c = true) {t : Nat} (ht : 0 < t) (htw : t ≤ c.Words.length) (hH : (headsB c)[t]? = some true) {e : Int} (he : e ∈ nextI c (t - 1)) : 0 ≤ e ∧ e < c.Words.length ∧ (headsB c)[e.toNat]? = some true := by
  obtain ⟨_, _, _, ⟨hw1, hw2⟩, _, _, hwd⟩ := codeB_facts hc
  have hb := nextI_bnd he
  refine ⟨hb.1, hb.2, ?_⟩
  have hlt : t - 1 < c.Words.length := by omega
  unfold nextI at he
  rw [List.getElem?_eq_getElem hlt] at he
  simp only at he
  have he := (List.mem_filter.1 he).1
  have hnum : jmpB c.Words[t - 1] = true → (headsB c)[(c.Words[t - 1]).Num.toNat]? = some true := fun hj => by
    have hop : c.Words[t - 1].Op = 18 ∨ c.Words[t - 1].Op = 19 := by unfold jmpB at hj; simpa using hj
    have hn := wordB_num (hwd _ (List.getElem_mem hlt)) hop
    unfold headsB
    exact set_mono (hfold_mark (List.getElem?_eq_getElem hlt) hj _ (by simp; omega) (by simp; omega))
  have hnext : (headsB c)[(((t - 1 + 1 : Nat) : Int)).toNat]? = some true := by
    rw [Int.toNat_natCast, show t - 1 + 1 = t by omega]; exact hH
  unfold rawNext at he
  split at he
  · cases he
  · split at he
    · rename_i h18
      simp only [List.mem_singleton] at he
      subst he
      exact hnum (by unfold jmpB; simp [h18])
    · split at he
      · rename_i h19
        simp only [List.mem_cons, List.mem_nil_iff, or_false] at he
        rcases he with rfl | rfl
        · exact hnext
        · exact hnum (by unfold jmpB; simp [h19])
      · simp only [List.mem_singleton] at he
        subst he
        exact hnext
theorem filt_loop (out : List GBlock) (k : Nat) (hk : k < out.length) (F T : Int) (hb : out[k]? = some ⟨F, T, []⟩) (n : Nat) (p : Nat → Bool) (f : List GBlock × Int → Option ((List GBlock × Int) ⊕ List GBlock))
    (hf : ∀ (N : List Int) (v : Nat), v < n → N.length ≤ v → f (out.set k ⟨F, T, N⟩, v) = some (.inl (if p v = true then out.set k ⟨F, T, N ++ [(v : Int)]⟩ else out.set k ⟨F, T, N⟩, ((v + 1 : Nat) : Int))))
    (he : ∀ N, f (out.set k ⟨F, T, N⟩, n) = some (.inr (out.set k ⟨F, T, N⟩))) : loopP f (out, 0) = some (out.set k ⟨F, T, ((List.range n).filter p).map fun j : Nat => (j : Int)⟩) := by
  have hself : out = out.set k ⟨F, T, []⟩ := by
    apply List.ext_getElem?
    intro j
    rw [List.getElem?_set]
    by_cases e : k = j
    · subst e; rw [if_pos rfl, if_pos hk]; exact hb
    · rw [if_neg e]
  have := loopP_fold (List.range n) (fun (N : List Int) v => (out.set k ⟨F, T, N⟩, (v : Int))) (fun v N => N.length ≤ v) (fun N v => .inl (if p v = true then N ++ [(v : Int)] else N)) (fun N => out.set k ⟨F, T, N⟩) f (fun N v hv hI => by
    left
    have hv' : v < n := by simpa using hv
    refine ⟨_, rfl, ?_, ?_⟩
    · rw [hf N v hv' hI, List.getElem_range]
      cases p v <;> rfl
    · split
      · simp; omega
      · omega) (fun N _ => by rw [List.length_range]; exact he N) [] (by simp)
  rw [foldE_inl] at this
  have key : ∀ (l : List Nat) (s : List Int), l.foldl (fun N v => if p v = true then N ++ [(v : Int)] else N) s = s ++ (l.filter p).map fun j : Nat => (j : Int) := by
    intro l
    induction l with
    | nil => intro s; simp
    | cons x l ih =>
      intro s
      rw [List.foldl_cons, ih, List.filter_cons]
      cases p x <;> simp
  rw [key, List.nil_append] at this
  conv => lhs; rw [hself]
  exact this
def fromAt (B : List GBlock) (j : Nat) : Int := match B[j]? with | some x => x.From | none => 0
def nxt (c : GCode) (B : List GBlock) (b : GBlock) : List Int := ((List.range B.length).filter fun j => (nextI c (b.To.toNat - 1)).contains (fromAt B j)).map fun j : Nat => (j : Int)
def blocksB (c : GCode) : List GBlock := (rawBlocks c).map fun b => ⟨b.From, b.To, nxt c (rawBlocks c) b⟩
def Linked (c : GCode) (B : List GBlock) (k : Nat) (out : List GBlock) : Prop := out.length = B.length ∧ ∀ j, out[j]? = if j < k then (B[j]?).map (fun b => (⟨b.From, b.To, nxt c B b⟩ : GBlock)) else B[j]?
theorem Linked.ft {c : GCode} {B out : List GBlock} {k : Nat} (h : Linked c B k out) {j : Nat} (hj : j < B.length) : ∃ (ho : j < out.length), out[j].From = B[j].From ∧ out[j].To = B[j].To := by
  have ho : j < out.length := by rw [h.1]; exact hj
  refine ⟨ho, ?_⟩
  have := h.2 j
  rw [List.getElem?_eq_getElem ho, List.getElem?_eq_getElem hj] at this
  split at this
  · simp only [Option.map_some, Option.some.injEq] at this
    rw [this]; exact ⟨rfl, rfl⟩
  · simp only [Option.some.injEq] at this
    rw [this]; exact ⟨rfl, rfl⟩
theorem Linked.next {c : GCode} {B out : List GBlock} {k : Nat} (h : Linked c B k out) (hk : k < B.length) : Linked c B (k + 1) (out.set k ⟨B[k].From, B[k].To, nxt c B B[k]⟩) := by
  refine ⟨by simpa using h.1, fun j => ?_⟩
  rw [List.getElem?_set]
  by_cases e : k = j
  · subst e
    rw [if_pos rfl, if_pos (by rw [h.1]; exact hk), if_pos (by omega), List.getElem?_eq_getElem hk]; rfl
  · rw [if_neg e, h.2 j]
    by_cases h2 : j < k
    · rw [if_pos h2, if_pos (by omega)]
    · rw [if_neg h2, if_neg (by omega)]
theorem Linked.done {c : GCode} {B out : List GBlock} (h : Linked c B B.length out) : out = B.map fun b => ⟨b.From, b.To, nxt c B b⟩ := by
  apply List.ext_getElem?
  intro j
  rw [h.2 j, List.getElem?_map]
  by_cases hj : j < B.length
  · rw [if_pos hj]
  · rw [if_neg hj, List.getElem?_eq_none (by omega)]; rfl
theorem link_loop {c : GCode} (B : List GBlock) (hB : B.length ≤ 400) (f : List GBlock × Int → Option ((List GBlock × Int) ⊕ List GBlock))
    (hf : ∀ (out : List GBlock) (k : Nat) (hk : k < B.length), Linked c B k out → f (out, k) = some (.inl (out.set k ⟨B[k].From, B[k].To, nxt c B B[k]⟩, ((k + 1 : Nat) : Int)))) (he : ∀ out : List GBlock, out.length = B.length → f (out, B.length) = some (.inr out)) : loopP f (B, 0) = some (B.map fun b => ⟨b.From, b.To, nxt c B b⟩) := by
  obtain ⟨r, h1, h2⟩ := loopP_run (f := f) (fun s : List GBlock × Int => ∃ k : Nat, s.2 = k ∧ k ≤ B.length ∧ Linked c B k s.1) (fun s => B.length - s.2.toNat) (fun r => r = B.map fun b => ⟨b.From, b.To, nxt c B b⟩) (by
    rintro ⟨out, i⟩ ⟨k, rfl, hk, hL⟩
    simp only at hL hk
    by_cases hlt : k < B.length
    · left
      exact ⟨_, hf out k hlt hL, ⟨k + 1, rfl, by omega, hL.next hlt⟩, by simp only [Int.toNat_natCast]; omega⟩
    · right
      have : k = B.length := by omega
      subst this
      exact ⟨out, he out hL.1, hL.done⟩) (B, 0) ⟨0, rfl, by omega, rfl, fun j => by simp⟩
  rw [h1, h2]
theorem Linked.cur {c : GCode} {B out : List GBlock} {k : Nat} (h : Linked c B k out) (hk : k < B.length) : out[k]? = some B[k] := by
  rw [h.2 k, if_neg (by omega), List.getElem?_eq_getElem hk]
theorem fromAt_get {B : List GBlock} {j : Nat} (hj : j < B.length) : fromAt B j = B[j].From := by unfold fromAt; rw [List.getElem?_eq_getElem hj]
theorem blockAt_unique (l : List GBlock) (hl : l.length ≤ 1048576) (i : Int) (b : Nat) (hb : b < l.length) (h1 : l[b].From ≤ i ∧ i < l[b].To) (h2 : ∀ k (hk : k < l.length), (l[k].From ≤ i ∧ i < l[k].To) → k = b) : spec_BlockAt l i = some (b : Int) := by
  unfold spec_BlockAt
  rw [find_range l.length (fun k => match l[k]? with | some x => if (decide (x.From ≤ i) && decide (i < x.To)) = true then some (k : Int) else none | none => none) (spec_BlockAt_l1 l i) (fun k hk => by
    simp only [spec_BlockAt_l1, ofNat_lt_true hk, if_true, getI_at hk, Option.bind_some, List.getElem?_eq_getElem hk, w64_nat hk hl]
    cases decide (l[k].From ≤ i) <;> cases decide (i < l[k].To) <;> rfl) (by simp [spec_BlockAt_l1])]
  have key : (List.range l.length).findSome? (fun k => match l[k]? with | some x => if (decide (x.From ≤ i) && decide (i < x.To)) = true then some (k : Int) else none | none => none) = some (b : Int) := by
    rw [List.findSome?_eq_some_iff]
    refine ⟨List.range b, b, List.range' (b + 1) (l.length - b - 1), ?_, ?_, fun k hk => ?_⟩
    · have e : l.length = b + ((l.length - b - 1) + 1) := by omega
      rw [List.range_eq_range', List.range_eq_range']
      conv => lhs; rw [e]
      rw [← List.range'_append_1, List.range'_succ, Nat.zero_add]
    · rw [List.getElem?_eq_getElem hb]
      simp [h1.1, h1.2]
    · have hkb : k < b := by simpa using hk
      have hkl : k < l.length := by omega
      rw [List.getElem?_eq_getElem hkl]
      simp only
      rw [if_neg]
      intro h
      simp only [Bool.and_eq_true, decide_eq_true_eq] at h
      have := h2 k hkl h
      omega
  rw [key]
  rfl
theorem raw_len (c : GCode) (hc : codeB c = true) : (rawBlocks c).length ≤ 400 := by
  obtain ⟨_, _, _, ⟨hw1, hw2⟩, _⟩ := codeB_facts hc
  have := (rawBlocks_chain hc).le
  omega
theorem impl_BlocksOf_eq (c : GCode) (h : GCode.le 1048576 c) (hc : codeB c = true) : impl_BlocksOf c = some (blocksB c) := by
  obtain ⟨_, _, _, ⟨hw1, hw2⟩, _⟩ := codeB_facts hc
  have hch := rawBlocks_chain hc
  have hrl := raw_len c hc
  unfold impl_BlocksOf
  rw [impl_CodeOk_eq c h, mk_wrap (by omega), mkI_len _ _ _ (by omega) (by omega)]
  have h0 : getI (List.replicate (c.Words.length + 1) false) 0 = some false := by rw [getI_zero, List.getElem?_replicate, if_pos (by omega)]
  simp only [Option.bind_some, hc, Bool.not_true, Bool.false_eq_true, if_false, h0, bindS_def]
  rw [getI_at (show c.Words.length < ((List.replicate (c.Words.length + 1) false).set 0 true).length by simp)]
  simp only [Option.bind_some, Int.toNat_natCast]
  rw [heads_loop c hc (impl_BlocksOf_l1 c) id (fun H k x hH hk hx => by simp only [impl_BlocksOf_l1, ofNat_lt_true hk, if_true, hx, Option.bind_some, bindS_def]) (fun H => by simp [impl_BlocksOf_l1]) _ (by simp)]
  simp only [Option.bind_some, id]
  rw [hfold_set]
  have hheads : ((List.range c.Words.length).foldl (hstep c) ((List.replicate (c.Words.length + 1) false).set 0 true)).set c.Words.length true = headsB c := rfl
  rw [hheads, blocks_loop c.Words.length hw2 (headsB c) (headsB_len c) (impl_BlocksOf_l2 c (headsB c)) id (fun o e k hk1 hk2 => by
    have hd : decide ((k : Int) ≤ (c.Words.length : Int)) = true := by simp only [decide_eq_true_eq]; omega
    simp only [impl_BlocksOf_l2, hd, if_true]) (fun o e => by
    have hd : decide (((c.Words.length + 1 : Nat) : Int) ≤ (c.Words.length : Int)) = false := by simp only [decide_eq_false_iff_not]; omega
    simp only [impl_BlocksOf_l2, hd, Bool.false_eq_true, if_false]; rfl)]
  simp only [Option.bind_some, id]
  have hraw : ((List.range' 1 c.Words.length).foldl (bstep (headsB c)) ([], 0)).1 = rawBlocks c := rfl
  rw [hraw, link_loop (c := c) (rawBlocks c) hrl (impl_BlocksOf_l3 c (rawBlocks c)) (fun out k hk hL => by
    obtain ⟨F, T, g1, g2, g3, g4, g5, g6⟩ := hch.get k hk
    have hko : k < out.length := by rw [hL.1]; exact hk
    have hcur := hL.cur hk
    rw [List.getElem?_eq_getElem hko] at hcur
    have hcur' := Option.some.inj hcur
    have hTw : IntKind.wrap .i64 ((T : Int) - 1) = ((T - 1 : Nat) : Int) := by rw [w64 (by omega) (by omega)]; omega
    simp only [impl_BlocksOf_l3, ofNat_lt_true hk, if_true, getI_at hko, Option.bind_some, hcur', g1, hTw, impl_Next_eq c (show c.Words.length ≤ 1048576 by omega) (T - 1) (by omega)]
    rw [filt_loop out k hko F T (by rw [List.getElem?_eq_getElem hko, hcur', g1]) (rawBlocks c).length (fun j => (nextI c (T - 1)).contains (fromAt (rawBlocks c) j)) (impl_BlocksOf_l4 out k (nextI c (T - 1))) (fun N v hv hN => by
      have hvo : v < (out.set k ⟨F, T, N⟩).length := by rw [List.length_set, hL.1]; exact hv
      have hvl : v < out.length := by rw [hL.1]; exact hv
      have hfr : (out.set k ⟨F, T, N⟩)[v].From = (rawBlocks c)[v].From := by
        obtain ⟨ho, e1, e2⟩ := hL.ft hv
        by_cases e : k = v
        · subst e
          rw [List.getElem_set_self, g1]
        · rw [List.getElem_set_ne e]; exact e1
      have hkk : getI (out.set k ⟨F, T, N⟩) (k : Int) = some ⟨F, T, N⟩ := getI_set hko
      have hnl := nextI_len c (T - 1)
      simp only [impl_BlocksOf_l4, hL.1, ofNat_lt_true hv, if_true, getI_at hvo, Option.bind_some, hfr, hasInt_eq _ _ (show (nextI c (T - 1)).length ≤ 1048576 by omega), hkk, app1 (n := 8) (show N.length ≤ 1048576 by omega) (by omega), bindS_def, Int.toNat_natCast, w64_nat hv (show (rawBlocks c).length ≤ 1048576 by omega), List.set_set, fromAt_get hv]
      cases (nextI c (T - 1)).contains (rawBlocks c)[v].From <;> rfl) (fun N => by simp [impl_BlocksOf_l4, hL.1])]
    simp only [Option.bind_some, w64_nat hk (show (rawBlocks c).length ≤ 1048576 by omega)]
    rfl) (fun out ho => by simp [impl_BlocksOf_l3])]
  rfl
theorem spec_BlocksOf_eq (c : GCode) (h : GCode.le 1048576 c) (hc : codeB c = true) : spec_BlocksOf c = some (blocksB c) := by
  obtain ⟨_, _, _, ⟨hw1, hw2⟩, _⟩ := codeB_facts hc
  have hch := rawBlocks_chain hc
  have hrl := raw_len c hc
  unfold spec_BlocksOf
  rw [spec_CodeOk_eq c h]
  simp only [Option.bind_some, hc, Bool.not_true, Bool.false_eq_true, if_false, spec_l29Heads_eq c hc]
  rw [blocks_loop c.Words.length hw2 (headsB c) (headsB_len c) (spec_BlocksOf_l1 (headsB c)) id (fun o e k hk1 hk2 => by
    have hd : decide ((k : Int) < ((headsB c).length : Int)) = true := by simp only [headsB_len, decide_eq_true_eq]; omega
    simp only [spec_BlocksOf_l1, hd, if_true]) (fun o e => by
    have hd : decide (((c.Words.length + 1 : Nat) : Int) < ((headsB c).length : Int)) = false := by simp only [headsB_len, decide_eq_false_iff_not]; omega
    simp only [spec_BlocksOf_l1, hd, Bool.false_eq_true, if_false]; rfl)]
  simp only [Option.bind_some, id]
  have hraw : ((List.range' 1 c.Words.length).foldl (bstep (headsB c)) ([], 0)).1 = rawBlocks c := rfl
  rw [hraw, link_loop (c := c) (rawBlocks c) hrl (spec_BlocksOf_l2 c) (fun out k hk hL => by
    obtain ⟨F, T, g1, g2, g3, g4, g5, g6⟩ := hch.get k hk
    have hko : k < out.length := by rw [hL.1]; exact hk
    have hcur := hL.cur hk
    rw [List.getElem?_eq_getElem hko] at hcur
    have hcur' := Option.some.inj hcur
    have hTw : IntKind.wrap .i64 ((T : Int) - 1) = ((T - 1 : Nat) : Int) := by rw [w64 (by omega) (by omega)]; omega
    have hol := hL.1
    have hd : decide ((k : Int) < (out.length : Int)) = true := by simp only [decide_eq_true_eq]; omega
    simp only [spec_BlocksOf_l2, hd, if_true, getI_at hko, Option.bind_some, hcur', g1, hTw, spec_Next_eq c (show c.Words.length ≤ 1048576 by omega) (T - 1) (by omega)]
    rw [mkI_len _ _ _ (by omega) (by omega)]
    simp only [Option.bind_some]
    -- which blocks come behind
    have hhas : ∃ has : List Bool, loopP (spec_BlocksOf_l3 out (nextS c (T - 1))) (List.replicate out.length false, 0) = some has ∧ has.length = out.length ∧ ∀ v, v < out.length → (has[v]? = some true ↔ fromAt (rawBlocks c) v ∈ nextI c (T - 1)) := by
      obtain ⟨r, r1, r2⟩ := loopP_run (f := spec_BlocksOf_l3 out (nextS c (T - 1))) (fun s : List Bool × Int => ∃ q : Nat, s.2 = q ∧ q ≤ (nextS c (T - 1)).length ∧ s.1.length = out.length ∧ ∀ v, v < out.length → (s.1[v]? = some true ↔ fromAt (rawBlocks c) v ∈ (nextS c (T - 1)).take q)) (fun s => (nextS c (T - 1)).length - s.2.toNat) (fun r => r.length = out.length ∧ ∀ v, v < out.length → (r[v]? = some true ↔ fromAt (rawBlocks c) v ∈ nextI c (T - 1))) (by
        rintro ⟨has, i⟩ ⟨q, rfl, hq, hhl, hp⟩
        simp only at hq hhl hp
        have hsl := nextS_len c (T - 1)
        by_cases hlt : q < (nextS c (T - 1)).length
        · left
          have hmem := mem_nextS.1 (List.getElem_mem hlt)
          obtain ⟨s1, s2, s3⟩ := succ_head hc (t := T) (by omega) g4 g5 hmem
          obtain ⟨b, hb, t1, t2, t3, t4⟩ := hch.at ((nextS c (T - 1))[q].toNat) (by omega) (by omega) (.inr s3)
          have ei : (((nextS c (T - 1))[q].toNat : Nat) : Int) = (nextS c (T - 1))[q] := by omega
          rw [ei] at t1 t2 t3 t4
          have hbo : b < out.length := by omega
          have hba : spec_BlockAt out (nextS c (T - 1))[q] = some (b : Int) := by
            refine blockAt_unique out (by omega) _ b hbo ?_ (fun k' hk' hp' => ?_)
            · obtain ⟨ho, e1, e2⟩ := hL.ft hb
              rw [e1, e2]
              omega
            · obtain ⟨ho, e1, e2⟩ := hL.ft (j := k') (by omega)
              rw [e1, e2] at hp'
              exact t2 k' _ hp'
          refine ⟨(has.set b true, ((q + 1 : Nat) : Int)), ?_, ⟨q + 1, rfl, by omega, by simpa using hhl, fun v hv => ?_⟩, by simp only [Int.toNat_natCast]; omega⟩
          · simp only [spec_BlocksOf_l3, ofNat_lt_true hlt, if_true, getI_at hlt, Option.bind_some, hba, getI_at (show b < has.length by omega), bindS_def, Int.toNat_natCast, w64_nat hlt (by omega)]
          · rw [List.getElem?_set, List.take_add_one, List.getElem?_eq_getElem hlt]
            simp only [Option.toList_some, List.mem_append, List.mem_singleton]
            by_cases e : b = v
            · subst e
              rw [if_pos rfl, if_pos (by omega), fromAt_get hb, t1]
              simp
            · rw [if_neg e, hp v hv]
              constructor
              · exact .inl
              · rintro (h5 | h5)
                · exact h5
                · exfalso
                  have hvb : v < (rawBlocks c).length := by omega
                  rw [fromAt_get hvb] at h5
                  exact e (t4 v hvb h5).symm
        · right
          have : q = (nextS c (T - 1)).length := by omega
          subst this
          refine ⟨has, by simp [spec_BlocksOf_l3], hhl, fun v hv => ?_⟩
          rw [hp v hv, List.take_length, mem_nextS]) (List.replicate out.length false, 0) ⟨0, rfl, by omega, by simp, fun v hv => by simp [List.getElem?_replicate, hv]⟩
      exact ⟨r, r1, r2⟩
    obtain ⟨has, q1, q2, q3⟩ := hhas
    rw [q1]
    simp only [Option.bind_some]
    rw [filt_loop out k hko F T (by rw [List.getElem?_eq_getElem hko, hcur', g1]) (rawBlocks c).length (fun j => (nextI c (T - 1)).contains (fromAt (rawBlocks c) j)) (spec_BlocksOf_l4 k has) (fun N v hv hN => by
      have hvh : v < has.length := by omega
      have hkk : getI (out.set k ⟨F, T, N⟩) (k : Int) = some ⟨F, T, N⟩ := getI_set hko
      have hhv : has[v] = (nextI c (T - 1)).contains (fromAt (rawBlocks c) v) := by
        rw [Bool.eq_iff_iff, List.contains_iff_mem, ← q3 v (by omega), List.getElem?_eq_getElem hvh]
        simp
      simp only [spec_BlocksOf_l4, ofNat_lt_true hvh, if_true, getI_at hvh, Option.bind_some, hkk, app1 (n := 8) (show N.length ≤ 1048576 by omega) (by omega), bindS_def, Int.toNat_natCast, w64_nat hvh (show has.length ≤ 1048576 by omega), List.set_set, hhv]
      cases (nextI c (T - 1)).contains (fromAt (rawBlocks c) v) <;> rfl) (fun N => by
        have : (rawBlocks c).length = has.length := by omega
        rw [this]
        simp [spec_BlocksOf_l4])]
    simp only [Option.bind_some, w64_nat hk (show (rawBlocks c).length ≤ 1048576 by omega)]
    rfl) (fun out ho => by
      rw [← ho]
      simp [spec_BlocksOf_l2])]
  rfl
theorem blocksB_ok (c : GCode) (hc : codeB c = true) : (blocksB c).length ≤ 400 ∧ ∀ x ∈ blocksB c, x.Next.length ≤ 400 := by
  have := raw_len c hc
  refine ⟨by unfold blocksB; simpa using this, fun x hx => ?_⟩
  unfold blocksB at hx
  obtain ⟨b, _, rfl⟩ := List.mem_map.1 hx
  unfold nxt
  simp only [List.length_map]
  refine Nat.le_trans (List.length_filter_le _ _) ?_
  simpa using this
end Go.OM
set_option linter.unusedVariables false
set_option linter.unusedSimpArgs false
namespace Go.OM
def nextB (B : List GBlock) (i : Nat) : List Int := match B[i]? with
  | some b => b.Next
  | none => []
theorem nextB_at {B : List GBlock} {i : Nat} (h : i < B.length) : nextB B i = B[i].Next := by unfold nextB; rw [List.getElem?_eq_getElem h]
structure BOk (B : List GBlock) : Prop where
  len : B.length ≤ 400
  nxt : ∀ i, ∀ m ∈ nextB B i, 0 ≤ m ∧ m < B.length
  nlen : ∀ i, (nextB B i).length ≤ 400
theorem blocksB_bok (c : GCode) (hc : codeB c = true) : BOk (blocksB c) := by
  obtain ⟨h1, h2⟩ := blocksB_ok c hc
  refine ⟨h1, fun i m hm => ?_, fun i => ?_⟩
  · unfold nextB at hm
    split at hm
    · rename_i b hb
      have := List.mem_of_getElem? hb
      unfold blocksB at this
      obtain ⟨x, _, rfl⟩ := List.mem_map.1 this
      unfold Go.OM.nxt at hm
      obtain ⟨j, hj, rfl⟩ := List.mem_map.1 hm
      have := List.mem_range.1 (List.mem_filter.1 hj).1
      have hl : (blocksB c).length = (rawBlocks c).length := by unfold blocksB; simp
      omega
    · cases hm
  · unfold nextB
    split
    · rename_i b hb
      exact h2 b (List.mem_of_getElem? hb)
    · simp
theorem blocksB_pos (c : GCode) (hc : codeB c = true) : 0 < (blocksB c).length := by
  obtain ⟨_, _, _, ⟨hw1, hw2⟩, _⟩ := codeB_facts hc
  have hch := rawBlocks_chain hc
  have hl : (blocksB c).length = (rawBlocks c).length := by unfold blocksB; simp
  rw [hl]
  rcases Nat.eq_zero_or_pos (rawBlocks c).length with h | h
  · have := List.length_eq_zero_iff.1 h
    rw [this] at hch
    unfold Chain at hch
    omega
  · exact h
def noW (B : List GBlock) (w : Int) (i : Nat) : List Int := (nextB B i).filter fun m => m != w
theorem noW_ok {B : List GBlock} (h : BOk B) (w : Int) : ∀ (i : Nat), i < B.length → ∀ m ∈ noW B w i, 0 ≤ m ∧ m < B.length := fun i _ m hm => h.nxt i m (List.mem_filter.1 hm).1
theorem noW_all {B : List GBlock} (h : BOk B) {w : Int} (hw : w < 0) : noW B w = nextB B := by
  funext i
  unfold noW
  rw [List.filter_eq_self]
  intro m hm
  have := h.nxt i m hm
  have : ¬ m = w := by omega
  simpa using this
theorem foldl_filter_vis (w : Int) : ∀ (l : List Int) (s : List Bool × List Int), l.foldl (fun s m => if (m != w) = true then vis s m else s) s = (l.filter fun m => m != w).foldl vis s
  | [], s => rfl
  | m :: l, s => by
    rw [List.foldl_cons, foldl_filter_vis w l, List.filter_cons]
    cases h : m != w <;> simp
theorem vis_loopW {ρ : Type} (w : Int) (r : List Int) (W : Nat) (hW : W ≤ 1000000) (hr : ∀ m ∈ r, 0 ≤ m ∧ m < W) (f : List Bool × List Int × Int → Option ((List Bool × List Int × Int) ⊕ ρ)) (fin : List Bool × List Int → ρ)
    (hf : ∀ (o : List Bool) (t : List Int) (k : Nat) (hk : k < r.length), o.length = W → t.length ≤ 1000000 → f (o, t, k) = some (.inl ((if (r[k] != w) = true then vis (o, t) r[k] else (o, t)).1, (if (r[k] != w) = true then vis (o, t) r[k] else (o, t)).2, ((k + 1 : Nat) : Int))))
    (he : ∀ o t, f (o, t, r.length) = some (.inr (fin (o, t)))) (o : List Bool) (t : List Int) (ho : o.length = W) (ht : t.length ≤ o.count true) : loopP f (o, t, 0) = some (fin ((r.filter fun m => m != w).foldl vis (o, t))) := by
  have := loopP_fold r (fun (s : List Bool × List Int) k => (s.1, s.2, (k : Int))) (fun k s => s.1.length = W ∧ s.2.length ≤ s.1.count true) (fun s e => .inl (if (e != w) = true then vis s e else s)) fin f (fun s k hk hI => by
    left
    obtain ⟨h1, h2⟩ := hI
    have hcw := List.count_le_length (a := true) (l := s.1)
    have hb := hr _ (List.getElem_mem hk)
    refine ⟨_, rfl, hf s.1 s.2 k hk h1 (by omega), ?_, ?_⟩
    · split
      · rw [vis_len]; exact h1
      · exact h1
    · split
      · have := vis_count (s := s) (m := r[k]) (by omega)
        omega
      · exact h2) (fun s _ => he s.1 s.2) (o, t) ⟨ho, ht⟩
  rw [foldE_inl, foldl_filter_vis] at this
  exact this
theorem impl_reachedBlocks_eq (B : List GBlock) (h : BOk B) (w : Int) : impl_reachedBlocks B w = some (if w = 0 ∨ B.length = 0 then List.replicate B.length false else reachL B.length 0 (noW B w)) := by
  have hl := h.len
  unfold impl_reachedBlocks
  rw [mkI_len _ _ _ (by omega) (by omega)]
  simp only [Option.bind_some]
  have hcond : (if (w == 0) = true then some true else some ((B.length : Int) == 0)) = some (decide (w = 0 ∨ B.length = 0)) := by
    by_cases h0 : w = 0
    · simp [h0]
    · rw [if_neg (by simpa using h0)]
      congr 1
      rw [Bool.eq_iff_iff]
      simp only [beq_iff_eq, decide_eq_true_eq, h0, false_or]
      omega
  rw [hcond]
  simp only [Option.bind_some, decide_eq_true_eq]
  by_cases hz : w = 0 ∨ B.length = 0
  · rw [if_pos hz, if_pos hz]
  · rw [if_neg hz, if_neg hz]
    have hpos : 0 < B.length := by omega
    have h0 : getI (List.replicate B.length false) 0 = some false := by
      rw [getI_zero, List.getElem?_replicate, if_pos hpos]
    simp only [Option.bind_some, h0, bindS_def]
    obtain ⟨t', g1, g2, g3⟩ := wl_loop (impl_reachedBlocks_l1 B w) (fun t => t) (fun _ => True) B.length 0 (noW B w) (fun t => t.1) (noW_ok h w) (fun t _ hI hne => by
      obtain ⟨o, t⟩ := t
      cases t with
      | nil => exact absurd rfl hne
      | cons e rest =>
        have heb := hI.bnd e (by simp)
        have hei : ((e.toNat : Nat) : Int) = e := by omega
        have hcnt := hI.cnt
        have hlen := hI.len
        have hcw := List.count_le_length (a := true) (l := o)
        simp only [List.length_cons] at hcnt hlen hcw
        have hsub : subI (e :: rest) 1 (((e :: rest).length : Nat) : Int) = some rest := by
          unfold subI
          rw [if_pos ⟨by omega, by simp; omega, by omega⟩]
          simp
        have hlt : e.toNat < B.length := by omega
        have hge : getI B e = some B[e.toNat] := getI_in heb.1 heb.2
        have hnb := h.nxt e.toNat
        have hnl := h.nlen e.toNat
        have hnx : noW B w e.toNat = B[e.toNat].Next.filter fun m => m != w := by unfold noW; rw [nextB_at hlt]
        rw [nextB_at hlt] at hnb hnl
        generalize B[e.toNat] = b at *
        refine ⟨(noW B w e.toNat).foldl vis (o, rest), e, rest, noW B w e.toNat, ?_, trivial, by simp, by simp, fun x hx => List.mem_cons_of_mem _ hx, by simp, fun m => Iff.rfl, rfl⟩
        simp only [impl_reachedBlocks_l1]
        have hps : decide ((((e :: rest).length : Nat) : Int) > 0) = true := by simp only [List.length_cons, decide_eq_true_eq]; omega
        simp only [hps, if_true, getI_zero, List.getElem?_cons_zero, Option.bind_some, hsub, hge]
        rw [hnx]
        exact vis_loopW w b.Next B.length (by omega) hnb (impl_reachedBlocks_l2 w b) (fun s => .inl s) (fun o t k hk ho ht => by
          have hb := hnb _ (List.getElem_mem hk)
          simp only [impl_reachedBlocks_l2, ofNat_lt_true hk, if_true, getI_at hk, Option.bind_some, vis_get hb.1 (show b.Next[k] < (o.length : Int) by rw [ho]; exact hb.2), bindS_def, w64_nat hk (show b.Next.length ≤ 1048576 by omega), app1 (n := 8) (show t.length ≤ 1048576 by omega) (by omega)]
          rw [vis_eq (show (b.Next[k]).toNat < o.length by omega)]
          cases b.Next[k] != w
          · rfl
          · cases o[(b.Next[k]).toNat] <;> rfl) (fun o t => by simp [impl_reachedBlocks_l2]) o rest hI.len (by omega)) (fun t _ he => by
      obtain ⟨o, t⟩ := t
      have he' : t = [] := he
      subst he'
      simp [impl_reachedBlocks_l1]) ((List.replicate B.length false).set 0 true, [0]) trivial (winv_start hpos)
    have e0 : (0 : Int).toNat = 0 := rfl
    first
      | rw [g1]
      | (rw [e0]; rw [g1])
    simp only [Option.bind_some]
    rw [g3]
theorem spec_l29Reached_eq (B : List GBlock) (h : BOk B) (hpos : 0 < B.length) : spec_l29Reached B = some (reachL B.length 0 (nextB B)) := by
  have hl := h.len
  unfold spec_l29Reached
  rw [mkI_len _ _ _ (by omega) (by omega)]
  have h0 : getI (List.replicate B.length false) 0 = some false := by
    rw [getI_zero, List.getElem?_replicate, if_pos hpos]
  simp only [Option.bind_some, h0, bindS_def]
  obtain ⟨t', g1, g2, g3⟩ := wl_loop (spec_l29Reached_l1 B) (fun t => (t.1, t.2.1.drop t.2.2.toNat)) (fun t => ∃ i : Nat, t.2.2 = i ∧ i ≤ t.2.1.length ∧ t.2.1.length ≤ t.1.count true) B.length 0 (nextB B) (fun t => t.1) (fun i _ => h.nxt i) (fun t hO hI hne => by
    obtain ⟨o, l, i⟩ := t
    obtain ⟨i, rfl, hi, hlc⟩ := hO
    simp only [Int.toNat_natCast] at hI hne hi hlc ⊢
    have hil : i < l.length := by
      rcases Nat.lt_or_ge i l.length with h | h
      · exact h
      · exact absurd (List.drop_eq_nil_of_le h) hne
    have hdr := List.drop_eq_getElem_cons hil
    have hmem : l[i] ∈ l.drop i := by rw [hdr]; exact List.mem_cons_self
    have hcov : ∀ x ∈ l.drop i, x = l[i] ∨ x ∈ l.drop (i + 1) := by rw [hdr]; intro x hx; exact List.mem_cons.1 hx
    have hsubs : ∀ x ∈ l.drop (i + 1), x ∈ l.drop i := by rw [hdr]; intro x hx; exact List.mem_cons_of_mem _ hx
    have hdl : (l.drop (i + 1)).length + 1 = (l.drop i).length := by rw [List.length_drop, List.length_drop]; omega
    have heb := hI.bnd l[i] hmem
    have hlen := hI.len
    have hcw := List.count_le_length (a := true) (l := o)
    simp only at hlen
    have hlt : l[i].toNat < B.length := by omega
    have hge : getI B l[i] = some B[l[i].toNat] := getI_in heb.1 heb.2
    have hsb := h.nxt l[i].toNat
    have hnl := h.nlen l[i].toNat
    have hnx := nextB_at hlt
    generalize B[l[i].toNat] = b at *
    have V := visL (nextB B l[i].toNat) (o, l) (fun m hmm => by have := hsb m hmm; simp only; omega)
    have hfa := foldl_vis_app (nextB B l[i].toNat) (l.take (i + 1)) o (l.drop (i + 1))
    rw [List.take_append_drop] at hfa
    rw [hnx] at V hfa hsb hnl
    refine ⟨((b.Next.foldl vis (o, l)).1, (b.Next.foldl vis (o, l)).2, ((i + 1 : Nat) : Int)), l[i], l.drop (i + 1), b.Next, ?_, ⟨i + 1, rfl, ?_, ?_⟩, hmem, hcov, hsubs, hdl, fun m => by rw [hnx], ?_⟩
    · simp only [spec_l29Reached_l1, ofNat_lt_true hil, if_true, getI_at hil, Option.bind_some, hge]
      rw [vis_loop b.Next B.length (by omega) hsb (spec_l29Reached_l2 b) (fun s => s) (fun o t k hk ho ht => by
        have hb := hsb _ (List.getElem_mem hk)
        simp only [spec_l29Reached_l2, ofNat_lt_true hk, if_true, getI_at hk, Option.bind_some, vis_get hb.1 (show b.Next[k] < (o.length : Int) by rw [ho]; exact hb.2), bindS_def, w64_nat hk (show b.Next.length ≤ 1048576 by omega), app1 (n := 8) (show t.length ≤ 1048576 by omega) (by omega)]
        rw [vis_eq (show (b.Next[k]).toNat < o.length by omega)]
        cases o[(b.Next[k]).toNat] <;> rfl) (fun o t => by simp [spec_l29Reached_l2]) o l hI.len hlc]
      simp only [Option.bind_some, w64_nat hil (show l.length ≤ 1048576 by omega)]
    · rw [hfa]; simp; omega
    · have q1 := V.count
      have q2 := V.cle
      simp only at q1 q2 ⊢
      omega
    · simp only [Int.toNat_natCast]
      rw [hfa]
      simp only
      congr 1
      rw [List.drop_append_of_le_length (by simp; omega), List.drop_of_length_le (by simp; omega)]; simp) (fun t hO he => by
    obtain ⟨o, l, i⟩ := t
    obtain ⟨i, rfl, hi, hlc⟩ := hO
    simp only [Int.toNat_natCast] at he hi
    have hil : i = l.length := by
      have := congrArg List.length he
      simp at this; omega
    subst hil
    simp [spec_l29Reached_l1]) ((List.replicate B.length false).set 0 true, [0], 0) ⟨0, rfl, by simp, by
      have := (winv_start (W := B.length) (next := nextB B) hpos).cnt
      exact this⟩ (winv_start hpos)
  first
    | rw [g1]
    | (rw [show (0 : Int).toNat = 0 from rfl]; rw [g1])
  simp only [Option.bind_some]
  simp only at g3
  rw [g3]
theorem reachL_get {W root : Nat} {next : Nat → List Int} {n : Nat} (h : n < W) : (reachL W root next)[n]? = some true ↔ Reach next root n := by
  unfold reachL
  rw [List.getElem?_map, List.getElem?_range h]
  simp
theorem reachL_len (W root : Nat) (next : Nat → List Int) : (reachL W root next).length = W := by unfold reachL; simp
theorem reach_bnd {B : List GBlock} (h : BOk B) (hpos : 0 < B.length) {w : Int} {n : Nat} (r : Reach (noW B w) 0 n) : n < B.length := by
  cases r with
  | base => exact hpos
  | step _ hm =>
    have := h.nxt _ _ (List.mem_filter.1 hm).1
    omega
end Go.OM
set_option linter.unusedVariables false
set_option linter.unusedSimpArgs false
namespace Go.OM
def tg (t : Tab) (a b : Nat) : Bool := (t.getD a []).getD b true
theorem tg_row {t : Tab} {a : Nat} (h : a < t.length) (b : Nat) : tg t a b = (t[a]).getD b true := by
  unfold tg; rw [List.getD_eq_getElem?_getD (l := t), List.getElem?_eq_getElem h]; rfl
theorem tg_set {t : Tab} {i : Nat} (h : i < t.length) (r : List Bool) (a b : Nat) : tg (t.set i r) a b = if a = i then r.getD b true else tg t a b := by
  unfold tg
  rw [List.getD_eq_getElem?_getD (l := t.set i r), List.getElem?_set]
  by_cases e : i = a
  · subst e; rw [if_pos rfl, if_pos h, if_pos rfl]; rfl
  · rw [if_neg e, if_neg (fun x => e x.symm), ← List.getD_eq_getElem?_getD (l := t)]
theorem TabOk.lenAt {W L : Nat} {t : Tab} (h : TabOk W L t) {a : Nat} (ha : a < t.length) : (t[a]).length = L := h.row _ (List.getElem_mem ha)
theorem tg_get {n : Nat} {t : Tab} (h : TabOk n n t) {a b : Nat} (ha : a < n) (hb : b < n) : (getI t (a : Int)).bind (fun r => getI r (b : Int)) = some (tg t a b) := by
  have h1 : a < t.length := by rw [h.len]; exact ha
  have h2 : b < (t[a]).length := by rw [h.lenAt h1]; exact hb
  rw [getI_at h1]
  simp only [Option.bind_some]
  rw [getI_at h2, tg_row h1, List.getD_eq_getElem?_getD, List.getElem?_eq_getElem h2]; rfl
theorem tab_ext {n : Nat} {t t' : Tab} (h : TabOk n n t) (h' : TabOk n n t') (e : ∀ a b, a < n → b < n → tg t a b = tg t' a b) : t = t' := by
  apply List.ext_getElem (by rw [h.len, h'.len])
  intro a ha ha'
  apply List.ext_getElem (by rw [h.lenAt ha, h'.lenAt ha'])
  intro b hb hb'
  have hbn : b < n := by rw [h.lenAt ha] at hb; exact hb
  have := e a b (by rw [h.len] at ha; exact ha) hbn
  rw [tg_row ha, tg_row ha', List.getD_eq_getElem?_getD, List.getD_eq_getElem?_getD, List.getElem?_eq_getElem hb, List.getElem?_eq_getElem hb'] at this
  exact this
noncomputable def thereL (B : List GBlock) (b : Nat) : List Bool := if b = 0 ∨ B.length = 0 then List.replicate B.length false else reachL B.length 0 (noW B b)
noncomputable def dm (B : List GBlock) (a b : Nat) : Bool := !((reachL B.length 0 (nextB B)).getD a false) || !((thereL B b).getD a false)
noncomputable def domT (B : List GBlock) : Tab := (List.range B.length).map fun a => (List.range B.length).map fun b => dm B a b
theorem domT_ok (B : List GBlock) : TabOk B.length B.length (domT B) := ⟨by simp [domT], fun r hr => by
  obtain ⟨a, _, rfl⟩ := List.mem_map.1 hr; simp⟩
theorem domT_tg (B : List GBlock) {a b : Nat} (ha : a < B.length) (hb : b < B.length) : tg (domT B) a b = dm B a b := by
  unfold tg domT
  rw [List.getD_eq_getElem?_getD (l := List.map _ _), List.getElem?_map, List.getElem?_range ha]
  simp only [Option.map_some, Option.getD_some]
  rw [List.getD_eq_getElem?_getD, List.getElem?_map, List.getElem?_range hb]; rfl
theorem thereL_len (B : List GBlock) (b : Nat) : (thereL B b).length = B.length := by unfold thereL; split <;> simp [reachL_len]
theorem reach_noW {B : List GBlock} {w : Int} {a : Nat} (r : Reach (noW B w) 0 a) : Reach (nextB B) 0 a := by
  induction r with
  | base => exact .base
  | step _ hm ih => exact .step ih (List.mem_filter.1 hm).1
theorem dm_false {B : List GBlock} {a b : Nat} (ha : a < B.length) : dm B a b = false ↔ b ≠ 0 ∧ Reach (noW B b) 0 a := by
  have hg : ∀ l : List Bool, a < l.length → (l.getD a false = true ↔ l[a]? = some true) := fun l hl => by
    rw [List.getD_eq_getElem?_getD, List.getElem?_eq_getElem hl]; simp
  unfold dm
  rw [Bool.or_eq_false_iff, Bool.not_eq_false', Bool.not_eq_false', hg _ (by rw [reachL_len]; exact ha), hg _ (by rw [thereL_len]; exact ha), reachL_get ha]
  unfold thereL
  by_cases h0 : b = 0 ∨ B.length = 0
  · rw [if_pos h0]
    constructor
    · rintro ⟨_, h⟩
      rw [List.getElem?_replicate] at h
      split at h <;> simp at h
    · rintro ⟨h, _⟩; omega
  · rw [if_neg h0, reachL_get ha]
    constructor
    · rintro ⟨_, h⟩; exact ⟨by omega, h⟩
    · rintro ⟨_, h⟩; exact ⟨reach_noW h, h⟩
theorem impl_DomsOf_eq (B : List GBlock) (hB : BOk B) : loopP (impl_DomsOf_l1 B (reachL B.length 0 (nextB B))) (List.replicate B.length (List.replicate B.length true), 0) = some (domT B) := by
  have hl := hB.len
  obtain ⟨r, h1, h2⟩ := loopP_run (f := impl_DomsOf_l1 B (reachL B.length 0 (nextB B))) (fun s : Tab × Int => ∃ j : Nat, s.2 = j ∧ j ≤ B.length ∧ TabOk B.length B.length s.1 ∧ ∀ a b, a < B.length → b < B.length → tg s.1 a b = if b < j then dm B a b else true) (fun s => B.length - s.2.toNat) (fun r => r = domT B) (by
    rintro ⟨out, j⟩ ⟨j, rfl, hj, hok, ht⟩
    simp only at hok ht hj
    by_cases hlt : j < B.length
    · left
      have hth : impl_reachedBlocks B (j : Int) = some (thereL B j) := by
        rw [impl_reachedBlocks_eq B hB]
        unfold thereL
        by_cases h0 : j = 0 ∨ B.length = 0
        · rw [if_pos h0, if_pos (by omega)]
        · rw [if_neg h0, if_neg (by omega)]
      obtain ⟨r, g1, g2⟩ := loopP_run (f := impl_DomsOf_l2 B (reachL B.length 0 (nextB B)) j (thereL B j)) (fun s : Tab × Int => ∃ i : Nat, s.2 = i ∧ i ≤ B.length ∧ TabOk B.length B.length s.1 ∧ ∀ a b, a < B.length → b < B.length → tg s.1 a b = if b < j ∨ (b = j ∧ a < i) then dm B a b else true) (fun s => B.length - s.2.toNat) (fun r => TabOk B.length B.length r ∧ ∀ a b, a < B.length → b < B.length → tg r a b = if b < j + 1 then dm B a b else true) (by
        rintro ⟨o, i⟩ ⟨i, rfl, hi, ho, hti⟩
        simp only at ho hti hi
        by_cases hil : i < B.length
        · left
          have hio : i < o.length := by rw [ho.len]; exact hil
          have hjr : j < (o[i]).length := by rw [ho.lenAt hio]; exact hlt
          have hR : i < (reachL B.length 0 (nextB B)).length := by rw [reachL_len]; exact hil
          have hT : i < (thereL B j).length := by rw [thereL_len]; exact hil
          have hdm : dm B i j = if (reachL B.length 0 (nextB B))[i] = true then !((thereL B j)[i]) else true := by
            unfold dm
            rw [List.getD_eq_getElem?_getD, List.getD_eq_getElem?_getD, List.getElem?_eq_getElem hR, List.getElem?_eq_getElem hT]
            simp only [Option.getD_some]
            cases (reachL B.length 0 (nextB B))[i] <;> rfl
          refine ⟨(o.set i ((o[i]).set j (dm B i j)), ((i + 1 : Nat) : Int)), ?_, ⟨i + 1, rfl, by omega, ho.set i (by rw [List.length_set]; exact ho.lenAt hio), fun a b ha hb => ?_⟩, by simp only [Int.toNat_natCast]; omega⟩
          · simp only [impl_DomsOf_l2, ofNat_lt_true hil, if_true, getI_at hio, getI_at hR, getI_at hjr, getI_at hT, Option.bind_some, bindS_def, Int.toNat_natCast, w64_nat hil (show B.length ≤ 1048576 by omega)]
            rw [hdm]
            cases (reachL B.length 0 (nextB B))[i] <;> rfl
          · simp only
            rw [tg_set hio]
            by_cases e : a = i
            · subst e
              rw [if_pos rfl, List.getD_eq_getElem?_getD, List.getElem?_set]
              by_cases e2 : j = b
              · subst e2
                rw [if_pos rfl, if_pos hjr, if_pos (by omega)]; rfl
              · rw [if_neg e2, ← List.getD_eq_getElem?_getD, ← tg_row hio, hti a b ha hb]
                by_cases e3 : b < j
                · rw [if_pos (by omega), if_pos (by omega)]
                · rw [if_neg (by omega), if_neg (by omega)]
            · rw [if_neg e, hti a b ha hb]
              by_cases e3 : b < j ∨ (b = j ∧ a < i)
              · rw [if_pos e3, if_pos (by omega)]
              · rw [if_neg e3, if_neg (by omega)]
        · right
          have : i = B.length := by omega
          subst this
          refine ⟨o, by simp [impl_DomsOf_l2], ho, fun a b ha hb => ?_⟩
          rw [hti a b ha hb]
          by_cases e3 : b < j + 1
          · rw [if_pos (by omega), if_pos e3]
          · rw [if_neg (by omega), if_neg e3]) (out, 0) ⟨0, rfl, by omega, hok, fun a b ha hb => by
        simp only
        rw [ht a b ha hb]
        by_cases e3 : b < j
        · rw [if_pos e3, if_pos (by omega)]
        · rw [if_neg e3, if_neg (by omega)]⟩
      refine ⟨(r, ((j + 1 : Nat) : Int)), ?_, ⟨j + 1, rfl, by omega, g2.1, g2.2⟩, by simp only [Int.toNat_natCast]; omega⟩
      simp only [impl_DomsOf_l1, ofNat_lt_true hlt, if_true, hth, Option.bind_some, g1, w64_nat hlt (show B.length ≤ 1048576 by omega)]
    · right
      have : j = B.length := by omega
      subst this
      refine ⟨out, by simp [impl_DomsOf_l1], tab_ext hok (domT_ok B) fun a b ha hb => ?_⟩
      rw [ht a b ha hb, domT_tg B ha hb, if_pos hb]) (_, 0) ⟨0, rfl, by omega, tab_rep _ _ _, fun a b ha hb => by
    simp only
    rw [if_neg (by omega), tg_row (by simpa using ha)]
    simp only [List.getElem_replicate]
    rw [List.getD_eq_getElem?_getD, List.getElem?_replicate, if_pos hb]; rfl⟩
  rw [h1, h2]
theorem fun_loop {ρ : Type} (L : Nat) (v : Nat → Bool) (f : List Bool × Int → Option ((List Bool × Int) ⊕ ρ)) (fin : List Bool → ρ)
    (hf : ∀ (r : List Bool) (k : Nat), r.length = L → k < L → f (r, k) = some (.inl (r.set k (v k), ((k + 1 : Nat) : Int)))) (he : ∀ r : List Bool, r.length = L → f (r, L) = some (.inr (fin r))) (r0 : List Bool) (h0 : r0.length = L) :
    loopP f (r0, 0) = some (fin ((List.range L).map v)) := by
  obtain ⟨r, h1, h2⟩ := loopP_run (f := f) (fun s : List Bool × Int => ∃ k : Nat, s.2 = k ∧ k ≤ L ∧ s.1.length = L ∧ ∀ j, j < k → s.1[j]? = some (v j)) (fun s => L - s.2.toNat) (fun r => r = fin ((List.range L).map v)) (by
    rintro ⟨r, i⟩ ⟨k, rfl, hk, hl, hs⟩
    simp only at hl hs hk
    by_cases hlt : k < L
    · left
      refine ⟨_, hf r k hl hlt, ⟨k + 1, rfl, by omega, by simpa using hl, fun j hj => ?_⟩, by simp only [Int.toNat_natCast]; omega⟩
      simp only [List.getElem?_set]
      by_cases e : k = j
      · subst e; simp [hl, hlt]
      · rw [if_neg e]; exact hs j (by omega)
    · right
      have hkL : k = L := by omega
      subst hkL
      refine ⟨_, he r hl, ?_⟩
      congr 1
      apply List.ext_getElem?
      intro j
      by_cases hj : j < k
      · rw [hs j hj, List.getElem?_map, List.getElem?_range hj]; rfl
      · rw [List.getElem?_eq_none (by omega), List.getElem?_eq_none (by simp; omega)]) (r0, 0) ⟨0, rfl, by omega, h0, fun j h => by omega⟩
  rw [h1, h2]
def row0 (n a : Nat) : List Bool := (List.range n).map fun k => if 0 < a then true else k == 0
def doms0 (n : Nat) : Tab := (List.range n).map (row0 n)
theorem doms0_ok (n : Nat) : TabOk n n (doms0 n) := ⟨by simp [doms0], fun r hr => by
  obtain ⟨a, _, rfl⟩ := List.mem_map.1 hr; simp [row0]⟩
theorem doms0_tg {n a b : Nat} (ha : a < n) (hb : b < n) : tg (doms0 n) a b = if 0 < a then true else b == 0 := by
  unfold tg doms0
  rw [List.getD_eq_getElem?_getD (l := List.map _ _), List.getElem?_map, List.getElem?_range ha]
  simp only [Option.map_some, Option.getD_some, row0]
  rw [List.getD_eq_getElem?_getD, List.getElem?_map, List.getElem?_range hb]; rfl
theorem spec_doms0 (B : List GBlock) (hl : B.length ≤ 400) : loopP (spec_DomsOf_l1 B) ([], 0) = some (doms0 B.length) := by
  obtain ⟨r, h1, h2⟩ := loopP_run (f := spec_DomsOf_l1 B) (fun s : Tab × Int => ∃ k : Nat, s.2 = k ∧ k ≤ B.length ∧ s.1 = (List.range k).map (row0 B.length)) (fun s => B.length - s.2.toNat) (fun r => r = doms0 B.length) (by
    rintro ⟨t, i⟩ ⟨k, rfl, hk, ht⟩
    simp only at ht hk
    subst ht
    by_cases hlt : k < B.length
    · left
      refine ⟨((List.range (k + 1)).map (row0 B.length), ((k + 1 : Nat) : Int)), ?_, ⟨k + 1, rfl, by omega, rfl⟩, by simp only [Int.toNat_natCast]; omega⟩
      simp only [spec_DomsOf_l1, ofNat_lt_true hlt, if_true]
      rw [mkI_len _ _ _ (by omega) (by omega)]
      simp only [Option.bind_some]
      rw [fun_loop B.length (fun j => if 0 < k then true else j == 0) (spec_DomsOf_l2 B k) (fun r => r) (fun r j hr hj => by
        have hjr : j < r.length := by omega
        simp only [spec_DomsOf_l2, ofNat_lt_true hj, if_true, getI_at hjr, Option.bind_some, bindS_def, Int.toNat_natCast, w64_nat hj (show B.length ≤ 1048576 by omega)]
        by_cases h0 : 0 < k
        · have : decide ((k : Int) > 0) = true := by simp only [decide_eq_true_eq]; omega
          rw [if_pos this, if_pos h0]
        · have : ¬ decide ((k : Int) > 0) = true := by simp only [decide_eq_true_eq]; omega
          rw [if_neg this, if_neg h0]
          congr 4
          rw [Bool.eq_iff_iff]
          simp only [beq_iff_eq]
          omega) (fun r hr => by simp [spec_DomsOf_l2]) _ (by simp)]
      simp only [Option.bind_some]
      rw [app1g (by simp; omega) (by omega)]
      simp only [Option.bind_some, w64_nat hlt (show B.length ≤ 1048576 by omega)]
      rw [List.range_succ, List.map_append]
      rfl
    · right
      have : k = B.length := by omega
      subst this
      exact ⟨(List.range B.length).map (row0 B.length), by simp only [spec_DomsOf_l1, len_not_lt, Bool.false_eq_true, if_false], rfl⟩) ([], 0) ⟨0, rfl, by omega, rfl⟩
  rw [h1, h2]
theorem meet_eq (n tq fr : Nat) (hn : n ≤ 400) (t : Tab) (h : TabOk n n t) (h1 : tq < n) (h2 : fr < n) : ∃ (t' : Tab) (fl : Bool), spec_l29Meet t tq fr = some (fl, t') ∧ Dn n n (t, false) (t', fl) ∧ (fl = false → t' = t) ∧ ∀ a b, a < n → b < n → tg t' a b = if a = tq ∧ b ≠ tq then (tg t tq b && tg t fr b) else tg t a b := by
  have hto : tq < t.length := by rw [h.len]; exact h1
  have hfr : fr < t.length := by rw [h.len]; exact h2
  have hrow : t[tq]? = some t[tq] := List.getElem?_eq_getElem hto
  have hrl := h.lenAt hto
  have hfl := h.lenAt hfr
  let u : Nat → Bool → Bool := fun k b => if fr = tq then b else b && (k == tq || (t[fr]).getD k false)
  have hself : t = t.set tq t[tq] := by
    apply List.ext_getElem?
    intro j
    rw [List.getElem?_set]
    by_cases e : tq = j
    · subst e; rw [if_pos rfl, if_pos hto, hrow]
    · rw [if_neg e]
  have key := rowU_loop t tq n hto t[tq] hrow hrl u (spec_l29Meet_l1 tq fr) (fun t m => (t, m)) (fun r m k hk hr => by
    have hkn : k < n := by omega
    have hlen : (t.set tq r).length = n := by rw [List.length_set]; exact h.len
    have g1 : getI (t.set tq r) (tq : Int) = some r := getI_set hto
    have g3 : getI r (k : Int) = some r[k] := getI_at hk
    simp only [spec_l29Meet_l1, hlen, ofNat_lt_true hkn, if_true, g1, g3, Option.bind_some, bindS_def, Int.toNat_natCast, w64_nat hkn (show n ≤ 1048576 by omega), List.set_set]
    by_cases hkt : k = tq
    · subst hkt
      have e1 : ((k : Int) != (k : Int)) = false := by simp
      have e2 : u k r[k] = r[k] := by simp [u]
      rw [e1, if_pos e2]
      rfl
    · have e1 : ((k : Int) != (tq : Int)) = true := by simp only [bne_iff_ne]; omega
      rw [e1]
      simp only [if_true]
      by_cases hft : fr = tq
      · subst hft
        have e2 : u k r[k] = r[k] := by simp [u]
        rw [if_pos e2]
        simp only [g1, g3, Option.bind_some]
        cases r[k] <;> rfl
      · have hkf : k < (t[fr]).length := by omega
        have g2 : getI (t.set tq r) (fr : Int) = some t[fr] := by
          rw [getI_nat, List.getElem?_set, if_neg (fun e => hft e.symm)]; exact List.getElem?_eq_getElem hfr
        have g4 : getI t[fr] (k : Int) = some (t[fr])[k] := getI_at hkf
        have e2 : u k r[k] = (r[k] && (t[fr])[k]) := by
          have : (k == tq) = false := by simpa using hkt
          simp only [u]
          rw [if_neg hft, this, Bool.false_or, List.getD_eq_getElem?_getD, List.getElem?_eq_getElem hkf]; rfl
        simp only [g2, g4, Option.bind_some]
        rw [e2]
        cases r[k] <;> cases (t[fr])[k] <;> rfl) (fun r m hr => by
    have hlen : (t.set tq r).length = n := by rw [List.length_set]; exact h.len
    simp only [spec_l29Meet_l1, hlen, len_not_lt, Bool.false_eq_true, if_false]) false
  have hcd := cntR_down t[tq] u (fun k => by simp only [u]; split <;> rfl)
  have hcs := cntT_set (r := (t[tq]).mapIdx u) hrow
  refine ⟨t.set tq ((t[tq]).mapIdx u), decide ((t[tq]).mapIdx u ≠ t[tq]), ?_, ⟨h.set tq (by simpa using hrl), by simp only; omega, fun e => ?_, fun e => by cases e⟩, fun e => ?_, fun a b ha hb => ?_⟩
  · unfold spec_l29Meet
    rw [key]
    simp only [Option.bind_some, Bool.false_or]
  · right
    have := hcd.2 (of_decide_eq_true e)
    simp only; omega
  · have : (t[tq]).mapIdx u = t[tq] := by simpa using e
    rw [this]; exact hself.symm
  · rw [tg_set hto]
    have hbt : b < (t[tq]).length := by omega
    have hbf : b < (t[fr]).length := by omega
    by_cases e : a = tq
    · subst e
      rw [if_pos rfl, List.getD_eq_getElem?_getD, List.getElem?_mapIdx, List.getElem?_eq_getElem hbt, tg_row hto, tg_row hfr]
      simp only [Option.map_some, Option.getD_some, u]
      rw [List.getD_eq_getElem?_getD, List.getD_eq_getElem?_getD, List.getElem?_eq_getElem hbt, List.getElem?_eq_getElem hbf]
      simp only [Option.getD_some]
      by_cases e2 : b = a
      · subst e2; simp
      · have e3 : (b == a) = false := by simpa using e2
        rw [if_pos (⟨trivial, e2⟩ : True ∧ b ≠ a)]
        by_cases e4 : fr = a
        · subst e4; simp [List.getElem?_eq_getElem hbt]
        · rw [if_neg e4, e3, Bool.false_or, List.getD_eq_getElem?_getD, List.getElem?_eq_getElem hbf]; rfl
    · rw [if_neg e, if_neg (fun x => e x.1)]
structure DInv (B : List GBlock) (t : Tab) : Prop where
  ok : TabOk B.length B.length t
  zero : ∀ b, b < B.length → tg t 0 b = (b == 0)
  diag : ∀ a, a < B.length → tg t a a = true
  sound : ∀ a b, a < B.length → b < B.length → tg t a b = false → b ≠ 0 ∧ Reach (noW B b) 0 a
structure PI (B : List GBlock) (D0 : Tab) (i K : Nat) (s : Tab × Bool) : Prop where
  inv : DInv B s.1
  dn : Dn B.length B.length (D0, false) s
  fx : s.2 = false → s.1 = D0 ∧ ∀ (j : Nat) (m : Int), (j < i ∨ (j = i ∧ m ∈ (nextB B i).take K)) → Reach (nextB B) 0 j → m ∈ nextB B j → 0 < m → ∀ b, b < B.length → (b : Int) ≠ m → tg D0 m.toNat b = true → tg D0 j b = true
theorem DInv.meet {B : List GBlock} (hB : BOk B) {t t' : Tab} (H : DInv B t) {i tq : Nat} (hi : i < B.length) (hto : (tq : Int) ∈ nextB B i) (hpos : 0 < tq) (hok : TabOk B.length B.length t')
    (ht : ∀ a b, a < B.length → b < B.length → tg t' a b = if a = tq ∧ b ≠ tq then (tg t tq b && tg t i b) else tg t a b) : DInv B t' := by
  have hb := hB.nxt i _ hto
  refine ⟨hok, fun b hb => ?_, fun a ha => ?_, fun a b ha hb' h => ?_⟩
  · rw [ht 0 b (by omega) hb, if_neg (by omega)]; exact H.zero b hb
  · rw [ht a a ha ha, if_neg (by omega)]; exact H.diag a ha
  · rw [ht a b ha hb'] at h
    split at h
    · rename_i e
      obtain ⟨rfl, e2⟩ := e
      rw [Bool.and_eq_false_iff] at h
      rcases h with h | h
      · exact H.sound _ _ ha hb' h
      · obtain ⟨h1, h2⟩ := H.sound _ _ hi hb' h
        refine ⟨h1, ?_⟩
        have := Reach.step (m := (a : Int)) h2 (List.mem_filter.2 ⟨hto, by simp only [bne_iff_ne]; omega⟩)
        simpa using this
    · exact H.sound _ _ ha hb' h
theorem take_mem_succ {l : List Int} {K : Nat} (h : K < l.length) {m : Int} (hm : m ∈ l.take (K + 1)) : m ∈ l.take K ∨ m = l[K] := by
  rw [List.take_add_one, List.getElem?_eq_getElem h, List.mem_append] at hm
  rcases hm with hm | hm
  · exact .inl hm
  · right; simpa using hm
theorem spec_l5_eq (B : List GBlock) (hB : BOk B) (D0 : Tab) (i : Nat) (hi : i < B.length) (s : Tab × Bool) (H : PI B D0 i 0 s) : ∃ s', loopP (spec_DomsOf_l5 B (reachL B.length 0 (nextB B)) i) (s.1, s.2, 0) = some s' ∧ PI B D0 (i + 1) 0 s' := by
  have hl := hB.len
  have hR : i < (reachL B.length 0 (nextB B)).length := by rw [reachL_len]; exact hi
  have hge : getI B (i : Int) = some B[i] := getI_at hi
  have hnx := nextB_at hi
  have hnb := hB.nxt i
  have hnl := hB.nlen i
  have hRi : (reachL B.length 0 (nextB B))[i] = true ↔ Reach (nextB B) 0 i := by
    rw [← reachL_get hi, List.getElem?_eq_getElem hR]; simp
  rw [hnx] at hnb hnl
  by_cases hr : (reachL B.length 0 (nextB B))[i] = true
  · refine loopP_run (f := spec_DomsOf_l5 B (reachL B.length 0 (nextB B)) i) (fun s : Tab × Bool × Int => ∃ k : Nat, s.2.2 = k ∧ k ≤ B[i].Next.length ∧ PI B D0 i k (s.1, s.2.1)) (fun s => B[i].Next.length - s.2.2.toNat) (fun r => PI B D0 (i + 1) 0 r) ?_ (s.1, s.2, 0) ⟨0, rfl, by omega, H⟩
    rintro ⟨t, m, k⟩ ⟨k, rfl, hk, hP⟩
    simp only at hk hP
    by_cases hlt : k < B[i].Next.length
    · left
      have hmem : B[i].Next[k] ∈ B[i].Next := List.getElem_mem hlt
      have hbb := hnb _ hmem
      have hc : (if decide ((k : Int) < (B[i].Next.length : Int)) = true then (getI (reachL B.length 0 (nextB B)) (i : Int)).bind fun e => some e else some false) = some true := by
        rw [ofNat_lt_true hlt, getI_at hR, hr]; rfl
      by_cases hz : B[i].Next[k] > 0
      · obtain ⟨t', fl, m1, m2, m3, m4⟩ := meet_eq B.length B[i].Next[k].toNat i hl t hP.inv.ok (by omega) hi
        have hcast : ((B[i].Next[k].toNat : Nat) : Int) = B[i].Next[k] := by omega
        rw [hcast] at m1
        refine ⟨(t', if fl = true then true else m, ((k + 1 : Nat) : Int)), ?_, ⟨k + 1, rfl, by omega, ?_, ?_, ?_⟩, by simp only [Int.toNat_natCast]; omega⟩
        · simp only [spec_DomsOf_l5, hge, Option.bind_some]
          rw [hc]
          have hzd : decide (B[i].Next[k] > 0) = true := by simpa using hz
          simp only [if_true, getI_at hlt, Option.bind_some, hzd, m1, w64_nat hlt (show B[i].Next.length ≤ 1048576 by omega)]
          cases fl <;> rfl
        · exact hP.inv.meet hB hi (by rw [hcast, hnx]; exact hmem) (by omega) m2.ok m4
        · refine hP.dn.trans ⟨m2.ok, m2.le, fun e => ?_, fun e => ?_⟩
          · simp only at e ⊢
            split at e
            · rename_i hf
              rcases m2.lt hf with h | h
              · cases h
              · exact .inr h
            · exact .inl e
          · simp only at e ⊢
            split
            · rfl
            · exact e
        · intro e
          simp only at e ⊢
          have hfl : fl = false := by cases fl <;> simp_all
          subst hfl
          simp only [Bool.false_eq_true, if_false] at e
          obtain ⟨f1, f2⟩ := hP.fx e
          simp only at f1
          have htt := m3 rfl
          refine ⟨htt.trans f1, fun j q hj hrj hq hq0 b hb hbq hD => ?_⟩
          rcases hj with hj | ⟨rfl, hj⟩
          · exact f2 j q (.inl hj) hrj hq hq0 b hb hbq hD
          · rw [hnx] at hj
            rcases take_mem_succ hlt hj with hj | hj
            · exact f2 j q (.inr ⟨rfl, by rw [hnx]; exact hj⟩) hrj hq hq0 b hb hbq hD
            · subst hj
              have := m4 B[j].Next[k].toNat b (by omega) hb
              rw [if_pos ⟨rfl, by omega⟩, htt, f1, hD] at this
              simpa using this.symm
      · refine ⟨(t, m, ((k + 1 : Nat) : Int)), ?_, ⟨k + 1, rfl, by omega, hP.inv, hP.dn, fun e => ?_⟩, by simp only [Int.toNat_natCast]; omega⟩
        · simp only [spec_DomsOf_l5, hge, Option.bind_some]
          rw [hc]
          have hzd : decide (B[i].Next[k] > 0) = false := by simpa using hz
          simp only [if_true, getI_at hlt, Option.bind_some, hzd, Bool.false_eq_true, if_false, w64_nat hlt (show B[i].Next.length ≤ 1048576 by omega)]
        · obtain ⟨f1, f2⟩ := hP.fx e
          refine ⟨f1, fun j q hj hrj hq hq0 b hb hbq hD => ?_⟩
          rcases hj with hj | ⟨rfl, hj⟩
          · exact f2 j q (.inl hj) hrj hq hq0 b hb hbq hD
          · rw [hnx] at hj
            rcases take_mem_succ hlt hj with hj | hj
            · exact f2 j q (.inr ⟨rfl, by rw [hnx]; exact hj⟩) hrj hq hq0 b hb hbq hD
            · subst hj; exact absurd hq0 hz
    · right
      have : k = B[i].Next.length := by omega
      subst this
      refine ⟨(t, m), ?_, hP.inv, hP.dn, fun e => ?_⟩
      · simp only [spec_DomsOf_l5, hge, Option.bind_some, len_not_lt, Bool.false_eq_true, if_false]
      · obtain ⟨f1, f2⟩ := hP.fx e
        refine ⟨f1, fun j q hj hrj hq hq0 b hb hbq hD => ?_⟩
        rcases hj with hj | ⟨_, hj⟩
        · by_cases e : j = i
          · subst e
            exact f2 j q (.inr ⟨rfl, by rw [hnx, List.take_length, ← hnx]; exact hq⟩) hrj hq hq0 b hb hbq hD
          · exact f2 j q (.inl (by omega)) hrj hq hq0 b hb hbq hD
        · simp at hj
  · refine ⟨s, ?_, H.inv, H.dn, fun e => ?_⟩
    · have hrf : (reachL B.length 0 (nextB B))[i] = false := by simpa using hr
      refine loopP_inr ?_
      have hc : (if decide ((0 : Int) < (B[i].Next.length : Int)) = true then (getI (reachL B.length 0 (nextB B)) (i : Int)).bind fun e => some e else some false) = some false := by
        split
        · rw [getI_at hR, hrf]; rfl
        · rfl
      simp only [spec_DomsOf_l5, hge, Option.bind_some]
      rw [hc]
      rfl
    · obtain ⟨f1, f2⟩ := H.fx e
      refine ⟨f1, fun j q hj hrj hq hq0 b hb hbq hD => ?_⟩
      rcases hj with hj | ⟨_, hj⟩
      · by_cases e : j = i
        · subst e; exact absurd (hRi.2 hrj) hr
        · exact f2 j q (.inl (by omega)) hrj hq hq0 b hb hbq hD
      · simp at hj
theorem spec_l4_eq (B : List GBlock) (hB : BOk B) (D0 : Tab) (H : DInv B D0) : ∃ s' : Tab × Bool, loopP (spec_DomsOf_l4 B (reachL B.length 0 (nextB B))) (D0, false, 0) = some (.inl s') ∧ PI B D0 B.length 0 s' := by
  have hl := hB.len
  obtain ⟨r, h1, s', h2, h3⟩ := loopP_run (f := spec_DomsOf_l4 B (reachL B.length 0 (nextB B))) (fun s : Tab × Bool × Int => ∃ i : Nat, s.2.2 = i ∧ i ≤ B.length ∧ PI B D0 i 0 (s.1, s.2.1)) (fun s => B.length - s.2.2.toNat) (fun r => ∃ s', r = .inl s' ∧ PI B D0 B.length 0 s') (by
    rintro ⟨t, m, i⟩ ⟨i, rfl, hi, hP⟩
    simp only at hi hP
    by_cases hlt : i < B.length
    · left
      obtain ⟨s', g1, g2⟩ := spec_l5_eq B hB D0 i hlt (t, m) hP
      refine ⟨(s'.1, s'.2, ((i + 1 : Nat) : Int)), ?_, ⟨i + 1, rfl, by omega, g2⟩, by simp only [Int.toNat_natCast]; omega⟩
      simp only [spec_DomsOf_l4, ofNat_lt_true hlt, if_true, w64_nat hlt (show B.length ≤ 1048576 by omega)]
      simp only at g1
      rw [g1]
      rfl
    · right
      have : i = B.length := by omega
      subst this
      exact ⟨.inl (t, m), by simp [spec_DomsOf_l4], (t, m), rfl, hP⟩) (D0, false, 0) ⟨0, rfl, by omega, H, .refl H.ok, fun _ => ⟨rfl, fun j q hj => by simp at hj⟩⟩
  exact ⟨s', by rw [h1, h2], h3⟩
theorem spec_DomsOf_loop (B : List GBlock) (hB : BOk B) (hpos : 0 < B.length) : loopP (spec_DomsOf_l3 B (reachL B.length 0 (nextB B))) (doms0 B.length, true) = some (domT B) := by
  have hD0 : DInv B (doms0 B.length) := ⟨doms0_ok _, fun b hb => by rw [doms0_tg hpos hb]; rfl, fun a ha => by
      rw [doms0_tg ha ha]
      split
      · rfl
      · have : a = 0 := by omega
        subst this; rfl, fun a b ha hb h => by
      rw [doms0_tg ha hb] at h
      split at h
      · cases h
      · have : a = 0 := by omega
        subst this
        exact ⟨by simpa using h, .base⟩⟩
  obtain ⟨r, h1, h2, h3⟩ := loopP_run (f := spec_DomsOf_l3 B (reachL B.length 0 (nextB B))) (fun s : Tab × Bool => DInv B s.1 ∧ (s.2 = false → PI B s.1 B.length 0 (s.1, false))) (fun s => 2 * cntT s.1 + if s.2 = true then 1 else 0) (fun r => DInv B r ∧ PI B r B.length 0 (r, false)) (by
    rintro ⟨t, m⟩ ⟨hi, hf⟩
    simp only at hi hf
    cases m with
    | false => right; exact ⟨t, by simp [spec_DomsOf_l3], hi, hf rfl⟩
    | true =>
      left
      obtain ⟨s', g1, g2⟩ := spec_l4_eq B hB t hi
      refine ⟨s', by simp only [spec_DomsOf_l3, if_true]; exact g1, ⟨g2.inv, fun e => ?_⟩, ?_⟩
      · have := g2.fx e
        have e2 : s' = (s'.1, false) := by rw [← e]
        have h := g2
        rw [e2] at h
        have h3 := this.1
        rw [← h3] at h
        exact h
      · have d1 := g2.dn.le
        have d2 := g2.dn.lt
        simp only [Bool.false_eq_true, false_or] at d1 d2
        cases hs : s'.2 with
        | true => have := d2 hs; simp only [if_true]; omega
        | false => simp only [Bool.false_eq_true, if_false, if_true]; omega) (doms0 B.length, true) ⟨hD0, fun e => by cases e⟩
  rw [h1]
  congr 1
  refine tab_ext h2.ok (domT_ok B) fun a b ha hb => ?_
  rw [domT_tg B ha hb]
  obtain ⟨_, fx⟩ := h3.fx rfl
  have comp : b ≠ 0 → ∀ a, Reach (noW B b) 0 a → tg r a b = false := by
    intro hb0 a hr
    induction hr with
    | base =>
      rw [h2.zero b hb]
      simpa using hb0
    | step hr' hm ih =>
      rename_i i m
      obtain ⟨hm1, hm2⟩ := List.mem_filter.1 hm
      have hmb := hB.nxt _ _ hm1
      have hib := reach_bnd hB hpos hr'
      have hne : ¬ m = (b : Int) := by simpa using hm2
      rcases (show 0 < m ∨ m ≤ 0 by omega) with hm0 | hm0
      · cases hx : tg r m.toNat b with
        | false => rfl
        | true =>
          have := fx i m (.inl hib) (reach_noW hr') hm1 hm0 b hb (fun e => hne e.symm) hx
          rw [ih] at this; cases this
      · have : m.toNat = 0 := by omega
        rw [this, h2.zero b hb]
        simpa using hb0
  rw [Bool.eq_iff_iff, ← Bool.not_eq_false, ← Bool.not_eq_false, dm_false ha]
  constructor
  · intro h hx; exact h (comp hx.1 a hx.2)
  · intro h hx; exact h (h2.sound a b ha hb hx)
theorem DomsOf_main (c : GCode) (h : GCode.le 1048576 c) : ∃ t : Tab, impl_DomsOf c = some t ∧ spec_DomsOf c = some t ∧ (t.length ≤ 400 ∧ ∀ r ∈ t, r.length ≤ 400) := by
  unfold impl_DomsOf spec_DomsOf
  by_cases hc : codeB c = true
  · have hB := blocksB_bok c hc
    have hpos := blocksB_pos c hc
    have hl := hB.len
    refine ⟨domT (blocksB c), ?_, ?_, ?_⟩
    · rw [impl_BlocksOf_eq c h hc]
      simp only [Option.bind_some]
      rw [impl_reachedBlocks_eq _ hB, if_neg (by omega), noW_all hB (by omega)]
      simp only [Option.bind_some]
      rw [impl_table_eq _ _ (by omega) (by omega)]
      simp only [Option.bind_some]
      rw [impl_DomsOf_eq _ hB]
      rfl
    · rw [spec_BlocksOf_eq c h hc]
      simp only [Option.bind_some]
      rw [spec_doms0 _ hl]
      simp only [Option.bind_some]
      have hz : (((blocksB c).length : Int) == 0) = false := by
        rw [beq_eq_false_iff_ne]; omega
      rw [hz, spec_l29Reached_eq _ hB hpos]
      simp only [Bool.false_eq_true, if_false, Option.bind_some]
      rw [spec_DomsOf_loop _ hB hpos]
      rfl
    · have := domT_ok (blocksB c)
      exact ⟨by rw [this.len]; exact hl, fun r hr => by rw [this.row r hr]; exact hl⟩
  · refine ⟨[], ?_, ?_, by simp⟩
    · have : impl_BlocksOf c = some [] := by
        unfold impl_BlocksOf
        rw [impl_CodeOk_eq c h]
        simp [Bool.eq_false_iff.2 hc]
      rw [this]
      have hB : BOk [] := ⟨by simp, fun i m hm => by simp [nextB] at hm, fun i => by simp [nextB]⟩
      simp only [Option.bind_some]
      rw [impl_reachedBlocks_eq [] hB, if_pos (.inr rfl)]
      simp only [Option.bind_some]
      rw [show ((([] : List GBlock).length : Nat) : Int) = ((0 : Nat) : Int) from rfl, impl_table_eq 0 0 (by omega) (by omega)]
      simp only [Option.bind_some]
      rw [loopP_inr (r := []) (by simp [impl_DomsOf_l1])]
      rfl
    · have : spec_BlocksOf c = some [] := by
        unfold spec_BlocksOf
        rw [spec_CodeOk_eq c h]
        simp [Bool.eq_false_iff.2 hc]
      rw [this]
      simp only [Option.bind_some]
      rw [spec_doms0 [] (by simp)]
      rfl
end Go.OM
set_option linter.unusedVariables false
set_option linter.unusedSimpArgs false
namespace Go.OM
noncomputable def reachR (B : List GBlock) : List Bool := reachL B.length 0 (nextB B)
noncomputable def headQ (B : List GBlock) (T : Tab) (h i : Nat) : Bool := (reachR B).getD i false && ((nextB B i).contains (h : Int) && tg T i h)
noncomputable def headP (B : List GBlock) (T : Tab) (h : Nat) : Bool := (reachR B).getD h false && (List.range B.length).any (headQ B T h)
noncomputable def headsL (B : List GBlock) (T : Tab) : List Int := ((List.range B.length).filter (headP B T)).map fun k : Nat => (k : Int)
theorem any_succ (q : Nat → Bool) (k : Nat) : (List.range (k + 1)).any q = ((List.range k).any q || q k) := by rw [List.range_succ, List.any_append]; simp
theorem filt_loop2 {ρ : Type} (n : Nat) (hn : n ≤ 400) (p : Nat → Bool) (f : List Int × Int → Option ((List Int × Int) ⊕ ρ)) (fin : List Int → ρ)
    (hf : ∀ (o : List Int) (k : Nat), o.length ≤ 400 → k < n → f (o, k) = some (.inl ((if p k = true then o ++ [(k : Int)] else o), ((k + 1 : Nat) : Int))))
    (he : ∀ o : List Int, f (o, n) = some (.inr (fin o))) : loopP f ([], 0) = some (fin (((List.range n).filter p).map fun k : Nat => (k : Int))) := by
  obtain ⟨r, h1, h2⟩ := loopP_run (f := f) (fun s : List Int × Int => ∃ k : Nat, s.2 = k ∧ k ≤ n ∧ s.1 = ((List.range k).filter p).map fun k : Nat => (k : Int)) (fun s => n - s.2.toNat) (fun r => r = fin (((List.range n).filter p).map fun k : Nat => (k : Int))) (by
    rintro ⟨o, i⟩ ⟨k, rfl, hk, ho⟩
    simp only at ho hk
    by_cases hlt : k < n
    · left
      have hol : o.length ≤ 400 := by
        rw [ho, List.length_map]
        have := List.length_filter_le p (List.range k)
        rw [List.length_range] at this
        omega
      refine ⟨_, hf o k hol hlt, ⟨k + 1, rfl, by omega, ?_⟩, by simp only [Int.toNat_natCast]; omega⟩
      simp only
      rw [List.range_succ, List.filter_append, List.map_append, ← ho]
      cases hp : p k <;> simp [hp]
    · right
      have : k = n := by omega
      subst this
      exact ⟨_, he o, by rw [ho]⟩) ([], 0) ⟨0, rfl, by omega, rfl⟩
  rw [h1, h2]
theorem LoopHeads_main (c : GCode) (h : GCode.le 1048576 c) : ∃ l : List Int, impl_LoopHeads c = some l ∧ spec_LoopHeads c = some l ∧ l.length ≤ 400 := by
  obtain ⟨T0, v1, v2, _⟩ := DomsOf_main c h
  unfold impl_LoopHeads spec_LoopHeads
  by_cases hc : codeB c = true
  · have hB := blocksB_bok c hc
    have hpos := blocksB_pos c hc
    have hl := hB.len
    have hT : TabOk (blocksB c).length (blocksB c).length T0 := by
      have : impl_DomsOf c = some (domT (blocksB c)) := by
        unfold impl_DomsOf
        rw [impl_BlocksOf_eq c h hc]
        simp only [Option.bind_some]
        rw [impl_reachedBlocks_eq _ hB, if_neg (by omega), noW_all hB (by omega)]
        simp only [Option.bind_some]
        rw [impl_table_eq _ _ (by omega) (by omega)]
        simp only [Option.bind_some]
        rw [impl_DomsOf_eq _ hB]
        rfl
      rw [this] at v1
      have e := Option.some.inj v1
      rw [← e]; exact domT_ok _
    rw [v1, v2, impl_BlocksOf_eq c h hc, spec_BlocksOf_eq c h hc]
    simp only [Option.bind_some]
    rw [impl_reachedBlocks_eq _ hB, if_neg (by omega), noW_all hB (by omega), spec_l29Reached_eq _ hB hpos]
    have hz : (((blocksB c).length : Int) == 0) = false := by
      rw [beq_eq_false_iff_ne]; omega
    simp only [hz, Bool.false_eq_true, if_false, Option.bind_some]
    show ∃ l, (Option.bind (loopP (impl_LoopHeads_l1 (blocksB c) (reachR (blocksB c)) T0) ([], 0)) fun o => some o) = some l ∧ (Option.bind (loopP (spec_LoopHeads_l1 (blocksB c) T0 (reachR (blocksB c))) ([], 0)) fun o => some o) = some l ∧ l.length ≤ 400
    generalize blocksB c = B at *
    have hRl : (reachR B).length = B.length := reachL_len _ _ _
    have hRg : ∀ i, i < B.length → getI (reachR B) (i : Int) = some ((reachR B).getD i false) := fun i hi => by
      have hi' : i < (reachR B).length := by omega
      rw [getI_at hi', List.getD_eq_getElem?_getD, List.getElem?_eq_getElem hi']; rfl
    have hTg : ∀ a b, a < B.length → b < B.length → (getI T0 (a : Int)).bind (fun r => getI r (b : Int)) = some (tg T0 a b) := fun a b ha hb => tg_get hT ha hb
    have hn : B.length ≤ 1048576 := by omega
    refine ⟨headsL B T0, ?_, ?_, ?_⟩
    · rw [filt_loop2 B.length hl (headP B T0) (impl_LoopHeads_l1 B (reachR B) T0) (fun o => o) (fun o k ho hk => by
        have inner : loopP (impl_LoopHeads_l2 B (reachR B) T0 k) (false, 0) = some ((List.range B.length).any (headQ B T0 k)) := by
          obtain ⟨r, g1, g2⟩ := loopP_run (f := impl_LoopHeads_l2 B (reachR B) T0 k) (fun s : Bool × Int => ∃ j : Nat, s.2 = j ∧ j ≤ B.length ∧ s.1 = (List.range j).any (headQ B T0 k)) (fun s => B.length - s.2.toNat) (fun r => r = (List.range B.length).any (headQ B T0 k)) (by
            rintro ⟨b, j⟩ ⟨j, rfl, hj, hb⟩
            simp only at hb hj
            by_cases hlt : j < B.length
            · left
              refine ⟨((List.range (j + 1)).any (headQ B T0 k), ((j + 1 : Nat) : Int)), ?_, ⟨j + 1, rfl, by omega, rfl⟩, by simp only [Int.toNat_natCast]; omega⟩
              rw [any_succ, ← hb]
              have hgj : getI B (j : Int) = some B[j] := getI_at hlt
              have hnl := hB.nlen j
              have hnx := nextB_at hlt
              have hTj := hTg j k hlt hk
              rw [hnx] at hnl
              simp only [impl_LoopHeads_l2, ofNat_lt_true hlt, if_true, hRg j hlt, hgj, Option.bind_some, hasInt_eq B[j].Next _ (by omega), w64_nat hlt hn]
              cases b with
              | true => rfl
              | false =>
                simp only [Bool.false_eq_true, if_false, Bool.false_or]
                unfold headQ
                rw [hnx]
                cases (reachR B).getD j false with
                | false => rfl
                | true =>
                  simp only [if_true, Bool.true_and]
                  cases B[j].Next.contains (k : Int) with
                  | false => rfl
                  | true =>
                    simp only [if_true, Bool.true_and]
                    have : ((getI T0 (j : Int)).bind fun e41 => (getI e41 (k : Int)).bind fun e42 => some (Sum.inl (e42, ((j + 1 : Nat) : Int)) : (Bool × Int) ⊕ Bool)) = ((getI T0 (j : Int)).bind (fun r => getI r (k : Int))).bind fun e => some (Sum.inl (e, ((j + 1 : Nat) : Int))) := by
                      cases getI T0 (j : Int) <;> rfl
                    rw [this, hTj]; rfl
            · right
              have : j = B.length := by omega
              subst this
              exact ⟨b, by simp [impl_LoopHeads_l2], hb⟩) (false, 0) ⟨0, rfl, by omega, rfl⟩
          rw [g1, g2]
        have happ : appI 8 o [(k : Int)] = some (o ++ [(k : Int)]) := app1 (by omega) (by omega)
        simp only [impl_LoopHeads_l1, ofNat_lt_true hk, if_true, inner, hRg k hk, Option.bind_some, w64_nat hk hn, happ]
        unfold headP
        cases (List.range B.length).any (headQ B T0 k) with
        | false => simp
        | true => cases (reachR B).getD k false <;> simp) (fun o => by simp [impl_LoopHeads_l1])]
      rfl
    · rw [filt_loop2 B.length hl (headP B T0) (spec_LoopHeads_l1 B T0 (reachR B)) (fun o => o) (fun o k ho hk => by
        have inner : ∀ (i : Nat), i < B.length → ∀ b : Bool, loopP (spec_LoopHeads_l3 B T0 (reachR B) k i) (b, 0) = some (b || headQ B T0 k i) := by
          intro i hi b0
          have hgi : getI B (i : Int) = some B[i] := getI_at hi
          have hnl := hB.nlen i
          have hnx := nextB_at hi
          have hTi := hTg i k hi hk
          rw [hnx] at hnl
          unfold headQ
          rw [hnx]
          cases hR : (reachR B).getD i false with
          | false =>
            refine (loopP_inr (r := b0) ?_).trans (by simp)
            have hcc : (if decide ((0 : Int) < (B[i].Next.length : Int)) = true then (getI (reachR B) (i : Int)).bind fun e => some e else some false) = some false := by
              rw [hRg i hi, hR]; split <;> rfl
            simp only [spec_LoopHeads_l3, hgi, Option.bind_some]
            rw [hcc]; rfl
          | true =>
            simp only [Bool.true_and]
            obtain ⟨r, g1, g2⟩ := loopP_run (f := spec_LoopHeads_l3 B T0 (reachR B) k i) (fun s : Bool × Int => ∃ j : Nat, s.2 = j ∧ j ≤ B[i].Next.length ∧ s.1 = (b0 || ((B[i].Next.take j).contains (k : Int) && tg T0 i k))) (fun s => B[i].Next.length - s.2.toNat) (fun r => r = (b0 || (B[i].Next.contains (k : Int) && tg T0 i k))) (by
              rintro ⟨b, j⟩ ⟨j, rfl, hj, hb⟩
              simp only at hb hj
              by_cases hlt : j < B[i].Next.length
              · left
                refine ⟨((b0 || ((B[i].Next.take (j + 1)).contains (k : Int) && tg T0 i k)), ((j + 1 : Nat) : Int)), ?_, ⟨j + 1, rfl, by omega, rfl⟩, by simp only [Int.toNat_natCast]; omega⟩
                have hcc : (if decide ((j : Int) < (B[i].Next.length : Int)) = true then (getI (reachR B) (i : Int)).bind fun e => some e else some false) = some true := by
                  rw [hRg i hi, hR, ofNat_lt_true hlt]; rfl
                have htk : (B[i].Next.take (j + 1)).contains (k : Int) = ((B[i].Next.take j).contains (k : Int) || B[i].Next[j] == (k : Int)) := by
                  rw [List.take_add_one, List.getElem?_eq_getElem hlt, List.contains_eq_any_beq, List.contains_eq_any_beq, List.any_append]
                  simp only [Option.toList_some, List.any_cons, List.any_nil, Bool.or_false]
                  congr 1
                  rw [Bool.eq_iff_iff]
                  simp only [beq_iff_eq]
                  exact eq_comm
                rw [htk]
                simp only [spec_LoopHeads_l3, hgi, Option.bind_some]
                rw [hcc]
                simp only [if_true, getI_at hlt, Option.bind_some, w64_nat hlt (show B[i].Next.length ≤ 1048576 by omega)]
                cases hbt : b with
                | true =>
                  rw [hbt] at hb
                  cases b0 with
                  | true => rfl
                  | false =>
                    simp only [Bool.false_or] at hb ⊢
                    have hb2 := hb.symm
                    rw [Bool.and_eq_true] at hb2
                    rw [hb2.1, hb2.2]; rfl
                | false =>
                  rw [hbt] at hb
                  have hb2 := hb.symm
                  rw [Bool.or_eq_false_iff] at hb2
                  rw [hb2.1]
                  simp only [Bool.false_eq_true, if_false, Bool.false_or]
                  cases he : B[i].Next[j] == (k : Int) with
                  | false => rw [Bool.or_false, hb2.2]; rfl
                  | true =>
                    simp only [if_true, Bool.or_true, Bool.true_and]
                    have : ((getI T0 (i : Int)).bind fun e41 => (getI e41 (k : Int)).bind fun e42 => some (Sum.inl (e42, ((j + 1 : Nat) : Int)) : (Bool × Int) ⊕ Bool)) = ((getI T0 (i : Int)).bind (fun r => getI r (k : Int))).bind fun e => some (Sum.inl (e, ((j + 1 : Nat) : Int))) := by
                      cases getI T0 (i : Int) <;> rfl
                    rw [this, hTi]; rfl
              · right
                have : j = B[i].Next.length := by omega
                subst this
                rw [List.take_length] at hb
                refine ⟨b, ?_, hb⟩
                simp only [spec_LoopHeads_l3, hgi, Option.bind_some, len_not_lt, Bool.false_eq_true, if_false]) (b0, 0) ⟨0, rfl, by omega, by simp⟩
            rw [g1, g2]
        have outer : loopP (spec_LoopHeads_l2 B T0 (reachR B) k) (false, 0) = some (headP B T0 k) := by
          unfold headP
          cases hRk : (reachR B).getD k false with
          | false =>
            refine loopP_inr ?_
            have hcc : (if decide ((0 : Int) < (B.length : Int)) = true then (getI (reachR B) (k : Int)).bind fun e => some e else some false) = some false := by
              rw [hRg k hk, hRk]; split <;> rfl
            simp only [spec_LoopHeads_l2]
            rw [hcc]; rfl
          | true =>
            simp only [Bool.true_and]
            obtain ⟨r, g1, g2⟩ := loopP_run (f := spec_LoopHeads_l2 B T0 (reachR B) k) (fun s : Bool × Int => ∃ j : Nat, s.2 = j ∧ j ≤ B.length ∧ s.1 = (List.range j).any (headQ B T0 k)) (fun s => B.length - s.2.toNat) (fun r => r = (List.range B.length).any (headQ B T0 k)) (by
              rintro ⟨b, j⟩ ⟨j, rfl, hj, hb⟩
              simp only at hb hj
              by_cases hlt : j < B.length
              · left
                refine ⟨((List.range (j + 1)).any (headQ B T0 k), ((j + 1 : Nat) : Int)), ?_, ⟨j + 1, rfl, by omega, rfl⟩, by simp only [Int.toNat_natCast]; omega⟩
                have hcc : (if decide ((j : Int) < (B.length : Int)) = true then (getI (reachR B) (k : Int)).bind fun e => some e else some false) = some true := by
                  rw [hRg k hk, hRk, ofNat_lt_true hlt]; rfl
                simp only [spec_LoopHeads_l2]
                rw [hcc]
                simp only [Option.bind_some, if_true, inner j hlt b, w64_nat hlt hn]
                rw [any_succ, hb]
              · right
                have : j = B.length := by omega
                subst this
                refine ⟨b, ?_, hb⟩
                simp only [spec_LoopHeads_l2, len_not_lt, Bool.false_eq_true, if_false, Option.bind_some]) (false, 0) ⟨0, rfl, by omega, rfl⟩
            rw [g1, g2]
        have happ : appI 8 o [(k : Int)] = some (o ++ [(k : Int)]) := app1 (by omega) (by omega)
        simp only [spec_LoopHeads_l1, ofNat_lt_true hk, if_true, outer, Option.bind_some, w64_nat hk hn, happ]
        cases headP B T0 k <;> rfl) (fun o => by simp [spec_LoopHeads_l1])]
      rfl
    · unfold headsL
      rw [List.length_map]
      have := List.length_filter_le (headP B T0) (List.range B.length)
      rw [List.length_range] at this
      omega
  · refine ⟨[], ?_, ?_, by simp⟩
    · have : impl_BlocksOf c = some [] := by
        unfold impl_BlocksOf
        rw [impl_CodeOk_eq c h]
        simp [Bool.eq_false_iff.2 hc]
      have hB : BOk [] := ⟨by simp, fun i m hm => by simp [nextB] at hm, fun i => by simp [nextB]⟩
      rw [this, v1]
      simp only [Option.bind_some]
      rw [impl_reachedBlocks_eq [] hB, if_pos (.inr rfl)]
      simp only [Option.bind_some]
      rw [loopP_inr (r := []) (by simp [impl_LoopHeads_l1])]
      rfl
    · have : spec_BlocksOf c = some [] := by
        unfold spec_BlocksOf
        rw [spec_CodeOk_eq c h]
        simp [Bool.eq_false_iff.2 hc]
      rw [this]
      rfl
theorem law_LoopHeads (c : GCode) (hw : GCode.le maxLen c) : laws_FnExactLoopHeads c = some true := by
  unfold laws_FnExactLoopHeads
  obtain ⟨r, h1, h2, h3⟩ := laws_szCode_p c hw 1048576 (by omega) (by omega)
  rw [h1]
  simp only [Option.bind_some]
  by_cases hr : r < 0
  · simp [hr]
  · have hp := h3 (by omega)
    obtain ⟨v, hv1, hv2, b1⟩ := LoopHeads_main c hp
    have hok : v.length ≤ 1048576 := by omega
    obtain ⟨k1, c1, m1, m2, m3⟩ := laws_markCode_p c hp 1 (by omega) (by omega)
    obtain ⟨k2, v2, n1, n2, n3, n4⟩ := laws_markIntS_p v hok 1 (by omega) (by omega)
    simp [hr, laws_toCode_p c hp, hv1, hv2, laws_eqIntS_p v v hok hok, laws_eqCode_p c c hp hp, m1, n1, n4, show ¬ k1 < 0 by omega, show ¬ k2 < 0 by omega]
end Go.OM
