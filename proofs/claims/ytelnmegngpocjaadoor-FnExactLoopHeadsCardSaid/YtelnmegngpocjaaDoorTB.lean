import Derived.Test.YtelnmegngpocjaaDoorTA
import Derived.Shelf.Strings.Search1
import Derived.Shelf.Strings.Search2
import Derived.Shelf.Strings.Search3
import Derived.Shelf.Strings.Count
import Derived.Shelf.LaysM
import Derived.Shelf.Strings.Shaped
import Derived.Shelf.Strings.Split
import Derived.Shelf.Unicode.DecodeSlow
import Derived.Test.YtelnmegngpocjaaDoorProg
set_option linter.unusedVariables false
set_option linter.unusedSimpArgs false
set_option maxHeartbeats 1000000
namespace Go.Proofs.T
open Go.OM
theorem res55 : Tryd.f55.results.toList = [.tmp 6] := rfl
theorem ent55 : Enters E.P 55 := enters_of Tryd.func55 (by simp [Tryd.f55]) rfl
theorem spec_l29Meet_ok (doms1 : List (List Bool)) (to2 : Int) (from3 : Int) {r0 : Bool} {q0 : List (List Bool)} (h : spec_l29Meet doms1 to2 from3 = some (r0, q0)) : OkIO E 55 [.val (.sl true 1 (List.map (eSl true 1 vb) doms1)), .val (vi to2), .val (vi from3)] [vb r0] [] [(0, .sl true 1 (List.map (eSl true 1 vb) q0))] := by
  refine okIO_of_body (fn := Tryd.f55) [(0, .sl true 1 (List.map (eSl true 1 vb) q0))] Tryd.func55 rfl (by simp [Tryd.f55]) rfl fun C hN hP => ?_
  have hPB : ∀ l, pinK [0] l = true → pinB C.pin l = true := pinB_of (by rw [hP]; rfl)
  have hN' : C.N = 44 := hN
  clear hN
  unfold spec_l29Meet at h
  refine SWp.seqR rfl (hPB _ rfl) fun K hK => ?_
  refine wps_cons rfl fun K hK => ?_; simp [hN']; refine hK _ ?_; clear hK
  refine wps_nil (hK _ ?_); clear hK
  refine SWp.seqR rfl (hPB _ rfl) fun K hK => ?_
  refine wps_cons rfl fun K hK => ?_; simp [hN']; refine hK _ ?_; clear hK
  refine wps_nil (hK _ ?_); clear hK
  obtain ⟨⟨doms33, some34⟩, hj4, h⟩ := bind_some h
  try dsimp only at h
  refine SWp.seqC [0, 7] [] (fun _ : Unit => ⟨[(0, .t (.sl true 1 (List.map (eSl true 1 vb) doms33))), (7, .t (vb some34))], []⟩) (fun _ => True) (fun _ _ => ?_) fun K5 hK5 => ?_
  rotate_left
  · refine SWp.seqR rfl (hPB _ rfl) fun K hK => ?_
    refine wps_cons rfl fun K hK => ?_; simp [hN']; refine hK _ ?_; clear hK
    refine wps_nil (hK _ ?_); clear hK
    refine SWp.block ?_
    refine SWp.loopO [] [0, 1, 2, 7, 8] [] (fun v : (List (List Bool)) × Bool × Int => ⟨[(0, .t (.sl true 1 (List.map (eSl true 1 vb) v.1))), (1, .t (vi to2)), (2, .t (vi from3)), (7, .t (vb v.2.1)), (8, .t (vi v.2.2))], []⟩) (spec_l29Meet_l1 to2 from3) _ (doms1, false, 0) hj4 (by simp [hN']) ?_
    intro g s12 h10 ho11
    obtain ⟨doms7, some8, k9⟩ := g
    simp only [spec_l29Meet_l1] at h10
    try dsimp only
    refine SWp.seq ?_
    refine SWp.seqR rfl (hPB _ rfl) fun K hK => ?_
    iterate 4 (refine wps_cons rfl fun K hK => ?_; simp [hN']; refine hK _ ?_; clear hK)
    refine wps_nil (hK _ ?_); clear hK
    rcases ite_or h10 with ⟨hb13, h10⟩ | ⟨hb14, h10⟩
    · refine SWp.condT' (b := decide (k9 < (doms7.length : Int))) (by simp) hb13 ?_
      refine SWp.skip ?_
      show SWp E C _ _ _
      refine SWp.seq ?_
      refine SWp.block ?_
      obtain ⟨v25, hj15, h10⟩ := bind_some h10
      refine SWp.seqRC rfl (hPB _ rfl) [0, 1, 2, 7, 8, 36] [] (fun _ : Unit => ⟨[(0, .t (.sl true 1 (List.map (eSl true 1 vb) doms7))), (1, .t (vi to2)), (2, .t (vi from3)), (7, .t (vb some8)), (8, .t (vi k9)), (36, .t (vb v25))], []⟩) (fun _ => True) (fun _ _ => ?_) fun K16 hK16 => ?_
      rotate_left
      · refine wps_cons rfl fun K hK => ?_; simp [hN']; refine hK _ ?_; clear hK
        iterate 3 (refine wps_cons rfl fun K hK => ?_; simp [hN']; refine hK _ ?_; clear hK)
        rcases ite_or hj15 with ⟨hb17, hj15⟩ | ⟨hb18, hj15⟩
        · have hb17s := hb17
          try simp at hb17s
          iterate 2 (refine wps_cons rfl fun K hK => ?_; simp [hN', hb17, hb17s]; refine hK _ ?_; clear hK)
          obtain ⟨e19, he19, hj15⟩ := bind_some hj15
          obtain ⟨he19a, he19b, he19c, he19d⟩ := getI_some he19
          iterate 3 (refine wps_cons rfl fun K hK => ?_; simp [hN', hb17, hb17s, he19a, he19b, he19c, he19d]; refine hK _ ?_; clear hK)
          obtain ⟨e20, he20, hj15⟩ := bind_some hj15
          obtain ⟨he20a, he20b, he20c, he20d⟩ := getI_some he20
          iterate 4 (refine wps_cons rfl fun K hK => ?_; simp [hN', hb17, hb17s, he19a, he19b, he19c, he19d, he20a, he20b, he20c, he20d]; refine hK _ ?_; clear hK)
          rcases ite_or hj15 with ⟨hb21, hj15⟩ | ⟨hb22, hj15⟩
          · have hb21s := hb21
            try simp at hb21s
            iterate 2 (refine wps_cons rfl fun K hK => ?_; simp [hN', hb17, hb17s, he19a, he19b, he19c, he19d, he20a, he20b, he20c, he20d, hb21, hb21s]; refine hK _ ?_; clear hK)
            obtain ⟨e23, he23, hj15⟩ := bind_some hj15
            obtain ⟨he23a, he23b, he23c, he23d⟩ := getI_some he23
            iterate 3 (refine wps_cons rfl fun K hK => ?_; simp [hN', hb17, hb17s, he19a, he19b, he19c, he19d, he20a, he20b, he20c, he20d, hb21, hb21s, he23a, he23b, he23c, he23d]; refine hK _ ?_; clear hK)
            obtain ⟨e24, he24, hj15⟩ := bind_some hj15
            obtain ⟨he24a, he24b, he24c, he24d⟩ := getI_some he24
            iterate 4 (refine wps_cons rfl fun K hK => ?_; simp [hN', hb17, hb17s, he19a, he19b, he19c, he19d, he20a, he20b, he20c, he20d, hb21, hb21s, he23a, he23b, he23c, he23d, he24a, he24b, he24c, he24d]; refine hK _ ?_; clear hK)
            refine wps_nil ?_
            cases hj15
            exact hK16 _ () [] trivial (by simp [hN', hb17, hb17s, he19a, he19b, he19c, he19d, he20a, he20b, he20c, he20d, hb21, hb21s, he23a, he23b, he23c, he23d, he24a, he24b, he24c, he24d])
          · have hb22s := hb22
            try simp at hb22s
            iterate 8 (refine wps_off fun K hK => ?_; simp [hN', hb17, hb17s, he19a, he19b, he19c, he19d, he20a, he20b, he20c, he20d, hb22, hb22s]; refine hK _ ?_; clear hK)
            refine wps_cons rfl fun K hK => ?_; simp [hN', hb17, hb17s, he19a, he19b, he19c, he19d, he20a, he20b, he20c, he20d, hb22, hb22s]; refine hK _ ?_; clear hK
            refine wps_nil ?_
            cases hj15
            exact hK16 _ () [] trivial (by simp [hN', hb17, hb17s, he19a, he19b, he19c, he19d, he20a, he20b, he20c, he20d, hb22, hb22s])
        · have hb18s := hb18
          try simp at hb18s
          iterate 7 (refine wps_off fun K hK => ?_; simp [hN', hb18, hb18s]; refine hK _ ?_; clear hK)
          iterate 2 (refine wps_cons rfl fun K hK => ?_; simp [hN', hb18, hb18s]; refine hK _ ?_; clear hK)
          iterate 8 (refine wps_off fun K hK => ?_; simp [hN', hb18, hb18s]; refine hK _ ?_; clear hK)
          refine wps_cons rfl fun K hK => ?_; simp [hN', hb18, hb18s]; refine hK _ ?_; clear hK
          refine wps_nil ?_
          cases hj15
          exact hK16 _ () [] trivial (by simp [hN', hb18, hb18s])
      rcases ite_or h10 with ⟨hb26, h10⟩ | ⟨hb27, h10⟩
      · refine SWp.condT' (b := v25) (by simp) hb26 ?_
        refine SWp.seqR rfl (hPB _ rfl) fun K hK => ?_
        iterate 2 (refine wps_cons rfl fun K hK => ?_; simp [hN']; refine hK _ ?_; clear hK)
        obtain ⟨e28, he28, h10⟩ := bind_some h10
        obtain ⟨he28a, he28b, he28c, he28d⟩ := getI_some he28
        iterate 3 (refine wps_cons rfl fun K hK => ?_; simp [hN', he28a, he28b, he28c, he28d]; refine hK _ ?_; clear hK)
        obtain ⟨e29, he29, h10⟩ := bind_some h10
        obtain ⟨he29a, he29b, he29c, he29d⟩ := getI_some he29
        refine wps_cons rfl fun K hK => ?_; simp [hN', he28a, he28b, he28c, he28d, he29a, he29b, he29c, he29d]; refine hK _ ?_; clear hK
        obtain ⟨l30, hl30, h10⟩ := bindS_some h10
        have hl30f : (List.map vb e28).set k9.toNat (vb false) = List.map vb l30 := set_map (f := vb) hl30
        try simp only [Int.toNat_natCast] at hl30f
        obtain ⟨l31, hl31, h10⟩ := bindS_some h10
        have hl31f : (List.map (eSl true 1 vb) doms7).set to2.toNat (.sl true 1 (List.map vb l30)) = List.map (eSl true 1 vb) l31 := set_map (f := (eSl true 1 vb)) hl31
        try simp only [Int.toNat_natCast] at hl31f
        refine wps_cons rfl fun K hK => ?_; simp [hN', he28a, he28b, he28c, he28d, he29a, he29b, he29c, he29d, hl30f, hl31f]; refine hK _ ?_; clear hK
        refine wps_nil (hK _ ?_); clear hK
        refine SWp.reg rfl (hPB _ rfl) fun K hK => ?_
        refine wps_cons rfl fun K hK => ?_; simp [hN']; refine hK _ ?_; clear hK
        refine wps_nil (hK _ ?_); clear hK
        show SWp E C _ _ _
        refine SWp.reg rfl (hPB _ rfl) fun K hK => ?_
        iterate 3 (refine wps_cons rfl fun K hK => ?_; simp [hN']; refine hK _ ?_; clear hK)
        refine wps_nil (hK _ ?_); clear hK
        cases h10
        exact ⟨_, [], rfl, by simp [hN']⟩
      · refine SWp.condF' (b := v25) (by simp) hb27 ?_
        refine SWp.skip ?_
        show SWp E C _ _ _
        refine SWp.reg rfl (hPB _ rfl) fun K hK => ?_
        iterate 3 (refine wps_cons rfl fun K hK => ?_; simp [hN']; refine hK _ ?_; clear hK)
        refine wps_nil (hK _ ?_); clear hK
        cases h10
        exact ⟨_, [], rfl, by simp [hN']⟩
    · refine SWp.condF' (b := decide (k9 < (doms7.length : Int))) (by simp) hb14 ?_
      refine SWp.exit ?_
      have h32 := congrArg some (ho11 _ (Option.some.inj h10).symm)
      cases h32
      exact hK5 _ () [] trivial (by simp [hN'])
  refine SWp.seqR rfl (hPB _ rfl) fun K hK => ?_
  iterate 2 (refine wps_cons rfl fun K hK => ?_; simp [hN']; refine hK _ ?_; clear hK)
  refine wps_nil (hK _ ?_); clear hK
  cases h
  refine SWp.ret ?_
  simp [thenS, inBlockS, res55]
end Go.Proofs.T
set_option linter.unusedVariables false
set_option linter.unusedSimpArgs false
set_option maxHeartbeats 1000000
namespace Go.Proofs.T
open Go.OM
theorem res19 : Tryd.f19.results.toList = [.tmp 2] := rfl
theorem ent19 : Enters E.P 19 := enters_of Tryd.func19 (by simp [Tryd.f19]) rfl
theorem spec_DomsOf_ok (c1 : GCode) {r0 : List (List Bool)} (h : spec_DomsOf c1 = some r0) : Ok E 19 [.val (GCode.enc false c1)] [.sl true 1 (List.map (eSl true 1 vb) r0)] [] := by
  refine ok_of_body (fn := Tryd.f19) Tryd.func19 rfl (by simp [Tryd.f19]) fun C hN hP => ?_
  have hPB : ∀ l, pinK [] l = true → pinB C.pin l = true := pinB_of (by rw [hP]; rfl)
  have hN' : C.N = 93 := hN
  clear hN
  unfold spec_DomsOf at h
  refine SWp.seqR rfl (hPB _ rfl) fun K hK => ?_
  iterate 2 (refine wps_cons rfl fun K hK => ?_; simp [hN']; refine hK _ ?_; clear hK)
  refine wps_nil (hK _ ?_); clear hK
  refine SWp.seqR rfl (hPB _ rfl) fun K hK => ?_
  refine wps_cons rfl fun K hK => ?_; simp [hN']; refine hK _ ?_; clear hK
  obtain ⟨r2, hc3, h⟩ := bind_some h
  refine wps_call [(.take, .tmp 13)] rfl rfl ent46 (spec_BlocksOf_ok _ hc3) fun K hK => ?_; simp [hN']; refine hK _ ?_; clear hK
  refine wps_cons rfl fun K hK => ?_; simp [hN']; refine hK _ ?_; clear hK
  refine wps_nil (hK _ ?_); clear hK
  refine SWp.seqR rfl (hPB _ rfl) fun K hK => ?_
  iterate 3 (refine wps_cons rfl fun K hK => ?_; simp [hN']; refine hK _ ?_; clear hK)
  refine wps_nil (hK _ ?_); clear hK
  refine SWp.seqR rfl (hPB _ rfl) fun K hK => ?_
  iterate 2 (refine wps_cons rfl fun K hK => ?_; simp [hN']; refine hK _ ?_; clear hK)
  refine wps_nil (hK _ ?_); clear hK
  obtain ⟨doms39, hj4, h⟩ := bind_some h
  refine SWp.seqC [3, 4, 5] [] (fun _ : Unit => ⟨[(3, .t (.sl true 3 (List.map (GBlock.enc true) r2))), (4, .t (vi (r2.length : Int))), (5, .t (.sl true 1 (List.map (eSl true 1 vb) doms39)))], []⟩) (fun _ => True) (fun _ _ => ?_) fun K5 hK5 => ?_
  rotate_left
  · refine SWp.seqR rfl (hPB _ rfl) fun K hK => ?_
    refine wps_cons rfl fun K hK => ?_; simp [hN']; refine hK _ ?_; clear hK
    refine wps_nil (hK _ ?_); clear hK
    refine SWp.block ?_
    refine SWp.loopO [] [3, 4, 5, 6] [] (fun v : (List (List Bool)) × Int => ⟨[(3, .t (.sl true 3 (List.map (GBlock.enc true) r2))), (4, .t (vi (r2.length : Int))), (5, .t (.sl true 1 (List.map (eSl true 1 vb) v.1))), (6, .t (vi v.2))], []⟩) (spec_DomsOf_l1 r2) _ ([], 0) hj4 (by simp [hN']) ?_
    intro g s11 h9 ho10
    obtain ⟨doms7, i8⟩ := g
    simp only [spec_DomsOf_l1] at h9
    try dsimp only
    refine SWp.seq ?_
    refine SWp.seqR rfl (hPB _ rfl) fun K hK => ?_
    iterate 3 (refine wps_cons rfl fun K hK => ?_; simp [hN']; refine hK _ ?_; clear hK)
    refine wps_nil (hK _ ?_); clear hK
    rcases ite_or h9 with ⟨hb12, h9⟩ | ⟨hb13, h9⟩
    · refine SWp.condT' (b := decide (i8 < (r2.length : Int))) (by simp) hb12 ?_
      refine SWp.skip ?_
      show SWp E C _ _ _
      obtain ⟨doms37, hj14, h9⟩ := bind_some h9
      refine SWp.seqC [3, 4, 5, 6] [] (fun _ : Unit => ⟨[(3, .t (.sl true 3 (List.map (GBlock.enc true) r2))), (4, .t (vi (r2.length : Int))), (5, .t (.sl true 1 (List.map (eSl true 1 vb) doms37))), (6, .t (vi i8))], []⟩) (fun _ => True) (fun _ _ => ?_) fun K15 hK15 => ?_
      rotate_left
      · refine SWp.block ?_
        refine SWp.seqR rfl (hPB _ rfl) fun K hK => ?_
        refine wps_cons rfl fun K hK => ?_; simp [hN']; refine hK _ ?_; clear hK
        obtain ⟨l17, hl17, hj14⟩ := bind_some hj14
        obtain ⟨hl17a, hl17b, hl17c, hl17d⟩ := mkI_some hl17
        have hl17f : List.replicate (r2.length : Int).toNat (vb false) = List.map vb l17 := rep_map (f := vb) hl17d
        try simp only [Int.toNat_natCast] at hl17f
        iterate 2 (refine wps_cons rfl fun K hK => ?_; simp [hN', hl17a, hl17b, hl17c, hl17f]; refine hK _ ?_; clear hK)
        refine wps_nil (hK _ ?_); clear hK
        obtain ⟨row35, hj18, hj14⟩ := bind_some hj14
        refine SWp.seqC [3, 4, 5, 6, 7] [] (fun _ : Unit => ⟨[(3, .t (.sl true 3 (List.map (GBlock.enc true) r2))), (4, .t (vi (r2.length : Int))), (5, .t (.sl true 1 (List.map (eSl true 1 vb) doms7))), (6, .t (vi i8)), (7, .t (.sl true 1 (List.map vb row35)))], []⟩) (fun _ => True) (fun _ _ => ?_) fun K19 hK19 => ?_
        rotate_left
        · refine SWp.seqR rfl (hPB _ rfl) fun K hK => ?_
          refine wps_cons rfl fun K hK => ?_; simp [hN']; refine hK _ ?_; clear hK
          refine wps_nil (hK _ ?_); clear hK
          refine SWp.block ?_
          refine SWp.loopO [] [3, 4, 5, 6, 7, 8] [] (fun v : (List Bool) × Int => ⟨[(3, .t (.sl true 3 (List.map (GBlock.enc true) r2))), (4, .t (vi (r2.length : Int))), (5, .t (.sl true 1 (List.map (eSl true 1 vb) doms7))), (6, .t (vi i8)), (7, .t (.sl true 1 (List.map vb v.1))), (8, .t (vi v.2))], []⟩) (spec_DomsOf_l2 r2 i8) _ (l17, 0) hj18 (by simp [hN']) ?_
          intro g s25 h23 ho24
          obtain ⟨row21, k22⟩ := g
          simp only [spec_DomsOf_l2] at h23
          try dsimp only
          refine SWp.seq ?_
          refine SWp.seqR rfl (hPB _ rfl) fun K hK => ?_
          iterate 3 (refine wps_cons rfl fun K hK => ?_; simp [hN']; refine hK _ ?_; clear hK)
          refine wps_nil (hK _ ?_); clear hK
          rcases ite_or h23 with ⟨hb26, h23⟩ | ⟨hb27, h23⟩
          · refine SWp.condT' (b := decide (k22 < (r2.length : Int))) (by simp) hb26 ?_
            refine SWp.skip ?_
            show SWp E C _ _ _
            refine SWp.seq ?_
            refine SWp.block ?_
            refine SWp.reg rfl (hPB _ rfl) fun KR hKR => ?_
            iterate 5 (refine wps_cons rfl fun K hK => ?_; simp [hN']; refine hK _ ?_; clear hK)
            rcases ite_or h23 with ⟨hb28, h23⟩ | ⟨hb29, h23⟩
            · have hb28s := hb28
              try simp at hb28s
              iterate 2 (refine wps_off fun K hK => ?_; simp [hN', hb28, hb28s]; refine hK _ ?_; clear hK)
              refine wps_cons rfl fun K hK => ?_; simp [hN', hb28, hb28s]; refine hK _ ?_; clear hK
              obtain ⟨e30, he30, h23⟩ := bind_some h23
              obtain ⟨he30a, he30b, he30c, he30d⟩ := getI_some he30
              refine wps_cons rfl fun K hK => ?_; simp [hN', hb28, hb28s, he30a, he30b, he30c, he30d]; refine hK _ ?_; clear hK
              obtain ⟨l31, hl31, h23⟩ := bindS_some h23
              have hl31f : (List.map vb row21).set k22.toNat (vb true) = List.map vb l31 := set_map (f := vb) hl31
              try simp only [Int.toNat_natCast] at hl31f
              refine wps_cons rfl fun K hK => ?_; simp [hN', hb28, hb28s, he30a, he30b, he30c, he30d, hl31f]; refine hK _ ?_; clear hK
              refine wps_nil (hKR _ ?_)
              show SWp E C _ _ _
              refine SWp.reg rfl (hPB _ rfl) fun K hK => ?_
              iterate 3 (refine wps_cons rfl fun K hK => ?_; simp [hN']; refine hK _ ?_; clear hK)
              refine wps_nil (hK _ ?_); clear hK
              cases h23
              exact ⟨_, [], rfl, by simp [hN']⟩
            · have hb29s := hb29
              try simp at hb29s
              iterate 3 (refine wps_cons rfl fun K hK => ?_; simp [hN', hb29, hb29s]; refine hK _ ?_; clear hK)
              obtain ⟨e32, he32, h23⟩ := bind_some h23
              obtain ⟨he32a, he32b, he32c, he32d⟩ := getI_some he32
              refine wps_cons rfl fun K hK => ?_; simp [hN', hb29, hb29s, he32a, he32b, he32c, he32d]; refine hK _ ?_; clear hK
              obtain ⟨l33, hl33, h23⟩ := bindS_some h23
              have hl33f : (List.map vb row21).set k22.toNat (vb (k22 == 0)) = List.map vb l33 := set_map (f := vb) hl33
              try simp only [Int.toNat_natCast] at hl33f
              refine wps_cons rfl fun K hK => ?_; simp [hN', hb29, hb29s, he32a, he32b, he32c, he32d, hl33f]; refine hK _ ?_; clear hK
              refine wps_nil (hKR _ ?_)
              show SWp E C _ _ _
              refine SWp.reg rfl (hPB _ rfl) fun K hK => ?_
              iterate 3 (refine wps_cons rfl fun K hK => ?_; simp [hN']; refine hK _ ?_; clear hK)
              refine wps_nil (hK _ ?_); clear hK
              cases h23
              exact ⟨_, [], rfl, by simp [hN']⟩
          · refine SWp.condF' (b := decide (k22 < (r2.length : Int))) (by simp) hb27 ?_
            refine SWp.exit ?_
            have h34 := congrArg some (ho24 _ (Option.some.inj h23).symm)
            cases h34
            exact hK19 _ () [] trivial (by simp [hN'])
        refine SWp.reg rfl (hPB _ rfl) fun K hK => ?_
        iterate 3 (refine wps_cons rfl fun K hK => ?_; simp [hN']; refine hK _ ?_; clear hK)
        obtain ⟨l36, hl36, hj14⟩ := bind_some hj14
        obtain ⟨hl36a, hl36b, hl36d⟩ := appI_some hl36
        have hl36f : List.map (eSl true 1 vb) doms7 ++ List.map (eSl true 1 vb) [row35] = List.map (eSl true 1 vb) l36 := app_map (f := (eSl true 1 vb)) hl36d
        simp [eSl, eSl] at hl36a hl36b hl36f
        iterate 2 (refine wps_cons rfl fun K hK => ?_; simp [hN', hl36a, hl36b, hl36f]; refine hK _ ?_; clear hK)
        refine wps_nil (hK _ ?_); clear hK
        cases hj14
        exact hK15 _ () [] trivial (by simp [hN'])
      refine SWp.reg rfl (hPB _ rfl) fun K hK => ?_
      iterate 3 (refine wps_cons rfl fun K hK => ?_; simp [hN']; refine hK _ ?_; clear hK)
      refine wps_nil (hK _ ?_); clear hK
      cases h9
      exact ⟨_, [], rfl, by simp [hN']⟩
    · refine SWp.condF' (b := decide (i8 < (r2.length : Int))) (by simp) hb13 ?_
      refine SWp.exit ?_
      have h38 := congrArg some (ho10 _ (Option.some.inj h9).symm)
      cases h38
      exact hK5 _ () [] trivial (by simp [hN'])
  refine SWp.seq ?_
  refine SWp.seqR rfl (hPB _ rfl) fun K hK => ?_
  iterate 2 (refine wps_cons rfl fun K hK => ?_; simp [hN']; refine hK _ ?_; clear hK)
  refine wps_nil (hK _ ?_); clear hK
  rcases ite_or h with ⟨hb40, h⟩ | ⟨hb41, h⟩
  · refine SWp.condT' (b := (r2.length : Int) == 0) (by simp) hb40 ?_
    refine SWp.seqR rfl (hPB _ rfl) fun K hK => ?_
    iterate 2 (refine wps_cons rfl fun K hK => ?_; simp [hN']; refine hK _ ?_; clear hK)
    refine wps_nil (hK _ ?_); clear hK
    cases h
    refine SWp.ret ?_
    simp [thenS, inBlockS, res19]
  · refine SWp.condF' (b := (r2.length : Int) == 0) (by simp) hb41 ?_
    refine SWp.skip ?_
    show SWp E C _ _ _
    refine SWp.seqR rfl (hPB _ rfl) fun K hK => ?_
    refine wps_cons rfl fun K hK => ?_; simp [hN']; refine hK _ ?_; clear hK
    obtain ⟨r42, hc43, h⟩ := bind_some h
    refine wps_call [(.bor, .tmp 46)] rfl rfl ent47 (spec_l29Reached_ok _ hc43) fun K hK => ?_; simp [hN']; refine hK _ ?_; clear hK
    refine wps_cons rfl fun K hK => ?_; simp [hN']; refine hK _ ?_; clear hK
    refine wps_nil (hK _ ?_); clear hK
    refine SWp.seqR rfl (hPB _ rfl) fun K hK => ?_
    refine wps_cons rfl fun K hK => ?_; simp [hN']; refine hK _ ?_; clear hK
    refine wps_nil (hK _ ?_); clear hK
    obtain ⟨doms98, hj44, h⟩ := bind_some h
    refine SWp.seqC [5] [] (fun _ : Unit => ⟨[(5, .t (.sl true 1 (List.map (eSl true 1 vb) doms98)))], []⟩) (fun _ => True) (fun _ _ => ?_) fun K45 hK45 => ?_
    rotate_left
    · refine SWp.block ?_
      refine SWp.loopO [] [3, 4, 5, 9, 10] [] (fun v : (List (List Bool)) × Bool => ⟨[(3, .t (.sl true 3 (List.map (GBlock.enc true) r2))), (4, .t (vi (r2.length : Int))), (5, .t (.sl true 1 (List.map (eSl true 1 vb) v.1))), (9, .t (.sl true 1 (List.map vb r42))), (10, .t (vb v.2))], []⟩) (spec_DomsOf_l3 r2 r42) _ (doms39, true) hj44 (by simp [hN']) ?_
      intro g s51 h49 ho50
      obtain ⟨doms47, some48⟩ := g
      simp only [spec_DomsOf_l3] at h49
      try dsimp only
      refine SWp.seq ?_
      refine SWp.seqR rfl (hPB _ rfl) fun K hK => ?_
      refine wps_cons rfl fun K hK => ?_; simp [hN']; refine hK _ ?_; clear hK
      refine wps_nil (hK _ ?_); clear hK
      rcases ite_or h49 with ⟨hb52, h49⟩ | ⟨hb53, h49⟩
      · refine SWp.condT' (b := some48) (by simp) hb52 ?_
        refine SWp.skip ?_
        show SWp E C _ _ _
        refine SWp.block ?_
        refine SWp.seqR rfl (hPB _ rfl) fun K hK => ?_
        refine wps_cons rfl fun K hK => ?_; simp [hN']; refine hK _ ?_; clear hK
        refine wps_nil (hK _ ?_); clear hK
        refine SWp.seqR rfl (hPB _ rfl) fun K hK => ?_
        refine wps_cons rfl fun K hK => ?_; simp [hN']; refine hK _ ?_; clear hK
        refine wps_nil (hK _ ?_); clear hK
        refine SWp.block ?_
        refine SWp.loopO [] [3, 4, 5, 9, 10, 11] [] (fun v : (List (List Bool)) × Bool × Int => ⟨[(3, .t (.sl true 3 (List.map (GBlock.enc true) r2))), (4, .t (vi (r2.length : Int))), (5, .t (.sl true 1 (List.map (eSl true 1 vb) v.1))), (9, .t (.sl true 1 (List.map vb r42))), (10, .t (vb v.2.1)), (11, .t (vi v.2.2))], []⟩) (spec_DomsOf_l4 r2 r42) _ (doms47, false, 0) h49 (by simp [hN']) ?_
        intro g s59 h57 ho58
        obtain ⟨doms54, some55, i56⟩ := g
        simp only [spec_DomsOf_l4] at h57
        try dsimp only
        refine SWp.seq ?_
        refine SWp.seqR rfl (hPB _ rfl) fun K hK => ?_
        iterate 3 (refine wps_cons rfl fun K hK => ?_; simp [hN']; refine hK _ ?_; clear hK)
        refine wps_nil (hK _ ?_); clear hK
        rcases ite_or h57 with ⟨hb60, h57⟩ | ⟨hb61, h57⟩
        · refine SWp.condT' (b := decide (i56 < (r2.length : Int))) (by simp) hb60 ?_
          refine SWp.skip ?_
          show SWp E C _ _ _
          obtain ⟨⟨doms94, some95⟩, hj62, h57⟩ := bind_some h57
          try dsimp only at h57
          refine SWp.seqC [3, 4, 5, 9, 10, 11] [] (fun _ : Unit => ⟨[(3, .t (.sl true 3 (List.map (GBlock.enc true) r2))), (4, .t (vi (r2.length : Int))), (5, .t (.sl true 1 (List.map (eSl true 1 vb) doms94))), (9, .t (.sl true 1 (List.map vb r42))), (10, .t (vb some95)), (11, .t (vi i56))], []⟩) (fun _ => True) (fun _ _ => ?_) fun K63 hK63 => ?_
          rotate_left
          · refine SWp.block ?_
            refine SWp.seqR rfl (hPB _ rfl) fun K hK => ?_
            refine wps_cons rfl fun K hK => ?_; simp [hN']; refine hK _ ?_; clear hK
            refine wps_nil (hK _ ?_); clear hK
            refine SWp.block ?_
            refine SWp.loopO [] [3, 4, 5, 9, 10, 11, 12] [] (fun v : (List (List Bool)) × Bool × Int => ⟨[(3, .t (.sl true 3 (List.map (GBlock.enc true) r2))), (4, .t (vi (r2.length : Int))), (5, .t (.sl true 1 (List.map (eSl true 1 vb) v.1))), (9, .t (.sl true 1 (List.map vb r42))), (10, .t (vb v.2.1)), (11, .t (vi i56)), (12, .t (vi v.2.2))], []⟩) (spec_DomsOf_l5 r2 r42 i56) _ (doms54, some55, 0) hj62 (by simp [hN']) ?_
            intro g s70 h68 ho69
            obtain ⟨doms65, some66, k67⟩ := g
            simp only [spec_DomsOf_l5] at h68
            try dsimp only
            refine SWp.seq ?_
            obtain ⟨v77, hj71, h68⟩ := bind_some h68
            refine SWp.seqRC rfl (hPB _ rfl) [3, 4, 5, 9, 10, 11, 12, 67] [] (fun _ : Unit => ⟨[(3, .t (.sl true 3 (List.map (GBlock.enc true) r2))), (4, .t (vi (r2.length : Int))), (5, .t (.sl true 1 (List.map (eSl true 1 vb) doms65))), (9, .t (.sl true 1 (List.map vb r42))), (10, .t (vb some66)), (11, .t (vi i56)), (12, .t (vi k67)), (67, .t (vb v77))], []⟩) (fun _ => True) (fun _ _ => ?_) fun K72 hK72 => ?_
            rotate_left
            · refine wps_cons rfl fun K hK => ?_; simp [hN']; refine hK _ ?_; clear hK
              iterate 2 (refine wps_cons rfl fun K hK => ?_; simp [hN']; refine hK _ ?_; clear hK)
              obtain ⟨e73, he73, hj71⟩ := bind_some hj71
              obtain ⟨he73a, he73b, he73c, he73d⟩ := getI_some he73
              iterate 6 (refine wps_cons rfl fun K hK => ?_; simp [hN', he73a, he73b, he73c, he73d]; refine hK _ ?_; clear hK)
              rcases ite_or hj71 with ⟨hb74, hj71⟩ | ⟨hb75, hj71⟩
              · have hb74s := hb74
                try simp at hb74s
                iterate 2 (refine wps_cons rfl fun K hK => ?_; simp [hN', he73a, he73b, he73c, he73d, hb74, hb74s]; refine hK _ ?_; clear hK)
                obtain ⟨e76, he76, hj71⟩ := bind_some hj71
                obtain ⟨he76a, he76b, he76c, he76d⟩ := getI_some he76
                iterate 3 (refine wps_cons rfl fun K hK => ?_; simp [hN', he73a, he73b, he73c, he73d, hb74, hb74s, he76a, he76b, he76c, he76d]; refine hK _ ?_; clear hK)
                refine wps_nil ?_
                cases hj71
                exact hK72 _ () [] trivial (by simp [hN', he73a, he73b, he73c, he73d, hb74, hb74s, he76a, he76b, he76c, he76d])
              · have hb75s := hb75
                try simp at hb75s
                iterate 4 (refine wps_off fun K hK => ?_; simp [hN', he73a, he73b, he73c, he73d, hb75, hb75s]; refine hK _ ?_; clear hK)
                refine wps_cons rfl fun K hK => ?_; simp [hN', he73a, he73b, he73c, he73d, hb75, hb75s]; refine hK _ ?_; clear hK
                refine wps_nil ?_
                cases hj71
                exact hK72 _ () [] trivial (by simp [hN', he73a, he73b, he73c, he73d, hb75, hb75s])
            rcases ite_or h68 with ⟨hb78, h68⟩ | ⟨hb79, h68⟩
            · refine SWp.condT' (b := v77) (by simp) hb78 ?_
              refine SWp.skip ?_
              show SWp E C _ _ _
              refine SWp.seq ?_
              refine SWp.block ?_
              obtain ⟨⟨doms89, v90⟩, hj80, h68⟩ := bind_some h68
              try dsimp only at h68
              refine SWp.seqRC rfl (hPB _ rfl) [3, 4, 5, 9, 10, 11, 12, 91] [] (fun _ : Unit => ⟨[(3, .t (.sl true 3 (List.map (GBlock.enc true) r2))), (4, .t (vi (r2.length : Int))), (5, .t (.sl true 1 (List.map (eSl true 1 vb) doms89))), (9, .t (.sl true 1 (List.map vb r42))), (10, .t (vb some66)), (11, .t (vi i56)), (12, .t (vi k67)), (91, .t (vb v90))], []⟩) (fun _ => True) (fun _ _ => ?_) fun K81 hK81 => ?_
              rotate_left
              · refine wps_cons rfl fun K hK => ?_; simp [hN']; refine hK _ ?_; clear hK
                refine wps_cons rfl fun K hK => ?_; simp [hN']; refine hK _ ?_; clear hK
                obtain ⟨e82, he82, hj80⟩ := bind_some hj80
                obtain ⟨he82a, he82b, he82c, he82d⟩ := getI_some he82
                iterate 4 (refine wps_cons rfl fun K hK => ?_; simp [hN', he82a, he82b, he82c, he82d]; refine hK _ ?_; clear hK)
                obtain ⟨e83, he83, hj80⟩ := bind_some hj80
                obtain ⟨he83a, he83b, he83c, he83d⟩ := getI_some he83
                iterate 4 (refine wps_cons rfl fun K hK => ?_; simp [hN', he82a, he82b, he82c, he82d, he83a, he83b, he83c, he83d]; refine hK _ ?_; clear hK)
                rcases ite_or hj80 with ⟨hb84, hj80⟩ | ⟨hb85, hj80⟩
                · have hb84s := hb84
                  try simp at hb84s
                  iterate 10 (refine wps_cons rfl fun K hK => ?_; simp [hN', he82a, he82b, he82c, he82d, he83a, he83b, he83c, he83d, hb84, hb84s]; refine hK _ ?_; clear hK)
                  obtain ⟨⟨r86, q87⟩, hc88, hj80⟩ := bind_some hj80
                  try dsimp only at hj80
                  refine wps_callIO rfl ent55 (spec_l29Meet_ok _ _ _ hc88) fun K hK => ?_; simp [hN', he82a, he82b, he82c, he82d, he83a, he83b, he83c, he83d, hb84, hb84s]; refine hK _ ?_; clear hK
                  refine wps_cons rfl fun K hK => ?_; simp [hN', he82a, he82b, he82c, he82d, he83a, he83b, he83c, he83d, hb84, hb84s]; refine hK _ ?_; clear hK
                  refine wps_nil ?_
                  cases hj80
                  exact hK81 _ () [] trivial (by simp [hN', he82a, he82b, he82c, he82d, he83a, he83b, he83c, he83d, hb84, hb84s])
                · have hb85s := hb85
                  try simp at hb85s
                  iterate 11 (refine wps_off fun K hK => ?_; simp [hN', he82a, he82b, he82c, he82d, he83a, he83b, he83c, he83d, hb85, hb85s]; refine hK _ ?_; clear hK)
                  refine wps_cons rfl fun K hK => ?_; simp [hN', he82a, he82b, he82c, he82d, he83a, he83b, he83c, he83d, hb85, hb85s]; refine hK _ ?_; clear hK
                  refine wps_nil ?_
                  cases hj80
                  exact hK81 _ () [] trivial (by simp [hN', he82a, he82b, he82c, he82d, he83a, he83b, he83c, he83d, hb85, hb85s])
              rcases ite_or h68 with ⟨hb91, h68⟩ | ⟨hb92, h68⟩
              · refine SWp.condT' (b := v90) (by simp) hb91 ?_
                refine SWp.reg rfl (hPB _ rfl) fun K hK => ?_
                refine wps_cons rfl fun K hK => ?_; simp [hN']; refine hK _ ?_; clear hK
                refine wps_nil (hK _ ?_); clear hK
                show SWp E C _ _ _
                refine SWp.reg rfl (hPB _ rfl) fun K hK => ?_
                iterate 3 (refine wps_cons rfl fun K hK => ?_; simp [hN']; refine hK _ ?_; clear hK)
                refine wps_nil (hK _ ?_); clear hK
                cases h68
                exact ⟨_, [], rfl, by simp [hN']⟩
              · refine SWp.condF' (b := v90) (by simp) hb92 ?_
                refine SWp.skip ?_
                show SWp E C _ _ _
                refine SWp.reg rfl (hPB _ rfl) fun K hK => ?_
                iterate 3 (refine wps_cons rfl fun K hK => ?_; simp [hN']; refine hK _ ?_; clear hK)
                refine wps_nil (hK _ ?_); clear hK
                cases h68
                exact ⟨_, [], rfl, by simp [hN']⟩
            · refine SWp.condF' (b := v77) (by simp) hb79 ?_
              refine SWp.exit ?_
              have h93 := congrArg some (ho69 _ (Option.some.inj h68).symm)
              cases h93
              exact hK63 _ () [] trivial (by simp [hN'])
          refine SWp.reg rfl (hPB _ rfl) fun K hK => ?_
          iterate 3 (refine wps_cons rfl fun K hK => ?_; simp [hN']; refine hK _ ?_; clear hK)
          refine wps_nil (hK _ ?_); clear hK
          cases h57
          exact ⟨_, [], rfl, by simp [hN']⟩
        · refine SWp.condF' (b := decide (i56 < (r2.length : Int))) (by simp) hb61 ?_
          refine SWp.exit ?_
          have h96 := congrArg some (ho58 _ (Option.some.inj h57).symm)
          cases h96
          exact ⟨_, [], rfl, by simp [hN']⟩
      · refine SWp.condF' (b := some48) (by simp) hb53 ?_
        refine SWp.exit ?_
        have h97 := congrArg some (ho50 _ (Option.some.inj h49).symm)
        cases h97
        exact hK45 _ () [] trivial (by simp [hN'])
    refine SWp.seqR rfl (hPB _ rfl) fun K hK => ?_
    iterate 2 (refine wps_cons rfl fun K hK => ?_; simp [hN']; refine hK _ ?_; clear hK)
    refine wps_nil (hK _ ?_); clear hK
    cases h
    refine SWp.ret ?_
    simp [thenS, inBlockS, res19]
end Go.Proofs.T
set_option linter.unusedVariables false
set_option linter.unusedSimpArgs false
set_option maxHeartbeats 1000000
namespace Go.Proofs.T
open Go.OM
theorem res11 : Tryd.f11.results.toList = [.tmp 2] := rfl
theorem ent11 : Enters E.P 11 := enters_of Tryd.func11 (by simp [Tryd.f11]) rfl
theorem spec_LoopHeads_ok (c1 : GCode) {r0 : List Int} (h : spec_LoopHeads c1 = some r0) : Ok E 11 [.val (GCode.enc false c1)] [.sl true 1 (List.map vi r0)] [] := by
  refine ok_of_body (fn := Tryd.f11) Tryd.func11 rfl (by simp [Tryd.f11]) fun C hN hP => ?_
  have hPB : ∀ l, pinK [] l = true → pinB C.pin l = true := pinB_of (by rw [hP]; rfl)
  have hN' : C.N = 84 := hN
  clear hN
  unfold spec_LoopHeads at h
  refine SWp.seqR rfl (hPB _ rfl) fun K hK => ?_
  iterate 2 (refine wps_cons rfl fun K hK => ?_; simp [hN']; refine hK _ ?_; clear hK)
  refine wps_nil (hK _ ?_); clear hK
  refine SWp.seqR rfl (hPB _ rfl) fun K hK => ?_
  refine wps_cons rfl fun K hK => ?_; simp [hN']; refine hK _ ?_; clear hK
  obtain ⟨r2, hc3, h⟩ := bind_some h
  refine wps_call [(.take, .tmp 11)] rfl rfl ent46 (spec_BlocksOf_ok _ hc3) fun K hK => ?_; simp [hN']; refine hK _ ?_; clear hK
  refine wps_cons rfl fun K hK => ?_; simp [hN']; refine hK _ ?_; clear hK
  refine wps_nil (hK _ ?_); clear hK
  refine SWp.seqR rfl (hPB _ rfl) fun K hK => ?_
  iterate 2 (refine wps_cons rfl fun K hK => ?_; simp [hN']; refine hK _ ?_; clear hK)
  refine wps_nil (hK _ ?_); clear hK
  refine SWp.seq ?_
  refine SWp.seqR rfl (hPB _ rfl) fun K hK => ?_
  iterate 3 (refine wps_cons rfl fun K hK => ?_; simp [hN']; refine hK _ ?_; clear hK)
  refine wps_nil (hK _ ?_); clear hK
  rcases ite_or h with ⟨hb4, h⟩ | ⟨hb5, h⟩
  · refine SWp.condT' (b := (r2.length : Int) == 0) (by simp) hb4 ?_
    refine SWp.seqR rfl (hPB _ rfl) fun K hK => ?_
    iterate 2 (refine wps_cons rfl fun K hK => ?_; simp [hN']; refine hK _ ?_; clear hK)
    refine wps_nil (hK _ ?_); clear hK
    cases h
    refine SWp.ret ?_
    simp [thenS, inBlockS, res11]
  · refine SWp.condF' (b := (r2.length : Int) == 0) (by simp) hb5 ?_
    refine SWp.skip ?_
    show SWp E C _ _ _
    refine SWp.seqR rfl (hPB _ rfl) fun K hK => ?_
    refine wps_cons rfl fun K hK => ?_; simp [hN']; refine hK _ ?_; clear hK
    obtain ⟨r6, hc7, h⟩ := bind_some h
    refine wps_call [(.take, .tmp 18)] rfl rfl ent19 (spec_DomsOf_ok _ hc7) fun K hK => ?_; simp [hN']; refine hK _ ?_; clear hK
    refine wps_cons rfl fun K hK => ?_; simp [hN']; refine hK _ ?_; clear hK
    refine wps_nil (hK _ ?_); clear hK
    refine SWp.seqR rfl (hPB _ rfl) fun K hK => ?_
    refine wps_cons rfl fun K hK => ?_; simp [hN']; refine hK _ ?_; clear hK
    obtain ⟨r8, hc9, h⟩ := bind_some h
    refine wps_call [(.bor, .tmp 20)] rfl rfl ent47 (spec_l29Reached_ok _ hc9) fun K hK => ?_; simp [hN']; refine hK _ ?_; clear hK
    refine wps_cons rfl fun K hK => ?_; simp [hN']; refine hK _ ?_; clear hK
    refine wps_nil (hK _ ?_); clear hK
    obtain ⟨out73, hj10, h⟩ := bind_some h
    refine SWp.seqC [4] [] (fun _ : Unit => ⟨[(4, .t (.sl true 1 (List.map vi out73)))], []⟩) (fun _ => True) (fun _ _ => ?_) fun K11 hK11 => ?_
    rotate_left
    · refine SWp.seqR rfl (hPB _ rfl) fun K hK => ?_
      refine wps_cons rfl fun K hK => ?_; simp [hN']; refine hK _ ?_; clear hK
      refine wps_nil (hK _ ?_); clear hK
      refine SWp.block ?_
      refine SWp.loopO [] [3, 4, 5, 6, 7] [] (fun v : (List Int) × Int => ⟨[(3, .t (.sl true 3 (List.map (GBlock.enc true) r2))), (4, .t (.sl true 1 (List.map vi v.1))), (5, .t (.sl true 1 (List.map (eSl true 1 vb) r6))), (6, .t (.sl true 1 (List.map vb r8))), (7, .t (vi v.2))], []⟩) (spec_LoopHeads_l1 r2 r6 r8) _ ([], 0) hj10 (by simp [hN']) ?_
      intro g s17 h15 ho16
      obtain ⟨out13, h14⟩ := g
      simp only [spec_LoopHeads_l1] at h15
      try dsimp only
      refine SWp.seq ?_
      refine SWp.seqR rfl (hPB _ rfl) fun K hK => ?_
      iterate 4 (refine wps_cons rfl fun K hK => ?_; simp [hN']; refine hK _ ?_; clear hK)
      refine wps_nil (hK _ ?_); clear hK
      rcases ite_or h15 with ⟨hb18, h15⟩ | ⟨hb19, h15⟩
      · refine SWp.condT' (b := decide (h14 < (r2.length : Int))) (by simp) hb18 ?_
        refine SWp.skip ?_
        show SWp E C _ _ _
        obtain ⟨out71, hj20, h15⟩ := bind_some h15
        refine SWp.seqC [3, 4, 5, 6, 7] [] (fun _ : Unit => ⟨[(3, .t (.sl true 3 (List.map (GBlock.enc true) r2))), (4, .t (.sl true 1 (List.map vi out71))), (5, .t (.sl true 1 (List.map (eSl true 1 vb) r6))), (6, .t (.sl true 1 (List.map vb r8))), (7, .t (vi h14))], []⟩) (fun _ => True) (fun _ _ => ?_) fun K21 hK21 => ?_
        rotate_left
        · refine SWp.block ?_
          refine SWp.seqR rfl (hPB _ rfl) fun K hK => ?_
          refine wps_cons rfl fun K hK => ?_; simp [hN']; refine hK _ ?_; clear hK
          refine wps_nil (hK _ ?_); clear hK
          obtain ⟨has67, hj23, hj20⟩ := bind_some hj20
          refine SWp.seqC [3, 4, 5, 6, 7, 8] [] (fun _ : Unit => ⟨[(3, .t (.sl true 3 (List.map (GBlock.enc true) r2))), (4, .t (.sl true 1 (List.map vi out13))), (5, .t (.sl true 1 (List.map (eSl true 1 vb) r6))), (6, .t (.sl true 1 (List.map vb r8))), (7, .t (vi h14)), (8, .t (vb has67))], []⟩) (fun _ => True) (fun _ _ => ?_) fun K24 hK24 => ?_
          rotate_left
          · refine SWp.seqR rfl (hPB _ rfl) fun K hK => ?_
            refine wps_cons rfl fun K hK => ?_; simp [hN']; refine hK _ ?_; clear hK
            refine wps_nil (hK _ ?_); clear hK
            refine SWp.block ?_
            refine SWp.loopO [] [3, 4, 5, 6, 7, 8, 9] [] (fun v : Bool × Int => ⟨[(3, .t (.sl true 3 (List.map (GBlock.enc true) r2))), (4, .t (.sl true 1 (List.map vi out13))), (5, .t (.sl true 1 (List.map (eSl true 1 vb) r6))), (6, .t (.sl true 1 (List.map vb r8))), (7, .t (vi h14)), (8, .t (vb v.1)), (9, .t (vi v.2))], []⟩) (spec_LoopHeads_l2 r2 r6 r8 h14) _ (false, 0) hj23 (by simp [hN']) ?_
            intro g s30 h28 ho29
            obtain ⟨has26, i27⟩ := g
            simp only [spec_LoopHeads_l2] at h28
            try dsimp only
            refine SWp.seq ?_
            obtain ⟨v36, hj31, h28⟩ := bind_some h28
            refine SWp.seqRC rfl (hPB _ rfl) [3, 4, 5, 6, 7, 8, 9, 37] [] (fun _ : Unit => ⟨[(3, .t (.sl true 3 (List.map (GBlock.enc true) r2))), (4, .t (.sl true 1 (List.map vi out13))), (5, .t (.sl true 1 (List.map (eSl true 1 vb) r6))), (6, .t (.sl true 1 (List.map vb r8))), (7, .t (vi h14)), (8, .t (vb has26)), (9, .t (vi i27)), (37, .t (vb v36))], []⟩) (fun _ => True) (fun _ _ => ?_) fun K32 hK32 => ?_
            rotate_left
            · refine wps_cons rfl fun K hK => ?_; simp [hN']; refine hK _ ?_; clear hK
              iterate 4 (refine wps_cons rfl fun K hK => ?_; simp [hN']; refine hK _ ?_; clear hK)
              rcases ite_or hj31 with ⟨hb33, hj31⟩ | ⟨hb34, hj31⟩
              · have hb33s := hb33
                try simp at hb33s
                iterate 2 (refine wps_cons rfl fun K hK => ?_; simp [hN', hb33, hb33s]; refine hK _ ?_; clear hK)
                obtain ⟨e35, he35, hj31⟩ := bind_some hj31
                obtain ⟨he35a, he35b, he35c, he35d⟩ := getI_some he35
                iterate 3 (refine wps_cons rfl fun K hK => ?_; simp [hN', hb33, hb33s, he35a, he35b, he35c, he35d]; refine hK _ ?_; clear hK)
                refine wps_nil ?_
                cases hj31
                exact hK32 _ () [] trivial (by simp [hN', hb33, hb33s, he35a, he35b, he35c, he35d])
              · have hb34s := hb34
                try simp at hb34s
                iterate 4 (refine wps_off fun K hK => ?_; simp [hN', hb34, hb34s]; refine hK _ ?_; clear hK)
                refine wps_cons rfl fun K hK => ?_; simp [hN', hb34, hb34s]; refine hK _ ?_; clear hK
                refine wps_nil ?_
                cases hj31
                exact hK32 _ () [] trivial (by simp [hN', hb34, hb34s])
            rcases ite_or h28 with ⟨hb37, h28⟩ | ⟨hb38, h28⟩
            · refine SWp.condT' (b := v36) (by simp) hb37 ?_
              refine SWp.skip ?_
              show SWp E C _ _ _
              obtain ⟨has65, hj39, h28⟩ := bind_some h28
              refine SWp.seqC [3, 4, 5, 6, 7, 8, 9] [] (fun _ : Unit => ⟨[(3, .t (.sl true 3 (List.map (GBlock.enc true) r2))), (4, .t (.sl true 1 (List.map vi out13))), (5, .t (.sl true 1 (List.map (eSl true 1 vb) r6))), (6, .t (.sl true 1 (List.map vb r8))), (7, .t (vi h14)), (8, .t (vb has65)), (9, .t (vi i27))], []⟩) (fun _ => True) (fun _ _ => ?_) fun K40 hK40 => ?_
              rotate_left
              · refine SWp.block ?_
                refine SWp.seqR rfl (hPB _ rfl) fun K hK => ?_
                refine wps_cons rfl fun K hK => ?_; simp [hN']; refine hK _ ?_; clear hK
                refine wps_nil (hK _ ?_); clear hK
                refine SWp.block ?_
                refine SWp.loopO [] [3, 4, 5, 6, 7, 8, 9, 10] [] (fun v : Bool × Int => ⟨[(3, .t (.sl true 3 (List.map (GBlock.enc true) r2))), (4, .t (.sl true 1 (List.map vi out13))), (5, .t (.sl true 1 (List.map (eSl true 1 vb) r6))), (6, .t (.sl true 1 (List.map vb r8))), (7, .t (vi h14)), (8, .t (vb v.1)), (9, .t (vi i27)), (10, .t (vi v.2))], []⟩) (spec_LoopHeads_l3 r2 r6 r8 h14 i27) _ (has26, 0) hj39 (by simp [hN']) ?_
                intro g s46 h44 ho45
                obtain ⟨has42, k43⟩ := g
                simp only [spec_LoopHeads_l3] at h44
                try dsimp only
                refine SWp.seq ?_
                obtain ⟨v53, hj47, h44⟩ := bind_some h44
                refine SWp.seqRC rfl (hPB _ rfl) [3, 4, 5, 6, 7, 8, 9, 10, 53] [] (fun _ : Unit => ⟨[(3, .t (.sl true 3 (List.map (GBlock.enc true) r2))), (4, .t (.sl true 1 (List.map vi out13))), (5, .t (.sl true 1 (List.map (eSl true 1 vb) r6))), (6, .t (.sl true 1 (List.map vb r8))), (7, .t (vi h14)), (8, .t (vb has42)), (9, .t (vi i27)), (10, .t (vi k43)), (53, .t (vb v53))], []⟩) (fun _ => True) (fun _ _ => ?_) fun K48 hK48 => ?_
                rotate_left
                · refine wps_cons rfl fun K hK => ?_; simp [hN']; refine hK _ ?_; clear hK
                  iterate 2 (refine wps_cons rfl fun K hK => ?_; simp [hN']; refine hK _ ?_; clear hK)
                  obtain ⟨e49, he49, hj47⟩ := bind_some hj47
                  obtain ⟨he49a, he49b, he49c, he49d⟩ := getI_some he49
                  iterate 6 (refine wps_cons rfl fun K hK => ?_; simp [hN', he49a, he49b, he49c, he49d]; refine hK _ ?_; clear hK)
                  rcases ite_or hj47 with ⟨hb50, hj47⟩ | ⟨hb51, hj47⟩
                  · have hb50s := hb50
                    try simp at hb50s
                    iterate 2 (refine wps_cons rfl fun K hK => ?_; simp [hN', he49a, he49b, he49c, he49d, hb50, hb50s]; refine hK _ ?_; clear hK)
                    obtain ⟨e52, he52, hj47⟩ := bind_some hj47
                    obtain ⟨he52a, he52b, he52c, he52d⟩ := getI_some he52
                    iterate 3 (refine wps_cons rfl fun K hK => ?_; simp [hN', he49a, he49b, he49c, he49d, hb50, hb50s, he52a, he52b, he52c, he52d]; refine hK _ ?_; clear hK)
                    refine wps_nil ?_
                    cases hj47
                    exact hK48 _ () [] trivial (by simp [hN', he49a, he49b, he49c, he49d, hb50, hb50s, he52a, he52b, he52c, he52d])
                  · have hb51s := hb51
                    try simp at hb51s
                    iterate 4 (refine wps_off fun K hK => ?_; simp [hN', he49a, he49b, he49c, he49d, hb51, hb51s]; refine hK _ ?_; clear hK)
                    refine wps_cons rfl fun K hK => ?_; simp [hN', he49a, he49b, he49c, he49d, hb51, hb51s]; refine hK _ ?_; clear hK
                    refine wps_nil ?_
                    cases hj47
                    exact hK48 _ () [] trivial (by simp [hN', he49a, he49b, he49c, he49d, hb51, hb51s])
                rcases ite_or h44 with ⟨hb54, h44⟩ | ⟨hb55, h44⟩
                · refine SWp.condT' (b := v53) (by simp) hb54 ?_
                  refine SWp.skip ?_
                  show SWp E C _ _ _
                  refine SWp.seq ?_
                  refine SWp.block ?_
                  refine SWp.reg rfl (hPB _ rfl) fun KR hKR => ?_
                  iterate 2 (refine wps_cons rfl fun K hK => ?_; simp [hN']; refine hK _ ?_; clear hK)
                  rcases ite_or h44 with ⟨hb56, h44⟩ | ⟨hb57, h44⟩
                  · have hb56s := hb56
                    try simp at hb56s
                    iterate 19 (refine wps_off fun K hK => ?_; simp [hN', hb56, hb56s]; refine hK _ ?_; clear hK)
                    iterate 2 (refine wps_cons rfl fun K hK => ?_; simp [hN', hb56, hb56s]; refine hK _ ?_; clear hK)
                    refine wps_nil (hKR _ ?_)
                    show SWp E C _ _ _
                    refine SWp.reg rfl (hPB _ rfl) fun K hK => ?_
                    iterate 3 (refine wps_cons rfl fun K hK => ?_; simp [hN']; refine hK _ ?_; clear hK)
                    refine wps_nil (hK _ ?_); clear hK
                    cases h44
                    exact ⟨_, [], rfl, by first | (simp [hN']; done) | simp [hN', hb56s]⟩
                  · have hb57s := hb57
                    try simp at hb57s
                    iterate 2 (refine wps_cons rfl fun K hK => ?_; simp [hN', hb57, hb57s]; refine hK _ ?_; clear hK)
                    obtain ⟨e58, he58, h44⟩ := bind_some h44
                    obtain ⟨he58a, he58b, he58c, he58d⟩ := getI_some he58
                    iterate 4 (refine wps_cons rfl fun K hK => ?_; simp [hN', hb57, hb57s, he58a, he58b, he58c, he58d]; refine hK _ ?_; clear hK)
                    obtain ⟨e59, he59, h44⟩ := bind_some h44
                    obtain ⟨he59a, he59b, he59c, he59d⟩ := getI_some he59
                    iterate 5 (refine wps_cons rfl fun K hK => ?_; simp [hN', hb57, hb57s, he58a, he58b, he58c, he58d, he59a, he59b, he59c, he59d]; refine hK _ ?_; clear hK)
                    rcases ite_or h44 with ⟨hb60, h44⟩ | ⟨hb61, h44⟩
                    · have hb60s := hb60
                      try simp at hb60s
                      iterate 2 (refine wps_cons rfl fun K hK => ?_; simp [hN', hb57, hb57s, he58a, he58b, he58c, he58d, he59a, he59b, he59c, he59d, hb60, hb60s]; refine hK _ ?_; clear hK)
                      obtain ⟨e62, he62, h44⟩ := bind_some h44
                      obtain ⟨he62a, he62b, he62c, he62d⟩ := getI_some he62
                      iterate 3 (refine wps_cons rfl fun K hK => ?_; simp [hN', hb57, hb57s, he58a, he58b, he58c, he58d, he59a, he59b, he59c, he59d, hb60, hb60s, he62a, he62b, he62c, he62d]; refine hK _ ?_; clear hK)
                      obtain ⟨e63, he63, h44⟩ := bind_some h44
                      obtain ⟨he63a, he63b, he63c, he63d⟩ := getI_some he63
                      iterate 5 (refine wps_cons rfl fun K hK => ?_; simp [hN', hb57, hb57s, he58a, he58b, he58c, he58d, he59a, he59b, he59c, he59d, hb60, hb60s, he62a, he62b, he62c, he62d, he63a, he63b, he63c, he63d]; refine hK _ ?_; clear hK)
                      refine wps_nil (hKR _ ?_)
                      show SWp E C _ _ _
                      refine SWp.reg rfl (hPB _ rfl) fun K hK => ?_
                      iterate 3 (refine wps_cons rfl fun K hK => ?_; simp [hN']; refine hK _ ?_; clear hK)
                      refine wps_nil (hK _ ?_); clear hK
                      cases h44
                      exact ⟨_, [], rfl, by first | (simp [hN']; done) | simp [hN', hb57s]⟩
                    · have hb61s := hb61
                      try simp at hb61s
                      iterate 7 (refine wps_off fun K hK => ?_; simp [hN', hb57, hb57s, he58a, he58b, he58c, he58d, he59a, he59b, he59c, he59d, hb61, hb61s]; refine hK _ ?_; clear hK)
                      iterate 3 (refine wps_cons rfl fun K hK => ?_; simp [hN', hb57, hb57s, he58a, he58b, he58c, he58d, he59a, he59b, he59c, he59d, hb61, hb61s]; refine hK _ ?_; clear hK)
                      refine wps_nil (hKR _ ?_)
                      show SWp E C _ _ _
                      refine SWp.reg rfl (hPB _ rfl) fun K hK => ?_
                      iterate 3 (refine wps_cons rfl fun K hK => ?_; simp [hN']; refine hK _ ?_; clear hK)
                      refine wps_nil (hK _ ?_); clear hK
                      cases h44
                      exact ⟨_, [], rfl, by first | (simp [hN']; done) | simp [hN', hb57s]⟩
                · refine SWp.condF' (b := v53) (by simp) hb55 ?_
                  refine SWp.exit ?_
                  have h64 := congrArg some (ho45 _ (Option.some.inj h44).symm)
                  cases h64
                  exact hK40 _ () [] trivial (by simp [hN'])
              refine SWp.reg rfl (hPB _ rfl) fun K hK => ?_
              iterate 3 (refine wps_cons rfl fun K hK => ?_; simp [hN']; refine hK _ ?_; clear hK)
              refine wps_nil (hK _ ?_); clear hK
              cases h28
              exact ⟨_, [], rfl, by simp [hN']⟩
            · refine SWp.condF' (b := v36) (by simp) hb38 ?_
              refine SWp.exit ?_
              have h66 := congrArg some (ho29 _ (Option.some.inj h28).symm)
              cases h66
              exact hK24 _ () [] trivial (by simp [hN'])
          refine SWp.seqR rfl (hPB _ rfl) fun K hK => ?_
          refine wps_cons rfl fun K hK => ?_; simp [hN']; refine hK _ ?_; clear hK
          refine wps_nil (hK _ ?_); clear hK
          rcases ite_or hj20 with ⟨hb68, hj20⟩ | ⟨hb69, hj20⟩
          · refine SWp.condT' (b := has67) (by simp) hb68 ?_
            refine SWp.reg rfl (hPB _ rfl) fun K hK => ?_
            iterate 3 (refine wps_cons rfl fun K hK => ?_; simp [hN']; refine hK _ ?_; clear hK)
            obtain ⟨l70, hl70, hj20⟩ := bind_some hj20
            obtain ⟨hl70a, hl70b, hl70d⟩ := appI_some hl70
            have hl70f : List.map vi out13 ++ List.map vi [h14] = List.map vi l70 := app_map (f := vi) hl70d
            simp [eSl] at hl70a hl70b hl70f
            iterate 2 (refine wps_cons rfl fun K hK => ?_; simp [hN', hl70a, hl70b, hl70f]; refine hK _ ?_; clear hK)
            refine wps_nil (hK _ ?_); clear hK
            cases hj20
            exact hK21 _ () [] trivial (by simp [hN'])
          · refine SWp.condF' (b := has67) (by simp) hb69 ?_
            refine SWp.skip ?_
            cases hj20
            exact hK21 _ () [] trivial (by simp [hN'])
        refine SWp.reg rfl (hPB _ rfl) fun K hK => ?_
        iterate 3 (refine wps_cons rfl fun K hK => ?_; simp [hN']; refine hK _ ?_; clear hK)
        refine wps_nil (hK _ ?_); clear hK
        cases h15
        exact ⟨_, [], rfl, by simp [hN']⟩
      · refine SWp.condF' (b := decide (h14 < (r2.length : Int))) (by simp) hb19 ?_
        refine SWp.exit ?_
        have h72 := congrArg some (ho16 _ (Option.some.inj h15).symm)
        cases h72
        exact hK11 _ () [] trivial (by simp [hN'])
    refine SWp.seqR rfl (hPB _ rfl) fun K hK => ?_
    iterate 2 (refine wps_cons rfl fun K hK => ?_; simp [hN']; refine hK _ ?_; clear hK)
    refine wps_nil (hK _ ?_); clear hK
    cases h
    refine SWp.ret ?_
    simp [thenS, inBlockS, res11]
end Go.Proofs.T
set_option linter.unusedVariables false
set_option linter.unusedSimpArgs false
set_option maxHeartbeats 1000000
namespace Go.Proofs.T
open Go.OM
theorem res48 : Tryd.f48.results.toList = [.tmp 2] := rfl
theorem ent48 : Enters E.P 48 := enters_of Tryd.func48 (by simp [Tryd.f48]) rfl
theorem laws_toIntS_ok (a1 : List Int) {r0 : List Int} (h : laws_toIntS a1 = some r0) : Ok E 48 [.val (.sl false 1 (List.map vi a1))] [.sl true 1 (List.map vi r0)] [] := by
  refine ok_of_body (fn := Tryd.f48) Tryd.func48 rfl (by simp [Tryd.f48]) fun C hN hP => ?_
  have hPB : ∀ l, pinK [] l = true → pinB C.pin l = true := pinB_of (by rw [hP]; rfl)
  have hN' : C.N = 22 := hN
  clear hN
  unfold laws_toIntS at h
  refine SWp.seqR rfl (hPB _ rfl) fun K hK => ?_
  refine wps_cons rfl fun K hK => ?_; simp [hN']; refine hK _ ?_; clear hK
  refine wps_nil (hK _ ?_); clear hK
  refine SWp.seqR rfl (hPB _ rfl) fun K hK => ?_
  iterate 2 (refine wps_cons rfl fun K hK => ?_; simp [hN']; refine hK _ ?_; clear hK)
  obtain ⟨l2, hl2, h⟩ := bind_some h
  obtain ⟨hl2a, hl2b, hl2c, hl2d⟩ := mkI_some hl2
  have hl2f : List.replicate (a1.length : Int).toNat (vi 0) = List.map vi l2 := rep_map (f := vi) hl2d
  try simp only [Int.toNat_natCast] at hl2f
  iterate 2 (refine wps_cons rfl fun K hK => ?_; simp [hN', hl2a, hl2b, hl2c, hl2f]; refine hK _ ?_; clear hK)
  refine wps_nil (hK _ ?_); clear hK
  obtain ⟨out17, hj3, h⟩ := bind_some h
  refine SWp.seqC [3] [] (fun _ : Unit => ⟨[(3, .t (.sl true 1 (List.map vi out17)))], []⟩) (fun _ => True) (fun _ _ => ?_) fun K4 hK4 => ?_
  rotate_left
  · refine SWp.seqR rfl (hPB _ rfl) fun K hK => ?_
    refine wps_cons rfl fun K hK => ?_; simp [hN']; refine hK _ ?_; clear hK
    refine wps_nil (hK _ ?_); clear hK
    refine SWp.block ?_
    refine SWp.loopO [] [0, 3, 4] [] (fun v : (List Int) × Int => ⟨[(0, .t (.sl false 1 (List.map vi a1))), (3, .t (.sl true 1 (List.map vi v.1))), (4, .t (vi v.2))], []⟩) (laws_toIntS_l1 a1) _ (l2, 0) hj3 (by simp [hN']) ?_
    intro g s10 h8 ho9
    obtain ⟨out6, i7⟩ := g
    simp only [laws_toIntS_l1] at h8
    try dsimp only
    refine SWp.seq ?_
    refine SWp.seqR rfl (hPB _ rfl) fun K hK => ?_
    iterate 4 (refine wps_cons rfl fun K hK => ?_; simp [hN']; refine hK _ ?_; clear hK)
    refine wps_nil (hK _ ?_); clear hK
    rcases ite_or h8 with ⟨hb11, h8⟩ | ⟨hb12, h8⟩
    · refine SWp.condT' (b := decide (i7 < (a1.length : Int))) (by simp) hb11 ?_
      refine SWp.skip ?_
      show SWp E C _ _ _
      refine SWp.seq ?_
      refine SWp.block ?_
      refine SWp.reg rfl (hPB _ rfl) fun K hK => ?_
      iterate 4 (refine wps_cons rfl fun K hK => ?_; simp [hN']; refine hK _ ?_; clear hK)
      obtain ⟨e13, he13, h8⟩ := bind_some h8
      obtain ⟨he13a, he13b, he13c, he13d⟩ := getI_some he13
      iterate 2 (refine wps_cons rfl fun K hK => ?_; simp [hN', he13a, he13b, he13c, he13d]; refine hK _ ?_; clear hK)
      obtain ⟨e14, he14, h8⟩ := bind_some h8
      obtain ⟨he14a, he14b, he14c, he14d⟩ := getI_some he14
      refine wps_cons rfl fun K hK => ?_; simp [hN', he13a, he13b, he13c, he13d, he14a, he14b, he14c, he14d]; refine hK _ ?_; clear hK
      obtain ⟨l15, hl15, h8⟩ := bindS_some h8
      have hl15f : (List.map vi out6).set i7.toNat (vi e13) = List.map vi l15 := set_map (f := vi) hl15
      try simp only [Int.toNat_natCast] at hl15f
      refine wps_cons rfl fun K hK => ?_; simp [hN', he13a, he13b, he13c, he13d, he14a, he14b, he14c, he14d, hl15f]; refine hK _ ?_; clear hK
      refine wps_nil (hK _ ?_); clear hK
      show SWp E C _ _ _
      refine SWp.reg rfl (hPB _ rfl) fun K hK => ?_
      iterate 3 (refine wps_cons rfl fun K hK => ?_; simp [hN']; refine hK _ ?_; clear hK)
      refine wps_nil (hK _ ?_); clear hK
      cases h8
      exact ⟨_, [], rfl, by simp [hN']⟩
    · refine SWp.condF' (b := decide (i7 < (a1.length : Int))) (by simp) hb12 ?_
      refine SWp.exit ?_
      have h16 := congrArg some (ho9 _ (Option.some.inj h8).symm)
      cases h16
      exact hK4 _ () [] trivial (by simp [hN'])
  refine SWp.seqR rfl (hPB _ rfl) fun K hK => ?_
  iterate 2 (refine wps_cons rfl fun K hK => ?_; simp [hN']; refine hK _ ?_; clear hK)
  refine wps_nil (hK _ ?_); clear hK
  cases h
  refine SWp.ret ?_
  simp [thenS, inBlockS, res48]
end Go.Proofs.T
set_option linter.unusedVariables false
set_option linter.unusedSimpArgs false
set_option maxHeartbeats 1000000
namespace Go.Proofs.T
open Go.OM
theorem res96 : Tryd.f96.results.toList = [.cell 2 103] := rfl
theorem ent96 : Enters E.P 96 := enters_of Tryd.func96 (by simp [Tryd.f96]) rfl
theorem laws_toIns_ok (a1 : GIns) {r0 : GIns} (h : laws_toIns a1 = some r0) : Ok E 96 [.val (GIns.enc false a1)] [GIns.enc true r0] [] := by
  refine ok_of_body (fn := Tryd.f96) Tryd.func96 rfl (by simp [Tryd.f96]) fun C hN hP => ?_
  have hPB : ∀ l, pinK [] l = true → pinB C.pin l = true := pinB_of (by rw [hP]; rfl)
  have hN' : C.N = 27 := hN
  clear hN
  unfold laws_toIns at h
  refine SWp.seqR rfl (hPB _ rfl) fun K hK => ?_
  iterate 2 (refine wps_cons rfl fun K hK => ?_; simp [hN']; refine hK _ ?_; clear hK)
  refine wps_nil (hK _ ?_); clear hK
  refine SWp.seqR rfl (hPB _ rfl) fun K hK => ?_
  refine wps_cons rfl fun K hK => ?_; simp [hN']; refine hK _ ?_; clear hK
  refine wps_nil (hK _ ?_); clear hK
  refine SWp.seqR rfl (hPB _ rfl) fun K hK => ?_
  iterate 4 (refine wps_cons rfl fun K hK => ?_; simp [hN']; refine hK _ ?_; clear hK)
  refine wps_nil (hK _ ?_); clear hK
  refine SWp.seqR rfl (hPB _ rfl) fun K hK => ?_
  iterate 4 (refine wps_cons rfl fun K hK => ?_; simp [hN']; refine hK _ ?_; clear hK)
  refine wps_nil (hK _ ?_); clear hK
  refine SWp.seqR rfl (hPB _ rfl) fun K hK => ?_
  iterate 4 (refine wps_cons rfl fun K hK => ?_; simp [hN']; refine hK _ ?_; clear hK)
  refine wps_nil (hK _ ?_); clear hK
  refine SWp.seqR rfl (hPB _ rfl) fun K hK => ?_
  iterate 4 (refine wps_cons rfl fun K hK => ?_; simp [hN']; refine hK _ ?_; clear hK)
  refine wps_nil (hK _ ?_); clear hK
  refine SWp.seqR rfl (hPB _ rfl) fun K hK => ?_
  iterate 4 (refine wps_cons rfl fun K hK => ?_; simp [hN']; refine hK _ ?_; clear hK)
  refine wps_nil (hK _ ?_); clear hK
  refine SWp.seqR rfl (hPB _ rfl) fun K hK => ?_
  iterate 4 (refine wps_cons rfl fun K hK => ?_; simp [hN']; refine hK _ ?_; clear hK)
  refine wps_nil (hK _ ?_); clear hK
  refine SWp.seqR rfl (hPB _ rfl) fun K hK => ?_
  iterate 2 (refine wps_cons rfl fun K hK => ?_; simp [hN']; refine hK _ ?_; clear hK)
  obtain ⟨r2, hc3, h⟩ := bind_some h
  refine wps_call [(.take, .tmp 23)] rfl rfl ent48 (laws_toIntS_ok _ hc3) fun K hK => ?_; simp [hN']; refine hK _ ?_; clear hK
  iterate 2 (refine wps_cons rfl fun K hK => ?_; simp [hN']; refine hK _ ?_; clear hK)
  refine wps_nil (hK _ ?_); clear hK
  refine SWp.seqR rfl (hPB _ rfl) fun K hK => ?_
  iterate 2 (refine wps_cons rfl fun K hK => ?_; simp [hN']; refine hK _ ?_; clear hK)
  refine wps_nil (hK _ ?_); clear hK
  cases h
  refine SWp.ret ?_
  simp [thenS, inBlockS, res96]
end Go.Proofs.T
set_option linter.unusedVariables false
set_option linter.unusedSimpArgs false
set_option maxHeartbeats 1000000
namespace Go.Proofs.T
open Go.OM
theorem res49 : Tryd.f49.results.toList = [.tmp 2] := rfl
theorem ent49 : Enters E.P 49 := enters_of Tryd.func49 (by simp [Tryd.f49]) rfl
theorem laws_toInsS_ok (a1 : List GIns) {r0 : List GIns} (h : laws_toInsS a1 = some r0) : Ok E 49 [.val (.sl false 7 (List.map (GIns.enc false) a1))] [.sl true 7 (List.map (GIns.enc true) r0)] [] := by
  refine ok_of_body (fn := Tryd.f49) Tryd.func49 rfl (by simp [Tryd.f49]) fun C hN hP => ?_
  have hPB : ∀ l, pinK [] l = true → pinB C.pin l = true := pinB_of (by rw [hP]; rfl)
  have hN' : C.N = 23 := hN
  clear hN
  unfold laws_toInsS at h
  refine SWp.seqR rfl (hPB _ rfl) fun K hK => ?_
  refine wps_cons rfl fun K hK => ?_; simp [hN']; refine hK _ ?_; clear hK
  refine wps_nil (hK _ ?_); clear hK
  refine SWp.seqR rfl (hPB _ rfl) fun K hK => ?_
  iterate 2 (refine wps_cons rfl fun K hK => ?_; simp [hN']; refine hK _ ?_; clear hK)
  obtain ⟨l2, hl2, h⟩ := bind_some h
  obtain ⟨hl2a, hl2b, hl2c, hl2d⟩ := mkI_some hl2
  have hl2f : List.replicate (a1.length : Int).toNat (.agg [vi 0, vi 0, vi 0, vi 0, vi 0, vs ByteArray.empty, .sl true 1 []]) = List.map (GIns.enc true) l2 := rep_map (f := (GIns.enc true)) hl2d
  try simp only [Int.toNat_natCast] at hl2f
  iterate 2 (refine wps_cons rfl fun K hK => ?_; simp [hN', hl2a, hl2b, hl2c, hl2f]; refine hK _ ?_; clear hK)
  refine wps_nil (hK _ ?_); clear hK
  obtain ⟨out19, hj3, h⟩ := bind_some h
  refine SWp.seqC [3] [] (fun _ : Unit => ⟨[(3, .t (.sl true 7 (List.map (GIns.enc true) out19)))], []⟩) (fun _ => True) (fun _ _ => ?_) fun K4 hK4 => ?_
  rotate_left
  · refine SWp.seqR rfl (hPB _ rfl) fun K hK => ?_
    refine wps_cons rfl fun K hK => ?_; simp [hN']; refine hK _ ?_; clear hK
    refine wps_nil (hK _ ?_); clear hK
    refine SWp.block ?_
    refine SWp.loopO [] [0, 3, 4] [] (fun v : (List GIns) × Int => ⟨[(0, .t (.sl false 7 (List.map (GIns.enc false) a1))), (3, .t (.sl true 7 (List.map (GIns.enc true) v.1))), (4, .t (vi v.2))], []⟩) (laws_toInsS_l1 a1) _ (l2, 0) hj3 (by simp [hN']) ?_
    intro g s10 h8 ho9
    obtain ⟨out6, i7⟩ := g
    simp only [laws_toInsS_l1] at h8
    try dsimp only
    refine SWp.seq ?_
    refine SWp.seqR rfl (hPB _ rfl) fun K hK => ?_
    iterate 4 (refine wps_cons rfl fun K hK => ?_; simp [hN']; refine hK _ ?_; clear hK)
    refine wps_nil (hK _ ?_); clear hK
    rcases ite_or h8 with ⟨hb11, h8⟩ | ⟨hb12, h8⟩
    · refine SWp.condT' (b := decide (i7 < (a1.length : Int))) (by simp) hb11 ?_
      refine SWp.skip ?_
      show SWp E C _ _ _
      refine SWp.seq ?_
      refine SWp.block ?_
      refine SWp.reg rfl (hPB _ rfl) fun K hK => ?_
      iterate 4 (refine wps_cons rfl fun K hK => ?_; simp [hN']; refine hK _ ?_; clear hK)
      obtain ⟨e13, he13, h8⟩ := bind_some h8
      obtain ⟨he13a, he13b, he13c, he13d⟩ := getI_some he13
      iterate 2 (refine wps_cons rfl fun K hK => ?_; simp [hN', he13a, he13b, he13c, he13d]; refine hK _ ?_; clear hK)
      obtain ⟨r14, hc15, h8⟩ := bind_some h8
      refine wps_call [(.take, .tmp 19)] rfl rfl ent96 (laws_toIns_ok _ hc15) fun K hK => ?_; simp [hN', he13a, he13b, he13c, he13d]; refine hK _ ?_; clear hK
      obtain ⟨e16, he16, h8⟩ := bind_some h8
      obtain ⟨he16a, he16b, he16c, he16d⟩ := getI_some he16
      refine wps_cons rfl fun K hK => ?_; simp [hN', he13a, he13b, he13c, he13d, he16a, he16b, he16c, he16d]; refine hK _ ?_; clear hK
      obtain ⟨l17, hl17, h8⟩ := bindS_some h8
      have hl17f : (List.map (GIns.enc true) out6).set i7.toNat (.agg [vi r14.Op, vi r14.A, vi r14.B, vi r14.C, vi r14.Num, vs r14.Name, .sl true 1 (List.map vi r14.Args)]) = List.map (GIns.enc true) l17 := set_map (f := (GIns.enc true)) hl17
      try simp only [Int.toNat_natCast] at hl17f
      refine wps_cons rfl fun K hK => ?_; simp [hN', he13a, he13b, he13c, he13d, he16a, he16b, he16c, he16d, hl17f]; refine hK _ ?_; clear hK
      refine wps_nil (hK _ ?_); clear hK
      show SWp E C _ _ _
      refine SWp.reg rfl (hPB _ rfl) fun K hK => ?_
      iterate 3 (refine wps_cons rfl fun K hK => ?_; simp [hN']; refine hK _ ?_; clear hK)
      refine wps_nil (hK _ ?_); clear hK
      cases h8
      exact ⟨_, [], rfl, by simp [hN']⟩
    · refine SWp.condF' (b := decide (i7 < (a1.length : Int))) (by simp) hb12 ?_
      refine SWp.exit ?_
      have h18 := congrArg some (ho9 _ (Option.some.inj h8).symm)
      cases h18
      exact hK4 _ () [] trivial (by simp [hN'])
  refine SWp.seqR rfl (hPB _ rfl) fun K hK => ?_
  iterate 2 (refine wps_cons rfl fun K hK => ?_; simp [hN']; refine hK _ ?_; clear hK)
  refine wps_nil (hK _ ?_); clear hK
  cases h
  refine SWp.ret ?_
  simp [thenS, inBlockS, res49]
end Go.Proofs.T
set_option linter.unusedVariables false
set_option linter.unusedSimpArgs false
set_option maxHeartbeats 1000000
namespace Go.Proofs.T
open Go.OM
theorem res12 : Tryd.f12.results.toList = [.cell 2 30] := rfl
theorem ent12 : Enters E.P 12 := enters_of Tryd.func12 (by simp [Tryd.f12]) rfl
theorem laws_toCode_ok (a1 : GCode) {r0 : GCode} (h : laws_toCode a1 = some r0) : Ok E 12 [.val (GCode.enc false a1)] [GCode.enc true r0] [] := by
  refine ok_of_body (fn := Tryd.f12) Tryd.func12 rfl (by simp [Tryd.f12]) fun C hN hP => ?_
  have hPB : ∀ l, pinK [] l = true → pinB C.pin l = true := pinB_of (by rw [hP]; rfl)
  have hN' : C.N = 19 := hN
  clear hN
  unfold laws_toCode at h
  refine SWp.seqR rfl (hPB _ rfl) fun K hK => ?_
  iterate 2 (refine wps_cons rfl fun K hK => ?_; simp [hN']; refine hK _ ?_; clear hK)
  refine wps_nil (hK _ ?_); clear hK
  refine SWp.seqR rfl (hPB _ rfl) fun K hK => ?_
  refine wps_cons rfl fun K hK => ?_; simp [hN']; refine hK _ ?_; clear hK
  refine wps_nil (hK _ ?_); clear hK
  refine SWp.seqR rfl (hPB _ rfl) fun K hK => ?_
  iterate 4 (refine wps_cons rfl fun K hK => ?_; simp [hN']; refine hK _ ?_; clear hK)
  refine wps_nil (hK _ ?_); clear hK
  refine SWp.seqR rfl (hPB _ rfl) fun K hK => ?_
  iterate 4 (refine wps_cons rfl fun K hK => ?_; simp [hN']; refine hK _ ?_; clear hK)
  refine wps_nil (hK _ ?_); clear hK
  refine SWp.seqR rfl (hPB _ rfl) fun K hK => ?_
  iterate 2 (refine wps_cons rfl fun K hK => ?_; simp [hN']; refine hK _ ?_; clear hK)
  obtain ⟨r2, hc3, h⟩ := bind_some h
  refine wps_call [(.take, .tmp 11)] rfl rfl ent48 (laws_toIntS_ok _ hc3) fun K hK => ?_; simp [hN']; refine hK _ ?_; clear hK
  iterate 2 (refine wps_cons rfl fun K hK => ?_; simp [hN']; refine hK _ ?_; clear hK)
  refine wps_nil (hK _ ?_); clear hK
  refine SWp.seqR rfl (hPB _ rfl) fun K hK => ?_
  iterate 2 (refine wps_cons rfl fun K hK => ?_; simp [hN']; refine hK _ ?_; clear hK)
  obtain ⟨r4, hc5, h⟩ := bind_some h
  refine wps_call [(.take, .tmp 15)] rfl rfl ent49 (laws_toInsS_ok _ hc5) fun K hK => ?_; simp [hN']; refine hK _ ?_; clear hK
  iterate 2 (refine wps_cons rfl fun K hK => ?_; simp [hN']; refine hK _ ?_; clear hK)
  refine wps_nil (hK _ ?_); clear hK
  refine SWp.seqR rfl (hPB _ rfl) fun K hK => ?_
  iterate 2 (refine wps_cons rfl fun K hK => ?_; simp [hN']; refine hK _ ?_; clear hK)
  refine wps_nil (hK _ ?_); clear hK
  cases h
  refine SWp.ret ?_
  simp [thenS, inBlockS, res12]
end Go.Proofs.T
set_option linter.unusedVariables false
set_option linter.unusedSimpArgs false
set_option maxHeartbeats 1000000
namespace Go.Proofs.T
open Go.OM
theorem res52 : Tryd.f52.results.toList = [.tmp 4] := rfl
theorem ent52 : Enters E.P 52 := enters_of Tryd.func52 (by simp [Tryd.f52]) rfl
theorem impl_hasInt_ok (l1 : List Int) (n2 : Int) {r0 : Bool} (h : impl_hasInt l1 n2 = some r0) : Ok E 52 [.val (.sl false 1 (List.map vi l1)), .val (vi n2)] [vb r0] [] := by
  refine ok_of_body (fn := Tryd.f52) Tryd.func52 rfl (by simp [Tryd.f52]) fun C hN hP => ?_
  have hPB : ∀ l, pinK [] l = true → pinB C.pin l = true := pinB_of (by rw [hP]; rfl)
  have hN' : C.N = 17 := hN
  clear hN
  unfold impl_hasInt at h
  refine SWp.seqR rfl (hPB _ rfl) fun K hK => ?_
  refine wps_cons rfl fun K hK => ?_; simp [hN']; refine hK _ ?_; clear hK
  refine wps_nil (hK _ ?_); clear hK
  obtain ⟨j5, hj3, h⟩ := bind_some h
  refine SWp.seqC [] [] (fun v : Unit => ⟨[], []⟩) (fun v => j5 = Sum.inl v) (fun v hv => ?_) fun K4 hK4 => ?_
  rotate_left
  · refine SWp.seqR rfl (hPB _ rfl) fun K hK => ?_
    iterate 3 (refine wps_cons rfl fun K hK => ?_; simp [hN']; refine hK _ ?_; clear hK)
    refine wps_nil (hK _ ?_); clear hK
    refine SWp.block ?_
    refine SWp.loopO [] [1, 7, 8, 9] [] (fun v : Int => ⟨[(1, .t (vi n2)), (7, .t (.sl false 1 (List.map vi l1))), (8, .t (vi (l1.length : Int))), (9, .t (vi v))], []⟩) (impl_hasInt_l1 l1 n2) _ 0 hj3 (by simp [hN']) ?_
    intro g s9 h7 ho8
    obtain ⟨v6, hg⟩ : ∃ y, y = g := ⟨_, rfl⟩
    subst hg
    simp only [impl_hasInt_l1] at h7
    try dsimp only
    refine SWp.seqR rfl (hPB _ rfl) fun K hK => ?_
    refine wps_cons rfl fun K hK => ?_; simp [hN']; refine hK _ ?_; clear hK
    refine wps_nil (hK _ ?_); clear hK
    refine SWp.seq ?_
    rcases ite_or h7 with ⟨hb10, h7⟩ | ⟨hb11, h7⟩
    · refine SWp.condT' (b := decide (v6 < (l1.length : Int))) (by simp) hb10 ?_
      refine SWp.skip ?_
      show SWp E C _ _ _
      refine SWp.seq ?_
      refine SWp.block ?_
      refine SWp.seqR rfl (hPB _ rfl) fun K hK => ?_
      obtain ⟨e12, he12, h7⟩ := bind_some h7
      obtain ⟨he12a, he12b, he12c, he12d⟩ := getI_some he12
      iterate 3 (refine wps_cons rfl fun K hK => ?_; simp [hN', he12a, he12b, he12c, he12d]; refine hK _ ?_; clear hK)
      refine wps_nil (hK _ ?_); clear hK
      refine SWp.seqR rfl (hPB _ rfl) fun K hK => ?_
      iterate 3 (refine wps_cons rfl fun K hK => ?_; simp [hN']; refine hK _ ?_; clear hK)
      refine wps_nil (hK _ ?_); clear hK
      rcases ite_or h7 with ⟨hb13, h7⟩ | ⟨hb14, h7⟩
      · refine SWp.condT' (b := e12 == n2) (by simp) hb13 ?_
        refine SWp.seqR rfl (hPB _ rfl) fun K hK => ?_
        refine wps_cons rfl fun K hK => ?_; simp [hN']; refine hK _ ?_; clear hK
        refine wps_nil (hK _ ?_); clear hK
        have h15 := congrArg some (ho8 _ (Option.some.inj h7).symm)
        cases h15
        try dsimp only at h
        cases h
        refine SWp.ret ?_
        simp [thenS, inBlockS, res52]
      · refine SWp.condF' (b := e12 == n2) (by simp) hb14 ?_
        refine SWp.skip ?_
        show SWp E C _ _ _
        refine SWp.reg rfl (hPB _ rfl) fun K hK => ?_
        iterate 2 (refine wps_cons rfl fun K hK => ?_; simp [hN']; refine hK _ ?_; clear hK)
        refine wps_nil (hK _ ?_); clear hK
        cases h7
        exact ⟨_, [], rfl, by simp [hN']⟩
    · refine SWp.condF' (b := decide (v6 < (l1.length : Int))) (by simp) hb11 ?_
      refine SWp.exit ?_
      have h16 := congrArg some (ho8 _ (Option.some.inj h7).symm)
      cases h16
      exact hK4 _ _ [] rfl (by simp [hN'])
  subst hv
  obtain ⟨⟩ := v
  try dsimp only at h ⊢
  refine SWp.seqR rfl (hPB _ rfl) fun K hK => ?_
  refine wps_cons rfl fun K hK => ?_; simp [hN']; refine hK _ ?_; clear hK
  refine wps_nil (hK _ ?_); clear hK
  cases h
  refine SWp.ret ?_
  simp [thenS, inBlockS, res52]
end Go.Proofs.T
set_option linter.unusedVariables false
set_option linter.unusedSimpArgs false
set_option maxHeartbeats 1000000
namespace Go.Proofs.T
open Go.OM
theorem res91 : Tryd.f91.results.toList = [.tmp 6] := rfl
theorem ent91 : Enters E.P 91 := enters_of Tryd.func91 (by simp [Tryd.f91]) rfl
theorem impl_in_ok (n1 : Int) (low2 : Int) (high3 : Int) {r0 : Bool} (h : impl_in n1 low2 high3 = some r0) : Ok E 91 [.val (vi n1), .val (vi low2), .val (vi high3)] [vb r0] [] := by
  refine ok_of_body (fn := Tryd.f91) Tryd.func91 rfl (by simp [Tryd.f91]) fun C hN hP => ?_
  have hPB : ∀ l, pinK [] l = true → pinB C.pin l = true := pinB_of (by rw [hP]; rfl)
  have hN' : C.N = 15 := hN
  clear hN
  unfold impl_in at h
  refine SWp.seqR rfl (hPB _ rfl) fun K hK => ?_
  refine wps_cons rfl fun K hK => ?_; simp [hN']; refine hK _ ?_; clear hK
  refine wps_nil (hK _ ?_); clear hK
  obtain ⟨v8, hj4, h⟩ := bind_some h
  refine SWp.seqRC rfl (hPB _ rfl) [6] [] (fun _ : Unit => ⟨[(6, .t (vb v8))], []⟩) (fun _ => True) (fun _ _ => ?_) fun K5 hK5 => ?_
  rotate_left
  · refine wps_cons rfl fun K hK => ?_; simp [hN']; refine hK _ ?_; clear hK
    iterate 3 (refine wps_cons rfl fun K hK => ?_; simp [hN']; refine hK _ ?_; clear hK)
    rcases ite_or hj4 with ⟨hb6, hj4⟩ | ⟨hb7, hj4⟩
    · have hb6s := hb6
      try simp at hb6s
      iterate 5 (refine wps_cons rfl fun K hK => ?_; simp [hN', hb6, hb6s]; refine hK _ ?_; clear hK)
      refine wps_nil ?_
      cases hj4
      exact hK5 _ () [] trivial (by simp [hN', hb6, hb6s])
    · have hb7s := hb7
      try simp at hb7s
      iterate 3 (refine wps_off fun K hK => ?_; simp [hN', hb7, hb7s]; refine hK _ ?_; clear hK)
      iterate 2 (refine wps_cons rfl fun K hK => ?_; simp [hN', hb7, hb7s]; refine hK _ ?_; clear hK)
      refine wps_nil ?_
      cases hj4
      exact hK5 _ () [] trivial (by simp [hN', hb7, hb7s])
  cases h
  refine SWp.ret ?_
  simp [thenS, inBlockS, res91]
end Go.Proofs.T
set_option linter.unusedVariables false
set_option linter.unusedSimpArgs false
set_option maxHeartbeats 1000000
namespace Go.Proofs.T
open Go.OM
theorem res142 : Tryd.f142.results.toList = [.tmp 2] := rfl
theorem ent142 : Enters E.P 142 := enters_of Tryd.func142 (by simp [Tryd.f142]) rfl
theorem impl_isLetter_ok (b1 : Int) {r0 : Bool} (h : impl_isLetter b1 = some r0) : Ok E 142 [.val (vk .u8 b1)] [vb r0] [] := by
  refine ok_of_body (fn := Tryd.f142) Tryd.func142 rfl (by simp [Tryd.f142]) fun C hN hP => ?_
  have hPB : ∀ l, pinK [] l = true → pinB C.pin l = true := pinB_of (by rw [hP]; rfl)
  have hN' : C.N = 9 := hN
  clear hN
  unfold impl_isLetter at h
  refine SWp.seqR rfl (hPB _ rfl) fun K hK => ?_
  refine wps_cons rfl fun K hK => ?_; simp [hN']; refine hK _ ?_; clear hK
  refine wps_nil (hK _ ?_); clear hK
  obtain ⟨v6, hj2, h⟩ := bind_some h
  refine SWp.seqRC rfl (hPB _ rfl) [2] [] (fun _ : Unit => ⟨[(2, .t (vb v6))], []⟩) (fun _ => True) (fun _ _ => ?_) fun K3 hK3 => ?_
  rotate_left
  · refine wps_cons rfl fun K hK => ?_; simp [hN']; refine hK _ ?_; clear hK
    iterate 2 (refine wps_cons rfl fun K hK => ?_; simp [hN']; refine hK _ ?_; clear hK)
    rcases ite_or hj2 with ⟨hb4, hj2⟩ | ⟨hb5, hj2⟩
    · have hb4s := hb4
      try simp at hb4s
      iterate 4 (refine wps_cons rfl fun K hK => ?_; simp [hN', hb4, hb4s]; refine hK _ ?_; clear hK)
      refine wps_nil ?_
      cases hj2
      exact hK3 _ () [] trivial (by simp [hN', hb4, hb4s])
    · have hb5s := hb5
      try simp at hb5s
      iterate 2 (refine wps_off fun K hK => ?_; simp [hN', hb5, hb5s]; refine hK _ ?_; clear hK)
      iterate 2 (refine wps_cons rfl fun K hK => ?_; simp [hN', hb5, hb5s]; refine hK _ ?_; clear hK)
      refine wps_nil ?_
      cases hj2
      exact hK3 _ () [] trivial (by simp [hN', hb5, hb5s])
  cases h
  refine SWp.ret ?_
  simp [thenS, inBlockS, res142]
end Go.Proofs.T
set_option linter.unusedVariables false
set_option linter.unusedSimpArgs false
set_option maxHeartbeats 1000000
namespace Go.Proofs.T
open Go.OM
theorem res143 : Tryd.f143.results.toList = [.tmp 2] := rfl
theorem ent143 : Enters E.P 143 := enters_of Tryd.func143 (by simp [Tryd.f143]) rfl
theorem impl_isFigure_ok (b1 : Int) {r0 : Bool} (h : impl_isFigure b1 = some r0) : Ok E 143 [.val (vk .u8 b1)] [vb r0] [] := by
  refine ok_of_body (fn := Tryd.f143) Tryd.func143 rfl (by simp [Tryd.f143]) fun C hN hP => ?_
  have hPB : ∀ l, pinK [] l = true → pinB C.pin l = true := pinB_of (by rw [hP]; rfl)
  have hN' : C.N = 9 := hN
  clear hN
  unfold impl_isFigure at h
  refine SWp.seqR rfl (hPB _ rfl) fun K hK => ?_
  refine wps_cons rfl fun K hK => ?_; simp [hN']; refine hK _ ?_; clear hK
  refine wps_nil (hK _ ?_); clear hK
  obtain ⟨v6, hj2, h⟩ := bind_some h
  refine SWp.seqRC rfl (hPB _ rfl) [2] [] (fun _ : Unit => ⟨[(2, .t (vb v6))], []⟩) (fun _ => True) (fun _ _ => ?_) fun K3 hK3 => ?_
  rotate_left
  · refine wps_cons rfl fun K hK => ?_; simp [hN']; refine hK _ ?_; clear hK
    iterate 2 (refine wps_cons rfl fun K hK => ?_; simp [hN']; refine hK _ ?_; clear hK)
    rcases ite_or hj2 with ⟨hb4, hj2⟩ | ⟨hb5, hj2⟩
    · have hb4s := hb4
      try simp at hb4s
      iterate 4 (refine wps_cons rfl fun K hK => ?_; simp [hN', hb4, hb4s]; refine hK _ ?_; clear hK)
      refine wps_nil ?_
      cases hj2
      exact hK3 _ () [] trivial (by simp [hN', hb4, hb4s])
    · have hb5s := hb5
      try simp at hb5s
      iterate 2 (refine wps_off fun K hK => ?_; simp [hN', hb5, hb5s]; refine hK _ ?_; clear hK)
      iterate 2 (refine wps_cons rfl fun K hK => ?_; simp [hN', hb5, hb5s]; refine hK _ ?_; clear hK)
      refine wps_nil ?_
      cases hj2
      exact hK3 _ () [] trivial (by simp [hN', hb5, hb5s])
  cases h
  refine SWp.ret ?_
  simp [thenS, inBlockS, res143]
end Go.Proofs.T
namespace Go.Proofs
open Go.Shelf
def Tryd.lays146_ren : Go.Shelf.Ren := ⟨fun | 146 => 159 | 221 => 160 | 268 => 161 | 138 => 162 | 143 => 163 | 195 => 164 | 197 => 165 | 218 => 166 | 219 => 167 | 260 => 168 | 217 => 169 | 225 => 170 | 224 => 171 | 267 => 172 | 266 => 173 | 314 => 174 | n => n, fun | 9 => 9 | 31 => 161 | 3 => 3 | 4 => 4 | 0 => 0 | 105 => 170 | 21 => 21 | 5 => 5 | 46 => 174 | 119 => 175 | 139 => 178 | 138 => 177 | 146 => 180 | 51 => 179 | n => n, fun | 1 => 0 | 3 => 1 | 4 => 2 | n => n⟩
theorem Tryd.lays146 : Go.Proofs.Lays.n146 Tryd.prog Tryd.lays146_ren := {
  mixed := by kernel_rfl
  f138 := Tryd.func162.trans (congrArg some (by kernel_rfl))
  f143 := Tryd.func163.trans (congrArg some (by kernel_rfl))
  f146 := Tryd.func159.trans (congrArg some (by kernel_rfl))
  f195 := Tryd.func164.trans (congrArg some (by kernel_rfl))
  f197 := Tryd.func165.trans (congrArg some (by kernel_rfl))
  f217 := Tryd.func169.trans (congrArg some (by kernel_rfl))
  f218 := Tryd.func166.trans (congrArg some (by kernel_rfl))
  f219 := Tryd.func167.trans (congrArg some (by kernel_rfl))
  f221 := Tryd.func160.trans (congrArg some (by kernel_rfl))
  f224 := Tryd.func171.trans (congrArg some (by kernel_rfl))
  f225 := Tryd.func170.trans (congrArg some (by kernel_rfl))
  f260 := Tryd.func168.trans (congrArg some (by kernel_rfl))
  f266 := Tryd.func173.trans (congrArg some (by kernel_rfl))
  f267 := Tryd.func172.trans (congrArg some (by kernel_rfl))
  f268 := Tryd.func161.trans (congrArg some (by kernel_rfl))
  f314 := Tryd.func174.trans (congrArg some (by kernel_rfl))
  t0 := Tryd.underlying0
  a0 := Tryd.isAgg0
  z0 := Tryd.sizeOf0
  v0 := Tryd.zeroValue0
  t3 := Tryd.underlying3
  a3 := Tryd.isAgg3
  z3 := Tryd.sizeOf3
  v3 := Tryd.zeroValue3
  t4 := Tryd.underlying4
  a4 := Tryd.isAgg4
  z4 := Tryd.sizeOf4
  v4 := Tryd.zeroValue4
  t5 := Tryd.underlying5
  a5 := Tryd.isAgg5
  z5 := Tryd.sizeOf5
  v5 := Tryd.zeroValue5
  t9 := Tryd.underlying9
  a9 := Tryd.isAgg9
  z9 := Tryd.sizeOf9
  v9 := Tryd.zeroValue9
  t21 := Tryd.underlying21
  a21 := Tryd.isAgg21
  z21 := Tryd.sizeOf21
  v21 := Tryd.zeroValue21
  t31 := Tryd.underlying161
  a31 := Tryd.isAgg161
  z31 := Tryd.sizeOf161
  v31 := Tryd.zeroValue161
  t46 := Tryd.underlying174
  a46 := Tryd.isAgg174
  z46 := Tryd.sizeOf174
  v46 := Tryd.zeroValue174
  t51 := Tryd.underlying179
  a51 := Tryd.isAgg179
  z51 := Tryd.sizeOf179
  v51 := Tryd.zeroValue179
  t105 := Tryd.underlying170
  a105 := Tryd.isAgg170
  z105 := Tryd.sizeOf170
  v105 := Tryd.zeroValue170
  t119 := Tryd.underlying175
  a119 := Tryd.isAgg175
  z119 := Tryd.sizeOf175
  t138 := Tryd.underlying177
  a138 := Tryd.isAgg177
  z138 := Tryd.sizeOf177
  v138 := Tryd.zeroValue177
  t139 := Tryd.underlying178
  a139 := Tryd.isAgg178
  z139 := Tryd.sizeOf178
  v139 := Tryd.zeroValue178
  t146 := Tryd.underlying180
  a146 := Tryd.isAgg180
  z146 := Tryd.sizeOf180
  v146 := Tryd.zeroValue180
  g1 := by kernel_rfl
  g3 := by kernel_rfl
  g4 := by kernel_rfl }
open Go.RowKit Go.Lib in
theorem Tryd.strings_Split (s sep : ByteArray) (m : Int) (w : World) (hs : s.size < 4294967281) (hm : w.cell? ⟨0, 0, none⟩ = some (.int .i64 m)) (h1 : 1 ≤ sep.size) :
    Calls Tryd.prog 159 #[.string s, .string sep] w fun e w' =>
      e = .returned (.slice (some ⟨w.heap.size, 0, none⟩) (Lib.countB s sep + 1) (Lib.countB s sep + 1)) ∧ w' = w.alloc (.cells ((Lib.splitB sep 0 (Lib.countB s sep) s).map Value.string).toArray 9) := Any.strings_Split Tryd.lays146 (by kernel_rfl) s sep m w hs hm h1
end Go.Proofs
set_option linter.unusedVariables false
set_option linter.unusedSimpArgs false
namespace Go.Proofs.T
open Go.OM
theorem ent159 : Enters E.P 159 := enters_of Tryd.func159 (by simp [Tryd.f159]) rfl
theorem maxLen_cell {w : World} (h : E.Gl w) : ∃ m, w.cell? ⟨0, 0, none⟩ = some (.int .i64 m) := by
  obtain ⟨cs, t, fr, h1, m, h2⟩ := h _ (List.mem_singleton.2 rfl)
  refine ⟨m, ?_⟩
  have h1' : w.heap[0]? = some (.cells cs t fr) := h1
  simp [World.cell?, h1', h2]
theorem strings_Split_ok (s sep : ByteArray) {r0 : List ByteArray} (h : strings_Split s sep = some r0) : Ok E 159 [.val (vs s), .val (vs sep)] [.sl true 1 (List.map vs r0)] [] := by
  unfold strings_Split at h
  split at h
  case isFalse => cases h
  rename_i hr
  injection h with h
  subst h
  have := ok_fresh (E := E) (f := 159) (ty := 9) (xs := [.string s, .string sep]) (es := (Lib.splitB sep 0 (Lib.countB s sep) s).map Value.string) (by simp [TA.OneCell]) fun w hw => by
    obtain ⟨m, hm⟩ := maxLen_cell hw
    have h1 := Tryd.strings_Split s sep m w hr.1 hm hr.2.1
    refine h1.mono fun e w' ⟨h2, h3⟩ => ⟨?_, h3⟩
    rw [h2, List.length_map, hr.2.2]
    try rfl
  rw [List.map_map] at this
  exact this
end Go.Proofs.T
set_option linter.unusedVariables false
set_option linter.unusedSimpArgs false
set_option maxHeartbeats 1000000
namespace Go.Proofs.T
open Go.OM
theorem res157 : Tryd.f157.results.toList = [.tmp 4] := rfl
theorem ent157 : Enters E.P 157 := enters_of Tryd.func157 (by simp [Tryd.f157]) rfl
theorem impl_oneOf_ok (s1 : ByteArray) (words2 : ByteArray) {r0 : Bool} (h : impl_oneOf s1 words2 = some r0) : Ok E 157 [.val (vs s1), .val (vs words2)] [vb r0] [] := by
  refine ok_of_body (fn := Tryd.f157) Tryd.func157 rfl (by simp [Tryd.f157]) fun C hN hP => ?_
  have hPB : ∀ l, pinK [] l = true → pinB C.pin l = true := pinB_of (by rw [hP]; rfl)
  have hN' : C.N = 18 := hN
  clear hN
  unfold impl_oneOf at h
  refine SWp.seqR rfl (hPB _ rfl) fun K hK => ?_
  refine wps_cons rfl fun K hK => ?_; simp [hN']; refine hK _ ?_; clear hK
  refine wps_nil (hK _ ?_); clear hK
  obtain ⟨j5, hj3, h⟩ := bind_some h
  refine SWp.seqC [] [] (fun v : Unit => ⟨[], []⟩) (fun v => j5 = Sum.inl v) (fun v hv => ?_) fun K4 hK4 => ?_
  rotate_left
  · refine SWp.seqR rfl (hPB _ rfl) fun K hK => ?_
    refine wps_cons rfl fun K hK => ?_; simp [hN']; refine hK _ ?_; clear hK
    obtain ⟨r6, hc7, hj3⟩ := bind_some hj3
    refine wps_call [(.take, .tmp 7), (.take, .const (.string (⟨#[32]⟩ : ByteArray)))] rfl rfl ent159 (strings_Split_ok _ _ hc7) fun K hK => ?_; simp [hN']; refine hK _ ?_; clear hK
    iterate 2 (refine wps_cons rfl fun K hK => ?_; simp [hN']; refine hK _ ?_; clear hK)
    refine wps_nil (hK _ ?_); clear hK
    refine SWp.block ?_
    refine SWp.loopO [] [0, 8, 9, 10] [] (fun v : Int => ⟨[(0, .t (vs s1)), (8, .t (.sl true 1 (List.map vs r6))), (9, .t (vi (r6.length : Int))), (10, .t (vi v))], []⟩) (impl_oneOf_l1 s1 r6) _ 0 hj3 (by simp [hN']) ?_
    intro g s11 h9 ho10
    obtain ⟨v8, hg⟩ : ∃ y, y = g := ⟨_, rfl⟩
    subst hg
    simp only [impl_oneOf_l1] at h9
    try dsimp only
    refine SWp.seqR rfl (hPB _ rfl) fun K hK => ?_
    refine wps_cons rfl fun K hK => ?_; simp [hN']; refine hK _ ?_; clear hK
    refine wps_nil (hK _ ?_); clear hK
    refine SWp.seq ?_
    rcases ite_or h9 with ⟨hb12, h9⟩ | ⟨hb13, h9⟩
    · refine SWp.condT' (b := decide (v8 < (r6.length : Int))) (by simp) hb12 ?_
      refine SWp.skip ?_
      show SWp E C _ _ _
      refine SWp.seq ?_
      refine SWp.block ?_
      refine SWp.seqR rfl (hPB _ rfl) fun K hK => ?_
      obtain ⟨e14, he14, h9⟩ := bind_some h9
      obtain ⟨he14a, he14b, he14c, he14d⟩ := getI_some he14
      iterate 3 (refine wps_cons rfl fun K hK => ?_; simp [hN', he14a, he14b, he14c, he14d]; refine hK _ ?_; clear hK)
      refine wps_nil (hK _ ?_); clear hK
      refine SWp.seqR rfl (hPB _ rfl) fun K hK => ?_
      iterate 3 (refine wps_cons rfl fun K hK => ?_; simp [hN']; refine hK _ ?_; clear hK)
      refine wps_nil (hK _ ?_); clear hK
      rcases ite_or h9 with ⟨hb15, h9⟩ | ⟨hb16, h9⟩
      · refine SWp.condT' (b := sEq e14 s1) (by simp) hb15 ?_
        refine SWp.seqR rfl (hPB _ rfl) fun K hK => ?_
        refine wps_cons rfl fun K hK => ?_; simp [hN']; refine hK _ ?_; clear hK
        refine wps_nil (hK _ ?_); clear hK
        have h17 := congrArg some (ho10 _ (Option.some.inj h9).symm)
        cases h17
        try dsimp only at h
        cases h
        refine SWp.ret ?_
        simp [thenS, inBlockS, res157]
      · refine SWp.condF' (b := sEq e14 s1) (by simp) hb16 ?_
        refine SWp.skip ?_
        show SWp E C _ _ _
        refine SWp.reg rfl (hPB _ rfl) fun K hK => ?_
        iterate 2 (refine wps_cons rfl fun K hK => ?_; simp [hN']; refine hK _ ?_; clear hK)
        refine wps_nil (hK _ ?_); clear hK
        cases h9
        exact ⟨_, [], rfl, by simp [hN']⟩
    · refine SWp.condF' (b := decide (v8 < (r6.length : Int))) (by simp) hb13 ?_
      refine SWp.exit ?_
      have h18 := congrArg some (ho10 _ (Option.some.inj h9).symm)
      cases h18
      exact hK4 _ _ [] rfl (by simp [hN'])
  subst hv
  obtain ⟨⟩ := v
  try dsimp only at h ⊢
  refine SWp.seqR rfl (hPB _ rfl) fun K hK => ?_
  refine wps_cons rfl fun K hK => ?_; simp [hN']; refine hK _ ?_; clear hK
  refine wps_nil (hK _ ?_); clear hK
  cases h
  refine SWp.ret ?_
  simp [thenS, inBlockS, res157]
end Go.Proofs.T
set_option linter.unusedVariables false
set_option linter.unusedSimpArgs false
set_option maxHeartbeats 1000000
namespace Go.Proofs.T
open Go.OM
theorem res144 : Tryd.f144.results.toList = [.tmp 2] := rfl
theorem ent144 : Enters E.P 144 := enters_of Tryd.func144 (by simp [Tryd.f144]) rfl
theorem impl_KeyWord_ok (s1 : ByteArray) {r0 : Bool} (h : impl_KeyWord s1 = some r0) : Ok E 144 [.val (vs s1)] [vb r0] [] := by
  refine ok_of_body (fn := Tryd.f144) Tryd.func144 rfl (by simp [Tryd.f144]) fun C hN hP => ?_
  have hPB : ∀ l, pinK [] l = true → pinB C.pin l = true := pinB_of (by rw [hP]; rfl)
  have hN' : C.N = 5 := hN
  clear hN
  unfold impl_KeyWord at h
  refine SWp.seqR rfl (hPB _ rfl) fun K hK => ?_
  refine wps_cons rfl fun K hK => ?_; simp [hN']; refine hK _ ?_; clear hK
  refine wps_nil (hK _ ?_); clear hK
  refine SWp.seqR rfl (hPB _ rfl) fun K hK => ?_
  refine wps_cons rfl fun K hK => ?_; simp [hN']; refine hK _ ?_; clear hK
  obtain ⟨r2, hc3, h⟩ := bind_some h
  refine wps_call [(.take, .tmp 3), (.take, .const (.string (⟨#[102, 110, 32, 108, 101, 116, 32, 105, 102, 32, 101, 108, 115, 101, 32, 119, 104, 105, 108, 101, 32, 112, 114, 105, 110, 116, 32, 100, 111, 32, 110, 101, 119, 32, 99, 108, 111, 110, 101, 32, 109, 117, 116, 32, 105, 110, 112, 117, 116, 32, 105, 110, 116, 32, 98, 111, 120, 32, 114, 101, 116]⟩ : ByteArray)))] rfl rfl ent157 (impl_oneOf_ok _ _ hc3) fun K hK => ?_; simp [hN']; refine hK _ ?_; clear hK
  refine wps_cons rfl fun K hK => ?_; simp [hN']; refine hK _ ?_; clear hK
  refine wps_nil (hK _ ?_); clear hK
  cases h
  refine SWp.ret ?_
  simp [thenS, inBlockS, res144]
end Go.Proofs.T
set_option linter.unusedVariables false
set_option linter.unusedSimpArgs false
set_option maxHeartbeats 1000000
namespace Go.Proofs.T
open Go.OM
theorem res118 : Tryd.f118.results.toList = [.tmp 2] := rfl
theorem ent118 : Enters E.P 118 := enters_of Tryd.func118 (by simp [Tryd.f118]) rfl
theorem impl_NameOk_ok (s1 : ByteArray) {r0 : Bool} (h : impl_NameOk s1 = some r0) : Ok E 118 [.val (vs s1)] [vb r0] [] := by
  refine ok_of_body (fn := Tryd.f118) Tryd.func118 rfl (by simp [Tryd.f118]) fun C hN hP => ?_
  have hPB : ∀ l, pinK [] l = true → pinB C.pin l = true := pinB_of (by rw [hP]; rfl)
  have hN' : C.N = 35 := hN
  clear hN
  unfold impl_NameOk at h
  refine SWp.seqR rfl (hPB _ rfl) fun K hK => ?_
  refine wps_cons rfl fun K hK => ?_; simp [hN']; refine hK _ ?_; clear hK
  refine wps_nil (hK _ ?_); clear hK
  refine SWp.seq ?_
  obtain ⟨v11, hj2, h⟩ := bind_some h
  refine SWp.seqRC rfl (hPB _ rfl) [0, 13] [] (fun _ : Unit => ⟨[(0, .t (vs s1)), (13, .t (vb v11))], []⟩) (fun _ => True) (fun _ _ => ?_) fun K3 hK3 => ?_
  rotate_left
  · refine wps_cons rfl fun K hK => ?_; simp [hN']; refine hK _ ?_; clear hK
    refine wps_cons rfl fun K hK => ?_; simp [hN']; refine hK _ ?_; clear hK
    obtain ⟨r4, hc5, hj2⟩ := bind_some hj2
    refine wps_call [(.take, .tmp 5), (.take, .const (.int .i64 1)), (.take, .const (.int .i64 8))] rfl rfl ent91 (impl_in_ok _ _ _ hc5) fun K hK => ?_; simp [hN']; refine hK _ ?_; clear hK
    iterate 2 (refine wps_cons rfl fun K hK => ?_; simp [hN']; refine hK _ ?_; clear hK)
    rcases ite_or hj2 with ⟨hb6, hj2⟩ | ⟨hb7, hj2⟩
    · have hb6s := hb6
      try simp at hb6s
      iterate 4 (refine wps_off fun K hK => ?_; simp [hN', hb6, hb6s]; refine hK _ ?_; clear hK)
      refine wps_cons rfl fun K hK => ?_; simp [hN', hb6, hb6s]; refine hK _ ?_; clear hK
      refine wps_nil ?_
      cases hj2
      exact hK3 _ () [] trivial (by simp [hN', hb6, hb6s])
    · have hb7s := hb7
      try simp at hb7s
      refine wps_cons rfl fun K hK => ?_; simp [hN', hb7, hb7s]; refine hK _ ?_; clear hK
      obtain ⟨c8, hc8, hj2⟩ := bind_some hj2
      obtain ⟨hc8a, hc8b, hc8c⟩ := sAt_some hc8
      have hc8e : 0 < s1.size := by omega
      refine wps_cons rfl fun K hK => ?_; simp [hN', hb7, hb7s, hc8a, hc8b, hc8c, hc8e]; refine hK _ ?_; clear hK
      obtain ⟨r9, hc10, hj2⟩ := bind_some hj2
      refine wps_call [(.take, .tmp 10)] rfl rfl ent142 (impl_isLetter_ok _ hc10) fun K hK => ?_; simp [hN', hb7, hb7s, hc8a, hc8b, hc8c, hc8e]; refine hK _ ?_; clear hK
      iterate 2 (refine wps_cons rfl fun K hK => ?_; simp [hN', hb7, hb7s, hc8a, hc8b, hc8c, hc8e]; refine hK _ ?_; clear hK)
      refine wps_nil ?_
      cases hj2
      exact hK3 _ () [] trivial (by simp [hN', hb7, hb7s, hc8a, hc8b, hc8c, hc8e])
  rcases ite_or h with ⟨hb12, h⟩ | ⟨hb13, h⟩
  · refine SWp.condT' (b := v11) (by simp) hb12 ?_
    refine SWp.seqR rfl (hPB _ rfl) fun K hK => ?_
    refine wps_cons rfl fun K hK => ?_; simp [hN']; refine hK _ ?_; clear hK
    refine wps_nil (hK _ ?_); clear hK
    cases h
    refine SWp.ret ?_
    simp [thenS, inBlockS, res118]
  · refine SWp.condF' (b := v11) (by simp) hb13 ?_
    refine SWp.skip ?_
    show SWp E C _ _ _
    obtain ⟨j16, hj14, h⟩ := bind_some h
    refine SWp.seqC [0] [] (fun v : Unit => ⟨[(0, .t (vs s1))], []⟩) (fun v => j16 = Sum.inl v) (fun v hv => ?_) fun K15 hK15 => ?_
    rotate_left
    · refine SWp.seqR rfl (hPB _ rfl) fun K hK => ?_
      refine wps_cons rfl fun K hK => ?_; simp [hN']; refine hK _ ?_; clear hK
      refine wps_nil (hK _ ?_); clear hK
      refine SWp.block ?_
      refine SWp.loopO [] [0, 3] [] (fun v : Int => ⟨[(0, .t (vs s1)), (3, .t (vi v))], []⟩) (impl_NameOk_l1 s1) _ 0 hj14 (by simp [hN']) ?_
      intro g s20 h18 ho19
      obtain ⟨i17, hg⟩ : ∃ y, y = g := ⟨_, rfl⟩
      subst hg
      simp only [impl_NameOk_l1] at h18
      try dsimp only
      refine SWp.seq ?_
      refine SWp.seqR rfl (hPB _ rfl) fun K hK => ?_
      iterate 4 (refine wps_cons rfl fun K hK => ?_; simp [hN']; refine hK _ ?_; clear hK)
      refine wps_nil (hK _ ?_); clear hK
      rcases ite_or h18 with ⟨hb21, h18⟩ | ⟨hb22, h18⟩
      · refine SWp.condT' (b := decide (i17 < (s1.size : Int))) (by simp) hb21 ?_
        refine SWp.skip ?_
        show SWp E C _ _ _
        refine SWp.seq ?_
        refine SWp.block ?_
        obtain ⟨v32, hj23, h18⟩ := bind_some h18
        refine SWp.seqRC rfl (hPB _ rfl) [0, 3, 31] [] (fun _ : Unit => ⟨[(0, .t (vs s1)), (3, .t (vi i17)), (31, .t (vb v32))], []⟩) (fun _ => True) (fun _ _ => ?_) fun K24 hK24 => ?_
        rotate_left
        · refine wps_cons rfl fun K hK => ?_; simp [hN']; refine hK _ ?_; clear hK
          refine wps_cons rfl fun K hK => ?_; simp [hN']; refine hK _ ?_; clear hK
          obtain ⟨c25, hc25, hj23⟩ := bind_some hj23
          obtain ⟨hc25a, hc25b, hc25c⟩ := sAt_some hc25
          refine wps_cons rfl fun K hK => ?_; simp [hN', hc25a, hc25b, hc25c]; refine hK _ ?_; clear hK
          obtain ⟨r26, hc27, hj23⟩ := bind_some hj23
          refine wps_call [(.take, .tmp 22)] rfl rfl ent142 (impl_isLetter_ok _ hc27) fun K hK => ?_; simp [hN', hc25a, hc25b, hc25c]; refine hK _ ?_; clear hK
          iterate 2 (refine wps_cons rfl fun K hK => ?_; simp [hN', hc25a, hc25b, hc25c]; refine hK _ ?_; clear hK)
          rcases ite_or hj23 with ⟨hb28, hj23⟩ | ⟨hb29, hj23⟩
          · have hb28s := hb28
            try simp at hb28s
            iterate 3 (refine wps_cons rfl fun K hK => ?_; simp [hN', hc25a, hc25b, hc25c, hb28, hb28s]; refine hK _ ?_; clear hK)
            obtain ⟨r30, hc31, hj23⟩ := bind_some hj23
            refine wps_call [(.take, .tmp 28)] rfl rfl ent143 (impl_isFigure_ok _ hc31) fun K hK => ?_; simp [hN', hc25a, hc25b, hc25c, hb28, hb28s]; refine hK _ ?_; clear hK
            iterate 2 (refine wps_cons rfl fun K hK => ?_; simp [hN', hc25a, hc25b, hc25c, hb28, hb28s]; refine hK _ ?_; clear hK)
            refine wps_nil ?_
            cases hj23
            exact hK24 _ () [] trivial (by simp [hN', hc25a, hc25b, hc25c, hb28, hb28s])
          · have hb29s := hb29
            try simp at hb29s
            iterate 5 (refine wps_off fun K hK => ?_; simp [hN', hc25a, hc25b, hc25c, hb29, hb29s]; refine hK _ ?_; clear hK)
            refine wps_cons rfl fun K hK => ?_; simp [hN', hc25a, hc25b, hc25c, hb29, hb29s]; refine hK _ ?_; clear hK
            refine wps_nil ?_
            cases hj23
            exact hK24 _ () [] trivial (by simp [hN', hc25a, hc25b, hc25c, hb29, hb29s])
        rcases ite_or h18 with ⟨hb33, h18⟩ | ⟨hb34, h18⟩
        · refine SWp.condT' (b := v32) (by simp) hb33 ?_
          refine SWp.seqR rfl (hPB _ rfl) fun K hK => ?_
          refine wps_cons rfl fun K hK => ?_; simp [hN']; refine hK _ ?_; clear hK
          refine wps_nil (hK _ ?_); clear hK
          have h35 := congrArg some (ho19 _ (Option.some.inj h18).symm)
          cases h35
          try dsimp only at h
          cases h
          refine SWp.ret ?_
          simp [thenS, inBlockS, res118]
        · refine SWp.condF' (b := v32) (by simp) hb34 ?_
          refine SWp.skip ?_
          show SWp E C _ _ _
          refine SWp.reg rfl (hPB _ rfl) fun K hK => ?_
          iterate 3 (refine wps_cons rfl fun K hK => ?_; simp [hN']; refine hK _ ?_; clear hK)
          refine wps_nil (hK _ ?_); clear hK
          cases h18
          exact ⟨_, [], rfl, by simp [hN']⟩
      · refine SWp.condF' (b := decide (i17 < (s1.size : Int))) (by simp) hb22 ?_
        refine SWp.exit ?_
        have h36 := congrArg some (ho19 _ (Option.some.inj h18).symm)
        cases h36
        exact hK15 _ _ [] rfl (by simp [hN'])
    subst hv
    obtain ⟨⟩ := v
    try dsimp only at h ⊢
    refine SWp.seqR rfl (hPB _ rfl) fun K hK => ?_
    refine wps_cons rfl fun K hK => ?_; simp [hN']; refine hK _ ?_; clear hK
    obtain ⟨r37, hc38, h⟩ := bind_some h
    refine wps_call [(.take, .tmp 32)] rfl rfl ent144 (impl_KeyWord_ok _ hc38) fun K hK => ?_; simp [hN']; refine hK _ ?_; clear hK
    iterate 2 (refine wps_cons rfl fun K hK => ?_; simp [hN']; refine hK _ ?_; clear hK)
    refine wps_nil (hK _ ?_); clear hK
    cases h
    refine SWp.ret ?_
    simp [thenS, inBlockS, res118]
end Go.Proofs.T
set_option linter.unusedVariables false
set_option linter.unusedSimpArgs false
set_option maxHeartbeats 1000000
namespace Go.Proofs.T
open Go.OM
theorem res145 : Tryd.f145.results.toList = [.tmp 6] := rfl
theorem ent145 : Enters E.P 145 := enters_of Tryd.func145 (by simp [Tryd.f145]) rfl
theorem impl_isPlace_ok (c1 : GCode) (n2 : Int) (has3 : Bool) {r0 : Bool} (h : impl_isPlace c1 n2 has3 = some r0) : Ok E 145 [.val (GCode.enc false c1), .val (vi n2), .val (vb has3)] [vb r0] [] := by
  refine ok_of_body (fn := Tryd.f145) Tryd.func145 rfl (by simp [Tryd.f145]) fun C hN hP => ?_
  have hPB : ∀ l, pinK [] l = true → pinB C.pin l = true := pinB_of (by rw [hP]; rfl)
  have hN' : C.N = 16 := hN
  clear hN
  unfold impl_isPlace at h
  refine SWp.seqR rfl (hPB _ rfl) fun K hK => ?_
  iterate 2 (refine wps_cons rfl fun K hK => ?_; simp [hN']; refine hK _ ?_; clear hK)
  refine wps_nil (hK _ ?_); clear hK
  refine SWp.seq ?_
  refine SWp.seqR rfl (hPB _ rfl) fun K hK => ?_
  refine wps_cons rfl fun K hK => ?_; simp [hN']; refine hK _ ?_; clear hK
  refine wps_nil (hK _ ?_); clear hK
  rcases ite_or h with ⟨hb4, h⟩ | ⟨hb5, h⟩
  · refine SWp.condT' (b := has3) (by simp) hb4 ?_
    refine SWp.seqR rfl (hPB _ rfl) fun K hK => ?_
    iterate 5 (refine wps_cons rfl fun K hK => ?_; simp [hN']; refine hK _ ?_; clear hK)
    obtain ⟨r6, hc7, h⟩ := bind_some h
    refine wps_call [(.take, .tmp 8), (.take, .const (.int .i64 0)), (.take, .tmp 12)] rfl rfl ent91 (impl_in_ok _ _ _ hc7) fun K hK => ?_; simp [hN']; refine hK _ ?_; clear hK
    refine wps_cons rfl fun K hK => ?_; simp [hN']; refine hK _ ?_; clear hK
    refine wps_nil (hK _ ?_); clear hK
    cases h
    refine SWp.ret ?_
    simp [thenS, inBlockS, res145]
  · refine SWp.condF' (b := has3) (by simp) hb5 ?_
    refine SWp.skip ?_
    show SWp E C _ _ _
    refine SWp.seqR rfl (hPB _ rfl) fun K hK => ?_
    iterate 3 (refine wps_cons rfl fun K hK => ?_; simp [hN']; refine hK _ ?_; clear hK)
    refine wps_nil (hK _ ?_); clear hK
    cases h
    refine SWp.ret ?_
    simp [thenS, inBlockS, res145]
end Go.Proofs.T
set_option linter.unusedVariables false
set_option linter.unusedSimpArgs false
set_option maxHeartbeats 1000000
namespace Go.Proofs.T
open Go.OM
theorem res146 : Tryd.f146.results.toList = [.tmp 2] := rfl
theorem ent146 : Enters E.P 146 := enters_of Tryd.func146 (by simp [Tryd.f146]) rfl
theorem impl_hasA_ok (op1 : Int) {r0 : Bool} (h : impl_hasA op1 = some r0) : Ok E 146 [.val (vi op1)] [vb r0] [] := by
  refine ok_of_body (fn := Tryd.f146) Tryd.func146 rfl (by simp [Tryd.f146]) fun C hN hP => ?_
  have hPB : ∀ l, pinK [] l = true → pinB C.pin l = true := pinB_of (by rw [hP]; rfl)
  have hN' : C.N = 13 := hN
  clear hN
  unfold impl_hasA at h
  refine SWp.seqR rfl (hPB _ rfl) fun K hK => ?_
  refine wps_cons rfl fun K hK => ?_; simp [hN']; refine hK _ ?_; clear hK
  refine wps_nil (hK _ ?_); clear hK
  obtain ⟨v10, hj2, h⟩ := bind_some h
  refine SWp.seqRC rfl (hPB _ rfl) [2] [] (fun _ : Unit => ⟨[(2, .t (vb v10))], []⟩) (fun _ => True) (fun _ _ => ?_) fun K3 hK3 => ?_
  rotate_left
  · refine wps_cons rfl fun K hK => ?_; simp [hN']; refine hK _ ?_; clear hK
    obtain ⟨r4, hc5, hj2⟩ := bind_some hj2
    refine wps_call [(.take, .tmp 3), (.take, .const (.int .i64 1)), (.take, .const (.int .i64 17))] rfl rfl ent91 (impl_in_ok _ _ _ hc5) fun K hK => ?_; simp [hN']; refine hK _ ?_; clear hK
    refine wps_cons rfl fun K hK => ?_; simp [hN']; refine hK _ ?_; clear hK
    rcases ite_or hj2 with ⟨hb6, hj2⟩ | ⟨hb7, hj2⟩
    · have hb6s := hb6
      try simp at hb6s
      iterate 2 (refine wps_off fun K hK => ?_; simp [hN', hb6, hb6s]; refine hK _ ?_; clear hK)
      iterate 2 (refine wps_cons rfl fun K hK => ?_; simp [hN', hb6, hb6s]; refine hK _ ?_; clear hK)
      iterate 2 (refine wps_off fun K hK => ?_; simp [hN', hb6, hb6s]; refine hK _ ?_; clear hK)
      iterate 2 (refine wps_cons rfl fun K hK => ?_; simp [hN', hb6, hb6s]; refine hK _ ?_; clear hK)
      refine wps_nil ?_
      cases hj2
      exact hK3 _ () [] trivial (by simp [hN', hb6, hb6s])
    · have hb7s := hb7
      try simp at hb7s
      iterate 4 (refine wps_cons rfl fun K hK => ?_; simp [hN', hb7, hb7s]; refine hK _ ?_; clear hK)
      rcases ite_or hj2 with ⟨hb8, hj2⟩ | ⟨hb9, hj2⟩
      · have hb8s := hb8
        try simp at hb8s
        iterate 2 (refine wps_off fun K hK => ?_; simp [hN', hb7, hb7s, hb8, hb8s]; refine hK _ ?_; clear hK)
        iterate 2 (refine wps_cons rfl fun K hK => ?_; simp [hN', hb7, hb7s, hb8, hb8s]; refine hK _ ?_; clear hK)
        refine wps_nil ?_
        cases hj2
        exact hK3 _ () [] trivial (by simp [hN', hb7, hb7s, hb8, hb8s])
      · have hb9s := hb9
        try simp at hb9s
        iterate 4 (refine wps_cons rfl fun K hK => ?_; simp [hN', hb7, hb7s, hb9, hb9s]; refine hK _ ?_; clear hK)
        refine wps_nil ?_
        cases hj2
        exact hK3 _ () [] trivial (by simp [hN', hb7, hb7s, hb9, hb9s])
  cases h
  refine SWp.ret ?_
  simp [thenS, inBlockS, res146]
end Go.Proofs.T
set_option linter.unusedVariables false
set_option linter.unusedSimpArgs false
set_option maxHeartbeats 1000000
namespace Go.Proofs.T
open Go.OM
theorem res147 : Tryd.f147.results.toList = [.tmp 2] := rfl
theorem ent147 : Enters E.P 147 := enters_of Tryd.func147 (by simp [Tryd.f147]) rfl
theorem impl_hasB_ok (op1 : Int) {r0 : Bool} (h : impl_hasB op1 = some r0) : Ok E 147 [.val (vi op1)] [vb r0] [] := by
  refine ok_of_body (fn := Tryd.f147) Tryd.func147 rfl (by simp [Tryd.f147]) fun C hN hP => ?_
  have hPB : ∀ l, pinK [] l = true → pinB C.pin l = true := pinB_of (by rw [hP]; rfl)
  have hN' : C.N = 17 := hN
  clear hN
  unfold impl_hasB at h
  refine SWp.seqR rfl (hPB _ rfl) fun K hK => ?_
  refine wps_cons rfl fun K hK => ?_; simp [hN']; refine hK _ ?_; clear hK
  refine wps_nil (hK _ ?_); clear hK
  obtain ⟨v14, hj2, h⟩ := bind_some h
  refine SWp.seqRC rfl (hPB _ rfl) [2] [] (fun _ : Unit => ⟨[(2, .t (vb v14))], []⟩) (fun _ => True) (fun _ _ => ?_) fun K3 hK3 => ?_
  rotate_left
  · refine wps_cons rfl fun K hK => ?_; simp [hN']; refine hK _ ?_; clear hK
    obtain ⟨r4, hc5, hj2⟩ := bind_some hj2
    refine wps_call [(.take, .tmp 3), (.take, .const (.int .i64 2)), (.take, .const (.int .i64 7))] rfl rfl ent91 (impl_in_ok _ _ _ hc5) fun K hK => ?_; simp [hN']; refine hK _ ?_; clear hK
    refine wps_cons rfl fun K hK => ?_; simp [hN']; refine hK _ ?_; clear hK
    rcases ite_or hj2 with ⟨hb6, hj2⟩ | ⟨hb7, hj2⟩
    · have hb6s := hb6
      try simp at hb6s
      iterate 2 (refine wps_off fun K hK => ?_; simp [hN', hb6, hb6s]; refine hK _ ?_; clear hK)
      iterate 2 (refine wps_cons rfl fun K hK => ?_; simp [hN', hb6, hb6s]; refine hK _ ?_; clear hK)
      iterate 2 (refine wps_off fun K hK => ?_; simp [hN', hb6, hb6s]; refine hK _ ?_; clear hK)
      iterate 2 (refine wps_cons rfl fun K hK => ?_; simp [hN', hb6, hb6s]; refine hK _ ?_; clear hK)
      iterate 2 (refine wps_off fun K hK => ?_; simp [hN', hb6, hb6s]; refine hK _ ?_; clear hK)
      iterate 2 (refine wps_cons rfl fun K hK => ?_; simp [hN', hb6, hb6s]; refine hK _ ?_; clear hK)
      refine wps_nil ?_
      cases hj2
      exact hK3 _ () [] trivial (by simp [hN', hb6, hb6s])
    · have hb7s := hb7
      try simp at hb7s
      refine wps_cons rfl fun K hK => ?_; simp [hN', hb7, hb7s]; refine hK _ ?_; clear hK
      obtain ⟨r8, hc9, hj2⟩ := bind_some hj2
      refine wps_call [(.take, .tmp 6), (.take, .const (.int .i64 9)), (.take, .const (.int .i64 12))] rfl rfl ent91 (impl_in_ok _ _ _ hc9) fun K hK => ?_; simp [hN', hb7, hb7s]; refine hK _ ?_; clear hK
      iterate 2 (refine wps_cons rfl fun K hK => ?_; simp [hN', hb7, hb7s]; refine hK _ ?_; clear hK)
      rcases ite_or hj2 with ⟨hb10, hj2⟩ | ⟨hb11, hj2⟩
      · have hb10s := hb10
        try simp at hb10s
        iterate 2 (refine wps_off fun K hK => ?_; simp [hN', hb7, hb7s, hb10, hb10s]; refine hK _ ?_; clear hK)
        iterate 2 (refine wps_cons rfl fun K hK => ?_; simp [hN', hb7, hb7s, hb10, hb10s]; refine hK _ ?_; clear hK)
        iterate 2 (refine wps_off fun K hK => ?_; simp [hN', hb7, hb7s, hb10, hb10s]; refine hK _ ?_; clear hK)
        iterate 2 (refine wps_cons rfl fun K hK => ?_; simp [hN', hb7, hb7s, hb10, hb10s]; refine hK _ ?_; clear hK)
        refine wps_nil ?_
        cases hj2
        exact hK3 _ () [] trivial (by simp [hN', hb7, hb7s, hb10, hb10s])
      · have hb11s := hb11
        try simp at hb11s
        iterate 4 (refine wps_cons rfl fun K hK => ?_; simp [hN', hb7, hb7s, hb11, hb11s]; refine hK _ ?_; clear hK)
        rcases ite_or hj2 with ⟨hb12, hj2⟩ | ⟨hb13, hj2⟩
        · have hb12s := hb12
          try simp at hb12s
          iterate 2 (refine wps_off fun K hK => ?_; simp [hN', hb7, hb7s, hb11, hb11s, hb12, hb12s]; refine hK _ ?_; clear hK)
          iterate 2 (refine wps_cons rfl fun K hK => ?_; simp [hN', hb7, hb7s, hb11, hb11s, hb12, hb12s]; refine hK _ ?_; clear hK)
          refine wps_nil ?_
          cases hj2
          exact hK3 _ () [] trivial (by simp [hN', hb7, hb7s, hb11, hb11s, hb12, hb12s])
        · have hb13s := hb13
          try simp at hb13s
          iterate 4 (refine wps_cons rfl fun K hK => ?_; simp [hN', hb7, hb7s, hb11, hb11s, hb13, hb13s]; refine hK _ ?_; clear hK)
          refine wps_nil ?_
          cases hj2
          exact hK3 _ () [] trivial (by simp [hN', hb7, hb7s, hb11, hb11s, hb13, hb13s])
  cases h
  refine SWp.ret ?_
  simp [thenS, inBlockS, res147]
end Go.Proofs.T
set_option linter.unusedVariables false
set_option linter.unusedSimpArgs false
set_option maxHeartbeats 1000000
namespace Go.Proofs.T
open Go.OM
theorem res148 : Tryd.f148.results.toList = [.tmp 2] := rfl
theorem ent148 : Enters E.P 148 := enters_of Tryd.func148 (by simp [Tryd.f148]) rfl
theorem impl_hasC_ok (op1 : Int) {r0 : Bool} (h : impl_hasC op1 = some r0) : Ok E 148 [.val (vi op1)] [vb r0] [] := by
  refine ok_of_body (fn := Tryd.f148) Tryd.func148 rfl (by simp [Tryd.f148]) fun C hN hP => ?_
  have hPB : ∀ l, pinK [] l = true → pinB C.pin l = true := pinB_of (by rw [hP]; rfl)
  have hN' : C.N = 5 := hN
  clear hN
  unfold impl_hasC at h
  refine SWp.seqR rfl (hPB _ rfl) fun K hK => ?_
  refine wps_cons rfl fun K hK => ?_; simp [hN']; refine hK _ ?_; clear hK
  refine wps_nil (hK _ ?_); clear hK
  refine SWp.seqR rfl (hPB _ rfl) fun K hK => ?_
  refine wps_cons rfl fun K hK => ?_; simp [hN']; refine hK _ ?_; clear hK
  obtain ⟨r2, hc3, h⟩ := bind_some h
  refine wps_call [(.take, .tmp 3), (.take, .const (.int .i64 10)), (.take, .const (.int .i64 12))] rfl rfl ent91 (impl_in_ok _ _ _ hc3) fun K hK => ?_; simp [hN']; refine hK _ ?_; clear hK
  refine wps_cons rfl fun K hK => ?_; simp [hN']; refine hK _ ?_; clear hK
  refine wps_nil (hK _ ?_); clear hK
  cases h
  refine SWp.ret ?_
  simp [thenS, inBlockS, res148]
end Go.Proofs.T
set_option linter.unusedVariables false
set_option linter.unusedSimpArgs false
set_option maxHeartbeats 8000000
namespace Go.Proofs.T
open Go.OM
theorem res119 : Tryd.f119.results.toList = [.tmp 4] := rfl
theorem ent119 : Enters E.P 119 := enters_of Tryd.func119 (by simp [Tryd.f119]) rfl
theorem impl_WordOk_ok (c1 : GCode) (x2 : GIns) {r0 : Bool} (h : impl_WordOk c1 x2 = some r0) : Ok E 119 [.val (GCode.enc false c1), .val (GIns.enc false x2)] [vb r0] [] := by
  refine ok_of_body (fn := Tryd.f119) Tryd.func119 rfl (by simp [Tryd.f119]) fun C hN hP => ?_
  have hPB : ∀ l, pinK [] l = true → pinB C.pin l = true := pinB_of (by rw [hP]; rfl)
  have hN' : C.N = 107 := hN
  clear hN
  unfold impl_WordOk at h
  refine SWp.seqR rfl (hPB _ rfl) fun K hK => ?_
  iterate 3 (refine wps_cons rfl fun K hK => ?_; simp [hN']; refine hK _ ?_; clear hK)
  refine wps_nil (hK _ ?_); clear hK
  refine SWp.seq ?_
  refine SWp.seqR rfl (hPB _ rfl) fun K hK => ?_
  iterate 2 (refine wps_cons rfl fun K hK => ?_; simp [hN']; refine hK _ ?_; clear hK)
  obtain ⟨r3, hc4, h⟩ := bind_some h
  refine wps_call [(.take, .tmp 10), (.take, .const (.int .i64 1)), (.take, .const (.int .i64 20))] rfl rfl ent91 (impl_in_ok _ _ _ hc4) fun K hK => ?_; simp [hN']; refine hK _ ?_; clear hK
  refine wps_cons rfl fun K hK => ?_; simp [hN']; refine hK _ ?_; clear hK
  refine wps_nil (hK _ ?_); clear hK
  rcases ite_or h with ⟨hb5, h⟩ | ⟨hb6, h⟩
  · refine SWp.condT' (b := !r3) (by simp) hb5 ?_
    refine SWp.seqR rfl (hPB _ rfl) fun K hK => ?_
    refine wps_cons rfl fun K hK => ?_; simp [hN']; refine hK _ ?_; clear hK
    refine wps_nil (hK _ ?_); clear hK
    cases h
    refine SWp.ret ?_
    simp [thenS, inBlockS, res119]
  · refine SWp.condF' (b := !r3) (by simp) hb6 ?_
    refine SWp.skip ?_
    show SWp E C _ _ _
    obtain ⟨none13, hj7, h⟩ := bind_some h
    refine SWp.seqRC rfl (hPB _ rfl) [2, 3, 5] [2, 3] (fun _ : Unit => ⟨[(2, .ref (.box 2) 0 []), (3, .ref (.box 3) 0 []), (5, .t (vb none13))], [(2, [vs c1.Name, vi c1.Params, .sl false 1 (List.map vi c1.Locals), .sl false 7 (List.map (GIns.enc false) c1.Words)]), (3, [vi x2.Op, vi x2.A, vi x2.B, vi x2.C, vi x2.Num, vs x2.Name, .sl false 1 (List.map vi x2.Args)])]⟩) (fun _ => True) (fun _ _ => ?_) fun K8 hK8 => ?_
    rotate_left
    · refine wps_cons rfl fun K hK => ?_; simp [hN']; refine hK _ ?_; clear hK
      iterate 3 (refine wps_cons rfl fun K hK => ?_; simp [hN']; refine hK _ ?_; clear hK)
      rcases ite_or hj7 with ⟨hb9, hj7⟩ | ⟨hb10, hj7⟩
      · have hb9s := hb9
        try simp at hb9s
        iterate 3 (refine wps_off fun K hK => ?_; simp [hN', hb9, hb9s]; refine hK _ ?_; clear hK)
        iterate 7 (refine wps_cons rfl fun K hK => ?_; simp [hN', hb9, hb9s]; refine hK _ ?_; clear hK)
        refine wps_nil ?_
        cases hj7
        exact hK8 _ () [] trivial (by simp [hN', hb9, hb9s])
      · have hb10s := hb10
        try simp at hb10s
        iterate 5 (refine wps_cons rfl fun K hK => ?_; simp [hN', hb10, hb10s]; refine hK _ ?_; clear hK)
        rcases ite_or hj7 with ⟨hb11, hj7⟩ | ⟨hb12, hj7⟩
        · have hb11s := hb11
          try simp at hb11s
          iterate 5 (refine wps_cons rfl fun K hK => ?_; simp [hN', hb10, hb10s, hb11, hb11s]; refine hK _ ?_; clear hK)
          refine wps_nil ?_
          cases hj7
          exact hK8 _ () [] trivial (by simp [hN', hb10, hb10s, hb11, hb11s])
        · have hb12s := hb12
          try simp at hb12s
          iterate 3 (refine wps_off fun K hK => ?_; simp [hN', hb10, hb10s, hb12, hb12s]; refine hK _ ?_; clear hK)
          iterate 2 (refine wps_cons rfl fun K hK => ?_; simp [hN', hb10, hb10s, hb12, hb12s]; refine hK _ ?_; clear hK)
          refine wps_nil ?_
          cases hj7
          exact hK8 _ () [] trivial (by simp [hN', hb10, hb10s, hb12, hb12s])
    refine SWp.seq ?_
    obtain ⟨v44, hj14, h⟩ := bind_some h
    refine SWp.seqC [2, 3, 57] [2, 3] (fun _ : Unit => ⟨[(2, .ref (.box 2) 0 []), (3, .ref (.box 3) 0 []), (57, .t (vb v44))], [(2, [vs c1.Name, vi c1.Params, .sl false 1 (List.map vi c1.Locals), .sl false 7 (List.map (GIns.enc false) c1.Words)]), (3, [vi x2.Op, vi x2.A, vi x2.B, vi x2.C, vi x2.Num, vs x2.Name, .sl false 1 (List.map vi x2.Args)])]⟩) (fun _ => True) (fun _ _ => ?_) fun K15 hK15 => ?_
    rotate_left
    · rcases ite_or hj14 with ⟨hb16, hj14⟩ | ⟨hb17, hj14⟩
      · have hb16s := hb16
        try simp at hb16s
        obtain ⟨r18, hc19, hj14⟩ := bind_some hj14
        obtain ⟨r20, hc21, hj14⟩ := bind_some hj14
        rcases ite_or hj14 with ⟨hb22, hj14⟩ | ⟨hb23, hj14⟩
        · have hb22s := hb22
          try simp at hb22s
          refine SWp.drawT rfl (hPB _ rfl) [(26, .t (vb none13)), (27, .t (vb (!none13))), (28, .t (vb (!none13))), (29, .t (GCode.enc false c1)), (30, .ref (.box 3) 1 []), (31, .t (vi x2.A)), (32, .ref (.box 3) 0 []), (33, .t (vi x2.Op)), (34, .t (vb r18)), (35, .t (vb r20)), (36, .t (vb (!r20))), (37, .t (vb (!r20))), (38, .t (vb (!r20))), (39, .tup []), (40, .tup []), (41, .tup []), (42, .tup []), (43, .tup []), (44, .tup []), (45, .tup []), (46, .tup []), (47, .t (vb true)), (48, .t (vb true)), (49, .tup []), (50, .tup []), (51, .tup []), (52, .tup []), (53, .tup []), (54, .tup [])] [[], [0], [0, 1], [0, 1, 2], [0, 1, 2], [0, 1, 2, 4], [0, 1, 2], [0, 1, 2, 6], [0, 1, 2, 6, 7], [0, 1, 2, 3, 4, 5, 6, 7, 8], [0, 1, 2, 3, 4, 5, 6, 7, 8, 9], [0, 1, 2, 3, 4, 5, 6, 7, 8, 9, 10], [0, 1, 2, 3, 4, 5, 6, 7, 8, 9, 10, 11], [0, 1, 2, 3, 4, 5, 6, 7, 8, 9, 10, 11, 12], [0, 1, 2, 3, 4, 5, 6, 7, 8, 9, 10, 11, 12], [0, 1, 2, 3, 4, 5, 6, 7, 8, 9, 10, 11, 12, 14], [0, 1, 2, 3, 4, 5, 6, 7, 8, 9, 10, 11, 12], [0, 1, 2, 3, 4, 5, 6, 7, 8, 9, 10, 11, 12, 16], [0, 1, 2, 3, 4, 5, 6, 7, 8, 9, 10, 11, 12, 16, 17], [0, 1, 2, 3, 4, 5, 6, 7, 8, 9, 10, 11, 12, 13, 14, 15, 16, 17, 18], [0, 1, 2, 3, 4, 5, 6, 7, 8, 9, 10, 11, 12, 13, 14, 15, 16, 17, 18, 19], [0, 1, 2, 3, 4, 5, 6, 7, 8, 9, 10, 11, 12, 13, 14, 15, 16, 17, 18, 19, 20], [0, 1, 2, 3, 4, 5, 6, 7, 8, 9, 10, 11, 12, 13, 14, 15, 16, 17, 18, 19, 20, 21], [0, 1, 2, 3, 4, 5, 6, 7, 8, 9, 10, 11, 12, 13, 14, 15, 16, 17, 18, 19, 20, 21, 22], [0, 1, 2, 3, 4, 5, 6, 7, 8, 9, 10, 11, 12, 13, 14, 15, 16, 17, 18, 19, 20, 21, 22], [0, 1, 2, 3, 4, 5, 6, 7, 8, 9, 10, 11, 12, 13, 14, 15, 16, 17, 18, 19, 20, 21, 22, 24], [0, 1, 2, 3, 4, 5, 6, 7, 8, 9, 10, 11, 12, 13, 14, 15, 16, 17, 18, 19, 20, 21, 22], [0, 1, 2, 3, 4, 5, 6, 7, 8, 9, 10, 11, 12, 13, 14, 15, 16, 17, 18, 19, 20, 21, 22, 26], [0, 1, 2, 3, 4, 5, 6, 7, 8, 9, 10, 11, 12, 13, 14, 15, 16, 17, 18, 19, 20, 21, 22, 26, 27], [0, 1, 2, 3, 4, 5, 6, 7, 8, 9, 10, 11, 12, 13, 14, 15, 16, 17, 18, 19, 20, 21, 22, 23, 24, 25, 26, 27, 28], [0, 1, 2, 3, 4, 5, 6, 7, 8, 9, 10, 11, 12, 13, 14, 15, 16, 17, 18, 19, 20, 21, 22, 23, 24, 25, 26, 27, 28, 29], [0, 1, 2, 3, 4, 5, 6, 7, 8, 9, 10, 11, 12, 13, 14, 15, 16, 17, 18, 19, 20, 21, 22, 23, 24, 25, 26, 27, 28, 29, 30]] (by simp) (by simp) (by simp [look]) rfl rfl rfl ?_ fun K hK => ?_
          · refine ⟨?_, ?_, ?_, ?_, ?_, ?_, ?_, ?_, ?_, ?_, ?_, ?_, ?_, ?_, ?_, ?_, ?_, ?_, ?_, ?_, ?_, ?_, ?_, ?_, ?_, ?_, ?_, ?_, ?_, trivial⟩
            all_goals (intro τ hbx hb hd hf K hK; try simp [vsAt] at hd; simp [vsAt] at hf; first | (refine wps_cons rfl fun K' hK' => ?_; simp [hN', hbx, hb, hd, hf, hb16, hb16s, hb22, hb22s]; exact hK' _ (wps_nil (hK _ (by simp [vsAt, hbx, hb16, hb16s, hb22, hb22s])))) | (refine wps_call [(.take, .tmp 33)] rfl rfl ent146 (impl_hasA_ok _ hc19) fun K' hK' => ?_; simp [hN', hbx, hb, hd, hf, hb16, hb16s, hb22, hb22s]; exact hK' _ (wps_nil (hK _ (by simp [vsAt, hbx, hb16, hb16s, hb22, hb22s])))) | (refine wps_call [(.take, .tmp 29), (.take, .tmp 31), (.take, .tmp 34)] rfl rfl ent145 (impl_isPlace_ok _ _ _ hc21) fun K' hK' => ?_; simp [hN', hbx, hb, hd, hf, hb16, hb16s, hb22, hb22s]; exact hK' _ (wps_nil (hK _ (by simp [vsAt, hbx, hb16, hb16s, hb22, hb22s])))) | (refine wps_off fun K' hK' => ?_; simp [hN', hbx, hb, hd, hf, hb16, hb16s, hb22, hb22s]; exact hK' _ (wps_nil (hK _ (by simp [vsAt, hbx, hb16, hb16s, hb22, hb22s])))))
          iterate 2 (refine wps_off fun K hK => ?_; simp [hN', hb16, hb16s, hb22, hb22s]; refine hK _ ?_; clear hK)
          refine wps_cons rfl fun K hK => ?_; simp [hN', hb16, hb16s, hb22, hb22s]; refine hK _ ?_; clear hK
          refine wps_nil (hK _ ?_); clear hK
          cases hj14
          exact hK15 _ () [] trivial (by simp [hN', hb16, hb16s, hb22, hb22s])
        · have hb23s := hb23
          try simp at hb23s
          obtain ⟨r24, hc25, hj14⟩ := bind_some hj14
          obtain ⟨r26, hc27, hj14⟩ := bind_some hj14
          rcases ite_or hj14 with ⟨hb28, hj14⟩ | ⟨hb29, hj14⟩
          · have hb28s := hb28
            try simp at hb28s
            refine SWp.drawT rfl (hPB _ rfl) [(26, .t (vb none13)), (27, .t (vb (!none13))), (28, .t (vb (!none13))), (29, .t (GCode.enc false c1)), (30, .ref (.box 3) 1 []), (31, .t (vi x2.A)), (32, .ref (.box 3) 0 []), (33, .t (vi x2.Op)), (34, .t (vb r18)), (35, .t (vb r20)), (36, .t (vb (!r20))), (37, .t (vb (!r20))), (38, .t (vb (!r20))), (39, .t (GCode.enc false c1)), (40, .ref (.box 3) 2 []), (41, .t (vi x2.B)), (42, .ref (.box 3) 0 []), (43, .t (vi x2.Op)), (44, .t (vb r24)), (45, .t (vb r26)), (46, .t (vb (!r26))), (47, .t (vb (!r26))), (48, .t (vb (!r26))), (49, .tup []), (50, .tup []), (51, .tup []), (52, .tup []), (53, .tup []), (54, .tup [])] [[], [0], [0, 1], [0, 1, 2], [0, 1, 2], [0, 1, 2, 4], [0, 1, 2], [0, 1, 2, 6], [0, 1, 2, 6, 7], [0, 1, 2, 3, 4, 5, 6, 7, 8], [0, 1, 2, 3, 4, 5, 6, 7, 8, 9], [0, 1, 2, 3, 4, 5, 6, 7, 8, 9, 10], [0, 1, 2, 3, 4, 5, 6, 7, 8, 9, 10, 11], [0, 1, 2, 3, 4, 5, 6, 7, 8, 9, 10, 11, 12], [0, 1, 2, 3, 4, 5, 6, 7, 8, 9, 10, 11, 12], [0, 1, 2, 3, 4, 5, 6, 7, 8, 9, 10, 11, 12, 14], [0, 1, 2, 3, 4, 5, 6, 7, 8, 9, 10, 11, 12], [0, 1, 2, 3, 4, 5, 6, 7, 8, 9, 10, 11, 12, 16], [0, 1, 2, 3, 4, 5, 6, 7, 8, 9, 10, 11, 12, 16, 17], [0, 1, 2, 3, 4, 5, 6, 7, 8, 9, 10, 11, 12, 13, 14, 15, 16, 17, 18], [0, 1, 2, 3, 4, 5, 6, 7, 8, 9, 10, 11, 12, 13, 14, 15, 16, 17, 18, 19], [0, 1, 2, 3, 4, 5, 6, 7, 8, 9, 10, 11, 12, 13, 14, 15, 16, 17, 18, 19, 20], [0, 1, 2, 3, 4, 5, 6, 7, 8, 9, 10, 11, 12, 13, 14, 15, 16, 17, 18, 19, 20, 21], [0, 1, 2, 3, 4, 5, 6, 7, 8, 9, 10, 11, 12, 13, 14, 15, 16, 17, 18, 19, 20, 21, 22], [0, 1, 2, 3, 4, 5, 6, 7, 8, 9, 10, 11, 12, 13, 14, 15, 16, 17, 18, 19, 20, 21, 22], [0, 1, 2, 3, 4, 5, 6, 7, 8, 9, 10, 11, 12, 13, 14, 15, 16, 17, 18, 19, 20, 21, 22, 24], [0, 1, 2, 3, 4, 5, 6, 7, 8, 9, 10, 11, 12, 13, 14, 15, 16, 17, 18, 19, 20, 21, 22], [0, 1, 2, 3, 4, 5, 6, 7, 8, 9, 10, 11, 12, 13, 14, 15, 16, 17, 18, 19, 20, 21, 22, 26], [0, 1, 2, 3, 4, 5, 6, 7, 8, 9, 10, 11, 12, 13, 14, 15, 16, 17, 18, 19, 20, 21, 22, 26, 27], [0, 1, 2, 3, 4, 5, 6, 7, 8, 9, 10, 11, 12, 13, 14, 15, 16, 17, 18, 19, 20, 21, 22, 23, 24, 25, 26, 27, 28], [0, 1, 2, 3, 4, 5, 6, 7, 8, 9, 10, 11, 12, 13, 14, 15, 16, 17, 18, 19, 20, 21, 22, 23, 24, 25, 26, 27, 28, 29], [0, 1, 2, 3, 4, 5, 6, 7, 8, 9, 10, 11, 12, 13, 14, 15, 16, 17, 18, 19, 20, 21, 22, 23, 24, 25, 26, 27, 28, 29, 30]] (by simp) (by simp) (by simp [look]) rfl rfl rfl ?_ fun K hK => ?_
            · refine ⟨?_, ?_, ?_, ?_, ?_, ?_, ?_, ?_, ?_, ?_, ?_, ?_, ?_, ?_, ?_, ?_, ?_, ?_, ?_, ?_, ?_, ?_, ?_, ?_, ?_, ?_, ?_, ?_, ?_, trivial⟩
              all_goals (intro τ hbx hb hd hf K hK; try simp [vsAt] at hd; simp [vsAt] at hf; first | (refine wps_cons rfl fun K' hK' => ?_; simp [hN', hbx, hb, hd, hf, hb16, hb16s, hb23, hb23s, hb28, hb28s]; exact hK' _ (wps_nil (hK _ (by simp [vsAt, hbx, hb16, hb16s, hb23, hb23s, hb28, hb28s])))) | (refine wps_call [(.take, .tmp 33)] rfl rfl ent146 (impl_hasA_ok _ hc19) fun K' hK' => ?_; simp [hN', hbx, hb, hd, hf, hb16, hb16s, hb23, hb23s, hb28, hb28s]; exact hK' _ (wps_nil (hK _ (by simp [vsAt, hbx, hb16, hb16s, hb23, hb23s, hb28, hb28s])))) | (refine wps_call [(.take, .tmp 29), (.take, .tmp 31), (.take, .tmp 34)] rfl rfl ent145 (impl_isPlace_ok _ _ _ hc21) fun K' hK' => ?_; simp [hN', hbx, hb, hd, hf, hb16, hb16s, hb23, hb23s, hb28, hb28s]; exact hK' _ (wps_nil (hK _ (by simp [vsAt, hbx, hb16, hb16s, hb23, hb23s, hb28, hb28s])))) | (refine wps_call [(.take, .tmp 43)] rfl rfl ent147 (impl_hasB_ok _ hc25) fun K' hK' => ?_; simp [hN', hbx, hb, hd, hf, hb16, hb16s, hb23, hb23s, hb28, hb28s]; exact hK' _ (wps_nil (hK _ (by simp [vsAt, hbx, hb16, hb16s, hb23, hb23s, hb28, hb28s])))) | (refine wps_call [(.take, .tmp 39), (.take, .tmp 41), (.take, .tmp 44)] rfl rfl ent145 (impl_isPlace_ok _ _ _ hc27) fun K' hK' => ?_; simp [hN', hbx, hb, hd, hf, hb16, hb16s, hb23, hb23s, hb28, hb28s]; exact hK' _ (wps_nil (hK _ (by simp [vsAt, hbx, hb16, hb16s, hb23, hb23s, hb28, hb28s])))) | (refine wps_off fun K' hK' => ?_; simp [hN', hbx, hb, hd, hf, hb16, hb16s, hb23, hb23s, hb28, hb28s]; exact hK' _ (wps_nil (hK _ (by simp [vsAt, hbx, hb16, hb16s, hb23, hb23s, hb28, hb28s])))))
            iterate 2 (refine wps_off fun K hK => ?_; simp [hN', hb16, hb16s, hb23, hb23s, hb28, hb28s]; refine hK _ ?_; clear hK)
            refine wps_cons rfl fun K hK => ?_; simp [hN', hb16, hb16s, hb23, hb23s, hb28, hb28s]; refine hK _ ?_; clear hK
            refine wps_nil (hK _ ?_); clear hK
            cases hj14
            exact hK15 _ () [] trivial (by simp [hN', hb16, hb16s, hb23, hb23s, hb28, hb28s])
          · have hb29s := hb29
            try simp at hb29s
            obtain ⟨r30, hc31, hj14⟩ := bind_some hj14
            refine SWp.drawT rfl (hPB _ rfl) [(26, .t (vb none13)), (27, .t (vb (!none13))), (28, .t (vb (!none13))), (29, .t (GCode.enc false c1)), (30, .ref (.box 3) 1 []), (31, .t (vi x2.A)), (32, .ref (.box 3) 0 []), (33, .t (vi x2.Op)), (34, .t (vb r18)), (35, .t (vb r20)), (36, .t (vb (!r20))), (37, .t (vb (!r20))), (38, .t (vb (!r20))), (39, .t (GCode.enc false c1)), (40, .ref (.box 3) 2 []), (41, .t (vi x2.B)), (42, .ref (.box 3) 0 []), (43, .t (vi x2.Op)), (44, .t (vb r24)), (45, .t (vb r26)), (46, .t (vb (!r26))), (47, .t (vb (!r26))), (48, .t (vb (!r26))), (49, .t (GCode.enc false c1)), (50, .ref (.box 3) 3 []), (51, .t (vi x2.C)), (52, .ref (.box 3) 0 []), (53, .t (vi x2.Op)), (54, .t (vb r30))] [[], [0], [0, 1], [0, 1, 2], [0, 1, 2], [0, 1, 2, 4], [0, 1, 2], [0, 1, 2, 6], [0, 1, 2, 6, 7], [0, 1, 2, 3, 4, 5, 6, 7, 8], [0, 1, 2, 3, 4, 5, 6, 7, 8, 9], [0, 1, 2, 3, 4, 5, 6, 7, 8, 9, 10], [0, 1, 2, 3, 4, 5, 6, 7, 8, 9, 10, 11], [0, 1, 2, 3, 4, 5, 6, 7, 8, 9, 10, 11, 12], [0, 1, 2, 3, 4, 5, 6, 7, 8, 9, 10, 11, 12], [0, 1, 2, 3, 4, 5, 6, 7, 8, 9, 10, 11, 12, 14], [0, 1, 2, 3, 4, 5, 6, 7, 8, 9, 10, 11, 12], [0, 1, 2, 3, 4, 5, 6, 7, 8, 9, 10, 11, 12, 16], [0, 1, 2, 3, 4, 5, 6, 7, 8, 9, 10, 11, 12, 16, 17], [0, 1, 2, 3, 4, 5, 6, 7, 8, 9, 10, 11, 12, 13, 14, 15, 16, 17, 18], [0, 1, 2, 3, 4, 5, 6, 7, 8, 9, 10, 11, 12, 13, 14, 15, 16, 17, 18, 19], [0, 1, 2, 3, 4, 5, 6, 7, 8, 9, 10, 11, 12, 13, 14, 15, 16, 17, 18, 19, 20], [0, 1, 2, 3, 4, 5, 6, 7, 8, 9, 10, 11, 12, 13, 14, 15, 16, 17, 18, 19, 20, 21], [0, 1, 2, 3, 4, 5, 6, 7, 8, 9, 10, 11, 12, 13, 14, 15, 16, 17, 18, 19, 20, 21, 22], [0, 1, 2, 3, 4, 5, 6, 7, 8, 9, 10, 11, 12, 13, 14, 15, 16, 17, 18, 19, 20, 21, 22], [0, 1, 2, 3, 4, 5, 6, 7, 8, 9, 10, 11, 12, 13, 14, 15, 16, 17, 18, 19, 20, 21, 22, 24], [0, 1, 2, 3, 4, 5, 6, 7, 8, 9, 10, 11, 12, 13, 14, 15, 16, 17, 18, 19, 20, 21, 22], [0, 1, 2, 3, 4, 5, 6, 7, 8, 9, 10, 11, 12, 13, 14, 15, 16, 17, 18, 19, 20, 21, 22, 26], [0, 1, 2, 3, 4, 5, 6, 7, 8, 9, 10, 11, 12, 13, 14, 15, 16, 17, 18, 19, 20, 21, 22, 26, 27], [0, 1, 2, 3, 4, 5, 6, 7, 8, 9, 10, 11, 12, 13, 14, 15, 16, 17, 18, 19, 20, 21, 22, 23, 24, 25, 26, 27, 28], [0, 1, 2, 3, 4, 5, 6, 7, 8, 9, 10, 11, 12, 13, 14, 15, 16, 17, 18, 19, 20, 21, 22, 23, 24, 25, 26, 27, 28, 29], [0, 1, 2, 3, 4, 5, 6, 7, 8, 9, 10, 11, 12, 13, 14, 15, 16, 17, 18, 19, 20, 21, 22, 23, 24, 25, 26, 27, 28, 29, 30]] (by simp) (by simp) (by simp [look]) rfl rfl rfl ?_ fun K hK => ?_
            · refine ⟨?_, ?_, ?_, ?_, ?_, ?_, ?_, ?_, ?_, ?_, ?_, ?_, ?_, ?_, ?_, ?_, ?_, ?_, ?_, ?_, ?_, ?_, ?_, ?_, ?_, ?_, ?_, ?_, ?_, trivial⟩
              all_goals (intro τ hbx hb hd hf K hK; try simp [vsAt] at hd; simp [vsAt] at hf; first | (refine wps_cons rfl fun K' hK' => ?_; simp [hN', hbx, hb, hd, hf, hb16, hb16s, hb23, hb23s, hb29, hb29s]; exact hK' _ (wps_nil (hK _ (by simp [vsAt, hbx, hb16, hb16s, hb23, hb23s, hb29, hb29s])))) | (refine wps_call [(.take, .tmp 33)] rfl rfl ent146 (impl_hasA_ok _ hc19) fun K' hK' => ?_; simp [hN', hbx, hb, hd, hf, hb16, hb16s, hb23, hb23s, hb29, hb29s]; exact hK' _ (wps_nil (hK _ (by simp [vsAt, hbx, hb16, hb16s, hb23, hb23s, hb29, hb29s])))) | (refine wps_call [(.take, .tmp 29), (.take, .tmp 31), (.take, .tmp 34)] rfl rfl ent145 (impl_isPlace_ok _ _ _ hc21) fun K' hK' => ?_; simp [hN', hbx, hb, hd, hf, hb16, hb16s, hb23, hb23s, hb29, hb29s]; exact hK' _ (wps_nil (hK _ (by simp [vsAt, hbx, hb16, hb16s, hb23, hb23s, hb29, hb29s])))) | (refine wps_call [(.take, .tmp 43)] rfl rfl ent147 (impl_hasB_ok _ hc25) fun K' hK' => ?_; simp [hN', hbx, hb, hd, hf, hb16, hb16s, hb23, hb23s, hb29, hb29s]; exact hK' _ (wps_nil (hK _ (by simp [vsAt, hbx, hb16, hb16s, hb23, hb23s, hb29, hb29s])))) | (refine wps_call [(.take, .tmp 39), (.take, .tmp 41), (.take, .tmp 44)] rfl rfl ent145 (impl_isPlace_ok _ _ _ hc27) fun K' hK' => ?_; simp [hN', hbx, hb, hd, hf, hb16, hb16s, hb23, hb23s, hb29, hb29s]; exact hK' _ (wps_nil (hK _ (by simp [vsAt, hbx, hb16, hb16s, hb23, hb23s, hb29, hb29s])))) | (refine wps_call [(.take, .tmp 53)] rfl rfl ent148 (impl_hasC_ok _ hc31) fun K' hK' => ?_; simp [hN', hbx, hb, hd, hf, hb16, hb16s, hb23, hb23s, hb29, hb29s]; exact hK' _ (wps_nil (hK _ (by simp [vsAt, hbx, hb16, hb16s, hb23, hb23s, hb29, hb29s])))))
            obtain ⟨r32, hc33, hj14⟩ := bind_some hj14
            refine wps_call [(.take, .tmp 49), (.take, .tmp 51), (.take, .tmp 54)] rfl rfl ent145 (impl_isPlace_ok _ _ _ hc33) fun K hK => ?_; simp [hN', hb16, hb16s, hb23, hb23s, hb29, hb29s]; refine hK _ ?_; clear hK
            iterate 2 (refine wps_cons rfl fun K hK => ?_; simp [hN', hb16, hb16s, hb23, hb23s, hb29, hb29s]; refine hK _ ?_; clear hK)
            refine wps_nil (hK _ ?_); clear hK
            cases hj14
            exact hK15 _ () [] trivial (by simp [hN', hb16, hb16s, hb23, hb23s, hb29, hb29s])
      · have hb17s := hb17
        try simp at hb17s
        obtain ⟨r34, hc35, hj14⟩ := bind_some hj14
        obtain ⟨r36, hc37, hj14⟩ := bind_some hj14
        rcases ite_or hj14 with ⟨hb38, hj14⟩ | ⟨hb39, hj14⟩
        · have hb38s := hb38
          try simp at hb38s
          refine SWp.drawT rfl (hPB _ rfl) [(26, .t (vb none13)), (27, .t (vb (!none13))), (28, .t (vb (!none13))), (29, .tup []), (30, .tup []), (31, .tup []), (32, .tup []), (33, .tup []), (34, .tup []), (35, .tup []), (36, .tup []), (37, .t (vb false)), (38, .t (vb false)), (39, .t (GCode.enc false c1)), (40, .ref (.box 3) 2 []), (41, .t (vi x2.B)), (42, .ref (.box 3) 0 []), (43, .t (vi x2.Op)), (44, .t (vb r34)), (45, .t (vb r36)), (46, .t (vb (!r36))), (47, .t (vb (!r36))), (48, .t (vb (!r36))), (49, .tup []), (50, .tup []), (51, .tup []), (52, .tup []), (53, .tup []), (54, .tup [])] [[], [0], [0, 1], [0, 1, 2], [0, 1, 2], [0, 1, 2, 4], [0, 1, 2], [0, 1, 2, 6], [0, 1, 2, 6, 7], [0, 1, 2, 3, 4, 5, 6, 7, 8], [0, 1, 2, 3, 4, 5, 6, 7, 8, 9], [0, 1, 2, 3, 4, 5, 6, 7, 8, 9, 10], [0, 1, 2, 3, 4, 5, 6, 7, 8, 9, 10, 11], [0, 1, 2, 3, 4, 5, 6, 7, 8, 9, 10, 11, 12], [0, 1, 2, 3, 4, 5, 6, 7, 8, 9, 10, 11, 12], [0, 1, 2, 3, 4, 5, 6, 7, 8, 9, 10, 11, 12, 14], [0, 1, 2, 3, 4, 5, 6, 7, 8, 9, 10, 11, 12], [0, 1, 2, 3, 4, 5, 6, 7, 8, 9, 10, 11, 12, 16], [0, 1, 2, 3, 4, 5, 6, 7, 8, 9, 10, 11, 12, 16, 17], [0, 1, 2, 3, 4, 5, 6, 7, 8, 9, 10, 11, 12, 13, 14, 15, 16, 17, 18], [0, 1, 2, 3, 4, 5, 6, 7, 8, 9, 10, 11, 12, 13, 14, 15, 16, 17, 18, 19], [0, 1, 2, 3, 4, 5, 6, 7, 8, 9, 10, 11, 12, 13, 14, 15, 16, 17, 18, 19, 20], [0, 1, 2, 3, 4, 5, 6, 7, 8, 9, 10, 11, 12, 13, 14, 15, 16, 17, 18, 19, 20, 21], [0, 1, 2, 3, 4, 5, 6, 7, 8, 9, 10, 11, 12, 13, 14, 15, 16, 17, 18, 19, 20, 21, 22], [0, 1, 2, 3, 4, 5, 6, 7, 8, 9, 10, 11, 12, 13, 14, 15, 16, 17, 18, 19, 20, 21, 22], [0, 1, 2, 3, 4, 5, 6, 7, 8, 9, 10, 11, 12, 13, 14, 15, 16, 17, 18, 19, 20, 21, 22, 24], [0, 1, 2, 3, 4, 5, 6, 7, 8, 9, 10, 11, 12, 13, 14, 15, 16, 17, 18, 19, 20, 21, 22], [0, 1, 2, 3, 4, 5, 6, 7, 8, 9, 10, 11, 12, 13, 14, 15, 16, 17, 18, 19, 20, 21, 22, 26], [0, 1, 2, 3, 4, 5, 6, 7, 8, 9, 10, 11, 12, 13, 14, 15, 16, 17, 18, 19, 20, 21, 22, 26, 27], [0, 1, 2, 3, 4, 5, 6, 7, 8, 9, 10, 11, 12, 13, 14, 15, 16, 17, 18, 19, 20, 21, 22, 23, 24, 25, 26, 27, 28], [0, 1, 2, 3, 4, 5, 6, 7, 8, 9, 10, 11, 12, 13, 14, 15, 16, 17, 18, 19, 20, 21, 22, 23, 24, 25, 26, 27, 28, 29], [0, 1, 2, 3, 4, 5, 6, 7, 8, 9, 10, 11, 12, 13, 14, 15, 16, 17, 18, 19, 20, 21, 22, 23, 24, 25, 26, 27, 28, 29, 30]] (by simp) (by simp) (by simp [look]) rfl rfl rfl ?_ fun K hK => ?_
          · refine ⟨?_, ?_, ?_, ?_, ?_, ?_, ?_, ?_, ?_, ?_, ?_, ?_, ?_, ?_, ?_, ?_, ?_, ?_, ?_, ?_, ?_, ?_, ?_, ?_, ?_, ?_, ?_, ?_, ?_, trivial⟩
            all_goals (intro τ hbx hb hd hf K hK; try simp [vsAt] at hd; simp [vsAt] at hf; first | (refine wps_cons rfl fun K' hK' => ?_; simp [hN', hbx, hb, hd, hf, hb17, hb17s, hb38, hb38s]; exact hK' _ (wps_nil (hK _ (by simp [vsAt, hbx, hb17, hb17s, hb38, hb38s])))) | (refine wps_off fun K' hK' => ?_; simp [hN', hbx, hb, hd, hf, hb17, hb17s, hb38, hb38s]; exact hK' _ (wps_nil (hK _ (by simp [vsAt, hbx, hb17, hb17s, hb38, hb38s])))) | (refine wps_call [(.take, .tmp 43)] rfl rfl ent147 (impl_hasB_ok _ hc35) fun K' hK' => ?_; simp [hN', hbx, hb, hd, hf, hb17, hb17s, hb38, hb38s]; exact hK' _ (wps_nil (hK _ (by simp [vsAt, hbx, hb17, hb17s, hb38, hb38s])))) | (refine wps_call [(.take, .tmp 39), (.take, .tmp 41), (.take, .tmp 44)] rfl rfl ent145 (impl_isPlace_ok _ _ _ hc37) fun K' hK' => ?_; simp [hN', hbx, hb, hd, hf, hb17, hb17s, hb38, hb38s]; exact hK' _ (wps_nil (hK _ (by simp [vsAt, hbx, hb17, hb17s, hb38, hb38s])))))
          iterate 2 (refine wps_off fun K hK => ?_; simp [hN', hb17, hb17s, hb38, hb38s]; refine hK _ ?_; clear hK)
          refine wps_cons rfl fun K hK => ?_; simp [hN', hb17, hb17s, hb38, hb38s]; refine hK _ ?_; clear hK
          refine wps_nil (hK _ ?_); clear hK
          cases hj14
          exact hK15 _ () [] trivial (by simp [hN', hb17, hb17s, hb38, hb38s])
        · have hb39s := hb39
          try simp at hb39s
          obtain ⟨r40, hc41, hj14⟩ := bind_some hj14
          refine SWp.drawT rfl (hPB _ rfl) [(26, .t (vb none13)), (27, .t (vb (!none13))), (28, .t (vb (!none13))), (29, .tup []), (30, .tup []), (31, .tup []), (32, .tup []), (33, .tup []), (34, .tup []), (35, .tup []), (36, .tup []), (37, .t (vb false)), (38, .t (vb false)), (39, .t (GCode.enc false c1)), (40, .ref (.box 3) 2 []), (41, .t (vi x2.B)), (42, .ref (.box 3) 0 []), (43, .t (vi x2.Op)), (44, .t (vb r34)), (45, .t (vb r36)), (46, .t (vb (!r36))), (47, .t (vb (!r36))), (48, .t (vb (!r36))), (49, .t (GCode.enc false c1)), (50, .ref (.box 3) 3 []), (51, .t (vi x2.C)), (52, .ref (.box 3) 0 []), (53, .t (vi x2.Op)), (54, .t (vb r40))] [[], [0], [0, 1], [0, 1, 2], [0, 1, 2], [0, 1, 2, 4], [0, 1, 2], [0, 1, 2, 6], [0, 1, 2, 6, 7], [0, 1, 2, 3, 4, 5, 6, 7, 8], [0, 1, 2, 3, 4, 5, 6, 7, 8, 9], [0, 1, 2, 3, 4, 5, 6, 7, 8, 9, 10], [0, 1, 2, 3, 4, 5, 6, 7, 8, 9, 10, 11], [0, 1, 2, 3, 4, 5, 6, 7, 8, 9, 10, 11, 12], [0, 1, 2, 3, 4, 5, 6, 7, 8, 9, 10, 11, 12], [0, 1, 2, 3, 4, 5, 6, 7, 8, 9, 10, 11, 12, 14], [0, 1, 2, 3, 4, 5, 6, 7, 8, 9, 10, 11, 12], [0, 1, 2, 3, 4, 5, 6, 7, 8, 9, 10, 11, 12, 16], [0, 1, 2, 3, 4, 5, 6, 7, 8, 9, 10, 11, 12, 16, 17], [0, 1, 2, 3, 4, 5, 6, 7, 8, 9, 10, 11, 12, 13, 14, 15, 16, 17, 18], [0, 1, 2, 3, 4, 5, 6, 7, 8, 9, 10, 11, 12, 13, 14, 15, 16, 17, 18, 19], [0, 1, 2, 3, 4, 5, 6, 7, 8, 9, 10, 11, 12, 13, 14, 15, 16, 17, 18, 19, 20], [0, 1, 2, 3, 4, 5, 6, 7, 8, 9, 10, 11, 12, 13, 14, 15, 16, 17, 18, 19, 20, 21], [0, 1, 2, 3, 4, 5, 6, 7, 8, 9, 10, 11, 12, 13, 14, 15, 16, 17, 18, 19, 20, 21, 22], [0, 1, 2, 3, 4, 5, 6, 7, 8, 9, 10, 11, 12, 13, 14, 15, 16, 17, 18, 19, 20, 21, 22], [0, 1, 2, 3, 4, 5, 6, 7, 8, 9, 10, 11, 12, 13, 14, 15, 16, 17, 18, 19, 20, 21, 22, 24], [0, 1, 2, 3, 4, 5, 6, 7, 8, 9, 10, 11, 12, 13, 14, 15, 16, 17, 18, 19, 20, 21, 22], [0, 1, 2, 3, 4, 5, 6, 7, 8, 9, 10, 11, 12, 13, 14, 15, 16, 17, 18, 19, 20, 21, 22, 26], [0, 1, 2, 3, 4, 5, 6, 7, 8, 9, 10, 11, 12, 13, 14, 15, 16, 17, 18, 19, 20, 21, 22, 26, 27], [0, 1, 2, 3, 4, 5, 6, 7, 8, 9, 10, 11, 12, 13, 14, 15, 16, 17, 18, 19, 20, 21, 22, 23, 24, 25, 26, 27, 28], [0, 1, 2, 3, 4, 5, 6, 7, 8, 9, 10, 11, 12, 13, 14, 15, 16, 17, 18, 19, 20, 21, 22, 23, 24, 25, 26, 27, 28, 29], [0, 1, 2, 3, 4, 5, 6, 7, 8, 9, 10, 11, 12, 13, 14, 15, 16, 17, 18, 19, 20, 21, 22, 23, 24, 25, 26, 27, 28, 29, 30]] (by simp) (by simp) (by simp [look]) rfl rfl rfl ?_ fun K hK => ?_
          · refine ⟨?_, ?_, ?_, ?_, ?_, ?_, ?_, ?_, ?_, ?_, ?_, ?_, ?_, ?_, ?_, ?_, ?_, ?_, ?_, ?_, ?_, ?_, ?_, ?_, ?_, ?_, ?_, ?_, ?_, trivial⟩
            all_goals (intro τ hbx hb hd hf K hK; try simp [vsAt] at hd; simp [vsAt] at hf; first | (refine wps_cons rfl fun K' hK' => ?_; simp [hN', hbx, hb, hd, hf, hb17, hb17s, hb39, hb39s]; exact hK' _ (wps_nil (hK _ (by simp [vsAt, hbx, hb17, hb17s, hb39, hb39s])))) | (refine wps_off fun K' hK' => ?_; simp [hN', hbx, hb, hd, hf, hb17, hb17s, hb39, hb39s]; exact hK' _ (wps_nil (hK _ (by simp [vsAt, hbx, hb17, hb17s, hb39, hb39s])))) | (refine wps_call [(.take, .tmp 43)] rfl rfl ent147 (impl_hasB_ok _ hc35) fun K' hK' => ?_; simp [hN', hbx, hb, hd, hf, hb17, hb17s, hb39, hb39s]; exact hK' _ (wps_nil (hK _ (by simp [vsAt, hbx, hb17, hb17s, hb39, hb39s])))) | (refine wps_call [(.take, .tmp 39), (.take, .tmp 41), (.take, .tmp 44)] rfl rfl ent145 (impl_isPlace_ok _ _ _ hc37) fun K' hK' => ?_; simp [hN', hbx, hb, hd, hf, hb17, hb17s, hb39, hb39s]; exact hK' _ (wps_nil (hK _ (by simp [vsAt, hbx, hb17, hb17s, hb39, hb39s])))) | (refine wps_call [(.take, .tmp 53)] rfl rfl ent148 (impl_hasC_ok _ hc41) fun K' hK' => ?_; simp [hN', hbx, hb, hd, hf, hb17, hb17s, hb39, hb39s]; exact hK' _ (wps_nil (hK _ (by simp [vsAt, hbx, hb17, hb17s, hb39, hb39s])))))
          obtain ⟨r42, hc43, hj14⟩ := bind_some hj14
          refine wps_call [(.take, .tmp 49), (.take, .tmp 51), (.take, .tmp 54)] rfl rfl ent145 (impl_isPlace_ok _ _ _ hc43) fun K hK => ?_; simp [hN', hb17, hb17s, hb39, hb39s]; refine hK _ ?_; clear hK
          iterate 2 (refine wps_cons rfl fun K hK => ?_; simp [hN', hb17, hb17s, hb39, hb39s]; refine hK _ ?_; clear hK)
          refine wps_nil (hK _ ?_); clear hK
          cases hj14
          exact hK15 _ () [] trivial (by simp [hN', hb17, hb17s, hb39, hb39s])
    rcases ite_or h with ⟨hb45, h⟩ | ⟨hb46, h⟩
    · refine SWp.condT' (b := v44) (by simp) hb45 ?_
      refine SWp.seqR rfl (hPB _ rfl) fun K hK => ?_
      refine wps_cons rfl fun K hK => ?_; simp [hN']; refine hK _ ?_; clear hK
      refine wps_nil (hK _ ?_); clear hK
      cases h
      refine SWp.ret ?_
      simp [thenS, inBlockS, res119]
    · refine SWp.condF' (b := v44) (by simp) hb46 ?_
      refine SWp.skip ?_
      show SWp E C _ _ _
      refine SWp.seqR rfl (hPB _ rfl) fun K hK => ?_
      refine wps_cons rfl fun K hK => ?_; simp [hN']; refine hK _ ?_; clear hK
      refine wps_nil (hK _ ?_); clear hK
      obtain ⟨high60, hj47, h⟩ := bind_some h
      refine SWp.seqC [2, 3, 6] [2, 3] (fun _ : Unit => ⟨[(2, .ref (.box 2) 0 []), (3, .ref (.box 3) 0 []), (6, .t (vi high60))], [(2, [vs c1.Name, vi c1.Params, .sl false 1 (List.map vi c1.Locals), .sl false 7 (List.map (GIns.enc false) c1.Words)]), (3, [vi x2.Op, vi x2.A, vi x2.B, vi x2.C, vi x2.Num, vs x2.Name, .sl false 1 (List.map vi x2.Args)])]⟩) (fun _ => True) (fun _ _ => ?_) fun K48 hK48 => ?_
      rotate_left
      · refine SWp.seqR rfl (hPB _ rfl) fun K hK => ?_
        iterate 2 (refine wps_cons rfl fun K hK => ?_; simp [hN']; refine hK _ ?_; clear hK)
        refine wps_nil (hK _ ?_); clear hK
        refine SWp.block ?_
        refine SWp.seqR rfl (hPB _ rfl) fun K hK => ?_
        iterate 2 (refine wps_cons rfl fun K hK => ?_; simp [hN']; refine hK _ ?_; clear hK)
        refine wps_nil (hK _ ?_); clear hK
        rcases ite_or hj47 with ⟨hb50, hj47⟩ | ⟨hb51, hj47⟩
        · refine SWp.condT' (b := x2.Op == 1) (by simp) hb50 ?_
          refine SWp.reg rfl (hPB _ rfl) fun K hK => ?_
          refine wps_cons rfl fun K hK => ?_; simp [hN']; refine hK _ ?_; clear hK
          refine wps_nil (hK _ ?_); clear hK
          cases hj47
          exact hK48 _ () [] trivial (by simp [hN'])
        · refine SWp.condF' (b := x2.Op == 1) (by simp) hb51 ?_
          obtain ⟨v57, hj52, hj47⟩ := bind_some hj47
          refine SWp.seqC [2, 3, 6, 62] [2, 3] (fun _ : Unit => ⟨[(2, .ref (.box 2) 0 []), (3, .ref (.box 3) 0 []), (6, .t (vi 0)), (62, .t (vb v57))], [(2, [vs c1.Name, vi c1.Params, .sl false 1 (List.map vi c1.Locals), .sl false 7 (List.map (GIns.enc false) c1.Words)]), (3, [vi x2.Op, vi x2.A, vi x2.B, vi x2.C, vi x2.Num, vs x2.Name, .sl false 1 (List.map vi x2.Args)])]⟩) (fun _ => True) (fun _ _ => ?_) fun K53 hK53 => ?_
          rotate_left
          · refine SWp.seqR rfl (hPB _ rfl) fun K hK => ?_
            iterate 2 (refine wps_cons rfl fun K hK => ?_; simp [hN']; refine hK _ ?_; clear hK)
            refine wps_nil (hK _ ?_); clear hK
            rcases ite_or hj52 with ⟨hb55, hj52⟩ | ⟨hb56, hj52⟩
            · refine SWp.condT' (b := x2.Op == 18) (by simp) hb55 ?_
              refine SWp.skip ?_
              cases hj52
              exact hK53 _ () [] trivial (by simp [hN'])
            · refine SWp.condF' (b := x2.Op == 18) (by simp) hb56 ?_
              refine SWp.reg rfl (hPB _ rfl) fun K hK => ?_
              iterate 2 (refine wps_cons rfl fun K hK => ?_; simp [hN']; refine hK _ ?_; clear hK)
              refine wps_nil (hK _ ?_); clear hK
              cases hj52
              exact hK53 _ () [] trivial (by simp [hN'])
          rcases ite_or hj47 with ⟨hb58, hj47⟩ | ⟨hb59, hj47⟩
          · refine SWp.condT' (b := v57) (by simp) hb58 ?_
            refine SWp.reg rfl (hPB _ rfl) fun K hK => ?_
            iterate 5 (refine wps_cons rfl fun K hK => ?_; simp [hN']; refine hK _ ?_; clear hK)
            refine wps_nil (hK _ ?_); clear hK
            cases hj47
            exact hK48 _ () [] trivial (by simp [hN'])
          · refine SWp.condF' (b := v57) (by simp) hb59 ?_
            refine SWp.skip ?_
            cases hj47
            exact hK48 _ () [] trivial (by simp [hN'])
      refine SWp.seq ?_
      refine SWp.seqR rfl (hPB _ rfl) fun K hK => ?_
      iterate 3 (refine wps_cons rfl fun K hK => ?_; simp [hN']; refine hK _ ?_; clear hK)
      obtain ⟨r61, hc62, h⟩ := bind_some h
      refine wps_call [(.take, .tmp 70), (.take, .const (.int .i64 0)), (.take, .tmp 71)] rfl rfl ent91 (impl_in_ok _ _ _ hc62) fun K hK => ?_; simp [hN']; refine hK _ ?_; clear hK
      refine wps_cons rfl fun K hK => ?_; simp [hN']; refine hK _ ?_; clear hK
      refine wps_nil (hK _ ?_); clear hK
      rcases ite_or h with ⟨hb63, h⟩ | ⟨hb64, h⟩
      · refine SWp.condT' (b := !r61) (by simp) hb63 ?_
        refine SWp.seqR rfl (hPB _ rfl) fun K hK => ?_
        refine wps_cons rfl fun K hK => ?_; simp [hN']; refine hK _ ?_; clear hK
        refine wps_nil (hK _ ?_); clear hK
        cases h
        refine SWp.ret ?_
        simp [thenS, inBlockS, res119]
      · refine SWp.condF' (b := !r61) (by simp) hb64 ?_
        refine SWp.skip ?_
        show SWp E C _ _ _
        refine SWp.seq ?_
        refine SWp.seqR rfl (hPB _ rfl) fun K hK => ?_
        iterate 3 (refine wps_cons rfl fun K hK => ?_; simp [hN']; refine hK _ ?_; clear hK)
        refine wps_nil (hK _ ?_); clear hK
        rcases ite_or h with ⟨hb65, h⟩ | ⟨hb66, h⟩
        · refine SWp.condT' (b := x2.Op != 13) (by simp) hb65 ?_
          obtain ⟨v71, hj67, h⟩ := bind_some h
          refine SWp.seqRC rfl (hPB _ rfl) [4] [] (fun _ : Unit => ⟨[(4, .t (vb v71))], []⟩) (fun _ => True) (fun _ _ => ?_) fun K68 hK68 => ?_
          rotate_left
          · refine wps_cons rfl fun K hK => ?_; simp [hN']; refine hK _ ?_; clear hK
            iterate 3 (refine wps_cons rfl fun K hK => ?_; simp [hN']; refine hK _ ?_; clear hK)
            rcases ite_or hj67 with ⟨hb69, hj67⟩ | ⟨hb70, hj67⟩
            · have hb69s := hb69
              try simp at hb69s
              iterate 6 (refine wps_cons rfl fun K hK => ?_; simp [hN', hb69, hb69s]; refine hK _ ?_; clear hK)
              refine wps_nil ?_
              cases hj67
              exact hK68 _ () [] trivial (by simp [hN', hb69, hb69s])
            · have hb70s := hb70
              try simp at hb70s
              iterate 4 (refine wps_off fun K hK => ?_; simp [hN', hb70, hb70s]; refine hK _ ?_; clear hK)
              iterate 2 (refine wps_cons rfl fun K hK => ?_; simp [hN', hb70, hb70s]; refine hK _ ?_; clear hK)
              refine wps_nil ?_
              cases hj67
              exact hK68 _ () [] trivial (by simp [hN', hb70, hb70s])
          cases h
          refine SWp.ret ?_
          simp [thenS, inBlockS, res119]
        · refine SWp.condF' (b := x2.Op != 13) (by simp) hb66 ?_
          refine SWp.skip ?_
          show SWp E C _ _ _
          obtain ⟨j74, hj72, h⟩ := bind_some h
          refine SWp.seqC [3] [3] (fun v : Unit => ⟨[(3, .ref (.box 3) 0 [])], [(3, [vi x2.Op, vi x2.A, vi x2.B, vi x2.C, vi x2.Num, vs x2.Name, .sl false 1 (List.map vi x2.Args)])]⟩) (fun v => j74 = Sum.inl v) (fun v hv => ?_) fun K73 hK73 => ?_
          rotate_left
          · refine SWp.seqR rfl (hPB _ rfl) fun K hK => ?_
            iterate 4 (refine wps_cons rfl fun K hK => ?_; simp [hN']; refine hK _ ?_; clear hK)
            refine wps_nil (hK _ ?_); clear hK
            refine SWp.block ?_
            refine SWp.loopO [] [2, 3, 87, 88, 89] [2, 3] (fun v : Int => ⟨[(2, .ref (.box 2) 0 []), (3, .ref (.box 3) 0 []), (87, .t (.sl false 1 (List.map vi x2.Args))), (88, .t (vi (x2.Args.length : Int))), (89, .t (vi v))], [(2, [vs c1.Name, vi c1.Params, .sl false 1 (List.map vi c1.Locals), .sl false 7 (List.map (GIns.enc false) c1.Words)]), (3, [vi x2.Op, vi x2.A, vi x2.B, vi x2.C, vi x2.Num, vs x2.Name, .sl false 1 (List.map vi x2.Args)])]⟩) (impl_WordOk_l1 c1 x2) _ 0 hj72 (by simp [hN']) ?_
            intro g s78 h76 ho77
            obtain ⟨v75, hg⟩ : ∃ y, y = g := ⟨_, rfl⟩
            subst hg
            simp only [impl_WordOk_l1] at h76
            try dsimp only
            refine SWp.seqR rfl (hPB _ rfl) fun K hK => ?_
            refine wps_cons rfl fun K hK => ?_; simp [hN']; refine hK _ ?_; clear hK
            refine wps_nil (hK _ ?_); clear hK
            refine SWp.seq ?_
            rcases ite_or h76 with ⟨hb79, h76⟩ | ⟨hb80, h76⟩
            · refine SWp.condT' (b := decide (v75 < (x2.Args.length : Int))) (by simp) hb79 ?_
              refine SWp.skip ?_
              show SWp E C _ _ _
              refine SWp.seq ?_
              refine SWp.block ?_
              refine SWp.seqR rfl (hPB _ rfl) fun K hK => ?_
              obtain ⟨e81, he81, h76⟩ := bind_some h76
              obtain ⟨he81a, he81b, he81c, he81d⟩ := getI_some he81
              iterate 3 (refine wps_cons rfl fun K hK => ?_; simp [hN', he81a, he81b, he81c, he81d]; refine hK _ ?_; clear hK)
              refine wps_nil (hK _ ?_); clear hK
              refine SWp.seqR rfl (hPB _ rfl) fun K hK => ?_
              iterate 2 (refine wps_cons rfl fun K hK => ?_; simp [hN']; refine hK _ ?_; clear hK)
              obtain ⟨r82, hc83, h76⟩ := bind_some h76
              refine wps_call [(.take, .tmp 93), (.take, .tmp 94), (.take, .const (.bool true))] rfl rfl ent145 (impl_isPlace_ok _ _ _ hc83) fun K hK => ?_; simp [hN']; refine hK _ ?_; clear hK
              refine wps_cons rfl fun K hK => ?_; simp [hN']; refine hK _ ?_; clear hK
              refine wps_nil (hK _ ?_); clear hK
              rcases ite_or h76 with ⟨hb84, h76⟩ | ⟨hb85, h76⟩
              · refine SWp.condT' (b := !r82) (by simp) hb84 ?_
                refine SWp.seqR rfl (hPB _ rfl) fun K hK => ?_
                refine wps_cons rfl fun K hK => ?_; simp [hN']; refine hK _ ?_; clear hK
                refine wps_nil (hK _ ?_); clear hK
                have h86 := congrArg some (ho77 _ (Option.some.inj h76).symm)
                cases h86
                try dsimp only at h
                cases h
                refine SWp.ret ?_
                simp [thenS, inBlockS, res119]
              · refine SWp.condF' (b := !r82) (by simp) hb85 ?_
                refine SWp.skip ?_
                show SWp E C _ _ _
                refine SWp.reg rfl (hPB _ rfl) fun K hK => ?_
                iterate 2 (refine wps_cons rfl fun K hK => ?_; simp [hN']; refine hK _ ?_; clear hK)
                refine wps_nil (hK _ ?_); clear hK
                cases h76
                exact ⟨_, [], rfl, by simp [hN']⟩
            · refine SWp.condF' (b := decide (v75 < (x2.Args.length : Int))) (by simp) hb80 ?_
              refine SWp.exit ?_
              have h87 := congrArg some (ho77 _ (Option.some.inj h76).symm)
              cases h87
              exact hK73 _ _ [] rfl (by simp [hN'])
          subst hv
          obtain ⟨⟩ := v
          try dsimp only at h ⊢
          obtain ⟨v94, hj88, h⟩ := bind_some h
          refine SWp.seqRC rfl (hPB _ rfl) [4] [] (fun _ : Unit => ⟨[(4, .t (vb v94))], []⟩) (fun _ => True) (fun _ _ => ?_) fun K89 hK89 => ?_
          rotate_left
          · refine wps_cons rfl fun K hK => ?_; simp [hN']; refine hK _ ?_; clear hK
            refine wps_cons rfl fun K hK => ?_; simp [hN']; refine hK _ ?_; clear hK
            obtain ⟨r90, hc91, hj88⟩ := bind_some hj88
            refine wps_call [(.take, .tmp 99)] rfl rfl ent118 (impl_NameOk_ok _ hc91) fun K hK => ?_; simp [hN']; refine hK _ ?_; clear hK
            refine wps_cons rfl fun K hK => ?_; simp [hN']; refine hK _ ?_; clear hK
            rcases ite_or hj88 with ⟨hb92, hj88⟩ | ⟨hb93, hj88⟩
            · have hb92s := hb92
              try simp at hb92s
              iterate 6 (refine wps_cons rfl fun K hK => ?_; simp [hN', hb92, hb92s]; refine hK _ ?_; clear hK)
              refine wps_nil ?_
              cases hj88
              exact hK89 _ () [] trivial (by simp [hN', hb92, hb92s])
            · have hb93s := hb93
              try simp at hb93s
              iterate 4 (refine wps_off fun K hK => ?_; simp [hN', hb93, hb93s]; refine hK _ ?_; clear hK)
              iterate 2 (refine wps_cons rfl fun K hK => ?_; simp [hN', hb93, hb93s]; refine hK _ ?_; clear hK)
              refine wps_nil ?_
              cases hj88
              exact hK89 _ () [] trivial (by simp [hN', hb93, hb93s])
          cases h
          refine SWp.ret ?_
          simp [thenS, inBlockS, res119]
end Go.Proofs.T
set_option linter.unusedVariables false
set_option linter.unusedSimpArgs false
set_option maxHeartbeats 1000000
namespace Go.Proofs.T
open Go.OM
theorem res79 : Tryd.f79.results.toList = [.tmp 2] := rfl
theorem ent79 : Enters E.P 79 := enters_of Tryd.func79 (by simp [Tryd.f79]) rfl
theorem impl_CodeOk_ok (c1 : GCode) {r0 : Bool} (h : impl_CodeOk c1 = some r0) : Ok E 79 [.val (GCode.enc false c1)] [vb r0] [] := by
  refine ok_of_body (fn := Tryd.f79) Tryd.func79 rfl (by simp [Tryd.f79]) fun C hN hP => ?_
  have hPB : ∀ l, pinK [] l = true → pinB C.pin l = true := pinB_of (by rw [hP]; rfl)
  have hN' : C.N = 68 := hN
  clear hN
  unfold impl_CodeOk at h
  refine SWp.seqR rfl (hPB _ rfl) fun K hK => ?_
  iterate 2 (refine wps_cons rfl fun K hK => ?_; simp [hN']; refine hK _ ?_; clear hK)
  refine wps_nil (hK _ ?_); clear hK
  refine SWp.seqR rfl (hPB _ rfl) fun K hK => ?_
  iterate 4 (refine wps_cons rfl fun K hK => ?_; simp [hN']; refine hK _ ?_; clear hK)
  refine wps_nil (hK _ ?_); clear hK
  refine SWp.seq ?_
  obtain ⟨v19, hj2, h⟩ := bind_some h
  refine SWp.seqRC rfl (hPB _ rfl) [1, 44] [1] (fun _ : Unit => ⟨[(1, .ref (.box 1) 0 []), (44, .t (vb v19))], [(1, [vs c1.Name, vi c1.Params, .sl false 1 (List.map vi c1.Locals), .sl false 7 (List.map (GIns.enc false) c1.Words)])]⟩) (fun _ => True) (fun _ _ => ?_) fun K3 hK3 => ?_
  rotate_left
  · refine wps_cons rfl fun K hK => ?_; simp [hN']; refine hK _ ?_; clear hK
    refine wps_cons rfl fun K hK => ?_; simp [hN']; refine hK _ ?_; clear hK
    obtain ⟨r4, hc5, hj2⟩ := bind_some hj2
    refine wps_call [(.take, .tmp 12)] rfl rfl ent118 (impl_NameOk_ok _ hc5) fun K hK => ?_; simp [hN']; refine hK _ ?_; clear hK
    iterate 2 (refine wps_cons rfl fun K hK => ?_; simp [hN']; refine hK _ ?_; clear hK)
    rcases ite_or hj2 with ⟨hb6, hj2⟩ | ⟨hb7, hj2⟩
    · have hb6s := hb6
      try simp at hb6s
      iterate 4 (refine wps_off fun K hK => ?_; simp [hN', hb6, hb6s]; refine hK _ ?_; clear hK)
      iterate 2 (refine wps_cons rfl fun K hK => ?_; simp [hN', hb6, hb6s]; refine hK _ ?_; clear hK)
      iterate 7 (refine wps_off fun K hK => ?_; simp [hN', hb6, hb6s]; refine hK _ ?_; clear hK)
      iterate 2 (refine wps_cons rfl fun K hK => ?_; simp [hN', hb6, hb6s]; refine hK _ ?_; clear hK)
      iterate 3 (refine wps_off fun K hK => ?_; simp [hN', hb6, hb6s]; refine hK _ ?_; clear hK)
      iterate 2 (refine wps_cons rfl fun K hK => ?_; simp [hN', hb6, hb6s]; refine hK _ ?_; clear hK)
      iterate 8 (refine wps_off fun K hK => ?_; simp [hN', hb6, hb6s]; refine hK _ ?_; clear hK)
      refine wps_cons rfl fun K hK => ?_; simp [hN', hb6, hb6s]; refine hK _ ?_; clear hK
      refine wps_nil ?_
      cases hj2
      exact hK3 _ () [] trivial (by simp [hN', hb6, hb6s])
    · have hb7s := hb7
      try simp at hb7s
      iterate 6 (refine wps_cons rfl fun K hK => ?_; simp [hN', hb7, hb7s]; refine hK _ ?_; clear hK)
      rcases ite_or hj2 with ⟨hb8, hj2⟩ | ⟨hb9, hj2⟩
      · have hb8s := hb8
        try simp at hb8s
        iterate 7 (refine wps_off fun K hK => ?_; simp [hN', hb7, hb7s, hb8, hb8s]; refine hK _ ?_; clear hK)
        iterate 2 (refine wps_cons rfl fun K hK => ?_; simp [hN', hb7, hb7s, hb8, hb8s]; refine hK _ ?_; clear hK)
        iterate 3 (refine wps_off fun K hK => ?_; simp [hN', hb7, hb7s, hb8, hb8s]; refine hK _ ?_; clear hK)
        iterate 2 (refine wps_cons rfl fun K hK => ?_; simp [hN', hb7, hb7s, hb8, hb8s]; refine hK _ ?_; clear hK)
        iterate 8 (refine wps_off fun K hK => ?_; simp [hN', hb7, hb7s, hb8, hb8s]; refine hK _ ?_; clear hK)
        refine wps_cons rfl fun K hK => ?_; simp [hN', hb7, hb7s, hb8, hb8s]; refine hK _ ?_; clear hK
        refine wps_nil ?_
        cases hj2
        exact hK3 _ () [] trivial (by simp [hN', hb7, hb7s, hb8, hb8s])
      · have hb9s := hb9
        try simp at hb9s
        iterate 5 (refine wps_cons rfl fun K hK => ?_; simp [hN', hb7, hb7s, hb9, hb9s]; refine hK _ ?_; clear hK)
        obtain ⟨r10, hc11, hj2⟩ := bind_some hj2
        refine wps_call [(.take, .tmp 23), (.take, .const (.int .i64 0)), (.take, .tmp 26)] rfl rfl ent91 (impl_in_ok _ _ _ hc11) fun K hK => ?_; simp [hN', hb7, hb7s, hb9, hb9s]; refine hK _ ?_; clear hK
        iterate 3 (refine wps_cons rfl fun K hK => ?_; simp [hN', hb7, hb7s, hb9, hb9s]; refine hK _ ?_; clear hK)
        rcases ite_or hj2 with ⟨hb12, hj2⟩ | ⟨hb13, hj2⟩
        · have hb12s := hb12
          try simp at hb12s
          iterate 3 (refine wps_off fun K hK => ?_; simp [hN', hb7, hb7s, hb9, hb9s, hb12, hb12s]; refine hK _ ?_; clear hK)
          iterate 2 (refine wps_cons rfl fun K hK => ?_; simp [hN', hb7, hb7s, hb9, hb9s, hb12, hb12s]; refine hK _ ?_; clear hK)
          iterate 8 (refine wps_off fun K hK => ?_; simp [hN', hb7, hb7s, hb9, hb9s, hb12, hb12s]; refine hK _ ?_; clear hK)
          refine wps_cons rfl fun K hK => ?_; simp [hN', hb7, hb7s, hb9, hb9s, hb12, hb12s]; refine hK _ ?_; clear hK
          refine wps_nil ?_
          cases hj2
          exact hK3 _ () [] trivial (by simp [hN', hb7, hb7s, hb9, hb9s, hb12, hb12s])
        · have hb13s := hb13
          try simp at hb13s
          refine wps_cons rfl fun K hK => ?_; simp [hN', hb7, hb7s, hb9, hb9s, hb13, hb13s]; refine hK _ ?_; clear hK
          obtain ⟨r14, hc15, hj2⟩ := bind_some hj2
          refine wps_call [(.take, .tmp 31), (.take, .const (.int .i64 1)), (.take, .const (.int .i64 400))] rfl rfl ent91 (impl_in_ok _ _ _ hc15) fun K hK => ?_; simp [hN', hb7, hb7s, hb9, hb9s, hb13, hb13s]; refine hK _ ?_; clear hK
          iterate 3 (refine wps_cons rfl fun K hK => ?_; simp [hN', hb7, hb7s, hb9, hb9s, hb13, hb13s]; refine hK _ ?_; clear hK)
          rcases ite_or hj2 with ⟨hb16, hj2⟩ | ⟨hb17, hj2⟩
          · have hb16s := hb16
            try simp at hb16s
            iterate 8 (refine wps_off fun K hK => ?_; simp [hN', hb7, hb7s, hb9, hb9s, hb13, hb13s, hb16, hb16s]; refine hK _ ?_; clear hK)
            refine wps_cons rfl fun K hK => ?_; simp [hN', hb7, hb7s, hb9, hb9s, hb13, hb13s, hb16, hb16s]; refine hK _ ?_; clear hK
            refine wps_nil ?_
            cases hj2
            exact hK3 _ () [] trivial (by simp [hN', hb7, hb7s, hb9, hb9s, hb13, hb13s, hb16, hb16s])
          · have hb17s := hb17
            try simp at hb17s
            iterate 4 (refine wps_cons rfl fun K hK => ?_; simp [hN', hb7, hb7s, hb9, hb9s, hb13, hb13s, hb17, hb17s]; refine hK _ ?_; clear hK)
            obtain ⟨e18, he18, hj2⟩ := bind_some hj2
            obtain ⟨he18a, he18b, he18c, he18d⟩ := getI_some he18
            have he18j := he18b; try simp at he18j
            try simp only [Int.toNat_natCast] at he18c he18d
            iterate 5 (refine wps_cons rfl fun K hK => ?_; simp [hN', hb7, hb7s, hb9, hb9s, hb13, hb13s, hb17, hb17s, he18a, he18b, he18c, he18d, he18j]; refine hK _ ?_; clear hK)
            refine wps_nil ?_
            cases hj2
            exact hK3 _ () [] trivial (by simp [hN', hb7, hb7s, hb9, hb9s, hb13, hb13s, hb17, hb17s, he18a, he18b, he18c, he18d, he18j])
  rcases ite_or h with ⟨hb20, h⟩ | ⟨hb21, h⟩
  · refine SWp.condT' (b := v19) (by simp) hb20 ?_
    refine SWp.seqR rfl (hPB _ rfl) fun K hK => ?_
    refine wps_cons rfl fun K hK => ?_; simp [hN']; refine hK _ ?_; clear hK
    refine wps_nil (hK _ ?_); clear hK
    cases h
    refine SWp.ret ?_
    simp [thenS, inBlockS, res79]
  · refine SWp.condF' (b := v19) (by simp) hb21 ?_
    refine SWp.skip ?_
    show SWp E C _ _ _
    obtain ⟨j24, hj22, h⟩ := bind_some h
    refine SWp.seqC [1] [1] (fun v : Unit => ⟨[(1, .ref (.box 1) 0 [])], [(1, [vs c1.Name, vi c1.Params, .sl false 1 (List.map vi c1.Locals), .sl false 7 (List.map (GIns.enc false) c1.Words)])]⟩) (fun v => j24 = Sum.inl v) (fun v hv => ?_) fun K23 hK23 => ?_
    rotate_left
    · refine SWp.seqR rfl (hPB _ rfl) fun K hK => ?_
      iterate 4 (refine wps_cons rfl fun K hK => ?_; simp [hN']; refine hK _ ?_; clear hK)
      refine wps_nil (hK _ ?_); clear hK
      refine SWp.block ?_
      refine SWp.loopO [] [1, 46, 47, 48] [1] (fun v : Int => ⟨[(1, .ref (.box 1) 0 []), (46, .t (.sl false 1 (List.map vi c1.Locals))), (47, .t (vi (c1.Locals.length : Int))), (48, .t (vi v))], [(1, [vs c1.Name, vi c1.Params, .sl false 1 (List.map vi c1.Locals), .sl false 7 (List.map (GIns.enc false) c1.Words)])]⟩) (impl_CodeOk_l1 c1) _ 0 hj22 (by simp [hN']) ?_
      intro g s28 h26 ho27
      obtain ⟨v25, hg⟩ : ∃ y, y = g := ⟨_, rfl⟩
      subst hg
      simp only [impl_CodeOk_l1] at h26
      try dsimp only
      refine SWp.seqR rfl (hPB _ rfl) fun K hK => ?_
      refine wps_cons rfl fun K hK => ?_; simp [hN']; refine hK _ ?_; clear hK
      refine wps_nil (hK _ ?_); clear hK
      refine SWp.seq ?_
      rcases ite_or h26 with ⟨hb29, h26⟩ | ⟨hb30, h26⟩
      · refine SWp.condT' (b := decide (v25 < (c1.Locals.length : Int))) (by simp) hb29 ?_
        refine SWp.skip ?_
        show SWp E C _ _ _
        refine SWp.seq ?_
        refine SWp.block ?_
        refine SWp.seqR rfl (hPB _ rfl) fun K hK => ?_
        obtain ⟨e31, he31, h26⟩ := bind_some h26
        obtain ⟨he31a, he31b, he31c, he31d⟩ := getI_some he31
        iterate 3 (refine wps_cons rfl fun K hK => ?_; simp [hN', he31a, he31b, he31c, he31d]; refine hK _ ?_; clear hK)
        refine wps_nil (hK _ ?_); clear hK
        refine SWp.seqR rfl (hPB _ rfl) fun K hK => ?_
        refine wps_cons rfl fun K hK => ?_; simp [hN']; refine hK _ ?_; clear hK
        obtain ⟨r32, hc33, h26⟩ := bind_some h26
        refine wps_call [(.take, .tmp 52), (.take, .const (.int .i64 1)), (.take, .const (.int .i64 4))] rfl rfl ent91 (impl_in_ok _ _ _ hc33) fun K hK => ?_; simp [hN']; refine hK _ ?_; clear hK
        refine wps_cons rfl fun K hK => ?_; simp [hN']; refine hK _ ?_; clear hK
        refine wps_nil (hK _ ?_); clear hK
        rcases ite_or h26 with ⟨hb34, h26⟩ | ⟨hb35, h26⟩
        · refine SWp.condT' (b := !r32) (by simp) hb34 ?_
          refine SWp.seqR rfl (hPB _ rfl) fun K hK => ?_
          refine wps_cons rfl fun K hK => ?_; simp [hN']; refine hK _ ?_; clear hK
          refine wps_nil (hK _ ?_); clear hK
          have h36 := congrArg some (ho27 _ (Option.some.inj h26).symm)
          cases h36
          try dsimp only at h
          cases h
          refine SWp.ret ?_
          simp [thenS, inBlockS, res79]
        · refine SWp.condF' (b := !r32) (by simp) hb35 ?_
          refine SWp.skip ?_
          show SWp E C _ _ _
          refine SWp.reg rfl (hPB _ rfl) fun K hK => ?_
          iterate 2 (refine wps_cons rfl fun K hK => ?_; simp [hN']; refine hK _ ?_; clear hK)
          refine wps_nil (hK _ ?_); clear hK
          cases h26
          exact ⟨_, [], rfl, by simp [hN']⟩
      · refine SWp.condF' (b := decide (v25 < (c1.Locals.length : Int))) (by simp) hb30 ?_
        refine SWp.exit ?_
        have h37 := congrArg some (ho27 _ (Option.some.inj h26).symm)
        cases h37
        exact hK23 _ _ [] rfl (by simp [hN'])
    subst hv
    obtain ⟨⟩ := v
    try dsimp only at h ⊢
    obtain ⟨j40, hj38, h⟩ := bind_some h
    refine SWp.seqC [] [] (fun v : Unit => ⟨[], []⟩) (fun v => j40 = Sum.inl v) (fun v hv => ?_) fun K39 hK39 => ?_
    rotate_left
    · refine SWp.seqR rfl (hPB _ rfl) fun K hK => ?_
      iterate 4 (refine wps_cons rfl fun K hK => ?_; simp [hN']; refine hK _ ?_; clear hK)
      refine wps_nil (hK _ ?_); clear hK
      refine SWp.block ?_
      refine SWp.loopO [] [1, 57, 58, 59] [1] (fun v : Int => ⟨[(1, .ref (.box 1) 0 []), (57, .t (.sl false 7 (List.map (GIns.enc false) c1.Words))), (58, .t (vi (c1.Words.length : Int))), (59, .t (vi v))], [(1, [vs c1.Name, vi c1.Params, .sl false 1 (List.map vi c1.Locals), .sl false 7 (List.map (GIns.enc false) c1.Words)])]⟩) (impl_CodeOk_l2 c1) _ 0 hj38 (by simp [hN']) ?_
      intro g s44 h42 ho43
      obtain ⟨v41, hg⟩ : ∃ y, y = g := ⟨_, rfl⟩
      subst hg
      simp only [impl_CodeOk_l2] at h42
      try dsimp only
      refine SWp.seqR rfl (hPB _ rfl) fun K hK => ?_
      refine wps_cons rfl fun K hK => ?_; simp [hN']; refine hK _ ?_; clear hK
      refine wps_nil (hK _ ?_); clear hK
      refine SWp.seq ?_
      rcases ite_or h42 with ⟨hb45, h42⟩ | ⟨hb46, h42⟩
      · refine SWp.condT' (b := decide (v41 < (c1.Words.length : Int))) (by simp) hb45 ?_
        refine SWp.skip ?_
        show SWp E C _ _ _
        refine SWp.seq ?_
        refine SWp.block ?_
        refine SWp.seqR rfl (hPB _ rfl) fun K hK => ?_
        obtain ⟨e47, he47, h42⟩ := bind_some h42
        obtain ⟨he47a, he47b, he47c, he47d⟩ := getI_some he47
        iterate 4 (refine wps_cons rfl fun K hK => ?_; simp [hN', he47a, he47b, he47c, he47d]; refine hK _ ?_; clear hK)
        refine wps_nil (hK _ ?_); clear hK
        refine SWp.seqR rfl (hPB _ rfl) fun K hK => ?_
        iterate 2 (refine wps_cons rfl fun K hK => ?_; simp [hN']; refine hK _ ?_; clear hK)
        obtain ⟨r48, hc49, h42⟩ := bind_some h42
        refine wps_call [(.take, .tmp 63), (.take, .tmp 64)] rfl rfl ent119 (impl_WordOk_ok _ _ hc49) fun K hK => ?_; simp [hN']; refine hK _ ?_; clear hK
        refine wps_cons rfl fun K hK => ?_; simp [hN']; refine hK _ ?_; clear hK
        refine wps_nil (hK _ ?_); clear hK
        rcases ite_or h42 with ⟨hb50, h42⟩ | ⟨hb51, h42⟩
        · refine SWp.condT' (b := !r48) (by simp) hb50 ?_
          refine SWp.seqR rfl (hPB _ rfl) fun K hK => ?_
          refine wps_cons rfl fun K hK => ?_; simp [hN']; refine hK _ ?_; clear hK
          refine wps_nil (hK _ ?_); clear hK
          have h52 := congrArg some (ho43 _ (Option.some.inj h42).symm)
          cases h52
          try dsimp only at h
          cases h
          refine SWp.ret ?_
          simp [thenS, inBlockS, res79]
        · refine SWp.condF' (b := !r48) (by simp) hb51 ?_
          refine SWp.skip ?_
          show SWp E C _ _ _
          refine SWp.reg rfl (hPB _ rfl) fun K hK => ?_
          iterate 2 (refine wps_cons rfl fun K hK => ?_; simp [hN']; refine hK _ ?_; clear hK)
          refine wps_nil (hK _ ?_); clear hK
          cases h42
          exact ⟨_, [], rfl, by simp [hN']⟩
      · refine SWp.condF' (b := decide (v41 < (c1.Words.length : Int))) (by simp) hb46 ?_
        refine SWp.exit ?_
        have h53 := congrArg some (ho43 _ (Option.some.inj h42).symm)
        cases h53
        exact hK39 _ _ [] rfl (by simp [hN'])
    subst hv
    obtain ⟨⟩ := v
    try dsimp only at h ⊢
    refine SWp.seqR rfl (hPB _ rfl) fun K hK => ?_
    refine wps_cons rfl fun K hK => ?_; simp [hN']; refine hK _ ?_; clear hK
    refine wps_nil (hK _ ?_); clear hK
    cases h
    refine SWp.ret ?_
    simp [thenS, inBlockS, res79]
end Go.Proofs.T
set_option linter.unusedVariables false
set_option linter.unusedSimpArgs false
set_option maxHeartbeats 1000000
namespace Go.Proofs.T
open Go.OM
theorem res83 : Tryd.f83.results.toList = [.tmp 4] := rfl
theorem ent83 : Enters E.P 83 := enters_of Tryd.func83 (by simp [Tryd.f83]) rfl
theorem impl_Next_ok (c1 : GCode) (i2 : Int) {r0 : List Int} (h : impl_Next c1 i2 = some r0) : Ok E 83 [.val (GCode.enc false c1), .val (vi i2)] [.sl true 1 (List.map vi r0)] [] := by
  refine ok_of_body (fn := Tryd.f83) Tryd.func83 rfl (by simp [Tryd.f83]) fun C hN hP => ?_
  have hPB : ∀ l, pinK [] l = true → pinB C.pin l = true := pinB_of (by rw [hP]; rfl)
  have hN' : C.N = 59 := hN
  clear hN
  unfold impl_Next at h
  refine SWp.seqR rfl (hPB _ rfl) fun K hK => ?_
  iterate 2 (refine wps_cons rfl fun K hK => ?_; simp [hN']; refine hK _ ?_; clear hK)
  refine wps_nil (hK _ ?_); clear hK
  refine SWp.seq ?_
  refine SWp.seqR rfl (hPB _ rfl) fun K hK => ?_
  iterate 5 (refine wps_cons rfl fun K hK => ?_; simp [hN']; refine hK _ ?_; clear hK)
  obtain ⟨r3, hc4, h⟩ := bind_some h
  refine wps_call [(.take, .tmp 10), (.take, .const (.int .i64 0)), (.take, .tmp 14)] rfl rfl ent91 (impl_in_ok _ _ _ hc4) fun K hK => ?_; simp [hN']; refine hK _ ?_; clear hK
  refine wps_cons rfl fun K hK => ?_; simp [hN']; refine hK _ ?_; clear hK
  refine wps_nil (hK _ ?_); clear hK
  rcases ite_or h with ⟨hb5, h⟩ | ⟨hb6, h⟩
  · refine SWp.condT' (b := !r3) (by simp) hb5 ?_
    refine SWp.seqR rfl (hPB _ rfl) fun K hK => ?_
    refine wps_cons rfl fun K hK => ?_; simp [hN']; refine hK _ ?_; clear hK
    refine wps_nil (hK _ ?_); clear hK
    cases h
    refine SWp.ret ?_
    simp [thenS, inBlockS, res83]
  · refine SWp.condF' (b := !r3) (by simp) hb6 ?_
    refine SWp.skip ?_
    show SWp E C _ _ _
    refine SWp.seqR rfl (hPB _ rfl) fun K hK => ?_
    iterate 3 (refine wps_cons rfl fun K hK => ?_; simp [hN']; refine hK _ ?_; clear hK)
    obtain ⟨e7, he7, h⟩ := bind_some h
    obtain ⟨he7a, he7b, he7c, he7d⟩ := getI_some he7
    iterate 4 (refine wps_cons rfl fun K hK => ?_; simp [hN', he7a, he7b, he7c, he7d]; refine hK _ ?_; clear hK)
    refine wps_nil (hK _ ?_); clear hK
    refine SWp.seqR rfl (hPB _ rfl) fun K hK => ?_
    iterate 4 (refine wps_cons rfl fun K hK => ?_; simp [hN']; refine hK _ ?_; clear hK)
    refine wps_nil (hK _ ?_); clear hK
    obtain ⟨l18, hj8, h⟩ := bind_some h
    refine SWp.seqC [2, 6] [2] (fun _ : Unit => ⟨[(2, .ref (.box 2) 0 []), (6, .t (.sl true 1 (List.map vi l18)))], [(2, [vs c1.Name, vi c1.Params, .sl false 1 (List.map vi c1.Locals), .sl false 7 (List.map (GIns.enc false) c1.Words)])]⟩) (fun _ => True) (fun _ _ => ?_) fun K9 hK9 => ?_
    rotate_left
    · refine SWp.seqR rfl (hPB _ rfl) fun K hK => ?_
      iterate 2 (refine wps_cons rfl fun K hK => ?_; simp [hN']; refine hK _ ?_; clear hK)
      refine wps_nil (hK _ ?_); clear hK
      refine SWp.block ?_
      refine SWp.seqR rfl (hPB _ rfl) fun K hK => ?_
      iterate 2 (refine wps_cons rfl fun K hK => ?_; simp [hN']; refine hK _ ?_; clear hK)
      refine wps_nil (hK _ ?_); clear hK
      rcases ite_or hj8 with ⟨hb11, hj8⟩ | ⟨hb12, hj8⟩
      · refine SWp.condT' (b := e7.Op == 20) (by simp) hb11 ?_
        refine SWp.reg rfl (hPB _ rfl) fun K hK => ?_
        refine wps_cons rfl fun K hK => ?_; simp [hN']; refine hK _ ?_; clear hK
        refine wps_nil (hK _ ?_); clear hK
        cases hj8
        exact hK9 _ () [] trivial (by simp [hN'])
      · refine SWp.condF' (b := e7.Op == 20) (by simp) hb12 ?_
        refine SWp.seqR rfl (hPB _ rfl) fun K hK => ?_
        iterate 2 (refine wps_cons rfl fun K hK => ?_; simp [hN']; refine hK _ ?_; clear hK)
        refine wps_nil (hK _ ?_); clear hK
        rcases ite_or hj8 with ⟨hb13, hj8⟩ | ⟨hb14, hj8⟩
        · refine SWp.condT' (b := e7.Op == 18) (by simp) hb13 ?_
          refine SWp.reg rfl (hPB _ rfl) fun K hK => ?_
          iterate 4 (refine wps_cons rfl fun K hK => ?_; simp [hN']; refine hK _ ?_; clear hK)
          refine wps_nil (hK _ ?_); clear hK
          cases hj8
          exact hK9 _ () [] trivial (by simp [hN'])
        · refine SWp.condF' (b := e7.Op == 18) (by simp) hb14 ?_
          refine SWp.seqR rfl (hPB _ rfl) fun K hK => ?_
          iterate 2 (refine wps_cons rfl fun K hK => ?_; simp [hN']; refine hK _ ?_; clear hK)
          refine wps_nil (hK _ ?_); clear hK
          rcases ite_or hj8 with ⟨hb15, hj8⟩ | ⟨hb16, hj8⟩
          · refine SWp.condT' (b := e7.Op == 19) (by simp) hb15 ?_
            refine SWp.reg rfl (hPB _ rfl) fun K hK => ?_
            iterate 4 (refine wps_cons rfl fun K hK => ?_; simp [hN']; refine hK _ ?_; clear hK)
            obtain ⟨l17, hl17, hj8⟩ := bind_some hj8
            obtain ⟨hl17a, hl17b, hl17d⟩ := appI_some hl17
            have hl17f : List.map vi [IntKind.wrap .i64 (i2 + 1)] ++ List.map vi [e7.Num] = List.map vi l17 := app_map (f := vi) hl17d
            simp [eSl] at hl17a hl17b hl17f
            iterate 2 (refine wps_cons rfl fun K hK => ?_; simp [hN', hl17a, hl17b, hl17f]; refine hK _ ?_; clear hK)
            refine wps_nil (hK _ ?_); clear hK
            cases hj8
            exact hK9 _ () [] trivial (by simp [hN'])
          · refine SWp.condF' (b := e7.Op == 19) (by simp) hb16 ?_
            refine SWp.skip ?_
            cases hj8
            exact hK9 _ () [] trivial (by simp [hN'])
    refine SWp.seqR rfl (hPB _ rfl) fun K hK => ?_
    refine wps_cons rfl fun K hK => ?_; simp [hN']; refine hK _ ?_; clear hK
    refine wps_nil (hK _ ?_); clear hK
    obtain ⟨out36, hj19, h⟩ := bind_some h
    refine SWp.seqC [7] [] (fun _ : Unit => ⟨[(7, .t (.sl true 1 (List.map vi out36)))], []⟩) (fun _ => True) (fun _ _ => ?_) fun K20 hK20 => ?_
    rotate_left
    · refine SWp.seqR rfl (hPB _ rfl) fun K hK => ?_
      iterate 3 (refine wps_cons rfl fun K hK => ?_; simp [hN']; refine hK _ ?_; clear hK)
      refine wps_nil (hK _ ?_); clear hK
      refine SWp.block ?_
      refine SWp.loopO [] [2, 6, 7, 41, 42, 43] [2] (fun v : (List Int) × Int => ⟨[(2, .ref (.box 2) 0 []), (6, .t (.sl true 1 (List.map vi l18))), (7, .t (.sl true 1 (List.map vi v.1))), (41, .al (.slot 6) 0 [] none), (42, .t (vi (l18.length : Int))), (43, .t (vi v.2))], [(2, [vs c1.Name, vi c1.Params, .sl false 1 (List.map vi c1.Locals), .sl false 7 (List.map (GIns.enc false) c1.Words)])]⟩) (impl_Next_l1 c1 l18) _ ([], 0) hj19 (by simp [hN']) ?_
      intro g s26 h24 ho25
      obtain ⟨out22, v23⟩ := g
      simp only [impl_Next_l1] at h24
      try dsimp only
      refine SWp.seqR rfl (hPB _ rfl) fun K hK => ?_
      refine wps_cons rfl fun K hK => ?_; simp [hN']; refine hK _ ?_; clear hK
      refine wps_nil (hK _ ?_); clear hK
      refine SWp.seq ?_
      rcases ite_or h24 with ⟨hb27, h24⟩ | ⟨hb28, h24⟩
      · refine SWp.condT' (b := decide (v23 < (l18.length : Int))) (by simp) hb27 ?_
        refine SWp.skip ?_
        show SWp E C _ _ _
        refine SWp.seq ?_
        refine SWp.block ?_
        refine SWp.seqR rfl (hPB _ rfl) fun K hK => ?_
        obtain ⟨e29, he29, h24⟩ := bind_some h24
        obtain ⟨he29a, he29b, he29c, he29d⟩ := getI_some he29
        iterate 3 (refine wps_cons rfl fun K hK => ?_; simp [hN', he29a, he29b, he29c, he29d]; refine hK _ ?_; clear hK)
        refine wps_nil (hK _ ?_); clear hK
        refine SWp.seqR rfl (hPB _ rfl) fun K hK => ?_
        iterate 5 (refine wps_cons rfl fun K hK => ?_; simp [hN']; refine hK _ ?_; clear hK)
        obtain ⟨r30, hc31, h24⟩ := bind_some h24
        refine wps_call [(.take, .tmp 47), (.take, .const (.int .i64 0)), (.take, .tmp 51)] rfl rfl ent91 (impl_in_ok _ _ _ hc31) fun K hK => ?_; simp [hN']; refine hK _ ?_; clear hK
        refine wps_nil (hK _ ?_); clear hK
        rcases ite_or h24 with ⟨hb32, h24⟩ | ⟨hb33, h24⟩
        · refine SWp.condT' (b := r30) (by simp) hb32 ?_
          refine SWp.reg rfl (hPB _ rfl) fun K hK => ?_
          iterate 3 (refine wps_cons rfl fun K hK => ?_; simp [hN']; refine hK _ ?_; clear hK)
          obtain ⟨l34, hl34, h24⟩ := bind_some h24
          obtain ⟨hl34a, hl34b, hl34d⟩ := appI_some hl34
          have hl34f : List.map vi out22 ++ List.map vi [e29] = List.map vi l34 := app_map (f := vi) hl34d
          simp [eSl] at hl34a hl34b hl34f
          iterate 2 (refine wps_cons rfl fun K hK => ?_; simp [hN', hl34a, hl34b, hl34f]; refine hK _ ?_; clear hK)
          refine wps_nil (hK _ ?_); clear hK
          show SWp E C _ _ _
          refine SWp.reg rfl (hPB _ rfl) fun K hK => ?_
          iterate 2 (refine wps_cons rfl fun K hK => ?_; simp [hN']; refine hK _ ?_; clear hK)
          refine wps_nil (hK _ ?_); clear hK
          cases h24
          exact ⟨_, [], rfl, by simp [hN']⟩
        · refine SWp.condF' (b := r30) (by simp) hb33 ?_
          refine SWp.skip ?_
          show SWp E C _ _ _
          refine SWp.reg rfl (hPB _ rfl) fun K hK => ?_
          iterate 2 (refine wps_cons rfl fun K hK => ?_; simp [hN']; refine hK _ ?_; clear hK)
          refine wps_nil (hK _ ?_); clear hK
          cases h24
          exact ⟨_, [], rfl, by simp [hN']⟩
      · refine SWp.condF' (b := decide (v23 < (l18.length : Int))) (by simp) hb28 ?_
        refine SWp.exit ?_
        have h35 := congrArg some (ho25 _ (Option.some.inj h24).symm)
        cases h35
        exact hK20 _ () [] trivial (by simp [hN'])
    refine SWp.seqR rfl (hPB _ rfl) fun K hK => ?_
    iterate 2 (refine wps_cons rfl fun K hK => ?_; simp [hN']; refine hK _ ?_; clear hK)
    refine wps_nil (hK _ ?_); clear hK
    cases h
    refine SWp.ret ?_
    simp [thenS, inBlockS, res83]
end Go.Proofs.T
set_option linter.unusedVariables false
set_option linter.unusedSimpArgs false
set_option maxHeartbeats 1000000
namespace Go.Proofs.T
open Go.OM
theorem res50 : Tryd.f50.results.toList = [.tmp 2] := rfl
theorem ent50 : Enters E.P 50 := enters_of Tryd.func50 (by simp [Tryd.f50]) rfl
theorem impl_BlocksOf_ok (c1 : GCode) {r0 : List GBlock} (h : impl_BlocksOf c1 = some r0) : Ok E 50 [.val (GCode.enc false c1)] [.sl true 3 (List.map (GBlock.enc true) r0)] [] := by
  refine ok_of_body (fn := Tryd.f50) Tryd.func50 rfl (by simp [Tryd.f50]) fun C hN hP => ?_
  have hPB : ∀ l, pinK [] l = true → pinB C.pin l = true := pinB_of (by rw [hP]; rfl)
  have hN' : C.N = 121 := hN
  clear hN
  unfold impl_BlocksOf at h
  refine SWp.seqR rfl (hPB _ rfl) fun K hK => ?_
  iterate 2 (refine wps_cons rfl fun K hK => ?_; simp [hN']; refine hK _ ?_; clear hK)
  refine wps_nil (hK _ ?_); clear hK
  refine SWp.seq ?_
  refine SWp.seqR rfl (hPB _ rfl) fun K hK => ?_
  refine wps_cons rfl fun K hK => ?_; simp [hN']; refine hK _ ?_; clear hK
  obtain ⟨r2, hc3, h⟩ := bind_some h
  refine wps_call [(.take, .tmp 13)] rfl rfl ent79 (impl_CodeOk_ok _ hc3) fun K hK => ?_; simp [hN']; refine hK _ ?_; clear hK
  refine wps_cons rfl fun K hK => ?_; simp [hN']; refine hK _ ?_; clear hK
  refine wps_nil (hK _ ?_); clear hK
  rcases ite_or h with ⟨hb4, h⟩ | ⟨hb5, h⟩
  · refine SWp.condT' (b := !r2) (by simp) hb4 ?_
    refine SWp.seqR rfl (hPB _ rfl) fun K hK => ?_
    refine wps_cons rfl fun K hK => ?_; simp [hN']; refine hK _ ?_; clear hK
    refine wps_nil (hK _ ?_); clear hK
    cases h
    refine SWp.ret ?_
    simp [thenS, inBlockS, res50]
  · refine SWp.condF' (b := !r2) (by simp) hb5 ?_
    refine SWp.skip ?_
    show SWp E C _ _ _
    refine SWp.seqR rfl (hPB _ rfl) fun K hK => ?_
    iterate 4 (refine wps_cons rfl fun K hK => ?_; simp [hN']; refine hK _ ?_; clear hK)
    refine wps_nil (hK _ ?_); clear hK
    refine SWp.seqR rfl (hPB _ rfl) fun K hK => ?_
    iterate 2 (refine wps_cons rfl fun K hK => ?_; simp [hN']; refine hK _ ?_; clear hK)
    obtain ⟨l6, hl6, h⟩ := bind_some h
    obtain ⟨hl6a, hl6b, hl6c, hl6d⟩ := mkI_some hl6
    have hl6f : List.replicate (IntKind.wrap .i64 ((c1.Words.length : Int) + 1)).toNat (vb false) = List.map vb l6 := rep_map (f := vb) hl6d
    try simp only [Int.toNat_natCast] at hl6f
    iterate 2 (refine wps_cons rfl fun K hK => ?_; simp [hN', hl6a, hl6b, hl6c, hl6f]; refine hK _ ?_; clear hK)
    refine wps_nil (hK _ ?_); clear hK
    refine SWp.seqR rfl (hPB _ rfl) fun K hK => ?_
    iterate 3 (refine wps_cons rfl fun K hK => ?_; simp [hN']; refine hK _ ?_; clear hK)
    obtain ⟨e7, he7, h⟩ := bind_some h
    obtain ⟨he7a, he7b, he7c, he7d⟩ := getI_some he7
    have he7e : 0 < l6.length := by omega
    have he7g : l6[0]? = some e7 := he7c
    have he7i : l6[0] = e7 := he7d he7e
    refine wps_cons rfl fun K hK => ?_; simp [hN', he7a, he7b, he7c, he7d, he7e, he7g, he7i]; refine hK _ ?_; clear hK
    obtain ⟨l8, hl8, h⟩ := bindS_some h
    have hl8f : (List.map vb l6).set 0 (vb true) = List.map vb l8 := set_map (f := vb) hl8
    try simp only [Int.toNat_natCast] at hl8f
    refine wps_cons rfl fun K hK => ?_; simp [hN', he7a, he7b, he7c, he7d, he7e, he7g, he7i, hl8f]; refine hK _ ?_; clear hK
    obtain ⟨e9, he9, h⟩ := bind_some h
    obtain ⟨he9a, he9b, he9c, he9d⟩ := getI_some he9
    have he9j := he9b; try simp at he9j
    try simp only [Int.toNat_natCast] at he9c he9d
    refine wps_cons rfl fun K hK => ?_; simp [hN', he7a, he7b, he7c, he7d, he7e, he7g, he7i, hl8f, he9a, he9b, he9c, he9d, he9j]; refine hK _ ?_; clear hK
    obtain ⟨l10, hl10, h⟩ := bindS_some h
    have hl10f : (List.map vb l8).set (c1.Words.length : Int).toNat (vb true) = List.map vb l10 := set_map (f := vb) hl10
    try simp only [Int.toNat_natCast] at hl10f
    refine wps_cons rfl fun K hK => ?_; simp [hN', he7a, he7b, he7c, he7d, he7e, he7g, he7i, hl8f, he9a, he9b, he9c, he9d, he9j, hl10f]; refine hK _ ?_; clear hK
    refine wps_nil (hK _ ?_); clear hK
    obtain ⟨begins47, hj11, h⟩ := bind_some h
    refine SWp.seqC [1, 3, 4] [1] (fun _ : Unit => ⟨[(1, .ref (.box 1) 0 []), (3, .t (vi (c1.Words.length : Int))), (4, .t (.sl true 1 (List.map vb begins47)))], [(1, [vs c1.Name, vi c1.Params, .sl false 1 (List.map vi c1.Locals), .sl false 7 (List.map (GIns.enc false) c1.Words)])]⟩) (fun _ => True) (fun _ _ => ?_) fun K12 hK12 => ?_
    rotate_left
    · refine SWp.seqR rfl (hPB _ rfl) fun K hK => ?_
      iterate 4 (refine wps_cons rfl fun K hK => ?_; simp [hN']; refine hK _ ?_; clear hK)
      refine wps_nil (hK _ ?_); clear hK
      refine SWp.block ?_
      refine SWp.loopO [] [1, 3, 4, 28, 29, 30] [1] (fun v : (List Bool) × Int => ⟨[(1, .ref (.box 1) 0 []), (3, .t (vi (c1.Words.length : Int))), (4, .t (.sl true 1 (List.map vb v.1))), (28, .t (.sl false 7 (List.map (GIns.enc false) c1.Words))), (29, .t (vi (c1.Words.length : Int))), (30, .t (vi v.2))], [(1, [vs c1.Name, vi c1.Params, .sl false 1 (List.map vi c1.Locals), .sl false 7 (List.map (GIns.enc false) c1.Words)])]⟩) (impl_BlocksOf_l1 c1) _ (l10, 0) hj11 (by simp [hN']) ?_
      intro g s18 h16 ho17
      obtain ⟨begins14, v15⟩ := g
      simp only [impl_BlocksOf_l1] at h16
      try dsimp only
      refine SWp.seqR rfl (hPB _ rfl) fun K hK => ?_
      refine wps_cons rfl fun K hK => ?_; simp [hN']; refine hK _ ?_; clear hK
      refine wps_nil (hK _ ?_); clear hK
      refine SWp.seq ?_
      rcases ite_or h16 with ⟨hb19, h16⟩ | ⟨hb20, h16⟩
      · refine SWp.condT' (b := decide (v15 < (c1.Words.length : Int))) (by simp) hb19 ?_
        refine SWp.skip ?_
        show SWp E C _ _ _
        refine SWp.seq ?_
        refine SWp.block ?_
        refine SWp.seqR rfl (hPB _ rfl) fun K hK => ?_
        refine wps_cons rfl fun K hK => ?_; simp [hN']; refine hK _ ?_; clear hK
        obtain ⟨e21, he21, h16⟩ := bind_some h16
        obtain ⟨he21a, he21b, he21c, he21d⟩ := getI_some he21
        iterate 5 (refine wps_cons rfl fun K hK => ?_; simp [hN', he21a, he21b, he21c, he21d]; refine hK _ ?_; clear hK)
        refine wps_nil (hK _ ?_); clear hK
        obtain ⟨begins34, hj22, h16⟩ := bind_some h16
        refine SWp.seqC [1, 3, 4, 5, 6, 28, 29, 30] [1, 6] (fun _ : Unit => ⟨[(1, .ref (.box 1) 0 []), (3, .t (vi (c1.Words.length : Int))), (4, .t (.sl true 1 (List.map vb begins34))), (5, .t (vi v15)), (6, .ref (.box 6) 0 []), (28, .t (.sl false 7 (List.map (GIns.enc false) c1.Words))), (29, .t (vi (c1.Words.length : Int))), (30, .t (vi v15))], [(1, [vs c1.Name, vi c1.Params, .sl false 1 (List.map vi c1.Locals), .sl false 7 (List.map (GIns.enc false) c1.Words)]), (6, [vi e21.Op, vi e21.A, vi e21.B, vi e21.C, vi e21.Num, vs e21.Name, .sl false 1 (List.map vi e21.Args)])]⟩) (fun _ => True) (fun _ _ => ?_) fun K23 hK23 => ?_
        rotate_left
        · obtain ⟨v29, hj25, hj22⟩ := bind_some hj22
          refine SWp.seqRC rfl (hPB _ rfl) [1, 3, 4, 5, 6, 28, 29, 30, 42] [1, 6] (fun _ : Unit => ⟨[(1, .ref (.box 1) 0 []), (3, .t (vi (c1.Words.length : Int))), (4, .t (.sl true 1 (List.map vb begins14))), (5, .t (vi v15)), (6, .ref (.box 6) 0 []), (28, .t (.sl false 7 (List.map (GIns.enc false) c1.Words))), (29, .t (vi (c1.Words.length : Int))), (30, .t (vi v15)), (42, .t (vb v29))], [(1, [vs c1.Name, vi c1.Params, .sl false 1 (List.map vi c1.Locals), .sl false 7 (List.map (GIns.enc false) c1.Words)]), (6, [vi e21.Op, vi e21.A, vi e21.B, vi e21.C, vi e21.Num, vs e21.Name, .sl false 1 (List.map vi e21.Args)])]⟩) (fun _ => True) (fun _ _ => ?_) fun K26 hK26 => ?_
          rotate_left
          · refine wps_cons rfl fun K hK => ?_; simp [hN']; refine hK _ ?_; clear hK
            iterate 3 (refine wps_cons rfl fun K hK => ?_; simp [hN']; refine hK _ ?_; clear hK)
            rcases ite_or hj25 with ⟨hb27, hj25⟩ | ⟨hb28, hj25⟩
            · have hb27s := hb27
              try simp at hb27s
              iterate 3 (refine wps_off fun K hK => ?_; simp [hN', hb27, hb27s]; refine hK _ ?_; clear hK)
              refine wps_cons rfl fun K hK => ?_; simp [hN', hb27, hb27s]; refine hK _ ?_; clear hK
              refine wps_nil ?_
              cases hj25
              exact hK26 _ () [] trivial (by simp [hN', hb27, hb27s])
            · have hb28s := hb28
              try simp at hb28s
              iterate 4 (refine wps_cons rfl fun K hK => ?_; simp [hN', hb28, hb28s]; refine hK _ ?_; clear hK)
              refine wps_nil ?_
              cases hj25
              exact hK26 _ () [] trivial (by simp [hN', hb28, hb28s])
          rcases ite_or hj22 with ⟨hb30, hj22⟩ | ⟨hb31, hj22⟩
          · refine SWp.condT' (b := v29) (by simp) hb30 ?_
            refine SWp.reg rfl (hPB _ rfl) fun K hK => ?_
            iterate 3 (refine wps_cons rfl fun K hK => ?_; simp [hN']; refine hK _ ?_; clear hK)
            obtain ⟨e32, he32, hj22⟩ := bind_some hj22
            obtain ⟨he32a, he32b, he32c, he32d⟩ := getI_some he32
            have he32j := he32b; try simp at he32j
            try simp only [Int.toNat_natCast] at he32c he32d
            refine wps_cons rfl fun K hK => ?_; simp [hN', he32a, he32b, he32c, he32d, he32j]; refine hK _ ?_; clear hK
            obtain ⟨l33, hl33, hj22⟩ := bindS_some hj22
            have hl33f : (List.map vb begins14).set e21.Num.toNat (vb true) = List.map vb l33 := set_map (f := vb) hl33
            try simp only [Int.toNat_natCast] at hl33f
            refine wps_cons rfl fun K hK => ?_; simp [hN', he32a, he32b, he32c, he32d, he32j, hl33f]; refine hK _ ?_; clear hK
            refine wps_nil (hK _ ?_); clear hK
            cases hj22
            exact hK23 _ () [] trivial (by simp [hN'])
          · refine SWp.condF' (b := v29) (by simp) hb31 ?_
            refine SWp.skip ?_
            cases hj22
            exact hK23 _ () [] trivial (by simp [hN'])
        obtain ⟨v41, hj35, h16⟩ := bind_some h16
        refine SWp.seqRC rfl (hPB _ rfl) [1, 3, 4, 5, 28, 29, 30, 59] [1] (fun _ : Unit => ⟨[(1, .ref (.box 1) 0 []), (3, .t (vi (c1.Words.length : Int))), (4, .t (.sl true 1 (List.map vb begins34))), (5, .t (vi v15)), (28, .t (.sl false 7 (List.map (GIns.enc false) c1.Words))), (29, .t (vi (c1.Words.length : Int))), (30, .t (vi v15)), (59, .t (vb v41))], [(1, [vs c1.Name, vi c1.Params, .sl false 1 (List.map vi c1.Locals), .sl false 7 (List.map (GIns.enc false) c1.Words)])]⟩) (fun _ => True) (fun _ _ => ?_) fun K36 hK36 => ?_
        rotate_left
        · refine wps_cons rfl fun K hK => ?_; simp [hN']; refine hK _ ?_; clear hK
          iterate 3 (refine wps_cons rfl fun K hK => ?_; simp [hN']; refine hK _ ?_; clear hK)
          rcases ite_or hj35 with ⟨hb37, hj35⟩ | ⟨hb38, hj35⟩
          · have hb37s := hb37
            try simp at hb37s
            iterate 3 (refine wps_off fun K hK => ?_; simp [hN', hb37, hb37s]; refine hK _ ?_; clear hK)
            iterate 2 (refine wps_cons rfl fun K hK => ?_; simp [hN', hb37, hb37s]; refine hK _ ?_; clear hK)
            iterate 3 (refine wps_off fun K hK => ?_; simp [hN', hb37, hb37s]; refine hK _ ?_; clear hK)
            refine wps_cons rfl fun K hK => ?_; simp [hN', hb37, hb37s]; refine hK _ ?_; clear hK
            refine wps_nil ?_
            cases hj35
            exact hK36 _ () [] trivial (by simp [hN', hb37, hb37s])
          · have hb38s := hb38
            try simp at hb38s
            iterate 5 (refine wps_cons rfl fun K hK => ?_; simp [hN', hb38, hb38s]; refine hK _ ?_; clear hK)
            rcases ite_or hj35 with ⟨hb39, hj35⟩ | ⟨hb40, hj35⟩
            · have hb39s := hb39
              try simp at hb39s
              iterate 3 (refine wps_off fun K hK => ?_; simp [hN', hb38, hb38s, hb39, hb39s]; refine hK _ ?_; clear hK)
              refine wps_cons rfl fun K hK => ?_; simp [hN', hb38, hb38s, hb39, hb39s]; refine hK _ ?_; clear hK
              refine wps_nil ?_
              cases hj35
              exact hK36 _ () [] trivial (by simp [hN', hb38, hb38s, hb39, hb39s])
            · have hb40s := hb40
              try simp at hb40s
              iterate 4 (refine wps_cons rfl fun K hK => ?_; simp [hN', hb38, hb38s, hb40, hb40s]; refine hK _ ?_; clear hK)
              refine wps_nil ?_
              cases hj35
              exact hK36 _ () [] trivial (by simp [hN', hb38, hb38s, hb40, hb40s])
        rcases ite_or h16 with ⟨hb42, h16⟩ | ⟨hb43, h16⟩
        · refine SWp.condT' (b := v41) (by simp) hb42 ?_
          refine SWp.reg rfl (hPB _ rfl) fun K hK => ?_
          iterate 3 (refine wps_cons rfl fun K hK => ?_; simp [hN']; refine hK _ ?_; clear hK)
          obtain ⟨e44, he44, h16⟩ := bind_some h16
          obtain ⟨he44a, he44b, he44c, he44d⟩ := getI_some he44
          have he44j := he44b; try simp at he44j
          try simp only [Int.toNat_natCast] at he44c he44d
          refine wps_cons rfl fun K hK => ?_; simp [hN', he44a, he44b, he44c, he44d, he44j]; refine hK _ ?_; clear hK
          obtain ⟨l45, hl45, h16⟩ := bindS_some h16
          have hl45f : (List.map vb begins34).set (IntKind.wrap .i64 (v15 + 1)).toNat (vb true) = List.map vb l45 := set_map (f := vb) hl45
          try simp only [Int.toNat_natCast] at hl45f
          refine wps_cons rfl fun K hK => ?_; simp [hN', he44a, he44b, he44c, he44d, he44j, hl45f]; refine hK _ ?_; clear hK
          refine wps_nil (hK _ ?_); clear hK
          show SWp E C _ _ _
          refine SWp.reg rfl (hPB _ rfl) fun K hK => ?_
          iterate 2 (refine wps_cons rfl fun K hK => ?_; simp [hN']; refine hK _ ?_; clear hK)
          refine wps_nil (hK _ ?_); clear hK
          cases h16
          exact ⟨_, [], rfl, by simp [hN']⟩
        · refine SWp.condF' (b := v41) (by simp) hb43 ?_
          refine SWp.skip ?_
          show SWp E C _ _ _
          refine SWp.reg rfl (hPB _ rfl) fun K hK => ?_
          iterate 2 (refine wps_cons rfl fun K hK => ?_; simp [hN']; refine hK _ ?_; clear hK)
          refine wps_nil (hK _ ?_); clear hK
          cases h16
          exact ⟨_, [], rfl, by simp [hN']⟩
      · refine SWp.condF' (b := decide (v15 < (c1.Words.length : Int))) (by simp) hb20 ?_
        refine SWp.exit ?_
        have h46 := congrArg some (ho17 _ (Option.some.inj h16).symm)
        cases h46
        exact hK12 _ () [] trivial (by simp [hN'])
    refine SWp.seqR rfl (hPB _ rfl) fun K hK => ?_
    refine wps_cons rfl fun K hK => ?_; simp [hN']; refine hK _ ?_; clear hK
    refine wps_nil (hK _ ?_); clear hK
    refine SWp.seqR rfl (hPB _ rfl) fun K hK => ?_
    refine wps_cons rfl fun K hK => ?_; simp [hN']; refine hK _ ?_; clear hK
    refine wps_nil (hK _ ?_); clear hK
    obtain ⟨out64, hj48, h⟩ := bind_some h
    refine SWp.seqC [1, 7] [1] (fun _ : Unit => ⟨[(1, .ref (.box 1) 0 []), (7, .t (.sl true 3 (List.map (GBlock.enc true) out64)))], [(1, [vs c1.Name, vi c1.Params, .sl false 1 (List.map vi c1.Locals), .sl false 7 (List.map (GIns.enc false) c1.Words)])]⟩) (fun _ => True) (fun _ _ => ?_) fun K49 hK49 => ?_
    rotate_left
    · refine SWp.seqR rfl (hPB _ rfl) fun K hK => ?_
      refine wps_cons rfl fun K hK => ?_; simp [hN']; refine hK _ ?_; clear hK
      refine wps_nil (hK _ ?_); clear hK
      refine SWp.block ?_
      refine SWp.loopO [] [1, 3, 4, 7, 8, 9] [1] (fun v : (List GBlock) × Int × Int => ⟨[(1, .ref (.box 1) 0 []), (3, .t (vi (c1.Words.length : Int))), (4, .t (.sl true 1 (List.map vb begins47))), (7, .t (.sl true 3 (List.map (GBlock.enc true) v.1))), (8, .t (vi v.2.1)), (9, .t (vi v.2.2))], [(1, [vs c1.Name, vi c1.Params, .sl false 1 (List.map vi c1.Locals), .sl false 7 (List.map (GIns.enc false) c1.Words)])]⟩) (impl_BlocksOf_l2 c1 begins47) _ ([], 0, 1) hj48 (by simp [hN']) ?_
      intro g s56 h54 ho55
      obtain ⟨out51, from52, i53⟩ := g
      simp only [impl_BlocksOf_l2] at h54
      try dsimp only
      refine SWp.seq ?_
      refine SWp.seqR rfl (hPB _ rfl) fun K hK => ?_
      iterate 3 (refine wps_cons rfl fun K hK => ?_; simp [hN']; refine hK _ ?_; clear hK)
      refine wps_nil (hK _ ?_); clear hK
      rcases ite_or h54 with ⟨hb57, h54⟩ | ⟨hb58, h54⟩
      · refine SWp.condT' (b := decide (i53 ≤ (c1.Words.length : Int))) (by simp) hb57 ?_
        refine SWp.skip ?_
        show SWp E C _ _ _
        refine SWp.seq ?_
        refine SWp.block ?_
        refine SWp.seqR rfl (hPB _ rfl) fun K hK => ?_
        iterate 2 (refine wps_cons rfl fun K hK => ?_; simp [hN']; refine hK _ ?_; clear hK)
        obtain ⟨e59, he59, h54⟩ := bind_some h54
        obtain ⟨he59a, he59b, he59c, he59d⟩ := getI_some he59
        iterate 2 (refine wps_cons rfl fun K hK => ?_; simp [hN', he59a, he59b, he59c, he59d]; refine hK _ ?_; clear hK)
        refine wps_nil (hK _ ?_); clear hK
        rcases ite_or h54 with ⟨hb60, h54⟩ | ⟨hb61, h54⟩
        · refine SWp.condT' (b := e59) (by simp) hb60 ?_
          refine SWp.seqR rfl (hPB _ rfl) fun K hK => ?_
          iterate 5 (refine wps_cons rfl fun K hK => ?_; simp [hN']; refine hK _ ?_; clear hK)
          obtain ⟨l62, hl62, h54⟩ := bind_some h54
          obtain ⟨hl62a, hl62b, hl62d⟩ := appI_some hl62
          have hl62f : List.map (GBlock.enc true) out51 ++ List.map (GBlock.enc true) [(⟨from52, i53, []⟩ : GBlock)] = List.map (GBlock.enc true) l62 := app_map (f := (GBlock.enc true)) hl62d
          simp [eSl, GBlock.enc] at hl62a hl62b hl62f
          iterate 2 (refine wps_cons rfl fun K hK => ?_; simp [hN', hl62a, hl62b, hl62f]; refine hK _ ?_; clear hK)
          refine wps_nil (hK _ ?_); clear hK
          refine SWp.reg rfl (hPB _ rfl) fun K hK => ?_
          iterate 2 (refine wps_cons rfl fun K hK => ?_; simp [hN']; refine hK _ ?_; clear hK)
          refine wps_nil (hK _ ?_); clear hK
          show SWp E C _ _ _
          refine SWp.reg rfl (hPB _ rfl) fun K hK => ?_
          iterate 3 (refine wps_cons rfl fun K hK => ?_; simp [hN']; refine hK _ ?_; clear hK)
          refine wps_nil (hK _ ?_); clear hK
          cases h54
          exact ⟨_, [], rfl, by simp [hN']⟩
        · refine SWp.condF' (b := e59) (by simp) hb61 ?_
          refine SWp.skip ?_
          show SWp E C _ _ _
          refine SWp.reg rfl (hPB _ rfl) fun K hK => ?_
          iterate 3 (refine wps_cons rfl fun K hK => ?_; simp [hN']; refine hK _ ?_; clear hK)
          refine wps_nil (hK _ ?_); clear hK
          cases h54
          exact ⟨_, [], rfl, by simp [hN']⟩
      · refine SWp.condF' (b := decide (i53 ≤ (c1.Words.length : Int))) (by simp) hb58 ?_
        refine SWp.exit ?_
        have h63 := congrArg some (ho55 _ (Option.some.inj h54).symm)
        cases h63
        exact hK49 _ () [] trivial (by simp [hN'])
    obtain ⟨out100, hj65, h⟩ := bind_some h
    refine SWp.seqC [7] [] (fun _ : Unit => ⟨[(7, .t (.sl true 3 (List.map (GBlock.enc true) out100)))], []⟩) (fun _ => True) (fun _ _ => ?_) fun K66 hK66 => ?_
    rotate_left
    · refine SWp.seqR rfl (hPB _ rfl) fun K hK => ?_
      iterate 3 (refine wps_cons rfl fun K hK => ?_; simp [hN']; refine hK _ ?_; clear hK)
      refine wps_nil (hK _ ?_); clear hK
      refine SWp.block ?_
      refine SWp.loopO [] [1, 7, 82, 83] [1] (fun v : (List GBlock) × Int => ⟨[(1, .ref (.box 1) 0 []), (7, .t (.sl true 3 (List.map (GBlock.enc true) v.1))), (82, .t (vi (out64.length : Int))), (83, .t (vi v.2))], [(1, [vs c1.Name, vi c1.Params, .sl false 1 (List.map vi c1.Locals), .sl false 7 (List.map (GIns.enc false) c1.Words)])]⟩) (impl_BlocksOf_l3 c1 out64) _ (out64, 0) hj65 (by simp [hN']) ?_
      intro g s72 h70 ho71
      obtain ⟨out68, v69⟩ := g
      simp only [impl_BlocksOf_l3] at h70
      try dsimp only
      refine SWp.seqR rfl (hPB _ rfl) fun K hK => ?_
      refine wps_cons rfl fun K hK => ?_; simp [hN']; refine hK _ ?_; clear hK
      refine wps_nil (hK _ ?_); clear hK
      refine SWp.seq ?_
      rcases ite_or h70 with ⟨hb73, h70⟩ | ⟨hb74, h70⟩
      · refine SWp.condT' (b := decide (v69 < (out64.length : Int))) (by simp) hb73 ?_
        refine SWp.skip ?_
        show SWp E C _ _ _
        obtain ⟨out98, hj75, h70⟩ := bind_some h70
        refine SWp.seqC [1, 7, 82, 83] [1] (fun _ : Unit => ⟨[(1, .ref (.box 1) 0 []), (7, .t (.sl true 3 (List.map (GBlock.enc true) out98))), (82, .t (vi (out64.length : Int))), (83, .t (vi v69))], [(1, [vs c1.Name, vi c1.Params, .sl false 1 (List.map vi c1.Locals), .sl false 7 (List.map (GIns.enc false) c1.Words)])]⟩) (fun _ => True) (fun _ _ => ?_) fun K76 hK76 => ?_
        rotate_left
        · refine SWp.block ?_
          refine SWp.seqR rfl (hPB _ rfl) fun K hK => ?_
          iterate 2 (refine wps_cons rfl fun K hK => ?_; simp [hN']; refine hK _ ?_; clear hK)
          refine wps_nil (hK _ ?_); clear hK
          refine SWp.seq ?_
          obtain ⟨e79, he79, hj75⟩ := bind_some hj75
          obtain ⟨he79a, he79b, he79c, he79d⟩ := getI_some he79
          refine SWp.drawT rfl (hPB _ rfl) [(86, .t (GCode.enc false c1)), (87, .al (.slot 7) 0 [] none), (88, .t (vi v69)), (89, .ref (.slot 7) 0 [(v69.toNat, 0)]), (90, .ref (.slot 7) 0 [(v69.toNat, 1)]), (91, .t (vi e79.To)), (92, .t (vi (IntKind.wrap .i64 (e79.To - 1))))] [[], [], [], [1, 2], [1, 2, 3], [1, 2, 3, 4], [1, 2, 3, 4, 5], [0, 1, 2, 3, 4, 5, 6], [0, 1, 2, 3, 4, 5, 6, 7]] (by simp) (by simp) (by simp [look]) rfl rfl rfl ?_ fun K hK => ?_
          · refine ⟨?_, ?_, ?_, ?_, ?_, ?_, ?_, trivial⟩
            all_goals (intro τ hbx hb hd hf K hK; try simp [vsAt] at hd; simp [vsAt] at hf; first | (refine wps_cons rfl fun K' hK' => ?_; simp [hN', hbx, hb, hd, hf, he79a, he79b, he79c, he79d]; exact hK' _ (wps_nil (hK _ (by simp [vsAt, hbx, he79a, he79b, he79c, he79d])))))
          obtain ⟨r80, hc81, hj75⟩ := bind_some hj75
          refine wps_call [(.take, .tmp 86), (.take, .tmp 92)] rfl rfl ent83 (impl_Next_ok _ _ hc81) fun K hK => ?_; simp [hN', he79a, he79b, he79c, he79d]; refine hK _ ?_; clear hK
          refine wps_cons rfl fun K hK => ?_; simp [hN', he79a, he79b, he79c, he79d]; refine hK _ ?_; clear hK
          refine wps_nil (hK _ ?_); clear hK
          show SWp E C _ _ _
          refine SWp.seqR rfl (hPB _ rfl) fun K hK => ?_
          iterate 3 (refine wps_cons rfl fun K hK => ?_; simp [hN']; refine hK _ ?_; clear hK)
          refine wps_nil (hK _ ?_); clear hK
          refine SWp.block ?_
          refine SWp.loopO [] [1, 7, 10, 11, 82, 83, 95, 96] [1] (fun v : (List GBlock) × Int => ⟨[(1, .ref (.box 1) 0 []), (7, .t (.sl true 3 (List.map (GBlock.enc true) v.1))), (10, .t (vi v69)), (11, .t (.sl true 1 (List.map vi r80))), (82, .t (vi (out64.length : Int))), (83, .t (vi v69)), (95, .t (vi (out68.length : Int))), (96, .t (vi v.2))], [(1, [vs c1.Name, vi c1.Params, .sl false 1 (List.map vi c1.Locals), .sl false 7 (List.map (GIns.enc false) c1.Words)])]⟩) (impl_BlocksOf_l4 out68 v69 r80) _ (out68, 0) hj75 (by simp [hN']) ?_
          intro g s86 h84 ho85
          obtain ⟨out82, v83⟩ := g
          simp only [impl_BlocksOf_l4] at h84
          try dsimp only
          refine SWp.seqR rfl (hPB _ rfl) fun K hK => ?_
          refine wps_cons rfl fun K hK => ?_; simp [hN']; refine hK _ ?_; clear hK
          refine wps_nil (hK _ ?_); clear hK
          refine SWp.seq ?_
          rcases ite_or h84 with ⟨hb87, h84⟩ | ⟨hb88, h84⟩
          · refine SWp.condT' (b := decide (v83 < (out68.length : Int))) (by simp) hb87 ?_
            refine SWp.skip ?_
            show SWp E C _ _ _
            refine SWp.seq ?_
            refine SWp.block ?_
            refine SWp.seqR rfl (hPB _ rfl) fun K hK => ?_
            iterate 2 (refine wps_cons rfl fun K hK => ?_; simp [hN']; refine hK _ ?_; clear hK)
            refine wps_nil (hK _ ?_); clear hK
            refine SWp.seqR rfl (hPB _ rfl) fun K hK => ?_
            iterate 3 (refine wps_cons rfl fun K hK => ?_; simp [hN']; refine hK _ ?_; clear hK)
            obtain ⟨e89, he89, h84⟩ := bind_some h84
            obtain ⟨he89a, he89b, he89c, he89d⟩ := getI_some he89
            iterate 3 (refine wps_cons rfl fun K hK => ?_; simp [hN', he89a, he89b, he89c, he89d]; refine hK _ ?_; clear hK)
            obtain ⟨r90, hc91, h84⟩ := bind_some h84
            refine wps_call [(.bor, .tmp 99), (.take, .tmp 104)] rfl rfl ent52 (impl_hasInt_ok _ _ hc91) fun K hK => ?_; simp [hN', he89a, he89b, he89c, he89d]; refine hK _ ?_; clear hK
            refine wps_nil (hK _ ?_); clear hK
            rcases ite_or h84 with ⟨hb92, h84⟩ | ⟨hb93, h84⟩
            · refine SWp.condT' (b := r90) (by simp) hb92 ?_
              refine SWp.reg rfl (hPB _ rfl) fun K hK => ?_
              iterate 4 (refine wps_cons rfl fun K hK => ?_; simp [hN']; refine hK _ ?_; clear hK)
              obtain ⟨e94, he94, h84⟩ := bind_some h84
              obtain ⟨he94a, he94b, he94c, he94d⟩ := getI_some he94
              iterate 5 (refine wps_cons rfl fun K hK => ?_; simp [hN', he94a, he94b, he94c, he94d]; refine hK _ ?_; clear hK)
              obtain ⟨l95, hl95, h84⟩ := bind_some h84
              obtain ⟨hl95a, hl95b, hl95d⟩ := appI_some hl95
              have hl95f : List.map vi e94.Next ++ List.map vi [v83] = List.map vi l95 := app_map (f := vi) hl95d
              simp [eSl] at hl95a hl95b hl95f
              iterate 3 (refine wps_cons rfl fun K hK => ?_; simp [hN', he94a, he94b, he94c, he94d, hl95a, hl95b, hl95f]; refine hK _ ?_; clear hK)
              obtain ⟨l96, hl96, h84⟩ := bindS_some h84
              have hl96f : (List.map (GBlock.enc true) out82).set v69.toNat (.agg [vi e94.From, vi e94.To, .sl true 1 (List.map vi l95)]) = List.map (GBlock.enc true) l96 := set_map (f := (GBlock.enc true)) hl96
              try simp only [Int.toNat_natCast] at hl96f
              refine wps_cons rfl fun K hK => ?_; simp [hN', he94a, he94b, he94c, he94d, hl95a, hl95b, hl95f, hl96f]; refine hK _ ?_; clear hK
              refine wps_nil (hK _ ?_); clear hK
              show SWp E C _ _ _
              refine SWp.reg rfl (hPB _ rfl) fun K hK => ?_
              iterate 2 (refine wps_cons rfl fun K hK => ?_; simp [hN']; refine hK _ ?_; clear hK)
              refine wps_nil (hK _ ?_); clear hK
              cases h84
              exact ⟨_, [], rfl, by simp [hN']⟩
            · refine SWp.condF' (b := r90) (by simp) hb93 ?_
              refine SWp.skip ?_
              show SWp E C _ _ _
              refine SWp.reg rfl (hPB _ rfl) fun K hK => ?_
              iterate 2 (refine wps_cons rfl fun K hK => ?_; simp [hN']; refine hK _ ?_; clear hK)
              refine wps_nil (hK _ ?_); clear hK
              cases h84
              exact ⟨_, [], rfl, by simp [hN']⟩
          · refine SWp.condF' (b := decide (v83 < (out68.length : Int))) (by simp) hb88 ?_
            refine SWp.exit ?_
            have h97 := congrArg some (ho85 _ (Option.some.inj h84).symm)
            cases h97
            exact hK76 _ () [] trivial (by simp [hN'])
        refine SWp.reg rfl (hPB _ rfl) fun K hK => ?_
        iterate 2 (refine wps_cons rfl fun K hK => ?_; simp [hN']; refine hK _ ?_; clear hK)
        refine wps_nil (hK _ ?_); clear hK
        cases h70
        exact ⟨_, [], rfl, by simp [hN']⟩
      · refine SWp.condF' (b := decide (v69 < (out64.length : Int))) (by simp) hb74 ?_
        refine SWp.exit ?_
        have h99 := congrArg some (ho71 _ (Option.some.inj h70).symm)
        cases h99
        exact hK66 _ () [] trivial (by simp [hN'])
    refine SWp.seqR rfl (hPB _ rfl) fun K hK => ?_
    iterate 2 (refine wps_cons rfl fun K hK => ?_; simp [hN']; refine hK _ ?_; clear hK)
    refine wps_nil (hK _ ?_); clear hK
    cases h
    refine SWp.ret ?_
    simp [thenS, inBlockS, res50]
end Go.Proofs.T
set_option linter.unusedVariables false
set_option linter.unusedSimpArgs false
set_option maxHeartbeats 1000000
namespace Go.Proofs.T
open Go.OM
theorem res51 : Tryd.f51.results.toList = [.tmp 4] := rfl
theorem ent51 : Enters E.P 51 := enters_of Tryd.func51 (by simp [Tryd.f51]) rfl
theorem impl_reachedBlocks_ok (list1 : List GBlock) (without2 : Int) {r0 : List Bool} (h : impl_reachedBlocks list1 without2 = some r0) : Ok E 51 [.val (.sl false 3 (List.map (GBlock.enc false) list1)), .val (vi without2)] [.sl true 1 (List.map vb r0)] [] := by
  refine ok_of_body (fn := Tryd.f51) Tryd.func51 rfl (by simp [Tryd.f51]) fun C hN hP => ?_
  have hPB : ∀ l, pinK [] l = true → pinB C.pin l = true := pinB_of (by rw [hP]; rfl)
  have hN' : C.N = 61 := hN
  clear hN
  unfold impl_reachedBlocks at h
  refine SWp.seqR rfl (hPB _ rfl) fun K hK => ?_
  refine wps_cons rfl fun K hK => ?_; simp [hN']; refine hK _ ?_; clear hK
  refine wps_nil (hK _ ?_); clear hK
  refine SWp.seqR rfl (hPB _ rfl) fun K hK => ?_
  iterate 2 (refine wps_cons rfl fun K hK => ?_; simp [hN']; refine hK _ ?_; clear hK)
  obtain ⟨l3, hl3, h⟩ := bind_some h
  obtain ⟨hl3a, hl3b, hl3c, hl3d⟩ := mkI_some hl3
  have hl3f : List.replicate (list1.length : Int).toNat (vb false) = List.map vb l3 := rep_map (f := vb) hl3d
  try simp only [Int.toNat_natCast] at hl3f
  iterate 2 (refine wps_cons rfl fun K hK => ?_; simp [hN', hl3a, hl3b, hl3c, hl3f]; refine hK _ ?_; clear hK)
  refine wps_nil (hK _ ?_); clear hK
  refine SWp.seq ?_
  obtain ⟨v8, hj4, h⟩ := bind_some h
  refine SWp.seqRC rfl (hPB _ rfl) [0, 1, 5, 19] [] (fun _ : Unit => ⟨[(0, .t (.sl false 3 (List.map (GBlock.enc false) list1))), (1, .t (vi without2)), (5, .t (.sl true 1 (List.map vb l3))), (19, .t (vb v8))], []⟩) (fun _ => True) (fun _ _ => ?_) fun K5 hK5 => ?_
  rotate_left
  · refine wps_cons rfl fun K hK => ?_; simp [hN']; refine hK _ ?_; clear hK
    iterate 2 (refine wps_cons rfl fun K hK => ?_; simp [hN']; refine hK _ ?_; clear hK)
    rcases ite_or hj4 with ⟨hb6, hj4⟩ | ⟨hb7, hj4⟩
    · have hb6s := hb6
      try simp at hb6s
      iterate 3 (refine wps_off fun K hK => ?_; simp [hN', hb6, hb6s]; refine hK _ ?_; clear hK)
      refine wps_cons rfl fun K hK => ?_; simp [hN', hb6, hb6s]; refine hK _ ?_; clear hK
      refine wps_nil ?_
      cases hj4
      exact hK5 _ () [] trivial (by simp [hN', hb6, hb6s])
    · have hb7s := hb7
      try simp at hb7s
      iterate 4 (refine wps_cons rfl fun K hK => ?_; simp [hN', hb7, hb7s]; refine hK _ ?_; clear hK)
      refine wps_nil ?_
      cases hj4
      exact hK5 _ () [] trivial (by simp [hN', hb7, hb7s])
  rcases ite_or h with ⟨hb9, h⟩ | ⟨hb10, h⟩
  · refine SWp.condT' (b := v8) (by simp) hb9 ?_
    refine SWp.seqR rfl (hPB _ rfl) fun K hK => ?_
    iterate 2 (refine wps_cons rfl fun K hK => ?_; simp [hN']; refine hK _ ?_; clear hK)
    refine wps_nil (hK _ ?_); clear hK
    cases h
    refine SWp.ret ?_
    simp [thenS, inBlockS, res51]
  · refine SWp.condF' (b := v8) (by simp) hb10 ?_
    refine SWp.skip ?_
    show SWp E C _ _ _
    refine SWp.seqR rfl (hPB _ rfl) fun K hK => ?_
    refine wps_cons rfl fun K hK => ?_; simp [hN']; refine hK _ ?_; clear hK
    obtain ⟨e11, he11, h⟩ := bind_some h
    obtain ⟨he11a, he11b, he11c, he11d⟩ := getI_some he11
    have he11e : 0 < l3.length := by omega
    have he11g : l3[0]? = some e11 := he11c
    have he11i : l3[0] = e11 := he11d he11e
    refine wps_cons rfl fun K hK => ?_; simp [hN', he11a, he11b, he11c, he11d, he11e, he11g, he11i]; refine hK _ ?_; clear hK
    obtain ⟨l12, hl12, h⟩ := bindS_some h
    have hl12f : (List.map vb l3).set 0 (vb true) = List.map vb l12 := set_map (f := vb) hl12
    try simp only [Int.toNat_natCast] at hl12f
    refine wps_cons rfl fun K hK => ?_; simp [hN', he11a, he11b, he11c, he11d, he11e, he11g, he11i, hl12f]; refine hK _ ?_; clear hK
    refine wps_nil (hK _ ?_); clear hK
    refine SWp.seqR rfl (hPB _ rfl) fun K hK => ?_
    iterate 2 (refine wps_cons rfl fun K hK => ?_; simp [hN']; refine hK _ ?_; clear hK)
    refine wps_nil (hK _ ?_); clear hK
    obtain ⟨out48, hj13, h⟩ := bind_some h
    refine SWp.seqC [5] [] (fun _ : Unit => ⟨[(5, .t (.sl true 1 (List.map vb out48)))], []⟩) (fun _ => True) (fun _ _ => ?_) fun K14 hK14 => ?_
    rotate_left
    · refine SWp.block ?_
      refine SWp.loopO [] [0, 1, 5, 6] [] (fun v : (List Bool) × (List Int) => ⟨[(0, .t (.sl false 3 (List.map (GBlock.enc false) list1))), (1, .t (vi without2)), (5, .t (.sl true 1 (List.map vb v.1))), (6, .t (.sl true 1 (List.map vi v.2)))], []⟩) (impl_reachedBlocks_l1 list1 without2) _ (l12, [0]) hj13 (by simp [hN']) ?_
      intro g s20 h18 ho19
      obtain ⟨out16, todo17⟩ := g
      simp only [impl_reachedBlocks_l1] at h18
      try dsimp only
      refine SWp.seq ?_
      refine SWp.seqR rfl (hPB _ rfl) fun K hK => ?_
      iterate 3 (refine wps_cons rfl fun K hK => ?_; simp [hN']; refine hK _ ?_; clear hK)
      refine wps_nil (hK _ ?_); clear hK
      rcases ite_or h18 with ⟨hb21, h18⟩ | ⟨hb22, h18⟩
      · refine SWp.condT' (b := decide ((todo17.length : Int) > 0)) (by simp) hb21 ?_
        refine SWp.skip ?_
        show SWp E C _ _ _
        refine SWp.block ?_
        refine SWp.seqR rfl (hPB _ rfl) fun K hK => ?_
        refine wps_cons rfl fun K hK => ?_; simp [hN']; refine hK _ ?_; clear hK
        obtain ⟨e23, he23, h18⟩ := bind_some h18
        obtain ⟨he23a, he23b, he23c, he23d⟩ := getI_some he23
        have he23e : 0 < todo17.length := by omega
        have he23g : todo17[0]? = some e23 := he23c
        have he23i : todo17[0] = e23 := he23d he23e
        iterate 3 (refine wps_cons rfl fun K hK => ?_; simp [hN', he23a, he23b, he23c, he23d, he23e, he23g, he23i]; refine hK _ ?_; clear hK)
        refine wps_nil (hK _ ?_); clear hK
        refine SWp.seqR rfl (hPB _ rfl) fun K hK => ?_
        refine wps_cons rfl fun K hK => ?_; simp [hN']; refine hK _ ?_; clear hK
        obtain ⟨l24, hl24, h18⟩ := bind_some h18
        obtain ⟨hl24a, hl24b, hl24c, hl24d, hl24e, hl24g, hl24i, hl24j⟩ := subI_some hl24
        have hl24f : (List.map vi todo17).drop 1 = List.map vi l24 := by subst hl24e; simp
        have hl24m := hl24f; try simp at hl24m
        have hl24k : 1 ≤ todo17.length := by omega
        iterate 2 (refine wps_cons rfl fun K hK => ?_; simp [hN', hl24a, hl24b, hl24c, hl24d, hl24f, hl24g, hl24i, hl24j, hl24m, hl24k]; refine hK _ ?_; clear hK)
        refine wps_nil (hK _ ?_); clear hK
        refine SWp.seqR rfl (hPB _ rfl) fun K hK => ?_
        iterate 2 (refine wps_cons rfl fun K hK => ?_; simp [hN']; refine hK _ ?_; clear hK)
        obtain ⟨e25, he25, h18⟩ := bind_some h18
        obtain ⟨he25a, he25b, he25c, he25d⟩ := getI_some he25
        iterate 5 (refine wps_cons rfl fun K hK => ?_; simp [hN', he25a, he25b, he25c, he25d]; refine hK _ ?_; clear hK)
        refine wps_nil (hK _ ?_); clear hK
        refine SWp.block ?_
        refine SWp.loopO [] [0, 1, 5, 6, 36, 37, 38] [] (fun v : (List Bool) × (List Int) × Int => ⟨[(0, .t (.sl false 3 (List.map (GBlock.enc false) list1))), (1, .t (vi without2)), (5, .t (.sl true 1 (List.map vb v.1))), (6, .t (.sl true 1 (List.map vi v.2.1))), (36, .t (.sl false 1 (List.map vi e25.Next))), (37, .t (vi (e25.Next.length : Int))), (38, .t (vi v.2.2))], []⟩) (impl_reachedBlocks_l2 without2 e25) _ (out16, l24, 0) h18 (by simp [hN']) ?_
        intro g s31 h29 ho30
        obtain ⟨out26, todo27, v28⟩ := g
        simp only [impl_reachedBlocks_l2] at h29
        try dsimp only
        refine SWp.seqR rfl (hPB _ rfl) fun K hK => ?_
        refine wps_cons rfl fun K hK => ?_; simp [hN']; refine hK _ ?_; clear hK
        refine wps_nil (hK _ ?_); clear hK
        refine SWp.seq ?_
        rcases ite_or h29 with ⟨hb32, h29⟩ | ⟨hb33, h29⟩
        · refine SWp.condT' (b := decide (v28 < (e25.Next.length : Int))) (by simp) hb32 ?_
          refine SWp.skip ?_
          show SWp E C _ _ _
          refine SWp.seq ?_
          refine SWp.block ?_
          refine SWp.seqR rfl (hPB _ rfl) fun K hK => ?_
          obtain ⟨e34, he34, h29⟩ := bind_some h29
          obtain ⟨he34a, he34b, he34c, he34d⟩ := getI_some he34
          iterate 3 (refine wps_cons rfl fun K hK => ?_; simp [hN', he34a, he34b, he34c, he34d]; refine hK _ ?_; clear hK)
          refine wps_nil (hK _ ?_); clear hK
          obtain ⟨v40, hj35, h29⟩ := bind_some h29
          refine SWp.seqRC rfl (hPB _ rfl) [0, 1, 5, 6, 9, 36, 37, 38, 51] [] (fun _ : Unit => ⟨[(0, .t (.sl false 3 (List.map (GBlock.enc false) list1))), (1, .t (vi without2)), (5, .t (.sl true 1 (List.map vb out26))), (6, .t (.sl true 1 (List.map vi todo27))), (9, .t (vi e34)), (36, .t (.sl false 1 (List.map vi e25.Next))), (37, .t (vi (e25.Next.length : Int))), (38, .t (vi v28)), (51, .t (vb v40))], []⟩) (fun _ => True) (fun _ _ => ?_) fun K36 hK36 => ?_
          rotate_left
          · refine wps_cons rfl fun K hK => ?_; simp [hN']; refine hK _ ?_; clear hK
            iterate 3 (refine wps_cons rfl fun K hK => ?_; simp [hN']; refine hK _ ?_; clear hK)
            rcases ite_or hj35 with ⟨hb37, hj35⟩ | ⟨hb38, hj35⟩
            · have hb37s := hb37
              try simp at hb37s
              iterate 2 (refine wps_cons rfl fun K hK => ?_; simp [hN', hb37, hb37s]; refine hK _ ?_; clear hK)
              obtain ⟨e39, he39, hj35⟩ := bind_some hj35
              obtain ⟨he39a, he39b, he39c, he39d⟩ := getI_some he39
              iterate 4 (refine wps_cons rfl fun K hK => ?_; simp [hN', hb37, hb37s, he39a, he39b, he39c, he39d]; refine hK _ ?_; clear hK)
              refine wps_nil ?_
              cases hj35
              exact hK36 _ () [] trivial (by simp [hN', hb37, hb37s, he39a, he39b, he39c, he39d])
            · have hb38s := hb38
              try simp at hb38s
              iterate 5 (refine wps_off fun K hK => ?_; simp [hN', hb38, hb38s]; refine hK _ ?_; clear hK)
              refine wps_cons rfl fun K hK => ?_; simp [hN', hb38, hb38s]; refine hK _ ?_; clear hK
              refine wps_nil ?_
              cases hj35
              exact hK36 _ () [] trivial (by simp [hN', hb38, hb38s])
          rcases ite_or h29 with ⟨hb41, h29⟩ | ⟨hb42, h29⟩
          · refine SWp.condT' (b := v40) (by simp) hb41 ?_
            refine SWp.seqR rfl (hPB _ rfl) fun K hK => ?_
            iterate 2 (refine wps_cons rfl fun K hK => ?_; simp [hN']; refine hK _ ?_; clear hK)
            obtain ⟨e43, he43, h29⟩ := bind_some h29
            obtain ⟨he43a, he43b, he43c, he43d⟩ := getI_some he43
            refine wps_cons rfl fun K hK => ?_; simp [hN', he43a, he43b, he43c, he43d]; refine hK _ ?_; clear hK
            obtain ⟨l44, hl44, h29⟩ := bindS_some h29
            have hl44f : (List.map vb out26).set e34.toNat (vb true) = List.map vb l44 := set_map (f := vb) hl44
            try simp only [Int.toNat_natCast] at hl44f
            refine wps_cons rfl fun K hK => ?_; simp [hN', he43a, he43b, he43c, he43d, hl44f]; refine hK _ ?_; clear hK
            refine wps_nil (hK _ ?_); clear hK
            refine SWp.reg rfl (hPB _ rfl) fun K hK => ?_
            iterate 3 (refine wps_cons rfl fun K hK => ?_; simp [hN']; refine hK _ ?_; clear hK)
            obtain ⟨l45, hl45, h29⟩ := bind_some h29
            obtain ⟨hl45a, hl45b, hl45d⟩ := appI_some hl45
            have hl45f : List.map vi todo27 ++ List.map vi [e34] = List.map vi l45 := app_map (f := vi) hl45d
            simp [eSl] at hl45a hl45b hl45f
            iterate 2 (refine wps_cons rfl fun K hK => ?_; simp [hN', hl45a, hl45b, hl45f]; refine hK _ ?_; clear hK)
            refine wps_nil (hK _ ?_); clear hK
            show SWp E C _ _ _
            refine SWp.reg rfl (hPB _ rfl) fun K hK => ?_
            iterate 2 (refine wps_cons rfl fun K hK => ?_; simp [hN']; refine hK _ ?_; clear hK)
            refine wps_nil (hK _ ?_); clear hK
            cases h29
            exact ⟨_, [], rfl, by simp [hN']⟩
          · refine SWp.condF' (b := v40) (by simp) hb42 ?_
            refine SWp.skip ?_
            show SWp E C _ _ _
            refine SWp.reg rfl (hPB _ rfl) fun K hK => ?_
            iterate 2 (refine wps_cons rfl fun K hK => ?_; simp [hN']; refine hK _ ?_; clear hK)
            refine wps_nil (hK _ ?_); clear hK
            cases h29
            exact ⟨_, [], rfl, by simp [hN']⟩
        · refine SWp.condF' (b := decide (v28 < (e25.Next.length : Int))) (by simp) hb33 ?_
          refine SWp.exit ?_
          have h46 := congrArg some (ho30 _ (Option.some.inj h29).symm)
          cases h46
          exact ⟨_, [], rfl, by simp [hN']⟩
      · refine SWp.condF' (b := decide ((todo17.length : Int) > 0)) (by simp) hb22 ?_
        refine SWp.exit ?_
        have h47 := congrArg some (ho19 _ (Option.some.inj h18).symm)
        cases h47
        exact hK14 _ () [] trivial (by simp [hN'])
    refine SWp.seqR rfl (hPB _ rfl) fun K hK => ?_
    iterate 2 (refine wps_cons rfl fun K hK => ?_; simp [hN']; refine hK _ ?_; clear hK)
    refine wps_nil (hK _ ?_); clear hK
    cases h
    refine SWp.ret ?_
    simp [thenS, inBlockS, res51]
end Go.Proofs.T
set_option linter.unusedVariables false
set_option linter.unusedSimpArgs false
set_option maxHeartbeats 1000000
namespace Go.Proofs.T
open Go.OM
theorem res56 : Tryd.f56.results.toList = [.tmp 6] := rfl
theorem ent56 : Enters E.P 56 := enters_of Tryd.func56 (by simp [Tryd.f56]) rfl
theorem impl_table_ok (rows1 : Int) (columns2 : Int) (is3 : Bool) {r0 : List (List Bool)} (h : impl_table rows1 columns2 is3 = some r0) : Ok E 56 [.val (vi rows1), .val (vi columns2), .val (vb is3)] [.sl true 1 (List.map (eSl true 1 vb) r0)] [] := by
  refine ok_of_body (fn := Tryd.f56) Tryd.func56 rfl (by simp [Tryd.f56]) fun C hN hP => ?_
  have hPB : ∀ l, pinK [] l = true → pinB C.pin l = true := pinB_of (by rw [hP]; rfl)
  have hN' : C.N = 31 := hN
  clear hN
  unfold impl_table at h
  refine SWp.seqR rfl (hPB _ rfl) fun K hK => ?_
  refine wps_cons rfl fun K hK => ?_; simp [hN']; refine hK _ ?_; clear hK
  refine wps_nil (hK _ ?_); clear hK
  refine SWp.seqR rfl (hPB _ rfl) fun K hK => ?_
  refine wps_cons rfl fun K hK => ?_; simp [hN']; refine hK _ ?_; clear hK
  refine wps_nil (hK _ ?_); clear hK
  obtain ⟨out35, hj4, h⟩ := bind_some h
  refine SWp.seqC [7] [] (fun _ : Unit => ⟨[(7, .t (.sl true 1 (List.map (eSl true 1 vb) out35)))], []⟩) (fun _ => True) (fun _ _ => ?_) fun K5 hK5 => ?_
  rotate_left
  · refine SWp.seqR rfl (hPB _ rfl) fun K hK => ?_
    iterate 2 (refine wps_cons rfl fun K hK => ?_; simp [hN']; refine hK _ ?_; clear hK)
    refine wps_nil (hK _ ?_); clear hK
    refine SWp.block ?_
    refine SWp.loopO [] [1, 2, 7, 10, 11] [] (fun v : (List (List Bool)) × Int => ⟨[(1, .t (vi columns2)), (2, .t (vb is3)), (7, .t (.sl true 1 (List.map (eSl true 1 vb) v.1))), (10, .t (vi rows1)), (11, .t (vi v.2))], []⟩) (impl_table_l1 rows1 columns2 is3) _ ([], 0) hj4 (by simp [hN']) ?_
    intro g s11 h9 ho10
    obtain ⟨out7, v8⟩ := g
    simp only [impl_table_l1] at h9
    try dsimp only
    refine SWp.seqR rfl (hPB _ rfl) fun K hK => ?_
    refine wps_cons rfl fun K hK => ?_; simp [hN']; refine hK _ ?_; clear hK
    refine wps_nil (hK _ ?_); clear hK
    refine SWp.seq ?_
    rcases ite_or h9 with ⟨hb12, h9⟩ | ⟨hb13, h9⟩
    · refine SWp.condT' (b := decide (v8 < rows1)) (by simp) hb12 ?_
      refine SWp.skip ?_
      show SWp E C _ _ _
      obtain ⟨out33, hj14, h9⟩ := bind_some h9
      refine SWp.seqC [1, 2, 7, 10, 11] [] (fun _ : Unit => ⟨[(1, .t (vi columns2)), (2, .t (vb is3)), (7, .t (.sl true 1 (List.map (eSl true 1 vb) out33))), (10, .t (vi rows1)), (11, .t (vi v8))], []⟩) (fun _ => True) (fun _ _ => ?_) fun K15 hK15 => ?_
      rotate_left
      · refine SWp.block ?_
        refine SWp.seqR rfl (hPB _ rfl) fun K hK => ?_
        refine wps_cons rfl fun K hK => ?_; simp [hN']; refine hK _ ?_; clear hK
        obtain ⟨l17, hl17, hj14⟩ := bind_some hj14
        obtain ⟨hl17a, hl17b, hl17c, hl17d⟩ := mkI_some hl17
        have hl17f : List.replicate columns2.toNat (vb false) = List.map vb l17 := rep_map (f := vb) hl17d
        try simp only [Int.toNat_natCast] at hl17f
        iterate 2 (refine wps_cons rfl fun K hK => ?_; simp [hN', hl17a, hl17b, hl17c, hl17f]; refine hK _ ?_; clear hK)
        refine wps_nil (hK _ ?_); clear hK
        obtain ⟨row31, hj18, hj14⟩ := bind_some hj14
        refine SWp.seqC [1, 2, 7, 8, 10, 11] [] (fun _ : Unit => ⟨[(1, .t (vi columns2)), (2, .t (vb is3)), (7, .t (.sl true 1 (List.map (eSl true 1 vb) out7))), (8, .t (.sl true 1 (List.map vb row31))), (10, .t (vi rows1)), (11, .t (vi v8))], []⟩) (fun _ => True) (fun _ _ => ?_) fun K19 hK19 => ?_
        rotate_left
        · refine SWp.seqR rfl (hPB _ rfl) fun K hK => ?_
          iterate 3 (refine wps_cons rfl fun K hK => ?_; simp [hN']; refine hK _ ?_; clear hK)
          refine wps_nil (hK _ ?_); clear hK
          refine SWp.block ?_
          refine SWp.loopO [] [1, 2, 7, 8, 10, 11, 16, 17] [] (fun v : (List Bool) × Int => ⟨[(1, .t (vi columns2)), (2, .t (vb is3)), (7, .t (.sl true 1 (List.map (eSl true 1 vb) out7))), (8, .t (.sl true 1 (List.map vb v.1))), (10, .t (vi rows1)), (11, .t (vi v8)), (16, .t (vi (l17.length : Int))), (17, .t (vi v.2))], []⟩) (impl_table_l2 is3 l17) _ (l17, 0) hj18 (by simp [hN']) ?_
          intro g s25 h23 ho24
          obtain ⟨row21, v22⟩ := g
          simp only [impl_table_l2] at h23
          try dsimp only
          refine SWp.seqR rfl (hPB _ rfl) fun K hK => ?_
          refine wps_cons rfl fun K hK => ?_; simp [hN']; refine hK _ ?_; clear hK
          refine wps_nil (hK _ ?_); clear hK
          refine SWp.seq ?_
          rcases ite_or h23 with ⟨hb26, h23⟩ | ⟨hb27, h23⟩
          · refine SWp.condT' (b := decide (v22 < (l17.length : Int))) (by simp) hb26 ?_
            refine SWp.skip ?_
            show SWp E C _ _ _
            refine SWp.seq ?_
            refine SWp.block ?_
            refine SWp.seqR rfl (hPB _ rfl) fun K hK => ?_
            iterate 2 (refine wps_cons rfl fun K hK => ?_; simp [hN']; refine hK _ ?_; clear hK)
            refine wps_nil (hK _ ?_); clear hK
            refine SWp.reg rfl (hPB _ rfl) fun K hK => ?_
            iterate 3 (refine wps_cons rfl fun K hK => ?_; simp [hN']; refine hK _ ?_; clear hK)
            obtain ⟨e28, he28, h23⟩ := bind_some h23
            obtain ⟨he28a, he28b, he28c, he28d⟩ := getI_some he28
            refine wps_cons rfl fun K hK => ?_; simp [hN', he28a, he28b, he28c, he28d]; refine hK _ ?_; clear hK
            obtain ⟨l29, hl29, h23⟩ := bindS_some h23
            have hl29f : (List.map vb row21).set v22.toNat (vb is3) = List.map vb l29 := set_map (f := vb) hl29
            try simp only [Int.toNat_natCast] at hl29f
            refine wps_cons rfl fun K hK => ?_; simp [hN', he28a, he28b, he28c, he28d, hl29f]; refine hK _ ?_; clear hK
            refine wps_nil (hK _ ?_); clear hK
            show SWp E C _ _ _
            refine SWp.reg rfl (hPB _ rfl) fun K hK => ?_
            iterate 2 (refine wps_cons rfl fun K hK => ?_; simp [hN']; refine hK _ ?_; clear hK)
            refine wps_nil (hK _ ?_); clear hK
            cases h23
            exact ⟨_, [], rfl, by simp [hN']⟩
          · refine SWp.condF' (b := decide (v22 < (l17.length : Int))) (by simp) hb27 ?_
            refine SWp.exit ?_
            have h30 := congrArg some (ho24 _ (Option.some.inj h23).symm)
            cases h30
            exact hK19 _ () [] trivial (by simp [hN'])
        refine SWp.reg rfl (hPB _ rfl) fun K hK => ?_
        iterate 3 (refine wps_cons rfl fun K hK => ?_; simp [hN']; refine hK _ ?_; clear hK)
        obtain ⟨l32, hl32, hj14⟩ := bind_some hj14
        obtain ⟨hl32a, hl32b, hl32d⟩ := appI_some hl32
        have hl32f : List.map (eSl true 1 vb) out7 ++ List.map (eSl true 1 vb) [row31] = List.map (eSl true 1 vb) l32 := app_map (f := (eSl true 1 vb)) hl32d
        simp [eSl, eSl] at hl32a hl32b hl32f
        iterate 2 (refine wps_cons rfl fun K hK => ?_; simp [hN', hl32a, hl32b, hl32f]; refine hK _ ?_; clear hK)
        refine wps_nil (hK _ ?_); clear hK
        cases hj14
        exact hK15 _ () [] trivial (by simp [hN'])
      refine SWp.reg rfl (hPB _ rfl) fun K hK => ?_
      iterate 2 (refine wps_cons rfl fun K hK => ?_; simp [hN']; refine hK _ ?_; clear hK)
      refine wps_nil (hK _ ?_); clear hK
      cases h9
      exact ⟨_, [], rfl, by simp [hN']⟩
    · refine SWp.condF' (b := decide (v8 < rows1)) (by simp) hb13 ?_
      refine SWp.exit ?_
      have h34 := congrArg some (ho10 _ (Option.some.inj h9).symm)
      cases h34
      exact hK5 _ () [] trivial (by simp [hN'])
  refine SWp.seqR rfl (hPB _ rfl) fun K hK => ?_
  iterate 2 (refine wps_cons rfl fun K hK => ?_; simp [hN']; refine hK _ ?_; clear hK)
  refine wps_nil (hK _ ?_); clear hK
  cases h
  refine SWp.ret ?_
  simp [thenS, inBlockS, res56]
end Go.Proofs.T
set_option linter.unusedVariables false
set_option linter.unusedSimpArgs false
set_option maxHeartbeats 1000000
namespace Go.Proofs.T
open Go.OM
theorem res20 : Tryd.f20.results.toList = [.tmp 2] := rfl
theorem ent20 : Enters E.P 20 := enters_of Tryd.func20 (by simp [Tryd.f20]) rfl
theorem impl_DomsOf_ok (c1 : GCode) {r0 : List (List Bool)} (h : impl_DomsOf c1 = some r0) : Ok E 20 [.val (GCode.enc false c1)] [.sl true 1 (List.map (eSl true 1 vb) r0)] [] := by
  refine ok_of_body (fn := Tryd.f20) Tryd.func20 rfl (by simp [Tryd.f20]) fun C hN hP => ?_
  have hPB : ∀ l, pinK [] l = true → pinB C.pin l = true := pinB_of (by rw [hP]; rfl)
  have hN' : C.N = 52 := hN
  clear hN
  unfold impl_DomsOf at h
  refine SWp.seqR rfl (hPB _ rfl) fun K hK => ?_
  iterate 2 (refine wps_cons rfl fun K hK => ?_; simp [hN']; refine hK _ ?_; clear hK)
  refine wps_nil (hK _ ?_); clear hK
  refine SWp.seqR rfl (hPB _ rfl) fun K hK => ?_
  refine wps_cons rfl fun K hK => ?_; simp [hN']; refine hK _ ?_; clear hK
  obtain ⟨r2, hc3, h⟩ := bind_some h
  refine wps_call [(.take, .tmp 9)] rfl rfl ent50 (impl_BlocksOf_ok _ hc3) fun K hK => ?_; simp [hN']; refine hK _ ?_; clear hK
  refine wps_cons rfl fun K hK => ?_; simp [hN']; refine hK _ ?_; clear hK
  refine wps_nil (hK _ ?_); clear hK
  refine SWp.seqR rfl (hPB _ rfl) fun K hK => ?_
  refine wps_cons rfl fun K hK => ?_; simp [hN']; refine hK _ ?_; clear hK
  obtain ⟨r4, hc5, h⟩ := bind_some h
  refine wps_call [(.bor, .tmp 11), (.take, .const (.int .i64 (-1)))] rfl rfl ent51 (impl_reachedBlocks_ok _ _ hc5) fun K hK => ?_; simp [hN']; refine hK _ ?_; clear hK
  refine wps_cons rfl fun K hK => ?_; simp [hN']; refine hK _ ?_; clear hK
  refine wps_nil (hK _ ?_); clear hK
  refine SWp.seqR rfl (hPB _ rfl) fun K hK => ?_
  iterate 4 (refine wps_cons rfl fun K hK => ?_; simp [hN']; refine hK _ ?_; clear hK)
  obtain ⟨r6, hc7, h⟩ := bind_some h
  refine wps_call [(.take, .tmp 14), (.take, .tmp 16), (.take, .const (.bool true))] rfl rfl ent56 (impl_table_ok _ _ _ hc7) fun K hK => ?_; simp [hN']; refine hK _ ?_; clear hK
  refine wps_cons rfl fun K hK => ?_; simp [hN']; refine hK _ ?_; clear hK
  refine wps_nil (hK _ ?_); clear hK
  obtain ⟨out46, hj8, h⟩ := bind_some h
  refine SWp.seqC [5] [] (fun _ : Unit => ⟨[(5, .t (.sl true 1 (List.map (eSl true 1 vb) out46)))], []⟩) (fun _ => True) (fun _ _ => ?_) fun K9 hK9 => ?_
  rotate_left
  · refine SWp.seqR rfl (hPB _ rfl) fun K hK => ?_
    iterate 3 (refine wps_cons rfl fun K hK => ?_; simp [hN']; refine hK _ ?_; clear hK)
    refine wps_nil (hK _ ?_); clear hK
    refine SWp.block ?_
    refine SWp.loopO [] [3, 4, 5, 19, 20] [] (fun v : (List (List Bool)) × Int => ⟨[(3, .t (.sl true 3 (List.map (GBlock.enc true) r2))), (4, .t (.sl true 1 (List.map vb r4))), (5, .t (.sl true 1 (List.map (eSl true 1 vb) v.1))), (19, .t (vi (r2.length : Int))), (20, .t (vi v.2))], []⟩) (impl_DomsOf_l1 r2 r4) _ (r6, 0) hj8 (by simp [hN']) ?_
    intro g s15 h13 ho14
    obtain ⟨out11, v12⟩ := g
    simp only [impl_DomsOf_l1] at h13
    try dsimp only
    refine SWp.seqR rfl (hPB _ rfl) fun K hK => ?_
    refine wps_cons rfl fun K hK => ?_; simp [hN']; refine hK _ ?_; clear hK
    refine wps_nil (hK _ ?_); clear hK
    refine SWp.seq ?_
    rcases ite_or h13 with ⟨hb16, h13⟩ | ⟨hb17, h13⟩
    · refine SWp.condT' (b := decide (v12 < (r2.length : Int))) (by simp) hb16 ?_
      refine SWp.skip ?_
      show SWp E C _ _ _
      obtain ⟨out44, hj18, h13⟩ := bind_some h13
      refine SWp.seqC [3, 4, 5, 19, 20] [] (fun _ : Unit => ⟨[(3, .t (.sl true 3 (List.map (GBlock.enc true) r2))), (4, .t (.sl true 1 (List.map vb r4))), (5, .t (.sl true 1 (List.map (eSl true 1 vb) out44))), (19, .t (vi (r2.length : Int))), (20, .t (vi v12))], []⟩) (fun _ => True) (fun _ _ => ?_) fun K19 hK19 => ?_
      rotate_left
      · refine SWp.block ?_
        refine SWp.seqR rfl (hPB _ rfl) fun K hK => ?_
        iterate 2 (refine wps_cons rfl fun K hK => ?_; simp [hN']; refine hK _ ?_; clear hK)
        refine wps_nil (hK _ ?_); clear hK
        refine SWp.seqR rfl (hPB _ rfl) fun K hK => ?_
        iterate 2 (refine wps_cons rfl fun K hK => ?_; simp [hN']; refine hK _ ?_; clear hK)
        obtain ⟨r21, hc22, hj18⟩ := bind_some hj18
        refine wps_call [(.bor, .tmp 23), (.take, .tmp 24)] rfl rfl ent51 (impl_reachedBlocks_ok _ _ hc22) fun K hK => ?_; simp [hN']; refine hK _ ?_; clear hK
        refine wps_cons rfl fun K hK => ?_; simp [hN']; refine hK _ ?_; clear hK
        refine wps_nil (hK _ ?_); clear hK
        refine SWp.seqR rfl (hPB _ rfl) fun K hK => ?_
        iterate 3 (refine wps_cons rfl fun K hK => ?_; simp [hN']; refine hK _ ?_; clear hK)
        refine wps_nil (hK _ ?_); clear hK
        refine SWp.block ?_
        refine SWp.loopO [] [3, 4, 5, 6, 7, 19, 20, 27, 28] [] (fun v : (List (List Bool)) × Int => ⟨[(3, .t (.sl true 3 (List.map (GBlock.enc true) r2))), (4, .t (.sl true 1 (List.map vb r4))), (5, .t (.sl true 1 (List.map (eSl true 1 vb) v.1))), (6, .t (vi v12)), (7, .t (.sl true 1 (List.map vb r21))), (19, .t (vi (r2.length : Int))), (20, .t (vi v12)), (27, .t (vi (r2.length : Int))), (28, .t (vi v.2))], []⟩) (impl_DomsOf_l2 r2 r4 v12 r21) _ (out11, 0) hj18 (by simp [hN']) ?_
        intro g s27 h25 ho26
        obtain ⟨out23, v24⟩ := g
        simp only [impl_DomsOf_l2] at h25
        try dsimp only
        refine SWp.seqR rfl (hPB _ rfl) fun K hK => ?_
        refine wps_cons rfl fun K hK => ?_; simp [hN']; refine hK _ ?_; clear hK
        refine wps_nil (hK _ ?_); clear hK
        refine SWp.seq ?_
        rcases ite_or h25 with ⟨hb28, h25⟩ | ⟨hb29, h25⟩
        · refine SWp.condT' (b := decide (v24 < (r2.length : Int))) (by simp) hb28 ?_
          refine SWp.skip ?_
          show SWp E C _ _ _
          refine SWp.seq ?_
          refine SWp.block ?_
          refine SWp.seqR rfl (hPB _ rfl) fun K hK => ?_
          iterate 2 (refine wps_cons rfl fun K hK => ?_; simp [hN']; refine hK _ ?_; clear hK)
          refine wps_nil (hK _ ?_); clear hK
          obtain ⟨e32, he32, h25⟩ := bind_some h25
          obtain ⟨he32a, he32b, he32c, he32d⟩ := getI_some he32
          obtain ⟨e33, he33, h25⟩ := bind_some h25
          obtain ⟨he33a, he33b, he33c, he33d⟩ := getI_some he33
          rcases ite_or h25 with ⟨hb34, h25⟩ | ⟨hb35, h25⟩
          · have hb34s := hb34
            try simp at hb34s
            refine SWp.drawT rfl (hPB _ rfl) [(31, .al (.slot 5) 0 [] none), (32, .t (vi v24)), (33, .ref (.slot 5) 0 [(v24.toNat, 0)]), (34, .al (.slot 5) 0 [(v24.toNat, 0)] none), (35, .t (vi v12)), (36, .al (.slot 4) 0 [] none), (37, .t (vi v24)), (38, .ref (.slot 4) 0 [(v24.toNat, 0)]), (39, .t (vb e33)), (40, .t (vb (!e33))), (41, .t (vb (!e33))), (42, .tup []), (43, .tup []), (44, .tup []), (45, .tup []), (46, .tup []), (47, .t (vb true))] [[], [], [0, 1], [0, 1, 2], [], [], [], [5, 6], [5, 6, 7], [5, 6, 7, 8], [5, 6, 7, 8, 9], [5, 6, 7, 8, 9, 10], [5, 6, 7, 8, 9, 10], [5, 6, 7, 8, 9, 10, 11, 12], [5, 6, 7, 8, 9, 10, 11, 12, 13], [5, 6, 7, 8, 9, 10, 11, 12, 13, 14], [5, 6, 7, 8, 9, 10, 11, 12, 13, 14, 15], [0, 1, 2, 3, 4, 5, 6, 7, 8, 9, 10, 11, 12, 13, 14, 15, 16], [0, 1, 2, 3, 4, 5, 6, 7, 8, 9, 10, 11, 12, 13, 14, 15, 16, 17]] (by simp) (by simp) (by simp [look]) rfl rfl rfl ?_ fun K hK => ?_
            · refine ⟨?_, ?_, ?_, ?_, ?_, ?_, ?_, ?_, ?_, ?_, ?_, ?_, ?_, ?_, ?_, ?_, ?_, trivial⟩
              all_goals (intro τ hbx hb hd hf K hK; try simp [vsAt] at hd; simp [vsAt] at hf; first | (refine wps_cons rfl fun K' hK' => ?_; simp [hN', hbx, hb, hd, hf, he32a, he32b, he32c, he32d, he33a, he33b, he33c, he33d, hb34, hb34s]; exact hK' _ (wps_nil (hK _ (by simp [vsAt, hbx, he32a, he32b, he32c, he32d, he33a, he33b, he33c, he33d, hb34, hb34s])))) | (refine wps_off fun K' hK' => ?_; simp [hN', hbx, hb, hd, hf, he32a, he32b, he32c, he32d, he33a, he33b, he33c, he33d, hb34, hb34s]; exact hK' _ (wps_nil (hK _ (by simp [vsAt, hbx, he32a, he32b, he32c, he32d, he33a, he33b, he33c, he33d, hb34, hb34s])))))
            obtain ⟨e36, he36, h25⟩ := bind_some h25
            obtain ⟨he36a, he36b, he36c, he36d⟩ := getI_some he36
            refine wps_cons rfl fun K hK => ?_; simp [hN', he32a, he32b, he32c, he32d, he33a, he33b, he33c, he33d, hb34, hb34s, he36a, he36b, he36c, he36d]; refine hK _ ?_; clear hK
            obtain ⟨l37, hl37, h25⟩ := bindS_some h25
            have hl37f : (List.map vb e32).set v12.toNat (vb true) = List.map vb l37 := set_map (f := vb) hl37
            try simp only [Int.toNat_natCast] at hl37f
            obtain ⟨l38, hl38, h25⟩ := bindS_some h25
            have hl38f : (List.map (eSl true 1 vb) out23).set v24.toNat (.sl true 1 (List.map vb l37)) = List.map (eSl true 1 vb) l38 := set_map (f := (eSl true 1 vb)) hl38
            try simp only [Int.toNat_natCast] at hl38f
            refine wps_cons rfl fun K hK => ?_; simp [hN', he32a, he32b, he32c, he32d, he33a, he33b, he33c, he33d, hb34, hb34s, he36a, he36b, he36c, he36d, hl37f, hl38f]; refine hK _ ?_; clear hK
            refine wps_nil (hK _ ?_); clear hK
            show SWp E C _ _ _
            refine SWp.reg rfl (hPB _ rfl) fun K hK => ?_
            iterate 2 (refine wps_cons rfl fun K hK => ?_; simp [hN']; refine hK _ ?_; clear hK)
            refine wps_nil (hK _ ?_); clear hK
            cases h25
            exact ⟨_, [], rfl, by simp [hN']⟩
          · have hb35s := hb35
            try simp at hb35s
            obtain ⟨e39, he39, h25⟩ := bind_some h25
            obtain ⟨he39a, he39b, he39c, he39d⟩ := getI_some he39
            refine SWp.drawT rfl (hPB _ rfl) [(31, .al (.slot 5) 0 [] none), (32, .t (vi v24)), (33, .ref (.slot 5) 0 [(v24.toNat, 0)]), (34, .al (.slot 5) 0 [(v24.toNat, 0)] none), (35, .t (vi v12)), (36, .al (.slot 4) 0 [] none), (37, .t (vi v24)), (38, .ref (.slot 4) 0 [(v24.toNat, 0)]), (39, .t (vb e33)), (40, .t (vb (!e33))), (41, .t (vb (!e33))), (42, .al (.slot 7) 0 [] none), (43, .t (vi v24)), (44, .ref (.slot 7) 0 [(v24.toNat, 0)]), (45, .t (vb e39)), (46, .t (vb (!e39))), (47, .t (vb (!e39)))] [[], [], [0, 1], [0, 1, 2], [], [], [], [5, 6], [5, 6, 7], [5, 6, 7, 8], [5, 6, 7, 8, 9], [5, 6, 7, 8, 9, 10], [5, 6, 7, 8, 9, 10], [5, 6, 7, 8, 9, 10, 11, 12], [5, 6, 7, 8, 9, 10, 11, 12, 13], [5, 6, 7, 8, 9, 10, 11, 12, 13, 14], [5, 6, 7, 8, 9, 10, 11, 12, 13, 14, 15], [0, 1, 2, 3, 4, 5, 6, 7, 8, 9, 10, 11, 12, 13, 14, 15, 16], [0, 1, 2, 3, 4, 5, 6, 7, 8, 9, 10, 11, 12, 13, 14, 15, 16, 17]] (by simp) (by simp) (by simp [look]) rfl rfl rfl ?_ fun K hK => ?_
            · refine ⟨?_, ?_, ?_, ?_, ?_, ?_, ?_, ?_, ?_, ?_, ?_, ?_, ?_, ?_, ?_, ?_, ?_, trivial⟩
              all_goals (intro τ hbx hb hd hf K hK; try simp [vsAt] at hd; simp [vsAt] at hf; first | (refine wps_cons rfl fun K' hK' => ?_; simp [hN', hbx, hb, hd, hf, he32a, he32b, he32c, he32d, he33a, he33b, he33c, he33d, hb35, hb35s, he39a, he39b, he39c, he39d]; exact hK' _ (wps_nil (hK _ (by simp [vsAt, hbx, he32a, he32b, he32c, he32d, he33a, he33b, he33c, he33d, hb35, hb35s, he39a, he39b, he39c, he39d])))))
            obtain ⟨e40, he40, h25⟩ := bind_some h25
            obtain ⟨he40a, he40b, he40c, he40d⟩ := getI_some he40
            refine wps_cons rfl fun K hK => ?_; simp [hN', he32a, he32b, he32c, he32d, he33a, he33b, he33c, he33d, hb35, hb35s, he39a, he39b, he39c, he39d, he40a, he40b, he40c, he40d]; refine hK _ ?_; clear hK
            obtain ⟨l41, hl41, h25⟩ := bindS_some h25
            have hl41f : (List.map vb e32).set v12.toNat (vb (!e39)) = List.map vb l41 := set_map (f := vb) hl41
            try simp only [Int.toNat_natCast] at hl41f
            obtain ⟨l42, hl42, h25⟩ := bindS_some h25
            have hl42f : (List.map (eSl true 1 vb) out23).set v24.toNat (.sl true 1 (List.map vb l41)) = List.map (eSl true 1 vb) l42 := set_map (f := (eSl true 1 vb)) hl42
            try simp only [Int.toNat_natCast] at hl42f
            refine wps_cons rfl fun K hK => ?_; simp [hN', he32a, he32b, he32c, he32d, he33a, he33b, he33c, he33d, hb35, hb35s, he39a, he39b, he39c, he39d, he40a, he40b, he40c, he40d, hl41f, hl42f]; refine hK _ ?_; clear hK
            refine wps_nil (hK _ ?_); clear hK
            show SWp E C _ _ _
            refine SWp.reg rfl (hPB _ rfl) fun K hK => ?_
            iterate 2 (refine wps_cons rfl fun K hK => ?_; simp [hN']; refine hK _ ?_; clear hK)
            refine wps_nil (hK _ ?_); clear hK
            cases h25
            exact ⟨_, [], rfl, by simp [hN']⟩
        · refine SWp.condF' (b := decide (v24 < (r2.length : Int))) (by simp) hb29 ?_
          refine SWp.exit ?_
          have h43 := congrArg some (ho26 _ (Option.some.inj h25).symm)
          cases h43
          exact hK19 _ () [] trivial (by simp [hN'])
      refine SWp.reg rfl (hPB _ rfl) fun K hK => ?_
      iterate 2 (refine wps_cons rfl fun K hK => ?_; simp [hN']; refine hK _ ?_; clear hK)
      refine wps_nil (hK _ ?_); clear hK
      cases h13
      exact ⟨_, [], rfl, by simp [hN']⟩
    · refine SWp.condF' (b := decide (v12 < (r2.length : Int))) (by simp) hb17 ?_
      refine SWp.exit ?_
      have h45 := congrArg some (ho14 _ (Option.some.inj h13).symm)
      cases h45
      exact hK9 _ () [] trivial (by simp [hN'])
  refine SWp.seqR rfl (hPB _ rfl) fun K hK => ?_
  iterate 2 (refine wps_cons rfl fun K hK => ?_; simp [hN']; refine hK _ ?_; clear hK)
  refine wps_nil (hK _ ?_); clear hK
  cases h
  refine SWp.ret ?_
  simp [thenS, inBlockS, res20]
end Go.Proofs.T
set_option linter.unusedVariables false
set_option linter.unusedSimpArgs false
set_option maxHeartbeats 1000000
namespace Go.Proofs.T
open Go.OM
theorem res13 : Tryd.f13.results.toList = [.tmp 2] := rfl
theorem ent13 : Enters E.P 13 := enters_of Tryd.func13 (by simp [Tryd.f13]) rfl
theorem impl_LoopHeads_ok (c1 : GCode) {r0 : List Int} (h : impl_LoopHeads c1 = some r0) : Ok E 13 [.val (GCode.enc false c1)] [.sl true 1 (List.map vi r0)] [] := by
  refine ok_of_body (fn := Tryd.f13) Tryd.func13 rfl (by simp [Tryd.f13]) fun C hN hP => ?_
  have hPB : ∀ l, pinK [] l = true → pinB C.pin l = true := pinB_of (by rw [hP]; rfl)
  have hN' : C.N = 65 := hN
  clear hN
  unfold impl_LoopHeads at h
  refine SWp.seqR rfl (hPB _ rfl) fun K hK => ?_
  iterate 2 (refine wps_cons rfl fun K hK => ?_; simp [hN']; refine hK _ ?_; clear hK)
  refine wps_nil (hK _ ?_); clear hK
  refine SWp.seqR rfl (hPB _ rfl) fun K hK => ?_
  refine wps_cons rfl fun K hK => ?_; simp [hN']; refine hK _ ?_; clear hK
  obtain ⟨r2, hc3, h⟩ := bind_some h
  refine wps_call [(.take, .tmp 10)] rfl rfl ent50 (impl_BlocksOf_ok _ hc3) fun K hK => ?_; simp [hN']; refine hK _ ?_; clear hK
  refine wps_cons rfl fun K hK => ?_; simp [hN']; refine hK _ ?_; clear hK
  refine wps_nil (hK _ ?_); clear hK
  refine SWp.seqR rfl (hPB _ rfl) fun K hK => ?_
  refine wps_cons rfl fun K hK => ?_; simp [hN']; refine hK _ ?_; clear hK
  obtain ⟨r4, hc5, h⟩ := bind_some h
  refine wps_call [(.bor, .tmp 12), (.take, .const (.int .i64 (-1)))] rfl rfl ent51 (impl_reachedBlocks_ok _ _ hc5) fun K hK => ?_; simp [hN']; refine hK _ ?_; clear hK
  refine wps_cons rfl fun K hK => ?_; simp [hN']; refine hK _ ?_; clear hK
  refine wps_nil (hK _ ?_); clear hK
  refine SWp.seqR rfl (hPB _ rfl) fun K hK => ?_
  refine wps_cons rfl fun K hK => ?_; simp [hN']; refine hK _ ?_; clear hK
  obtain ⟨r6, hc7, h⟩ := bind_some h
  refine wps_call [(.take, .tmp 14)] rfl rfl ent20 (impl_DomsOf_ok _ hc7) fun K hK => ?_; simp [hN']; refine hK _ ?_; clear hK
  refine wps_cons rfl fun K hK => ?_; simp [hN']; refine hK _ ?_; clear hK
  refine wps_nil (hK _ ?_); clear hK
  refine SWp.seqR rfl (hPB _ rfl) fun K hK => ?_
  refine wps_cons rfl fun K hK => ?_; simp [hN']; refine hK _ ?_; clear hK
  refine wps_nil (hK _ ?_); clear hK
  obtain ⟨out56, hj8, h⟩ := bind_some h
  refine SWp.seqC [6] [] (fun _ : Unit => ⟨[(6, .t (.sl true 1 (List.map vi out56)))], []⟩) (fun _ => True) (fun _ _ => ?_) fun K9 hK9 => ?_
  rotate_left
  · refine SWp.seqR rfl (hPB _ rfl) fun K hK => ?_
    iterate 3 (refine wps_cons rfl fun K hK => ?_; simp [hN']; refine hK _ ?_; clear hK)
    refine wps_nil (hK _ ?_); clear hK
    refine SWp.block ?_
    refine SWp.loopO [] [3, 4, 5, 6, 17, 18] [] (fun v : (List Int) × Int => ⟨[(3, .t (.sl true 3 (List.map (GBlock.enc true) r2))), (4, .t (.sl true 1 (List.map vb r4))), (5, .t (.sl true 1 (List.map (eSl true 1 vb) r6))), (6, .t (.sl true 1 (List.map vi v.1))), (17, .t (vi (r2.length : Int))), (18, .t (vi v.2))], []⟩) (impl_LoopHeads_l1 r2 r4 r6) _ ([], 0) hj8 (by simp [hN']) ?_
    intro g s15 h13 ho14
    obtain ⟨out11, v12⟩ := g
    simp only [impl_LoopHeads_l1] at h13
    try dsimp only
    refine SWp.seqR rfl (hPB _ rfl) fun K hK => ?_
    refine wps_cons rfl fun K hK => ?_; simp [hN']; refine hK _ ?_; clear hK
    refine wps_nil (hK _ ?_); clear hK
    refine SWp.seq ?_
    rcases ite_or h13 with ⟨hb16, h13⟩ | ⟨hb17, h13⟩
    · refine SWp.condT' (b := decide (v12 < (r2.length : Int))) (by simp) hb16 ?_
      refine SWp.skip ?_
      show SWp E C _ _ _
      obtain ⟨out54, hj18, h13⟩ := bind_some h13
      refine SWp.seqC [3, 4, 5, 6, 17, 18] [] (fun _ : Unit => ⟨[(3, .t (.sl true 3 (List.map (GBlock.enc true) r2))), (4, .t (.sl true 1 (List.map vb r4))), (5, .t (.sl true 1 (List.map (eSl true 1 vb) r6))), (6, .t (.sl true 1 (List.map vi out54))), (17, .t (vi (r2.length : Int))), (18, .t (vi v12))], []⟩) (fun _ => True) (fun _ _ => ?_) fun K19 hK19 => ?_
      rotate_left
      · refine SWp.block ?_
        refine SWp.seqR rfl (hPB _ rfl) fun K hK => ?_
        iterate 2 (refine wps_cons rfl fun K hK => ?_; simp [hN']; refine hK _ ?_; clear hK)
        refine wps_nil (hK _ ?_); clear hK
        refine SWp.seqR rfl (hPB _ rfl) fun K hK => ?_
        refine wps_cons rfl fun K hK => ?_; simp [hN']; refine hK _ ?_; clear hK
        refine wps_nil (hK _ ?_); clear hK
        obtain ⟨is44, hj21, hj18⟩ := bind_some hj18
        refine SWp.seqC [3, 4, 5, 6, 7, 8, 17, 18] [] (fun _ : Unit => ⟨[(3, .t (.sl true 3 (List.map (GBlock.enc true) r2))), (4, .t (.sl true 1 (List.map vb r4))), (5, .t (.sl true 1 (List.map (eSl true 1 vb) r6))), (6, .t (.sl true 1 (List.map vi out11))), (7, .t (vi v12)), (8, .t (vb is44)), (17, .t (vi (r2.length : Int))), (18, .t (vi v12))], []⟩) (fun _ => True) (fun _ _ => ?_) fun K22 hK22 => ?_
        rotate_left
        · refine SWp.seqR rfl (hPB _ rfl) fun K hK => ?_
          iterate 3 (refine wps_cons rfl fun K hK => ?_; simp [hN']; refine hK _ ?_; clear hK)
          refine wps_nil (hK _ ?_); clear hK
          refine SWp.block ?_
          refine SWp.loopO [] [3, 4, 5, 6, 7, 8, 17, 18, 22, 23] [] (fun v : Bool × Int => ⟨[(3, .t (.sl true 3 (List.map (GBlock.enc true) r2))), (4, .t (.sl true 1 (List.map vb r4))), (5, .t (.sl true 1 (List.map (eSl true 1 vb) r6))), (6, .t (.sl true 1 (List.map vi out11))), (7, .t (vi v12)), (8, .t (vb v.1)), (17, .t (vi (r2.length : Int))), (18, .t (vi v12)), (22, .t (vi (r2.length : Int))), (23, .t (vi v.2))], []⟩) (impl_LoopHeads_l2 r2 r4 r6 v12) _ (false, 0) hj21 (by simp [hN']) ?_
          intro g s28 h26 ho27
          obtain ⟨is24, v25⟩ := g
          simp only [impl_LoopHeads_l2] at h26
          try dsimp only
          refine SWp.seqR rfl (hPB _ rfl) fun K hK => ?_
          refine wps_cons rfl fun K hK => ?_; simp [hN']; refine hK _ ?_; clear hK
          refine wps_nil (hK _ ?_); clear hK
          refine SWp.seq ?_
          rcases ite_or h26 with ⟨hb29, h26⟩ | ⟨hb30, h26⟩
          · refine SWp.condT' (b := decide (v25 < (r2.length : Int))) (by simp) hb29 ?_
            refine SWp.skip ?_
            show SWp E C _ _ _
            refine SWp.seq ?_
            refine SWp.block ?_
            refine SWp.seqR rfl (hPB _ rfl) fun K hK => ?_
            iterate 2 (refine wps_cons rfl fun K hK => ?_; simp [hN']; refine hK _ ?_; clear hK)
            refine wps_nil (hK _ ?_); clear hK
            refine SWp.reg rfl (hPB _ rfl) fun KR hKR => ?_
            iterate 2 (refine wps_cons rfl fun K hK => ?_; simp [hN']; refine hK _ ?_; clear hK)
            rcases ite_or h26 with ⟨hb31, h26⟩ | ⟨hb32, h26⟩
            · have hb31s := hb31
              try simp at hb31s
              iterate 22 (refine wps_off fun K hK => ?_; simp [hN', hb31, hb31s]; refine hK _ ?_; clear hK)
              iterate 2 (refine wps_cons rfl fun K hK => ?_; simp [hN', hb31, hb31s]; refine hK _ ?_; clear hK)
              refine wps_nil (hKR _ ?_)
              show SWp E C _ _ _
              refine SWp.reg rfl (hPB _ rfl) fun K hK => ?_
              iterate 2 (refine wps_cons rfl fun K hK => ?_; simp [hN']; refine hK _ ?_; clear hK)
              refine wps_nil (hK _ ?_); clear hK
              cases h26
              exact ⟨_, [], rfl, by first | (simp [hN']; done) | simp [hN', hb31s]⟩
            · have hb32s := hb32
              try simp at hb32s
              iterate 2 (refine wps_cons rfl fun K hK => ?_; simp [hN', hb32, hb32s]; refine hK _ ?_; clear hK)
              obtain ⟨e33, he33, h26⟩ := bind_some h26
              obtain ⟨he33a, he33b, he33c, he33d⟩ := getI_some he33
              iterate 3 (refine wps_cons rfl fun K hK => ?_; simp [hN', hb32, hb32s, he33a, he33b, he33c, he33d]; refine hK _ ?_; clear hK)
              rcases ite_or h26 with ⟨hb34, h26⟩ | ⟨hb35, h26⟩
              · have hb34s := hb34
                try simp at hb34s
                iterate 2 (refine wps_cons rfl fun K hK => ?_; simp [hN', hb32, hb32s, he33a, he33b, he33c, he33d, hb34, hb34s]; refine hK _ ?_; clear hK)
                obtain ⟨e36, he36, h26⟩ := bind_some h26
                obtain ⟨he36a, he36b, he36c, he36d⟩ := getI_some he36
                iterate 4 (refine wps_cons rfl fun K hK => ?_; simp [hN', hb32, hb32s, he33a, he33b, he33c, he33d, hb34, hb34s, he36a, he36b, he36c, he36d]; refine hK _ ?_; clear hK)
                obtain ⟨r37, hc38, h26⟩ := bind_some h26
                refine wps_call [(.bor, .tmp 37), (.take, .tmp 38)] rfl rfl ent52 (impl_hasInt_ok _ _ hc38) fun K hK => ?_; simp [hN', hb32, hb32s, he33a, he33b, he33c, he33d, hb34, hb34s, he36a, he36b, he36c, he36d]; refine hK _ ?_; clear hK
                iterate 2 (refine wps_cons rfl fun K hK => ?_; simp [hN', hb32, hb32s, he33a, he33b, he33c, he33d, hb34, hb34s, he36a, he36b, he36c, he36d]; refine hK _ ?_; clear hK)
                rcases ite_or h26 with ⟨hb39, h26⟩ | ⟨hb40, h26⟩
                · have hb39s := hb39
                  try simp at hb39s
                  iterate 2 (refine wps_cons rfl fun K hK => ?_; simp [hN', hb32, hb32s, he33a, he33b, he33c, he33d, hb34, hb34s, he36a, he36b, he36c, he36d, hb39, hb39s]; refine hK _ ?_; clear hK)
                  obtain ⟨e41, he41, h26⟩ := bind_some h26
                  obtain ⟨he41a, he41b, he41c, he41d⟩ := getI_some he41
                  iterate 3 (refine wps_cons rfl fun K hK => ?_; simp [hN', hb32, hb32s, he33a, he33b, he33c, he33d, hb34, hb34s, he36a, he36b, he36c, he36d, hb39, hb39s, he41a, he41b, he41c, he41d]; refine hK _ ?_; clear hK)
                  obtain ⟨e42, he42, h26⟩ := bind_some h26
                  obtain ⟨he42a, he42b, he42c, he42d⟩ := getI_some he42
                  iterate 5 (refine wps_cons rfl fun K hK => ?_; simp [hN', hb32, hb32s, he33a, he33b, he33c, he33d, hb34, hb34s, he36a, he36b, he36c, he36d, hb39, hb39s, he41a, he41b, he41c, he41d, he42a, he42b, he42c, he42d]; refine hK _ ?_; clear hK)
                  refine wps_nil (hKR _ ?_)
                  show SWp E C _ _ _
                  refine SWp.reg rfl (hPB _ rfl) fun K hK => ?_
                  iterate 2 (refine wps_cons rfl fun K hK => ?_; simp [hN']; refine hK _ ?_; clear hK)
                  refine wps_nil (hK _ ?_); clear hK
                  cases h26
                  exact ⟨_, [], rfl, by first | (simp [hN']; done) | simp [hN', hb32s, hb34s, hb39s]⟩
                · have hb40s := hb40
                  try simp at hb40s
                  iterate 7 (refine wps_off fun K hK => ?_; simp [hN', hb32, hb32s, he33a, he33b, he33c, he33d, hb34, hb34s, he36a, he36b, he36c, he36d, hb40, hb40s]; refine hK _ ?_; clear hK)
                  iterate 3 (refine wps_cons rfl fun K hK => ?_; simp [hN', hb32, hb32s, he33a, he33b, he33c, he33d, hb34, hb34s, he36a, he36b, he36c, he36d, hb40, hb40s]; refine hK _ ?_; clear hK)
                  refine wps_nil (hKR _ ?_)
                  show SWp E C _ _ _
                  refine SWp.reg rfl (hPB _ rfl) fun K hK => ?_
                  iterate 2 (refine wps_cons rfl fun K hK => ?_; simp [hN']; refine hK _ ?_; clear hK)
                  refine wps_nil (hK _ ?_); clear hK
                  cases h26
                  exact ⟨_, [], rfl, by first | (simp [hN']; done) | simp [hN', hb32s, hb34s, hb40s]⟩
              · have hb35s := hb35
                try simp at hb35s
                iterate 7 (refine wps_off fun K hK => ?_; simp [hN', hb32, hb32s, he33a, he33b, he33c, he33d, hb35, hb35s]; refine hK _ ?_; clear hK)
                iterate 2 (refine wps_cons rfl fun K hK => ?_; simp [hN', hb32, hb32s, he33a, he33b, he33c, he33d, hb35, hb35s]; refine hK _ ?_; clear hK)
                iterate 7 (refine wps_off fun K hK => ?_; simp [hN', hb32, hb32s, he33a, he33b, he33c, he33d, hb35, hb35s]; refine hK _ ?_; clear hK)
                iterate 3 (refine wps_cons rfl fun K hK => ?_; simp [hN', hb32, hb32s, he33a, he33b, he33c, he33d, hb35, hb35s]; refine hK _ ?_; clear hK)
                refine wps_nil (hKR _ ?_)
                show SWp E C _ _ _
                refine SWp.reg rfl (hPB _ rfl) fun K hK => ?_
                iterate 2 (refine wps_cons rfl fun K hK => ?_; simp [hN']; refine hK _ ?_; clear hK)
                refine wps_nil (hK _ ?_); clear hK
                cases h26
                exact ⟨_, [], rfl, by first | (simp [hN']; done) | simp [hN', hb32s, hb35s]⟩
          · refine SWp.condF' (b := decide (v25 < (r2.length : Int))) (by simp) hb30 ?_
            refine SWp.exit ?_
            have h43 := congrArg some (ho27 _ (Option.some.inj h26).symm)
            cases h43
            exact hK22 _ () [] trivial (by simp [hN'])
        obtain ⟨v50, hj45, hj18⟩ := bind_some hj18
        refine SWp.seqRC rfl (hPB _ rfl) [3, 4, 5, 6, 7, 17, 18, 58] [] (fun _ : Unit => ⟨[(3, .t (.sl true 3 (List.map (GBlock.enc true) r2))), (4, .t (.sl true 1 (List.map vb r4))), (5, .t (.sl true 1 (List.map (eSl true 1 vb) r6))), (6, .t (.sl true 1 (List.map vi out11))), (7, .t (vi v12)), (17, .t (vi (r2.length : Int))), (18, .t (vi v12)), (58, .t (vb v50))], []⟩) (fun _ => True) (fun _ _ => ?_) fun K46 hK46 => ?_
        rotate_left
        · refine wps_cons rfl fun K hK => ?_; simp [hN']; refine hK _ ?_; clear hK
          refine wps_cons rfl fun K hK => ?_; simp [hN']; refine hK _ ?_; clear hK
          rcases ite_or hj45 with ⟨hb47, hj45⟩ | ⟨hb48, hj45⟩
          · have hb47s := hb47
            try simp at hb47s
            iterate 2 (refine wps_cons rfl fun K hK => ?_; simp [hN', hb47, hb47s]; refine hK _ ?_; clear hK)
            obtain ⟨e49, he49, hj45⟩ := bind_some hj45
            obtain ⟨he49a, he49b, he49c, he49d⟩ := getI_some he49
            iterate 3 (refine wps_cons rfl fun K hK => ?_; simp [hN', hb47, hb47s, he49a, he49b, he49c, he49d]; refine hK _ ?_; clear hK)
            refine wps_nil ?_
            cases hj45
            exact hK46 _ () [] trivial (by simp [hN', hb47, hb47s, he49a, he49b, he49c, he49d])
          · have hb48s := hb48
            try simp at hb48s
            iterate 4 (refine wps_off fun K hK => ?_; simp [hN', hb48, hb48s]; refine hK _ ?_; clear hK)
            refine wps_cons rfl fun K hK => ?_; simp [hN', hb48, hb48s]; refine hK _ ?_; clear hK
            refine wps_nil ?_
            cases hj45
            exact hK46 _ () [] trivial (by simp [hN', hb48, hb48s])
        rcases ite_or hj18 with ⟨hb51, hj18⟩ | ⟨hb52, hj18⟩
        · refine SWp.condT' (b := v50) (by simp) hb51 ?_
          refine SWp.reg rfl (hPB _ rfl) fun K hK => ?_
          iterate 3 (refine wps_cons rfl fun K hK => ?_; simp [hN']; refine hK _ ?_; clear hK)
          obtain ⟨l53, hl53, hj18⟩ := bind_some hj18
          obtain ⟨hl53a, hl53b, hl53d⟩ := appI_some hl53
          have hl53f : List.map vi out11 ++ List.map vi [v12] = List.map vi l53 := app_map (f := vi) hl53d
          simp [eSl] at hl53a hl53b hl53f
          iterate 2 (refine wps_cons rfl fun K hK => ?_; simp [hN', hl53a, hl53b, hl53f]; refine hK _ ?_; clear hK)
          refine wps_nil (hK _ ?_); clear hK
          cases hj18
          exact hK19 _ () [] trivial (by simp [hN'])
        · refine SWp.condF' (b := v50) (by simp) hb52 ?_
          refine SWp.skip ?_
          cases hj18
          exact hK19 _ () [] trivial (by simp [hN'])
      refine SWp.reg rfl (hPB _ rfl) fun K hK => ?_
      iterate 2 (refine wps_cons rfl fun K hK => ?_; simp [hN']; refine hK _ ?_; clear hK)
      refine wps_nil (hK _ ?_); clear hK
      cases h13
      exact ⟨_, [], rfl, by simp [hN']⟩
    · refine SWp.condF' (b := decide (v12 < (r2.length : Int))) (by simp) hb17 ?_
      refine SWp.exit ?_
      have h55 := congrArg some (ho14 _ (Option.some.inj h13).symm)
      cases h55
      exact hK9 _ () [] trivial (by simp [hN'])
  refine SWp.seqR rfl (hPB _ rfl) fun K hK => ?_
  iterate 2 (refine wps_cons rfl fun K hK => ?_; simp [hN']; refine hK _ ?_; clear hK)
  refine wps_nil (hK _ ?_); clear hK
  cases h
  refine SWp.ret ?_
  simp [thenS, inBlockS, res13]
end Go.Proofs.T
set_option linter.unusedVariables false
set_option linter.unusedSimpArgs false
set_option maxHeartbeats 1000000
namespace Go.Proofs.T
open Go.OM
theorem res14 : Tryd.f14.results.toList = [.tmp 4] := rfl
theorem ent14 : Enters E.P 14 := enters_of Tryd.func14 (by simp [Tryd.f14]) rfl
theorem laws_eqIntS_ok (a1 : List Int) (b2 : List Int) {r0 : Bool} (h : laws_eqIntS a1 b2 = some r0) : Ok E 14 [.val (.sl false 1 (List.map vi a1)), .val (.sl false 1 (List.map vi b2))] [vb r0] [] := by
  refine ok_of_body (fn := Tryd.f14) Tryd.func14 rfl (by simp [Tryd.f14]) fun C hN hP => ?_
  have hPB : ∀ l, pinK [] l = true → pinB C.pin l = true := pinB_of (by rw [hP]; rfl)
  have hN' : C.N = 26 := hN
  clear hN
  unfold laws_eqIntS at h
  refine SWp.seqR rfl (hPB _ rfl) fun K hK => ?_
  refine wps_cons rfl fun K hK => ?_; simp [hN']; refine hK _ ?_; clear hK
  refine wps_nil (hK _ ?_); clear hK
  refine SWp.seq ?_
  refine SWp.seqR rfl (hPB _ rfl) fun K hK => ?_
  iterate 5 (refine wps_cons rfl fun K hK => ?_; simp [hN']; refine hK _ ?_; clear hK)
  refine wps_nil (hK _ ?_); clear hK
  rcases ite_or h with ⟨hb3, h⟩ | ⟨hb4, h⟩
  · refine SWp.condT' (b := (a1.length : Int) != (b2.length : Int)) (by simp) hb3 ?_
    refine SWp.seqR rfl (hPB _ rfl) fun K hK => ?_
    refine wps_cons rfl fun K hK => ?_; simp [hN']; refine hK _ ?_; clear hK
    refine wps_nil (hK _ ?_); clear hK
    cases h
    refine SWp.ret ?_
    simp [thenS, inBlockS, res14]
  · refine SWp.condF' (b := (a1.length : Int) != (b2.length : Int)) (by simp) hb4 ?_
    refine SWp.skip ?_
    show SWp E C _ _ _
    obtain ⟨j7, hj5, h⟩ := bind_some h
    refine SWp.seqC [] [] (fun v : Unit => ⟨[], []⟩) (fun v => j7 = Sum.inl v) (fun v hv => ?_) fun K6 hK6 => ?_
    rotate_left
    · refine SWp.seqR rfl (hPB _ rfl) fun K hK => ?_
      refine wps_cons rfl fun K hK => ?_; simp [hN']; refine hK _ ?_; clear hK
      refine wps_nil (hK _ ?_); clear hK
      refine SWp.block ?_
      refine SWp.loopO [] [0, 1, 5] [] (fun v : Int => ⟨[(0, .t (.sl false 1 (List.map vi a1))), (1, .t (.sl false 1 (List.map vi b2))), (5, .t (vi v))], []⟩) (laws_eqIntS_l1 a1 b2) _ 0 hj5 (by simp [hN']) ?_
      intro g s11 h9 ho10
      obtain ⟨i8, hg⟩ : ∃ y, y = g := ⟨_, rfl⟩
      subst hg
      simp only [laws_eqIntS_l1] at h9
      try dsimp only
      refine SWp.seq ?_
      refine SWp.seqR rfl (hPB _ rfl) fun K hK => ?_
      iterate 4 (refine wps_cons rfl fun K hK => ?_; simp [hN']; refine hK _ ?_; clear hK)
      refine wps_nil (hK _ ?_); clear hK
      rcases ite_or h9 with ⟨hb12, h9⟩ | ⟨hb13, h9⟩
      · refine SWp.condT' (b := decide (i8 < (a1.length : Int))) (by simp) hb12 ?_
        refine SWp.skip ?_
        show SWp E C _ _ _
        refine SWp.seq ?_
        refine SWp.block ?_
        refine SWp.seq ?_
        obtain ⟨e15, he15, h9⟩ := bind_some h9
        obtain ⟨he15a, he15b, he15c, he15d⟩ := getI_some he15
        obtain ⟨e16, he16, h9⟩ := bind_some h9
        obtain ⟨he16a, he16b, he16c, he16d⟩ := getI_some he16
        refine SWp.drawT rfl (hPB _ rfl) [(17, .t (.sl false 1 (List.map vi a1))), (18, .t (vi i8)), (19, .rop [vi e15] 0), (20, .t (vi e15)), (21, .t (.sl false 1 (List.map vi b2))), (22, .t (vi i8)), (23, .rop [vi e16] 0), (24, .t (vi e16))] [[], [], [0, 1], [0, 1, 2], [], [], [4, 5], [4, 5, 6], [0, 1, 2, 3, 4, 5, 6, 7]] (by simp) (by simp) (by simp [look]) rfl rfl rfl ?_ fun K hK => ?_
        · refine ⟨?_, ?_, ?_, ?_, ?_, ?_, ?_, ?_, trivial⟩
          all_goals (intro τ hbx hb hd hf K hK; try simp [vsAt] at hd; simp [vsAt] at hf; first | (refine wps_cons rfl fun K' hK' => ?_; simp [hN', hbx, hb, hd, hf, he15a, he15b, he15c, he15d, he16a, he16b, he16c, he16d]; exact hK' _ (wps_nil (hK _ (by simp [vsAt, hbx, he15a, he15b, he15c, he15d, he16a, he16b, he16c, he16d])))))
        refine wps_cons rfl fun K hK => ?_; simp [hN', he15a, he15b, he15c, he15d, he16a, he16b, he16c, he16d]; refine hK _ ?_; clear hK
        refine wps_nil (hK _ ?_); clear hK
        show SWp E C _ _ _
        rcases ite_or h9 with ⟨hb17, h9⟩ | ⟨hb18, h9⟩
        · refine SWp.condT' (b := e15 != e16) (by simp) hb17 ?_
          refine SWp.seqR rfl (hPB _ rfl) fun K hK => ?_
          refine wps_cons rfl fun K hK => ?_; simp [hN']; refine hK _ ?_; clear hK
          refine wps_nil (hK _ ?_); clear hK
          have h19 := congrArg some (ho10 _ (Option.some.inj h9).symm)
          cases h19
          try dsimp only at h
          cases h
          refine SWp.ret ?_
          simp [thenS, inBlockS, res14]
        · refine SWp.condF' (b := e15 != e16) (by simp) hb18 ?_
          refine SWp.skip ?_
          show SWp E C _ _ _
          refine SWp.reg rfl (hPB _ rfl) fun K hK => ?_
          iterate 3 (refine wps_cons rfl fun K hK => ?_; simp [hN']; refine hK _ ?_; clear hK)
          refine wps_nil (hK _ ?_); clear hK
          cases h9
          exact ⟨_, [], rfl, by simp [hN']⟩
      · refine SWp.condF' (b := decide (i8 < (a1.length : Int))) (by simp) hb13 ?_
        refine SWp.exit ?_
        have h20 := congrArg some (ho10 _ (Option.some.inj h9).symm)
        cases h20
        exact hK6 _ _ [] rfl (by simp [hN'])
    subst hv
    obtain ⟨⟩ := v
    try dsimp only at h ⊢
    refine SWp.seqR rfl (hPB _ rfl) fun K hK => ?_
    refine wps_cons rfl fun K hK => ?_; simp [hN']; refine hK _ ?_; clear hK
    refine wps_nil (hK _ ?_); clear hK
    cases h
    refine SWp.ret ?_
    simp [thenS, inBlockS, res14]
end Go.Proofs.T
set_option linter.unusedVariables false
set_option linter.unusedSimpArgs false
set_option maxHeartbeats 1000000
namespace Go.Proofs.T
open Go.OM
theorem res97 : Tryd.f97.results.toList = [.tmp 4] := rfl
theorem ent97 : Enters E.P 97 := enters_of Tryd.func97 (by simp [Tryd.f97]) rfl
theorem laws_eqIns_ok (a1 : GIns) (b2 : GIns) {r0 : Bool} (h : laws_eqIns a1 b2 = some r0) : Ok E 97 [.val (GIns.enc false a1), .val (GIns.enc false b2)] [vb r0] [] := by
  refine ok_of_body (fn := Tryd.f97) Tryd.func97 rfl (by simp [Tryd.f97]) fun C hN hP => ?_
  have hPB : ∀ l, pinK [] l = true → pinB C.pin l = true := pinB_of (by rw [hP]; rfl)
  have hN' : C.N = 41 := hN
  clear hN
  unfold laws_eqIns at h
  refine SWp.seqR rfl (hPB _ rfl) fun K hK => ?_
  iterate 3 (refine wps_cons rfl fun K hK => ?_; simp [hN']; refine hK _ ?_; clear hK)
  refine wps_nil (hK _ ?_); clear hK
  refine SWp.seq ?_
  refine SWp.seqR rfl (hPB _ rfl) fun K hK => ?_
  iterate 5 (refine wps_cons rfl fun K hK => ?_; simp [hN']; refine hK _ ?_; clear hK)
  refine wps_nil (hK _ ?_); clear hK
  rcases ite_or h with ⟨hb3, h⟩ | ⟨hb4, h⟩
  · refine SWp.condT' (b := a1.Op != b2.Op) (by simp) hb3 ?_
    refine SWp.seqR rfl (hPB _ rfl) fun K hK => ?_
    refine wps_cons rfl fun K hK => ?_; simp [hN']; refine hK _ ?_; clear hK
    refine wps_nil (hK _ ?_); clear hK
    cases h
    refine SWp.ret ?_
    simp [thenS, inBlockS, res97]
  · refine SWp.condF' (b := a1.Op != b2.Op) (by simp) hb4 ?_
    refine SWp.skip ?_
    show SWp E C _ _ _
    refine SWp.seq ?_
    refine SWp.seqR rfl (hPB _ rfl) fun K hK => ?_
    iterate 5 (refine wps_cons rfl fun K hK => ?_; simp [hN']; refine hK _ ?_; clear hK)
    refine wps_nil (hK _ ?_); clear hK
    rcases ite_or h with ⟨hb5, h⟩ | ⟨hb6, h⟩
    · refine SWp.condT' (b := a1.A != b2.A) (by simp) hb5 ?_
      refine SWp.seqR rfl (hPB _ rfl) fun K hK => ?_
      refine wps_cons rfl fun K hK => ?_; simp [hN']; refine hK _ ?_; clear hK
      refine wps_nil (hK _ ?_); clear hK
      cases h
      refine SWp.ret ?_
      simp [thenS, inBlockS, res97]
    · refine SWp.condF' (b := a1.A != b2.A) (by simp) hb6 ?_
      refine SWp.skip ?_
      show SWp E C _ _ _
      refine SWp.seq ?_
      refine SWp.seqR rfl (hPB _ rfl) fun K hK => ?_
      iterate 5 (refine wps_cons rfl fun K hK => ?_; simp [hN']; refine hK _ ?_; clear hK)
      refine wps_nil (hK _ ?_); clear hK
      rcases ite_or h with ⟨hb7, h⟩ | ⟨hb8, h⟩
      · refine SWp.condT' (b := a1.B != b2.B) (by simp) hb7 ?_
        refine SWp.seqR rfl (hPB _ rfl) fun K hK => ?_
        refine wps_cons rfl fun K hK => ?_; simp [hN']; refine hK _ ?_; clear hK
        refine wps_nil (hK _ ?_); clear hK
        cases h
        refine SWp.ret ?_
        simp [thenS, inBlockS, res97]
      · refine SWp.condF' (b := a1.B != b2.B) (by simp) hb8 ?_
        refine SWp.skip ?_
        show SWp E C _ _ _
        refine SWp.seq ?_
        refine SWp.seqR rfl (hPB _ rfl) fun K hK => ?_
        iterate 5 (refine wps_cons rfl fun K hK => ?_; simp [hN']; refine hK _ ?_; clear hK)
        refine wps_nil (hK _ ?_); clear hK
        rcases ite_or h with ⟨hb9, h⟩ | ⟨hb10, h⟩
        · refine SWp.condT' (b := a1.C != b2.C) (by simp) hb9 ?_
          refine SWp.seqR rfl (hPB _ rfl) fun K hK => ?_
          refine wps_cons rfl fun K hK => ?_; simp [hN']; refine hK _ ?_; clear hK
          refine wps_nil (hK _ ?_); clear hK
          cases h
          refine SWp.ret ?_
          simp [thenS, inBlockS, res97]
        · refine SWp.condF' (b := a1.C != b2.C) (by simp) hb10 ?_
          refine SWp.skip ?_
          show SWp E C _ _ _
          refine SWp.seq ?_
          refine SWp.seqR rfl (hPB _ rfl) fun K hK => ?_
          iterate 5 (refine wps_cons rfl fun K hK => ?_; simp [hN']; refine hK _ ?_; clear hK)
          refine wps_nil (hK _ ?_); clear hK
          rcases ite_or h with ⟨hb11, h⟩ | ⟨hb12, h⟩
          · refine SWp.condT' (b := a1.Num != b2.Num) (by simp) hb11 ?_
            refine SWp.seqR rfl (hPB _ rfl) fun K hK => ?_
            refine wps_cons rfl fun K hK => ?_; simp [hN']; refine hK _ ?_; clear hK
            refine wps_nil (hK _ ?_); clear hK
            cases h
            refine SWp.ret ?_
            simp [thenS, inBlockS, res97]
          · refine SWp.condF' (b := a1.Num != b2.Num) (by simp) hb12 ?_
            refine SWp.skip ?_
            show SWp E C _ _ _
            refine SWp.seq ?_
            refine SWp.seqR rfl (hPB _ rfl) fun K hK => ?_
            iterate 5 (refine wps_cons rfl fun K hK => ?_; simp [hN']; refine hK _ ?_; clear hK)
            refine wps_nil (hK _ ?_); clear hK
            rcases ite_or h with ⟨hb13, h⟩ | ⟨hb14, h⟩
            · refine SWp.condT' (b := !(sEq a1.Name b2.Name)) (by simp) hb13 ?_
              refine SWp.seqR rfl (hPB _ rfl) fun K hK => ?_
              refine wps_cons rfl fun K hK => ?_; simp [hN']; refine hK _ ?_; clear hK
              refine wps_nil (hK _ ?_); clear hK
              cases h
              refine SWp.ret ?_
              simp [thenS, inBlockS, res97]
            · refine SWp.condF' (b := !(sEq a1.Name b2.Name)) (by simp) hb14 ?_
              refine SWp.skip ?_
              show SWp E C _ _ _
              refine SWp.seq ?_
              refine SWp.seqR rfl (hPB _ rfl) fun K hK => ?_
              iterate 4 (refine wps_cons rfl fun K hK => ?_; simp [hN']; refine hK _ ?_; clear hK)
              obtain ⟨r15, hc16, h⟩ := bind_some h
              refine wps_call [(.take, .tmp 36), (.take, .tmp 38)] rfl rfl ent14 (laws_eqIntS_ok _ _ hc16) fun K hK => ?_; simp [hN']; refine hK _ ?_; clear hK
              refine wps_cons rfl fun K hK => ?_; simp [hN']; refine hK _ ?_; clear hK
              refine wps_nil (hK _ ?_); clear hK
              rcases ite_or h with ⟨hb17, h⟩ | ⟨hb18, h⟩
              · refine SWp.condT' (b := !r15) (by simp) hb17 ?_
                refine SWp.seqR rfl (hPB _ rfl) fun K hK => ?_
                refine wps_cons rfl fun K hK => ?_; simp [hN']; refine hK _ ?_; clear hK
                refine wps_nil (hK _ ?_); clear hK
                cases h
                refine SWp.ret ?_
                simp [thenS, inBlockS, res97]
              · refine SWp.condF' (b := !r15) (by simp) hb18 ?_
                refine SWp.skip ?_
                show SWp E C _ _ _
                refine SWp.seqR rfl (hPB _ rfl) fun K hK => ?_
                refine wps_cons rfl fun K hK => ?_; simp [hN']; refine hK _ ?_; clear hK
                refine wps_nil (hK _ ?_); clear hK
                cases h
                refine SWp.ret ?_
                simp [thenS, inBlockS, res97]
end Go.Proofs.T
set_option linter.unusedVariables false
set_option linter.unusedSimpArgs false
set_option maxHeartbeats 1000000
namespace Go.Proofs.T
open Go.OM
theorem res53 : Tryd.f53.results.toList = [.tmp 4] := rfl
theorem ent53 : Enters E.P 53 := enters_of Tryd.func53 (by simp [Tryd.f53]) rfl
theorem laws_eqInsS_ok (a1 : List GIns) (b2 : List GIns) {r0 : Bool} (h : laws_eqInsS a1 b2 = some r0) : Ok E 53 [.val (.sl false 7 (List.map (GIns.enc false) a1)), .val (.sl false 7 (List.map (GIns.enc false) b2))] [vb r0] [] := by
  refine ok_of_body (fn := Tryd.f53) Tryd.func53 rfl (by simp [Tryd.f53]) fun C hN hP => ?_
  have hPB : ∀ l, pinK [] l = true → pinB C.pin l = true := pinB_of (by rw [hP]; rfl)
  have hN' : C.N = 27 := hN
  clear hN
  unfold laws_eqInsS at h
  refine SWp.seqR rfl (hPB _ rfl) fun K hK => ?_
  refine wps_cons rfl fun K hK => ?_; simp [hN']; refine hK _ ?_; clear hK
  refine wps_nil (hK _ ?_); clear hK
  refine SWp.seq ?_
  refine SWp.seqR rfl (hPB _ rfl) fun K hK => ?_
  iterate 5 (refine wps_cons rfl fun K hK => ?_; simp [hN']; refine hK _ ?_; clear hK)
  refine wps_nil (hK _ ?_); clear hK
  rcases ite_or h with ⟨hb3, h⟩ | ⟨hb4, h⟩
  · refine SWp.condT' (b := (a1.length : Int) != (b2.length : Int)) (by simp) hb3 ?_
    refine SWp.seqR rfl (hPB _ rfl) fun K hK => ?_
    refine wps_cons rfl fun K hK => ?_; simp [hN']; refine hK _ ?_; clear hK
    refine wps_nil (hK _ ?_); clear hK
    cases h
    refine SWp.ret ?_
    simp [thenS, inBlockS, res53]
  · refine SWp.condF' (b := (a1.length : Int) != (b2.length : Int)) (by simp) hb4 ?_
    refine SWp.skip ?_
    show SWp E C _ _ _
    obtain ⟨j7, hj5, h⟩ := bind_some h
    refine SWp.seqC [] [] (fun v : Unit => ⟨[], []⟩) (fun v => j7 = Sum.inl v) (fun v hv => ?_) fun K6 hK6 => ?_
    rotate_left
    · refine SWp.seqR rfl (hPB _ rfl) fun K hK => ?_
      refine wps_cons rfl fun K hK => ?_; simp [hN']; refine hK _ ?_; clear hK
      refine wps_nil (hK _ ?_); clear hK
      refine SWp.block ?_
      refine SWp.loopO [] [0, 1, 5] [] (fun v : Int => ⟨[(0, .t (.sl false 7 (List.map (GIns.enc false) a1))), (1, .t (.sl false 7 (List.map (GIns.enc false) b2))), (5, .t (vi v))], []⟩) (laws_eqInsS_l1 a1 b2) _ 0 hj5 (by simp [hN']) ?_
      intro g s11 h9 ho10
      obtain ⟨i8, hg⟩ : ∃ y, y = g := ⟨_, rfl⟩
      subst hg
      simp only [laws_eqInsS_l1] at h9
      try dsimp only
      refine SWp.seq ?_
      refine SWp.seqR rfl (hPB _ rfl) fun K hK => ?_
      iterate 4 (refine wps_cons rfl fun K hK => ?_; simp [hN']; refine hK _ ?_; clear hK)
      refine wps_nil (hK _ ?_); clear hK
      rcases ite_or h9 with ⟨hb12, h9⟩ | ⟨hb13, h9⟩
      · refine SWp.condT' (b := decide (i8 < (a1.length : Int))) (by simp) hb12 ?_
        refine SWp.skip ?_
        show SWp E C _ _ _
        refine SWp.seq ?_
        refine SWp.block ?_
        refine SWp.seq ?_
        obtain ⟨e15, he15, h9⟩ := bind_some h9
        obtain ⟨he15a, he15b, he15c, he15d⟩ := getI_some he15
        obtain ⟨e16, he16, h9⟩ := bind_some h9
        obtain ⟨he16a, he16b, he16c, he16d⟩ := getI_some he16
        refine SWp.drawT rfl (hPB _ rfl) [(17, .t (.sl false 7 (List.map (GIns.enc false) a1))), (18, .t (vi i8)), (19, .rop [vi e15.Op, vi e15.A, vi e15.B, vi e15.C, vi e15.Num, vs e15.Name, .sl false 1 (List.map vi e15.Args)] 0), (20, .t (GIns.enc false e15)), (21, .t (.sl false 7 (List.map (GIns.enc false) b2))), (22, .t (vi i8)), (23, .rop [vi e16.Op, vi e16.A, vi e16.B, vi e16.C, vi e16.Num, vs e16.Name, .sl false 1 (List.map vi e16.Args)] 0), (24, .t (GIns.enc false e16))] [[], [], [0, 1], [0, 1, 2], [], [], [4, 5], [4, 5, 6], [0, 1, 2, 3, 4, 5, 6, 7], [0, 1, 2, 3, 4, 5, 6, 7, 8]] (by simp) (by simp) (by simp [look]) rfl rfl rfl ?_ fun K hK => ?_
        · refine ⟨?_, ?_, ?_, ?_, ?_, ?_, ?_, ?_, trivial⟩
          all_goals (intro τ hbx hb hd hf K hK; try simp [vsAt] at hd; simp [vsAt] at hf; first | (refine wps_cons rfl fun K' hK' => ?_; simp [hN', hbx, hb, hd, hf, he15a, he15b, he15c, he15d, he16a, he16b, he16c, he16d]; exact hK' _ (wps_nil (hK _ (by simp [vsAt, hbx, he15a, he15b, he15c, he15d, he16a, he16b, he16c, he16d])))))
        obtain ⟨r17, hc18, h9⟩ := bind_some h9
        refine wps_call [(.take, .tmp 20), (.take, .tmp 24)] rfl rfl ent97 (laws_eqIns_ok _ _ hc18) fun K hK => ?_; simp [hN', he15a, he15b, he15c, he15d, he16a, he16b, he16c, he16d]; refine hK _ ?_; clear hK
        refine wps_cons rfl fun K hK => ?_; simp [hN', he15a, he15b, he15c, he15d, he16a, he16b, he16c, he16d]; refine hK _ ?_; clear hK
        refine wps_nil (hK _ ?_); clear hK
        show SWp E C _ _ _
        rcases ite_or h9 with ⟨hb19, h9⟩ | ⟨hb20, h9⟩
        · refine SWp.condT' (b := !r17) (by simp) hb19 ?_
          refine SWp.seqR rfl (hPB _ rfl) fun K hK => ?_
          refine wps_cons rfl fun K hK => ?_; simp [hN']; refine hK _ ?_; clear hK
          refine wps_nil (hK _ ?_); clear hK
          have h21 := congrArg some (ho10 _ (Option.some.inj h9).symm)
          cases h21
          try dsimp only at h
          cases h
          refine SWp.ret ?_
          simp [thenS, inBlockS, res53]
        · refine SWp.condF' (b := !r17) (by simp) hb20 ?_
          refine SWp.skip ?_
          show SWp E C _ _ _
          refine SWp.reg rfl (hPB _ rfl) fun K hK => ?_
          iterate 3 (refine wps_cons rfl fun K hK => ?_; simp [hN']; refine hK _ ?_; clear hK)
          refine wps_nil (hK _ ?_); clear hK
          cases h9
          exact ⟨_, [], rfl, by simp [hN']⟩
      · refine SWp.condF' (b := decide (i8 < (a1.length : Int))) (by simp) hb13 ?_
        refine SWp.exit ?_
        have h22 := congrArg some (ho10 _ (Option.some.inj h9).symm)
        cases h22
        exact hK6 _ _ [] rfl (by simp [hN'])
    subst hv
    obtain ⟨⟩ := v
    try dsimp only at h ⊢
    refine SWp.seqR rfl (hPB _ rfl) fun K hK => ?_
    refine wps_cons rfl fun K hK => ?_; simp [hN']; refine hK _ ?_; clear hK
    refine wps_nil (hK _ ?_); clear hK
    cases h
    refine SWp.ret ?_
    simp [thenS, inBlockS, res53]
end Go.Proofs.T
