import Derived.Test.YtchcogjfmbfccaaDoorTA
import Derived.Shelf.Strconv.Itoa0
import Derived.Shelf.Strconv.Itoa1
import Derived.Shelf.LaysM
import Derived.Shelf.Strconv.Itoa2
import Derived.Shelf.Strconv.Itoa3
import Derived.Shelf.Strings.Search1
import Derived.Shelf.Strings.Search2
import Derived.Shelf.Strings.Search3
import Derived.Shelf.Strings.Count
import Derived.Shelf.Strings.Shaped
import Derived.Shelf.Strings.Split
import Derived.Shelf.Unicode.DecodeSlow
import Derived.Test.YtchcogjfmbfccaaDoorProg
set_option linter.unusedVariables false
set_option linter.unusedSimpArgs false
set_option maxHeartbeats 1000000
namespace Go.Proofs.T
open Go.OM
theorem res81 : Tryd.f81.results.toList = [.tmp 2] := rfl
theorem ent81 : Enters E.P 81 := enters_of Tryd.func81 (by simp [Tryd.f81]) rfl
theorem spec_NameOk_ok (s1 : ByteArray) {r0 : Bool} (h : spec_NameOk s1 = some r0) : Ok E 81 [.val (vs s1)] [vb r0] [] := by
  refine ok_of_body (fn := Tryd.f81) Tryd.func81 rfl (by simp [Tryd.f81]) fun C hN hP => ?_
  have hPB : ∀ l, pinK [] l = true → pinB C.pin l = true := pinB_of (by rw [hP]; rfl)
  have hN' : C.N = 36 := hN
  clear hN
  unfold spec_NameOk at h
  refine SWp.seqR rfl (hPB _ rfl) fun K hK => ?_
  refine wps_cons rfl fun K hK => ?_; simp [hN']; refine hK _ ?_; clear hK
  refine wps_nil (hK _ ?_); clear hK
  refine SWp.seq ?_
  obtain ⟨v15, hj2, h⟩ := bind_some h
  refine SWp.seqRC rfl (hPB _ rfl) [0, 17] [] (fun _ : Unit => ⟨[(0, .t (vs s1)), (17, .t (vb v15))], []⟩) (fun _ => True) (fun _ _ => ?_) fun K3 hK3 => ?_
  rotate_left
  · refine wps_cons rfl fun K hK => ?_; simp [hN']; refine hK _ ?_; clear hK
    refine wps_cons rfl fun K hK => ?_; simp [hN']; refine hK _ ?_; clear hK
    obtain ⟨r4, hc5, hj2⟩ := bind_some hj2
    refine wps_call [(.take, .tmp 5), (.take, .const (.int .i64 1)), (.take, .const (.int .i64 8))] rfl rfl ent82 (spec_l01In_ok _ _ _ hc5) fun K hK => ?_; simp [hN']; refine hK _ ?_; clear hK
    iterate 2 (refine wps_cons rfl fun K hK => ?_; simp [hN']; refine hK _ ?_; clear hK)
    rcases ite_or hj2 with ⟨hb6, hj2⟩ | ⟨hb7, hj2⟩
    · have hb6s := hb6
      try simp at hb6s
      iterate 4 (refine wps_off fun K hK => ?_; simp [hN', hb6, hb6s]; refine hK _ ?_; clear hK)
      iterate 2 (refine wps_cons rfl fun K hK => ?_; simp [hN', hb6, hb6s]; refine hK _ ?_; clear hK)
      iterate 2 (refine wps_off fun K hK => ?_; simp [hN', hb6, hb6s]; refine hK _ ?_; clear hK)
      refine wps_cons rfl fun K hK => ?_; simp [hN', hb6, hb6s]; refine hK _ ?_; clear hK
      refine wps_nil ?_
      cases hj2
      exact hK3 _ () [] trivial (by simp [hN', hb6, hb6s])
    · have hb7s := hb7
      try simp at hb7s
      refine wps_cons rfl fun K hK => ?_; simp [hN', hb7, hb7s]; refine hK _ ?_; clear hK
      obtain ⟨c8, hc8, hj2⟩ := bind_some hj2
      obtain ⟨hc8a, hc8b, hc8c⟩ := sAt_some hc8
      have hc8e : 0 < s1.size := by omega
      refine wps_cons rfl fun K hK => ?_; simp [hN', hb7, hb7s, hc8a, hc8b, hc8c, hc8e]; refine hK _ ?_; clear hK
      obtain ⟨r9, hc10, hj2⟩ := bind_some hj2
      refine wps_call [(.take, .tmp 10)] rfl rfl ent106 (spec_l03Letter_ok _ hc10) fun K hK => ?_; simp [hN', hb7, hb7s, hc8a, hc8b, hc8c, hc8e]; refine hK _ ?_; clear hK
      iterate 3 (refine wps_cons rfl fun K hK => ?_; simp [hN', hb7, hb7s, hc8a, hc8b, hc8c, hc8e]; refine hK _ ?_; clear hK)
      rcases ite_or hj2 with ⟨hb11, hj2⟩ | ⟨hb12, hj2⟩
      · have hb11s := hb11
        try simp at hb11s
        iterate 2 (refine wps_off fun K hK => ?_; simp [hN', hb7, hb7s, hc8a, hc8b, hc8c, hc8e, hb11, hb11s]; refine hK _ ?_; clear hK)
        refine wps_cons rfl fun K hK => ?_; simp [hN', hb7, hb7s, hc8a, hc8b, hc8c, hc8e, hb11, hb11s]; refine hK _ ?_; clear hK
        refine wps_nil ?_
        cases hj2
        exact hK3 _ () [] trivial (by simp [hN', hb7, hb7s, hc8a, hc8b, hc8c, hc8e, hb11, hb11s])
      · have hb12s := hb12
        try simp at hb12s
        refine wps_cons rfl fun K hK => ?_; simp [hN', hb7, hb7s, hc8a, hc8b, hc8c, hc8e, hb12, hb12s]; refine hK _ ?_; clear hK
        obtain ⟨r13, hc14, hj2⟩ := bind_some hj2
        refine wps_call [(.take, .tmp 15)] rfl rfl ent107 (spec_KeyWord_ok _ hc14) fun K hK => ?_; simp [hN', hb7, hb7s, hc8a, hc8b, hc8c, hc8e, hb12, hb12s]; refine hK _ ?_; clear hK
        refine wps_cons rfl fun K hK => ?_; simp [hN', hb7, hb7s, hc8a, hc8b, hc8c, hc8e, hb12, hb12s]; refine hK _ ?_; clear hK
        refine wps_nil ?_
        cases hj2
        exact hK3 _ () [] trivial (by simp [hN', hb7, hb7s, hc8a, hc8b, hc8c, hc8e, hb12, hb12s])
  rcases ite_or h with ⟨hb16, h⟩ | ⟨hb17, h⟩
  · refine SWp.condT' (b := v15) (by simp) hb16 ?_
    refine SWp.seqR rfl (hPB _ rfl) fun K hK => ?_
    refine wps_cons rfl fun K hK => ?_; simp [hN']; refine hK _ ?_; clear hK
    refine wps_nil (hK _ ?_); clear hK
    cases h
    refine SWp.ret ?_
    simp [thenS, inBlockS, res81]
  · refine SWp.condF' (b := v15) (by simp) hb17 ?_
    refine SWp.skip ?_
    show SWp E C _ _ _
    obtain ⟨j20, hj18, h⟩ := bind_some h
    refine SWp.seqC [] [] (fun v : Unit => ⟨[], []⟩) (fun v => j20 = Sum.inl v) (fun v hv => ?_) fun K19 hK19 => ?_
    rotate_left
    · refine SWp.seqR rfl (hPB _ rfl) fun K hK => ?_
      refine wps_cons rfl fun K hK => ?_; simp [hN']; refine hK _ ?_; clear hK
      refine wps_nil (hK _ ?_); clear hK
      refine SWp.block ?_
      refine SWp.loopO [] [0, 3] [] (fun v : Int => ⟨[(0, .t (vs s1)), (3, .t (vi v))], []⟩) (spec_NameOk_l1 s1) _ 0 hj18 (by simp [hN']) ?_
      intro g s24 h22 ho23
      obtain ⟨i21, hg⟩ : ∃ y, y = g := ⟨_, rfl⟩
      subst hg
      simp only [spec_NameOk_l1] at h22
      try dsimp only
      refine SWp.seq ?_
      refine SWp.seqR rfl (hPB _ rfl) fun K hK => ?_
      iterate 4 (refine wps_cons rfl fun K hK => ?_; simp [hN']; refine hK _ ?_; clear hK)
      refine wps_nil (hK _ ?_); clear hK
      rcases ite_or h22 with ⟨hb25, h22⟩ | ⟨hb26, h22⟩
      · refine SWp.condT' (b := decide (i21 < (s1.size : Int))) (by simp) hb25 ?_
        refine SWp.skip ?_
        show SWp E C _ _ _
        refine SWp.seq ?_
        refine SWp.block ?_
        obtain ⟨v36, hj27, h22⟩ := bind_some h22
        refine SWp.seqRC rfl (hPB _ rfl) [0, 3, 35] [] (fun _ : Unit => ⟨[(0, .t (vs s1)), (3, .t (vi i21)), (35, .t (vb v36))], []⟩) (fun _ => True) (fun _ _ => ?_) fun K28 hK28 => ?_
        rotate_left
        · refine wps_cons rfl fun K hK => ?_; simp [hN']; refine hK _ ?_; clear hK
          refine wps_cons rfl fun K hK => ?_; simp [hN']; refine hK _ ?_; clear hK
          obtain ⟨c29, hc29, hj27⟩ := bind_some hj27
          obtain ⟨hc29a, hc29b, hc29c⟩ := sAt_some hc29
          refine wps_cons rfl fun K hK => ?_; simp [hN', hc29a, hc29b, hc29c]; refine hK _ ?_; clear hK
          obtain ⟨r30, hc31, hj27⟩ := bind_some hj27
          refine wps_call [(.take, .tmp 26)] rfl rfl ent106 (spec_l03Letter_ok _ hc31) fun K hK => ?_; simp [hN', hc29a, hc29b, hc29c]; refine hK _ ?_; clear hK
          iterate 2 (refine wps_cons rfl fun K hK => ?_; simp [hN', hc29a, hc29b, hc29c]; refine hK _ ?_; clear hK)
          rcases ite_or hj27 with ⟨hb32, hj27⟩ | ⟨hb33, hj27⟩
          · have hb32s := hb32
            try simp at hb32s
            iterate 3 (refine wps_cons rfl fun K hK => ?_; simp [hN', hc29a, hc29b, hc29c, hb32, hb32s]; refine hK _ ?_; clear hK)
            obtain ⟨r34, hc35, hj27⟩ := bind_some hj27
            refine wps_call [(.take, .tmp 32)] rfl rfl ent108 (spec_l03Figure_ok _ hc35) fun K hK => ?_; simp [hN', hc29a, hc29b, hc29c, hb32, hb32s]; refine hK _ ?_; clear hK
            iterate 2 (refine wps_cons rfl fun K hK => ?_; simp [hN', hc29a, hc29b, hc29c, hb32, hb32s]; refine hK _ ?_; clear hK)
            refine wps_nil ?_
            cases hj27
            exact hK28 _ () [] trivial (by simp [hN', hc29a, hc29b, hc29c, hb32, hb32s])
          · have hb33s := hb33
            try simp at hb33s
            iterate 5 (refine wps_off fun K hK => ?_; simp [hN', hc29a, hc29b, hc29c, hb33, hb33s]; refine hK _ ?_; clear hK)
            refine wps_cons rfl fun K hK => ?_; simp [hN', hc29a, hc29b, hc29c, hb33, hb33s]; refine hK _ ?_; clear hK
            refine wps_nil ?_
            cases hj27
            exact hK28 _ () [] trivial (by simp [hN', hc29a, hc29b, hc29c, hb33, hb33s])
        rcases ite_or h22 with ⟨hb37, h22⟩ | ⟨hb38, h22⟩
        · refine SWp.condT' (b := v36) (by simp) hb37 ?_
          refine SWp.seqR rfl (hPB _ rfl) fun K hK => ?_
          refine wps_cons rfl fun K hK => ?_; simp [hN']; refine hK _ ?_; clear hK
          refine wps_nil (hK _ ?_); clear hK
          have h39 := congrArg some (ho23 _ (Option.some.inj h22).symm)
          cases h39
          try dsimp only at h
          cases h
          refine SWp.ret ?_
          simp [thenS, inBlockS, res81]
        · refine SWp.condF' (b := v36) (by simp) hb38 ?_
          refine SWp.skip ?_
          show SWp E C _ _ _
          refine SWp.reg rfl (hPB _ rfl) fun K hK => ?_
          iterate 3 (refine wps_cons rfl fun K hK => ?_; simp [hN']; refine hK _ ?_; clear hK)
          refine wps_nil (hK _ ?_); clear hK
          cases h22
          exact ⟨_, [], rfl, by simp [hN']⟩
      · refine SWp.condF' (b := decide (i21 < (s1.size : Int))) (by simp) hb26 ?_
        refine SWp.exit ?_
        have h40 := congrArg some (ho23 _ (Option.some.inj h22).symm)
        cases h40
        exact hK19 _ _ [] rfl (by simp [hN'])
    subst hv
    obtain ⟨⟩ := v
    try dsimp only at h ⊢
    refine SWp.seqR rfl (hPB _ rfl) fun K hK => ?_
    refine wps_cons rfl fun K hK => ?_; simp [hN']; refine hK _ ?_; clear hK
    refine wps_nil (hK _ ?_); clear hK
    cases h
    refine SWp.ret ?_
    simp [thenS, inBlockS, res81]
end Go.Proofs.T
set_option linter.unusedVariables false
set_option linter.unusedSimpArgs false
set_option maxHeartbeats 1000000
namespace Go.Proofs.T
open Go.OM
theorem res128 : Tryd.f128.results.toList = [.tmp 2, .tmp 3] := rfl
theorem ent128 : Enters E.P 128 := enters_of Tryd.func128 (by simp [Tryd.f128]) rfl
theorem spec_l04Kids_ok (kind1 : Int) {r0 : Int} {r1 : Int} (h : spec_l04Kids kind1 = some (r0, r1)) : Ok E 128 [.val (vi kind1)] [vi r0, vi r1] [] := by
  refine ok_of_body (fn := Tryd.f128) Tryd.func128 rfl (by simp [Tryd.f128]) fun C hN hP => ?_
  have hPB : ∀ l, pinK [] l = true → pinB C.pin l = true := pinB_of (by rw [hP]; rfl)
  have hN' : C.N = 23 := hN
  clear hN
  unfold spec_l04Kids at h
  refine SWp.seqR rfl (hPB _ rfl) fun K hK => ?_
  iterate 2 (refine wps_cons rfl fun K hK => ?_; simp [hN']; refine hK _ ?_; clear hK)
  refine wps_nil (hK _ ?_); clear hK
  refine SWp.seq ?_
  refine SWp.seqR rfl (hPB _ rfl) fun K hK => ?_
  refine wps_cons rfl fun K hK => ?_; simp [hN']; refine hK _ ?_; clear hK
  refine wps_nil (hK _ ?_); clear hK
  refine SWp.block ?_
  obtain ⟨v15, hj2, h⟩ := bind_some h
  refine SWp.seqC [4, 5] [] (fun _ : Unit => ⟨[(4, .t (vi kind1)), (5, .t (vb v15))], []⟩) (fun _ => True) (fun _ _ => ?_) fun K3 hK3 => ?_
  rotate_left
  · refine SWp.seqR rfl (hPB _ rfl) fun K hK => ?_
    iterate 2 (refine wps_cons rfl fun K hK => ?_; simp [hN']; refine hK _ ?_; clear hK)
    refine wps_nil (hK _ ?_); clear hK
    rcases ite_or hj2 with ⟨hb5, hj2⟩ | ⟨hb6, hj2⟩
    · refine SWp.condT' (b := kind1 == 8) (by simp) hb5 ?_
      refine SWp.skip ?_
      cases hj2
      exact hK3 _ () [] trivial (by simp [hN'])
    · refine SWp.condF' (b := kind1 == 8) (by simp) hb6 ?_
      refine SWp.seqR rfl (hPB _ rfl) fun K hK => ?_
      iterate 2 (refine wps_cons rfl fun K hK => ?_; simp [hN']; refine hK _ ?_; clear hK)
      refine wps_nil (hK _ ?_); clear hK
      rcases ite_or hj2 with ⟨hb7, hj2⟩ | ⟨hb8, hj2⟩
      · refine SWp.condT' (b := kind1 == 13) (by simp) hb7 ?_
        refine SWp.skip ?_
        cases hj2
        exact hK3 _ () [] trivial (by simp [hN'])
      · refine SWp.condF' (b := kind1 == 13) (by simp) hb8 ?_
        refine SWp.seqR rfl (hPB _ rfl) fun K hK => ?_
        iterate 2 (refine wps_cons rfl fun K hK => ?_; simp [hN']; refine hK _ ?_; clear hK)
        refine wps_nil (hK _ ?_); clear hK
        rcases ite_or hj2 with ⟨hb9, hj2⟩ | ⟨hb10, hj2⟩
        · refine SWp.condT' (b := kind1 == 14) (by simp) hb9 ?_
          refine SWp.skip ?_
          cases hj2
          exact hK3 _ () [] trivial (by simp [hN'])
        · refine SWp.condF' (b := kind1 == 14) (by simp) hb10 ?_
          refine SWp.seqR rfl (hPB _ rfl) fun K hK => ?_
          iterate 2 (refine wps_cons rfl fun K hK => ?_; simp [hN']; refine hK _ ?_; clear hK)
          refine wps_nil (hK _ ?_); clear hK
          rcases ite_or hj2 with ⟨hb11, hj2⟩ | ⟨hb12, hj2⟩
          · refine SWp.condT' (b := kind1 == 15) (by simp) hb11 ?_
            refine SWp.skip ?_
            cases hj2
            exact hK3 _ () [] trivial (by simp [hN'])
          · refine SWp.condF' (b := kind1 == 15) (by simp) hb12 ?_
            refine SWp.seqR rfl (hPB _ rfl) fun K hK => ?_
            iterate 2 (refine wps_cons rfl fun K hK => ?_; simp [hN']; refine hK _ ?_; clear hK)
            refine wps_nil (hK _ ?_); clear hK
            rcases ite_or hj2 with ⟨hb13, hj2⟩ | ⟨hb14, hj2⟩
            · refine SWp.condT' (b := kind1 == 18) (by simp) hb13 ?_
              refine SWp.skip ?_
              cases hj2
              exact hK3 _ () [] trivial (by simp [hN'])
            · refine SWp.condF' (b := kind1 == 18) (by simp) hb14 ?_
              refine SWp.reg rfl (hPB _ rfl) fun K hK => ?_
              iterate 2 (refine wps_cons rfl fun K hK => ?_; simp [hN']; refine hK _ ?_; clear hK)
              refine wps_nil (hK _ ?_); clear hK
              cases hj2
              exact hK3 _ () [] trivial (by simp [hN'])
  rcases ite_or h with ⟨hb16, h⟩ | ⟨hb17, h⟩
  · refine SWp.condT' (b := v15) (by simp) hb16 ?_
    refine SWp.seqR rfl (hPB _ rfl) fun K hK => ?_
    iterate 2 (refine wps_cons rfl fun K hK => ?_; simp [hN']; refine hK _ ?_; clear hK)
    refine wps_nil (hK _ ?_); clear hK
    cases h
    refine SWp.ret ?_
    simp [thenS, inBlockS, res128]
  · refine SWp.condF' (b := v15) (by simp) hb17 ?_
    obtain ⟨v27, hj18, h⟩ := bind_some h
    refine SWp.seqC [4, 12] [] (fun _ : Unit => ⟨[(4, .t (vi kind1)), (12, .t (vb v27))], []⟩) (fun _ => True) (fun _ _ => ?_) fun K19 hK19 => ?_
    rotate_left
    · refine SWp.seqR rfl (hPB _ rfl) fun K hK => ?_
      iterate 2 (refine wps_cons rfl fun K hK => ?_; simp [hN']; refine hK _ ?_; clear hK)
      refine wps_nil (hK _ ?_); clear hK
      rcases ite_or hj18 with ⟨hb21, hj18⟩ | ⟨hb22, hj18⟩
      · refine SWp.condT' (b := kind1 == 9) (by simp) hb21 ?_
        refine SWp.skip ?_
        cases hj18
        exact hK19 _ () [] trivial (by simp [hN'])
      · refine SWp.condF' (b := kind1 == 9) (by simp) hb22 ?_
        refine SWp.seqR rfl (hPB _ rfl) fun K hK => ?_
        iterate 2 (refine wps_cons rfl fun K hK => ?_; simp [hN']; refine hK _ ?_; clear hK)
        refine wps_nil (hK _ ?_); clear hK
        rcases ite_or hj18 with ⟨hb23, hj18⟩ | ⟨hb24, hj18⟩
        · refine SWp.condT' (b := kind1 == 10) (by simp) hb23 ?_
          refine SWp.skip ?_
          cases hj18
          exact hK19 _ () [] trivial (by simp [hN'])
        · refine SWp.condF' (b := kind1 == 10) (by simp) hb24 ?_
          refine SWp.seqR rfl (hPB _ rfl) fun K hK => ?_
          iterate 2 (refine wps_cons rfl fun K hK => ?_; simp [hN']; refine hK _ ?_; clear hK)
          refine wps_nil (hK _ ?_); clear hK
          rcases ite_or hj18 with ⟨hb25, hj18⟩ | ⟨hb26, hj18⟩
          · refine SWp.condT' (b := kind1 == 11) (by simp) hb25 ?_
            refine SWp.skip ?_
            cases hj18
            exact hK19 _ () [] trivial (by simp [hN'])
          · refine SWp.condF' (b := kind1 == 11) (by simp) hb26 ?_
            refine SWp.reg rfl (hPB _ rfl) fun K hK => ?_
            iterate 2 (refine wps_cons rfl fun K hK => ?_; simp [hN']; refine hK _ ?_; clear hK)
            refine wps_nil (hK _ ?_); clear hK
            cases hj18
            exact hK19 _ () [] trivial (by simp [hN'])
    rcases ite_or h with ⟨hb28, h⟩ | ⟨hb29, h⟩
    · refine SWp.condT' (b := v27) (by simp) hb28 ?_
      refine SWp.seqR rfl (hPB _ rfl) fun K hK => ?_
      iterate 2 (refine wps_cons rfl fun K hK => ?_; simp [hN']; refine hK _ ?_; clear hK)
      refine wps_nil (hK _ ?_); clear hK
      cases h
      refine SWp.ret ?_
      simp [thenS, inBlockS, res128]
    · refine SWp.condF' (b := v27) (by simp) hb29 ?_
      refine SWp.seqR rfl (hPB _ rfl) fun K hK => ?_
      iterate 2 (refine wps_cons rfl fun K hK => ?_; simp [hN']; refine hK _ ?_; clear hK)
      refine wps_nil (hK _ ?_); clear hK
      rcases ite_or h with ⟨hb30, h⟩ | ⟨hb31, h⟩
      · refine SWp.condT' (b := kind1 == 12) (by simp) hb30 ?_
        refine SWp.seqR rfl (hPB _ rfl) fun K hK => ?_
        iterate 2 (refine wps_cons rfl fun K hK => ?_; simp [hN']; refine hK _ ?_; clear hK)
        refine wps_nil (hK _ ?_); clear hK
        cases h
        refine SWp.ret ?_
        simp [thenS, inBlockS, res128]
      · refine SWp.condF' (b := kind1 == 12) (by simp) hb31 ?_
        refine SWp.seqR rfl (hPB _ rfl) fun K hK => ?_
        iterate 2 (refine wps_cons rfl fun K hK => ?_; simp [hN']; refine hK _ ?_; clear hK)
        refine wps_nil (hK _ ?_); clear hK
        rcases ite_or h with ⟨hb32, h⟩ | ⟨hb33, h⟩
        · refine SWp.condT' (b := kind1 == 16) (by simp) hb32 ?_
          refine SWp.seqR rfl (hPB _ rfl) fun K hK => ?_
          iterate 2 (refine wps_cons rfl fun K hK => ?_; simp [hN']; refine hK _ ?_; clear hK)
          refine wps_nil (hK _ ?_); clear hK
          cases h
          refine SWp.ret ?_
          simp [thenS, inBlockS, res128]
        · refine SWp.condF' (b := kind1 == 16) (by simp) hb33 ?_
          refine SWp.seqR rfl (hPB _ rfl) fun K hK => ?_
          iterate 2 (refine wps_cons rfl fun K hK => ?_; simp [hN']; refine hK _ ?_; clear hK)
          refine wps_nil (hK _ ?_); clear hK
          rcases ite_or h with ⟨hb34, h⟩ | ⟨hb35, h⟩
          · refine SWp.condT' (b := kind1 == 20) (by simp) hb34 ?_
            refine SWp.seqR rfl (hPB _ rfl) fun K hK => ?_
            iterate 2 (refine wps_cons rfl fun K hK => ?_; simp [hN']; refine hK _ ?_; clear hK)
            refine wps_nil (hK _ ?_); clear hK
            cases h
            refine SWp.ret ?_
            simp [thenS, inBlockS, res128]
          · refine SWp.condF' (b := kind1 == 20) (by simp) hb35 ?_
            refine SWp.skip ?_
            show SWp E C _ _ _
            refine SWp.seqR rfl (hPB _ rfl) fun K hK => ?_
            iterate 2 (refine wps_cons rfl fun K hK => ?_; simp [hN']; refine hK _ ?_; clear hK)
            refine wps_nil (hK _ ?_); clear hK
            cases h
            refine SWp.ret ?_
            simp [thenS, inBlockS, res128]
end Go.Proofs.T
set_option linter.unusedVariables false
set_option linter.unusedSimpArgs false
set_option maxHeartbeats 1000000
namespace Go.Proofs.T
open Go.OM
theorem res129 : Tryd.f129.results.toList = [.tmp 2] := rfl
theorem ent129 : Enters E.P 129 := enters_of Tryd.func129 (by simp [Tryd.f129]) rfl
theorem spec_l04Named_ok (kind1 : Int) {r0 : Bool} (h : spec_l04Named kind1 = some r0) : Ok E 129 [.val (vi kind1)] [vb r0] [] := by
  refine ok_of_body (fn := Tryd.f129) Tryd.func129 rfl (by simp [Tryd.f129]) fun C hN hP => ?_
  have hPB : ∀ l, pinK [] l = true → pinB C.pin l = true := pinB_of (by rw [hP]; rfl)
  have hN' : C.N = 14 := hN
  clear hN
  unfold spec_l04Named at h
  refine SWp.seqR rfl (hPB _ rfl) fun K hK => ?_
  refine wps_cons rfl fun K hK => ?_; simp [hN']; refine hK _ ?_; clear hK
  refine wps_nil (hK _ ?_); clear hK
  refine SWp.seq ?_
  refine SWp.seqR rfl (hPB _ rfl) fun K hK => ?_
  refine wps_cons rfl fun K hK => ?_; simp [hN']; refine hK _ ?_; clear hK
  refine wps_nil (hK _ ?_); clear hK
  refine SWp.block ?_
  obtain ⟨v21, hj2, h⟩ := bind_some h
  refine SWp.seqC [4] [] (fun _ : Unit => ⟨[(4, .t (vb v21))], []⟩) (fun _ => True) (fun _ _ => ?_) fun K3 hK3 => ?_
  rotate_left
  · refine SWp.seqR rfl (hPB _ rfl) fun K hK => ?_
    iterate 2 (refine wps_cons rfl fun K hK => ?_; simp [hN']; refine hK _ ?_; clear hK)
    refine wps_nil (hK _ ?_); clear hK
    rcases ite_or hj2 with ⟨hb5, hj2⟩ | ⟨hb6, hj2⟩
    · refine SWp.condT' (b := kind1 == 2) (by simp) hb5 ?_
      refine SWp.skip ?_
      cases hj2
      exact hK3 _ () [] trivial (by simp [hN'])
    · refine SWp.condF' (b := kind1 == 2) (by simp) hb6 ?_
      refine SWp.seqR rfl (hPB _ rfl) fun K hK => ?_
      iterate 2 (refine wps_cons rfl fun K hK => ?_; simp [hN']; refine hK _ ?_; clear hK)
      refine wps_nil (hK _ ?_); clear hK
      rcases ite_or hj2 with ⟨hb7, hj2⟩ | ⟨hb8, hj2⟩
      · refine SWp.condT' (b := kind1 == 3) (by simp) hb7 ?_
        refine SWp.skip ?_
        cases hj2
        exact hK3 _ () [] trivial (by simp [hN'])
      · refine SWp.condF' (b := kind1 == 3) (by simp) hb8 ?_
        refine SWp.seqR rfl (hPB _ rfl) fun K hK => ?_
        iterate 2 (refine wps_cons rfl fun K hK => ?_; simp [hN']; refine hK _ ?_; clear hK)
        refine wps_nil (hK _ ?_); clear hK
        rcases ite_or hj2 with ⟨hb9, hj2⟩ | ⟨hb10, hj2⟩
        · refine SWp.condT' (b := kind1 == 4) (by simp) hb9 ?_
          refine SWp.skip ?_
          cases hj2
          exact hK3 _ () [] trivial (by simp [hN'])
        · refine SWp.condF' (b := kind1 == 4) (by simp) hb10 ?_
          refine SWp.seqR rfl (hPB _ rfl) fun K hK => ?_
          iterate 2 (refine wps_cons rfl fun K hK => ?_; simp [hN']; refine hK _ ?_; clear hK)
          refine wps_nil (hK _ ?_); clear hK
          rcases ite_or hj2 with ⟨hb11, hj2⟩ | ⟨hb12, hj2⟩
          · refine SWp.condT' (b := kind1 == 5) (by simp) hb11 ?_
            refine SWp.skip ?_
            cases hj2
            exact hK3 _ () [] trivial (by simp [hN'])
          · refine SWp.condF' (b := kind1 == 5) (by simp) hb12 ?_
            refine SWp.seqR rfl (hPB _ rfl) fun K hK => ?_
            iterate 2 (refine wps_cons rfl fun K hK => ?_; simp [hN']; refine hK _ ?_; clear hK)
            refine wps_nil (hK _ ?_); clear hK
            rcases ite_or hj2 with ⟨hb13, hj2⟩ | ⟨hb14, hj2⟩
            · refine SWp.condT' (b := kind1 == 6) (by simp) hb13 ?_
              refine SWp.skip ?_
              cases hj2
              exact hK3 _ () [] trivial (by simp [hN'])
            · refine SWp.condF' (b := kind1 == 6) (by simp) hb14 ?_
              refine SWp.seqR rfl (hPB _ rfl) fun K hK => ?_
              iterate 2 (refine wps_cons rfl fun K hK => ?_; simp [hN']; refine hK _ ?_; clear hK)
              refine wps_nil (hK _ ?_); clear hK
              rcases ite_or hj2 with ⟨hb15, hj2⟩ | ⟨hb16, hj2⟩
              · refine SWp.condT' (b := kind1 == 12) (by simp) hb15 ?_
                refine SWp.skip ?_
                cases hj2
                exact hK3 _ () [] trivial (by simp [hN'])
              · refine SWp.condF' (b := kind1 == 12) (by simp) hb16 ?_
                refine SWp.seqR rfl (hPB _ rfl) fun K hK => ?_
                iterate 2 (refine wps_cons rfl fun K hK => ?_; simp [hN']; refine hK _ ?_; clear hK)
                refine wps_nil (hK _ ?_); clear hK
                rcases ite_or hj2 with ⟨hb17, hj2⟩ | ⟨hb18, hj2⟩
                · refine SWp.condT' (b := kind1 == 13) (by simp) hb17 ?_
                  refine SWp.skip ?_
                  cases hj2
                  exact hK3 _ () [] trivial (by simp [hN'])
                · refine SWp.condF' (b := kind1 == 13) (by simp) hb18 ?_
                  refine SWp.seqR rfl (hPB _ rfl) fun K hK => ?_
                  iterate 2 (refine wps_cons rfl fun K hK => ?_; simp [hN']; refine hK _ ?_; clear hK)
                  refine wps_nil (hK _ ?_); clear hK
                  rcases ite_or hj2 with ⟨hb19, hj2⟩ | ⟨hb20, hj2⟩
                  · refine SWp.condT' (b := kind1 == 14) (by simp) hb19 ?_
                    refine SWp.skip ?_
                    cases hj2
                    exact hK3 _ () [] trivial (by simp [hN'])
                  · refine SWp.condF' (b := kind1 == 14) (by simp) hb20 ?_
                    refine SWp.reg rfl (hPB _ rfl) fun K hK => ?_
                    iterate 2 (refine wps_cons rfl fun K hK => ?_; simp [hN']; refine hK _ ?_; clear hK)
                    refine wps_nil (hK _ ?_); clear hK
                    cases hj2
                    exact hK3 _ () [] trivial (by simp [hN'])
  rcases ite_or h with ⟨hb22, h⟩ | ⟨hb23, h⟩
  · refine SWp.condT' (b := v21) (by simp) hb22 ?_
    refine SWp.seqR rfl (hPB _ rfl) fun K hK => ?_
    refine wps_cons rfl fun K hK => ?_; simp [hN']; refine hK _ ?_; clear hK
    refine wps_nil (hK _ ?_); clear hK
    cases h
    refine SWp.ret ?_
    simp [thenS, inBlockS, res129]
  · refine SWp.condF' (b := v21) (by simp) hb23 ?_
    refine SWp.skip ?_
    show SWp E C _ _ _
    refine SWp.seqR rfl (hPB _ rfl) fun K hK => ?_
    refine wps_cons rfl fun K hK => ?_; simp [hN']; refine hK _ ?_; clear hK
    refine wps_nil (hK _ ?_); clear hK
    cases h
    refine SWp.ret ?_
    simp [thenS, inBlockS, res129]
end Go.Proofs.T
set_option linter.unusedVariables false
set_option linter.unusedSimpArgs false
set_option maxHeartbeats 1000000
namespace Go.Proofs.T
open Go.OM
theorem res141 : Tryd.f141.results.toList = [.tmp 2] := rfl
theorem ent141 : Enters E.P 141 := enters_of Tryd.func141 (by simp [Tryd.f141]) rfl
theorem spec_l04Statement_ok (kind1 : Int) {r0 : Bool} (h : spec_l04Statement kind1 = some r0) : Ok E 141 [.val (vi kind1)] [vb r0] [] := by
  refine ok_of_body (fn := Tryd.f141) Tryd.func141 rfl (by simp [Tryd.f141]) fun C hN hP => ?_
  have hPB : ∀ l, pinK [] l = true → pinB C.pin l = true := pinB_of (by rw [hP]; rfl)
  have hN' : C.N = 5 := hN
  clear hN
  unfold spec_l04Statement at h
  refine SWp.seqR rfl (hPB _ rfl) fun K hK => ?_
  refine wps_cons rfl fun K hK => ?_; simp [hN']; refine hK _ ?_; clear hK
  refine wps_nil (hK _ ?_); clear hK
  refine SWp.seqR rfl (hPB _ rfl) fun K hK => ?_
  refine wps_cons rfl fun K hK => ?_; simp [hN']; refine hK _ ?_; clear hK
  obtain ⟨r2, hc3, h⟩ := bind_some h
  refine wps_call [(.take, .tmp 3), (.take, .const (.int .i64 13)), (.take, .const (.int .i64 19))] rfl rfl ent82 (spec_l01In_ok _ _ _ hc3) fun K hK => ?_; simp [hN']; refine hK _ ?_; clear hK
  refine wps_cons rfl fun K hK => ?_; simp [hN']; refine hK _ ?_; clear hK
  refine wps_nil (hK _ ?_); clear hK
  cases h
  refine SWp.ret ?_
  simp [thenS, inBlockS, res141]
end Go.Proofs.T
set_option linter.unusedVariables false
set_option linter.unusedSimpArgs false
set_option maxHeartbeats 1000000
namespace Go.Proofs.T
open Go.OM
theorem res142 : Tryd.f142.results.toList = [.tmp 2] := rfl
theorem ent142 : Enters E.P 142 := enters_of Tryd.func142 (by simp [Tryd.f142]) rfl
theorem spec_l04Value_ok (kind1 : Int) {r0 : Bool} (h : spec_l04Value kind1 = some r0) : Ok E 142 [.val (vi kind1)] [vb r0] [] := by
  refine ok_of_body (fn := Tryd.f142) Tryd.func142 rfl (by simp [Tryd.f142]) fun C hN hP => ?_
  have hPB : ∀ l, pinK [] l = true → pinB C.pin l = true := pinB_of (by rw [hP]; rfl)
  have hN' : C.N = 5 := hN
  clear hN
  unfold spec_l04Value at h
  refine SWp.seqR rfl (hPB _ rfl) fun K hK => ?_
  refine wps_cons rfl fun K hK => ?_; simp [hN']; refine hK _ ?_; clear hK
  refine wps_nil (hK _ ?_); clear hK
  refine SWp.seqR rfl (hPB _ rfl) fun K hK => ?_
  refine wps_cons rfl fun K hK => ?_; simp [hN']; refine hK _ ?_; clear hK
  obtain ⟨r2, hc3, h⟩ := bind_some h
  refine wps_call [(.take, .tmp 3), (.take, .const (.int .i64 1)), (.take, .const (.int .i64 12))] rfl rfl ent82 (spec_l01In_ok _ _ _ hc3) fun K hK => ?_; simp [hN']; refine hK _ ?_; clear hK
  refine wps_cons rfl fun K hK => ?_; simp [hN']; refine hK _ ?_; clear hK
  refine wps_nil (hK _ ?_); clear hK
  cases h
  refine SWp.ret ?_
  simp [thenS, inBlockS, res142]
end Go.Proofs.T
set_option linter.unusedVariables false
set_option linter.unusedSimpArgs false
set_option maxHeartbeats 1000000
namespace Go.Proofs.T
open Go.OM
theorem res130 : Tryd.f130.results.toList = [.tmp 6] := rfl
theorem ent130 : Enters E.P 130 := enters_of Tryd.func130 (by simp [Tryd.f130]) rfl
theorem spec_l04Fits_ok (kind1 : Int) (at2 : Int) (kid3 : Int) {r0 : Bool} (h : spec_l04Fits kind1 at2 kid3 = some r0) : Ok E 130 [.val (vi kind1), .val (vi at2), .val (vi kid3)] [vb r0] [] := by
  refine ok_of_body (fn := Tryd.f130) Tryd.func130 rfl (by simp [Tryd.f130]) fun C hN hP => ?_
  have hPB : ∀ l, pinK [] l = true → pinB C.pin l = true := pinB_of (by rw [hP]; rfl)
  have hN' : C.N = 25 := hN
  clear hN
  unfold spec_l04Fits at h
  refine SWp.seqR rfl (hPB _ rfl) fun K hK => ?_
  refine wps_cons rfl fun K hK => ?_; simp [hN']; refine hK _ ?_; clear hK
  refine wps_nil (hK _ ?_); clear hK
  refine SWp.seq ?_
  refine SWp.seqR rfl (hPB _ rfl) fun K hK => ?_
  refine wps_cons rfl fun K hK => ?_; simp [hN']; refine hK _ ?_; clear hK
  refine wps_nil (hK _ ?_); clear hK
  refine SWp.block ?_
  refine SWp.seqR rfl (hPB _ rfl) fun K hK => ?_
  iterate 2 (refine wps_cons rfl fun K hK => ?_; simp [hN']; refine hK _ ?_; clear hK)
  refine wps_nil (hK _ ?_); clear hK
  rcases ite_or h with ⟨hb4, h⟩ | ⟨hb5, h⟩
  · refine SWp.condT' (b := kind1 == 20) (by simp) hb4 ?_
    refine SWp.seqR rfl (hPB _ rfl) fun K hK => ?_
    refine wps_cons rfl fun K hK => ?_; simp [hN']; refine hK _ ?_; clear hK
    obtain ⟨r6, hc7, h⟩ := bind_some h
    refine wps_call [(.take, .tmp 10)] rfl rfl ent141 (spec_l04Statement_ok _ hc7) fun K hK => ?_; simp [hN']; refine hK _ ?_; clear hK
    refine wps_cons rfl fun K hK => ?_; simp [hN']; refine hK _ ?_; clear hK
    refine wps_nil (hK _ ?_); clear hK
    cases h
    refine SWp.ret ?_
    simp [thenS, inBlockS, res130]
  · refine SWp.condF' (b := kind1 == 20) (by simp) hb5 ?_
    obtain ⟨v13, hj8, h⟩ := bind_some h
    refine SWp.seqC [1, 2, 7, 12] [] (fun _ : Unit => ⟨[(1, .t (vi at2)), (2, .t (vi kid3)), (7, .t (vi kind1)), (12, .t (vb v13))], []⟩) (fun _ => True) (fun _ _ => ?_) fun K9 hK9 => ?_
    rotate_left
    · refine SWp.seqR rfl (hPB _ rfl) fun K hK => ?_
      iterate 2 (refine wps_cons rfl fun K hK => ?_; simp [hN']; refine hK _ ?_; clear hK)
      refine wps_nil (hK _ ?_); clear hK
      rcases ite_or hj8 with ⟨hb11, hj8⟩ | ⟨hb12, hj8⟩
      · refine SWp.condT' (b := kind1 == 16) (by simp) hb11 ?_
        refine SWp.skip ?_
        cases hj8
        exact hK9 _ () [] trivial (by simp [hN'])
      · refine SWp.condF' (b := kind1 == 16) (by simp) hb12 ?_
        refine SWp.reg rfl (hPB _ rfl) fun K hK => ?_
        iterate 2 (refine wps_cons rfl fun K hK => ?_; simp [hN']; refine hK _ ?_; clear hK)
        refine wps_nil (hK _ ?_); clear hK
        cases hj8
        exact hK9 _ () [] trivial (by simp [hN'])
    rcases ite_or h with ⟨hb14, h⟩ | ⟨hb15, h⟩
    · refine SWp.condT' (b := v13) (by simp) hb14 ?_
      refine SWp.seqR rfl (hPB _ rfl) fun K hK => ?_
      iterate 2 (refine wps_cons rfl fun K hK => ?_; simp [hN']; refine hK _ ?_; clear hK)
      refine wps_nil (hK _ ?_); clear hK
      rcases ite_or h with ⟨hb16, h⟩ | ⟨hb17, h⟩
      · refine SWp.condT' (b := decide (at2 > 0)) (by simp) hb16 ?_
        refine SWp.seqR rfl (hPB _ rfl) fun K hK => ?_
        iterate 3 (refine wps_cons rfl fun K hK => ?_; simp [hN']; refine hK _ ?_; clear hK)
        refine wps_nil (hK _ ?_); clear hK
        cases h
        refine SWp.ret ?_
        simp [thenS, inBlockS, res130]
      · refine SWp.condF' (b := decide (at2 > 0)) (by simp) hb17 ?_
        refine SWp.skip ?_
        show SWp E C _ _ _
        refine SWp.seqR rfl (hPB _ rfl) fun K hK => ?_
        refine wps_cons rfl fun K hK => ?_; simp [hN']; refine hK _ ?_; clear hK
        obtain ⟨r18, hc19, h⟩ := bind_some h
        refine wps_call [(.take, .tmp 23)] rfl rfl ent142 (spec_l04Value_ok _ hc19) fun K hK => ?_; simp [hN']; refine hK _ ?_; clear hK
        refine wps_cons rfl fun K hK => ?_; simp [hN']; refine hK _ ?_; clear hK
        refine wps_nil (hK _ ?_); clear hK
        cases h
        refine SWp.ret ?_
        simp [thenS, inBlockS, res130]
    · refine SWp.condF' (b := v13) (by simp) hb15 ?_
      refine SWp.seqR rfl (hPB _ rfl) fun K hK => ?_
      iterate 2 (refine wps_cons rfl fun K hK => ?_; simp [hN']; refine hK _ ?_; clear hK)
      refine wps_nil (hK _ ?_); clear hK
      rcases ite_or h with ⟨hb20, h⟩ | ⟨hb21, h⟩
      · refine SWp.condT' (b := kind1 == 19) (by simp) hb20 ?_
        refine SWp.seqR rfl (hPB _ rfl) fun K hK => ?_
        iterate 3 (refine wps_cons rfl fun K hK => ?_; simp [hN']; refine hK _ ?_; clear hK)
        refine wps_nil (hK _ ?_); clear hK
        cases h
        refine SWp.ret ?_
        simp [thenS, inBlockS, res130]
      · refine SWp.condF' (b := kind1 == 19) (by simp) hb21 ?_
        refine SWp.skip ?_
        show SWp E C _ _ _
        refine SWp.seqR rfl (hPB _ rfl) fun K hK => ?_
        refine wps_cons rfl fun K hK => ?_; simp [hN']; refine hK _ ?_; clear hK
        obtain ⟨r22, hc23, h⟩ := bind_some h
        refine wps_call [(.take, .tmp 23)] rfl rfl ent142 (spec_l04Value_ok _ hc23) fun K hK => ?_; simp [hN']; refine hK _ ?_; clear hK
        refine wps_cons rfl fun K hK => ?_; simp [hN']; refine hK _ ?_; clear hK
        refine wps_nil (hK _ ?_); clear hK
        cases h
        refine SWp.ret ?_
        simp [thenS, inBlockS, res130]
end Go.Proofs.T
set_option linter.unusedVariables false
set_option linter.unusedSimpArgs false
set_option maxHeartbeats 8000000
namespace Go.Proofs.T
open Go.OM
theorem res119 : Tryd.f119.results.toList = [.tmp 4] := rfl
theorem ent119 : Enters E.P 119 := enters_of Tryd.func119 (by simp [Tryd.f119]) rfl
theorem spec_NodeOk_ok (nodes1 : List GNode) (k2 : Int) {r0 : Bool} (h : spec_NodeOk nodes1 k2 = some r0) : Ok E 119 [.val (.sl false 4 (List.map (GNode.enc false) nodes1)), .val (vi k2)] [vb r0] [] := by
  refine ok_of_body (fn := Tryd.f119) Tryd.func119 rfl (by simp [Tryd.f119]) fun C hN hP => ?_
  have hPB : ∀ l, pinK [] l = true → pinB C.pin l = true := pinB_of (by rw [hP]; rfl)
  have hN' : C.N = 124 := hN
  clear hN
  unfold spec_NodeOk at h
  refine SWp.seqR rfl (hPB _ rfl) fun K hK => ?_
  refine wps_cons rfl fun K hK => ?_; simp [hN']; refine hK _ ?_; clear hK
  refine wps_nil (hK _ ?_); clear hK
  refine SWp.seq ?_
  obtain ⟨v12, hj3, h⟩ := bind_some h
  refine SWp.seqRC rfl (hPB _ rfl) [0, 1, 24] [] (fun _ : Unit => ⟨[(0, .t (.sl false 4 (List.map (GNode.enc false) nodes1))), (1, .t (vi k2)), (24, .t (vb v12))], []⟩) (fun _ => True) (fun _ _ => ?_) fun K4 hK4 => ?_
  rotate_left
  · refine wps_cons rfl fun K hK => ?_; simp [hN']; refine hK _ ?_; clear hK
    iterate 3 (refine wps_cons rfl fun K hK => ?_; simp [hN']; refine hK _ ?_; clear hK)
    obtain ⟨r5, hc6, hj3⟩ := bind_some hj3
    refine wps_call [(.take, .tmp 10), (.take, .const (.int .i64 0)), (.take, .tmp 13)] rfl rfl ent82 (spec_l01In_ok _ _ _ hc6) fun K hK => ?_; simp [hN']; refine hK _ ?_; clear hK
    iterate 2 (refine wps_cons rfl fun K hK => ?_; simp [hN']; refine hK _ ?_; clear hK)
    rcases ite_or hj3 with ⟨hb7, hj3⟩ | ⟨hb8, hj3⟩
    · have hb7s := hb7
      try simp at hb7s
      iterate 7 (refine wps_off fun K hK => ?_; simp [hN', hb7, hb7s]; refine hK _ ?_; clear hK)
      refine wps_cons rfl fun K hK => ?_; simp [hN', hb7, hb7s]; refine hK _ ?_; clear hK
      refine wps_nil ?_
      cases hj3
      exact hK4 _ () [] trivial (by simp [hN', hb7, hb7s])
    · have hb8s := hb8
      try simp at hb8s
      iterate 2 (refine wps_cons rfl fun K hK => ?_; simp [hN', hb8, hb8s]; refine hK _ ?_; clear hK)
      obtain ⟨e9, he9, hj3⟩ := bind_some hj3
      obtain ⟨he9a, he9b, he9c, he9d⟩ := getI_some he9
      iterate 3 (refine wps_cons rfl fun K hK => ?_; simp [hN', hb8, hb8s, he9a, he9b, he9c, he9d]; refine hK _ ?_; clear hK)
      obtain ⟨r10, hc11, hj3⟩ := bind_some hj3
      refine wps_call [(.take, .tmp 21), (.take, .const (.int .i64 1)), (.take, .const (.int .i64 20))] rfl rfl ent82 (spec_l01In_ok _ _ _ hc11) fun K hK => ?_; simp [hN', hb8, hb8s, he9a, he9b, he9c, he9d]; refine hK _ ?_; clear hK
      iterate 2 (refine wps_cons rfl fun K hK => ?_; simp [hN', hb8, hb8s, he9a, he9b, he9c, he9d]; refine hK _ ?_; clear hK)
      refine wps_nil ?_
      cases hj3
      exact hK4 _ () [] trivial (by simp [hN', hb8, hb8s, he9a, he9b, he9c, he9d])
  rcases ite_or h with ⟨hb13, h⟩ | ⟨hb14, h⟩
  · refine SWp.condT' (b := v12) (by simp) hb13 ?_
    refine SWp.seqR rfl (hPB _ rfl) fun K hK => ?_
    refine wps_cons rfl fun K hK => ?_; simp [hN']; refine hK _ ?_; clear hK
    refine wps_nil (hK _ ?_); clear hK
    cases h
    refine SWp.ret ?_
    simp [thenS, inBlockS, res119]
  · refine SWp.condF' (b := v12) (by simp) hb14 ?_
    refine SWp.skip ?_
    show SWp E C _ _ _
    refine SWp.seqR rfl (hPB _ rfl) fun K hK => ?_
    iterate 2 (refine wps_cons rfl fun K hK => ?_; simp [hN']; refine hK _ ?_; clear hK)
    obtain ⟨e15, he15, h⟩ := bind_some h
    obtain ⟨he15a, he15b, he15c, he15d⟩ := getI_some he15
    iterate 4 (refine wps_cons rfl fun K hK => ?_; simp [hN', he15a, he15b, he15c, he15d]; refine hK _ ?_; clear hK)
    refine wps_nil (hK _ ?_); clear hK
    refine SWp.seqR rfl (hPB _ rfl) fun K hK => ?_
    iterate 2 (refine wps_cons rfl fun K hK => ?_; simp [hN']; refine hK _ ?_; clear hK)
    obtain ⟨⟨r16, r17⟩, hc18, h⟩ := bind_some h
    try dsimp only at h
    refine wps_call [(.take, .tmp 31)] rfl rfl ent128 (spec_l04Kids_ok _ hc18) fun K hK => ?_; simp [hN']; refine hK _ ?_; clear hK
    iterate 5 (refine wps_cons rfl fun K hK => ?_; simp [hN']; refine hK _ ?_; clear hK)
    refine wps_nil (hK _ ?_); clear hK
    refine SWp.seq ?_
    obtain ⟨v31, hj19, h⟩ := bind_some h
    refine SWp.seqRC rfl (hPB _ rfl) [0, 1, 5, 57] [5] (fun _ : Unit => ⟨[(0, .t (.sl false 4 (List.map (GNode.enc false) nodes1))), (1, .t (vi k2)), (5, .ref (.box 5) 0 []), (57, .t (vb v31))], [(5, [vi e15.Kind, vi e15.Num, vs e15.Name, .sl false 1 (List.map vi e15.Kids)])]⟩) (fun _ => True) (fun _ _ => ?_) fun K20 hK20 => ?_
    rotate_left
    · refine wps_cons rfl fun K hK => ?_; simp [hN']; refine hK _ ?_; clear hK
      iterate 4 (refine wps_cons rfl fun K hK => ?_; simp [hN']; refine hK _ ?_; clear hK)
      obtain ⟨r21, hc22, hj19⟩ := bind_some hj19
      refine wps_call [(.take, .tmp 37), (.take, .tmp 38), (.take, .tmp 39)] rfl rfl ent82 (spec_l01In_ok _ _ _ hc22) fun K hK => ?_; simp [hN']; refine hK _ ?_; clear hK
      iterate 2 (refine wps_cons rfl fun K hK => ?_; simp [hN']; refine hK _ ?_; clear hK)
      rcases ite_or hj19 with ⟨hb23, hj19⟩ | ⟨hb24, hj19⟩
      · have hb23s := hb23
        try simp at hb23s
        iterate 4 (refine wps_off fun K hK => ?_; simp [hN', hb23, hb23s]; refine hK _ ?_; clear hK)
        iterate 2 (refine wps_cons rfl fun K hK => ?_; simp [hN', hb23, hb23s]; refine hK _ ?_; clear hK)
        iterate 8 (refine wps_off fun K hK => ?_; simp [hN', hb23, hb23s]; refine hK _ ?_; clear hK)
        refine wps_cons rfl fun K hK => ?_; simp [hN', hb23, hb23s]; refine hK _ ?_; clear hK
        refine wps_nil ?_
        cases hj19
        exact hK20 _ () [] trivial (by simp [hN', hb23, hb23s])
      · have hb24s := hb24
        try simp at hb24s
        iterate 2 (refine wps_cons rfl fun K hK => ?_; simp [hN', hb24, hb24s]; refine hK _ ?_; clear hK)
        obtain ⟨r25, hc26, hj19⟩ := bind_some hj19
        refine wps_call [(.take, .tmp 44), (.take, .const (.int .i64 0)), (.take, .const (.int .i64 1000000000))] rfl rfl ent82 (spec_l01In_ok _ _ _ hc26) fun K hK => ?_; simp [hN', hb24, hb24s]; refine hK _ ?_; clear hK
        iterate 3 (refine wps_cons rfl fun K hK => ?_; simp [hN', hb24, hb24s]; refine hK _ ?_; clear hK)
        rcases ite_or hj19 with ⟨hb27, hj19⟩ | ⟨hb28, hj19⟩
        · have hb27s := hb27
          try simp at hb27s
          iterate 8 (refine wps_off fun K hK => ?_; simp [hN', hb24, hb24s, hb27, hb27s]; refine hK _ ?_; clear hK)
          refine wps_cons rfl fun K hK => ?_; simp [hN', hb24, hb24s, hb27, hb27s]; refine hK _ ?_; clear hK
          refine wps_nil ?_
          cases hj19
          exact hK20 _ () [] trivial (by simp [hN', hb24, hb24s, hb27, hb27s])
        · have hb28s := hb28
          try simp at hb28s
          iterate 4 (refine wps_cons rfl fun K hK => ?_; simp [hN', hb24, hb24s, hb28, hb28s]; refine hK _ ?_; clear hK)
          rcases ite_or hj19 with ⟨hb29, hj19⟩ | ⟨hb30, hj19⟩
          · have hb29s := hb29
            try simp at hb29s
            iterate 5 (refine wps_cons rfl fun K hK => ?_; simp [hN', hb24, hb24s, hb28, hb28s, hb29, hb29s]; refine hK _ ?_; clear hK)
            refine wps_nil ?_
            cases hj19
            exact hK20 _ () [] trivial (by simp [hN', hb24, hb24s, hb28, hb28s, hb29, hb29s])
          · have hb30s := hb30
            try simp at hb30s
            iterate 3 (refine wps_off fun K hK => ?_; simp [hN', hb24, hb24s, hb28, hb28s, hb30, hb30s]; refine hK _ ?_; clear hK)
            iterate 2 (refine wps_cons rfl fun K hK => ?_; simp [hN', hb24, hb24s, hb28, hb28s, hb30, hb30s]; refine hK _ ?_; clear hK)
            refine wps_nil ?_
            cases hj19
            exact hK20 _ () [] trivial (by simp [hN', hb24, hb24s, hb28, hb28s, hb30, hb30s])
    rcases ite_or h with ⟨hb32, h⟩ | ⟨hb33, h⟩
    · refine SWp.condT' (b := v31) (by simp) hb32 ?_
      refine SWp.seqR rfl (hPB _ rfl) fun K hK => ?_
      refine wps_cons rfl fun K hK => ?_; simp [hN']; refine hK _ ?_; clear hK
      refine wps_nil (hK _ ?_); clear hK
      cases h
      refine SWp.ret ?_
      simp [thenS, inBlockS, res119]
    · refine SWp.condF' (b := v31) (by simp) hb33 ?_
      refine SWp.skip ?_
      show SWp E C _ _ _
      refine SWp.seq ?_
      obtain ⟨v44, hj34, h⟩ := bind_some h
      refine SWp.seqC [0, 1, 5, 75] [5] (fun _ : Unit => ⟨[(0, .t (.sl false 4 (List.map (GNode.enc false) nodes1))), (1, .t (vi k2)), (5, .ref (.box 5) 0 []), (75, .t (vb v44))], [(5, [vi e15.Kind, vi e15.Num, vs e15.Name, .sl false 1 (List.map vi e15.Kids)])]⟩) (fun _ => True) (fun _ _ => ?_) fun K35 hK35 => ?_
      rotate_left
      · obtain ⟨r36, hc37, hj34⟩ := bind_some hj34
        refine SWp.drawT rfl (hPB _ rfl) [(58, .ref (.box 5) 0 []), (59, .t (vi e15.Kind)), (60, .t (vb r36)), (61, .ref (.box 5) 2 []), (62, .t (vs e15.Name)), (63, .t (vb (!(sEq e15.Name (⟨#[]⟩ : ByteArray)))))] [[], [0], [0, 1], [], [3], [3, 4], [0, 1, 2, 3, 4, 5], [0, 1, 2, 3, 4, 5, 6], [0, 1, 2, 3, 4, 5, 6, 7], [0, 1, 2, 3, 4, 5, 6, 7, 8], [0, 1, 2, 3, 4, 5, 6, 7, 8, 9], [0, 1, 2, 3, 4, 5, 6, 7, 8, 9, 10], [0, 1, 2, 3, 4, 5, 6, 7, 8, 9, 10, 11], [0, 1, 2, 3, 4, 5, 6, 7, 8, 9, 10, 11, 12], [0, 1, 2, 3, 4, 5, 6, 7, 8, 9, 10, 11, 12, 13], [0, 1, 2, 3, 4, 5, 6, 7, 8, 9, 10, 11, 12, 13, 14], [0, 1, 2, 3, 4, 5, 6, 7, 8, 9, 10, 11, 12, 13, 14, 15], [0, 1, 2, 3, 4, 5, 6, 7, 8, 9, 10, 11, 12, 13, 14, 15, 16]] (by simp) (by simp) (by simp [look]) rfl rfl rfl ?_ fun K hK => ?_
        · refine ⟨?_, ?_, ?_, ?_, ?_, ?_, trivial⟩
          all_goals (intro τ hbx hb hd hf K hK; try simp [vsAt] at hd; simp [vsAt] at hf; first | (refine wps_cons rfl fun K' hK' => ?_; simp [hN', hbx, hb, hd, hf]; exact hK' _ (wps_nil (hK _ (by simp [vsAt, hbx])))) | (refine wps_call [(.take, .tmp 59)] rfl rfl ent129 (spec_l04Named_ok _ hc37) fun K' hK' => ?_; simp [hN', hbx, hb, hd, hf]; exact hK' _ (wps_nil (hK _ (by simp [vsAt, hbx])))))
        iterate 2 (refine wps_cons rfl fun K hK => ?_; simp [hN']; refine hK _ ?_; clear hK)
        rcases ite_or hj34 with ⟨hb38, hj34⟩ | ⟨hb39, hj34⟩
        · have hb38s := hb38
          try simp at hb38s
          iterate 9 (refine wps_off fun K hK => ?_; simp [hN', hb38, hb38s]; refine hK _ ?_; clear hK)
          refine wps_cons rfl fun K hK => ?_; simp [hN', hb38, hb38s]; refine hK _ ?_; clear hK
          refine wps_nil (hK _ ?_); clear hK
          cases hj34
          exact hK35 _ () [] trivial (by simp [hN', hb38, hb38s])
        · have hb39s := hb39
          try simp at hb39s
          iterate 4 (refine wps_cons rfl fun K hK => ?_; simp [hN', hb39, hb39s]; refine hK _ ?_; clear hK)
          rcases ite_or hj34 with ⟨hb40, hj34⟩ | ⟨hb41, hj34⟩
          · have hb40s := hb40
            try simp at hb40s
            iterate 2 (refine wps_cons rfl fun K hK => ?_; simp [hN', hb39, hb39s, hb40, hb40s]; refine hK _ ?_; clear hK)
            obtain ⟨r42, hc43, hj34⟩ := bind_some hj34
            refine wps_call [(.take, .tmp 71)] rfl rfl ent81 (spec_NameOk_ok _ hc43) fun K hK => ?_; simp [hN', hb39, hb39s, hb40, hb40s]; refine hK _ ?_; clear hK
            iterate 3 (refine wps_cons rfl fun K hK => ?_; simp [hN', hb39, hb39s, hb40, hb40s]; refine hK _ ?_; clear hK)
            refine wps_nil (hK _ ?_); clear hK
            cases hj34
            exact hK35 _ () [] trivial (by simp [hN', hb39, hb39s, hb40, hb40s])
          · have hb41s := hb41
            try simp at hb41s
            iterate 4 (refine wps_off fun K hK => ?_; simp [hN', hb39, hb39s, hb41, hb41s]; refine hK _ ?_; clear hK)
            iterate 2 (refine wps_cons rfl fun K hK => ?_; simp [hN', hb39, hb39s, hb41, hb41s]; refine hK _ ?_; clear hK)
            refine wps_nil (hK _ ?_); clear hK
            cases hj34
            exact hK35 _ () [] trivial (by simp [hN', hb39, hb39s, hb41, hb41s])
      rcases ite_or h with ⟨hb45, h⟩ | ⟨hb46, h⟩
      · refine SWp.condT' (b := v44) (by simp) hb45 ?_
        refine SWp.seqR rfl (hPB _ rfl) fun K hK => ?_
        refine wps_cons rfl fun K hK => ?_; simp [hN']; refine hK _ ?_; clear hK
        refine wps_nil (hK _ ?_); clear hK
        cases h
        refine SWp.ret ?_
        simp [thenS, inBlockS, res119]
      · refine SWp.condF' (b := v44) (by simp) hb46 ?_
        refine SWp.skip ?_
        show SWp E C _ _ _
        obtain ⟨j49, hj47, h⟩ := bind_some h
        refine SWp.seqC [] [] (fun v : Unit => ⟨[], []⟩) (fun v => j49 = Sum.inl v) (fun v hv => ?_) fun K48 hK48 => ?_
        rotate_left
        · refine SWp.seqR rfl (hPB _ rfl) fun K hK => ?_
          refine wps_cons rfl fun K hK => ?_; simp [hN']; refine hK _ ?_; clear hK
          refine wps_nil (hK _ ?_); clear hK
          refine SWp.block ?_
          refine SWp.loopO [] [0, 1, 5, 8] [5] (fun v : Int => ⟨[(0, .t (.sl false 4 (List.map (GNode.enc false) nodes1))), (1, .t (vi k2)), (5, .ref (.box 5) 0 []), (8, .t (vi v))], [(5, [vi e15.Kind, vi e15.Num, vs e15.Name, .sl false 1 (List.map vi e15.Kids)])]⟩) (spec_NodeOk_l1 nodes1 k2 e15) _ 0 hj47 (by simp [hN']) ?_
          intro g s53 h51 ho52
          obtain ⟨i50, hg⟩ : ∃ y, y = g := ⟨_, rfl⟩
          subst hg
          simp only [spec_NodeOk_l1] at h51
          try dsimp only
          refine SWp.seq ?_
          refine SWp.seqR rfl (hPB _ rfl) fun K hK => ?_
          iterate 5 (refine wps_cons rfl fun K hK => ?_; simp [hN']; refine hK _ ?_; clear hK)
          refine wps_nil (hK _ ?_); clear hK
          rcases ite_or h51 with ⟨hb54, h51⟩ | ⟨hb55, h51⟩
          · refine SWp.condT' (b := decide (i50 < (e15.Kids.length : Int))) (by simp) hb54 ?_
            refine SWp.skip ?_
            show SWp E C _ _ _
            obtain ⟨j58, hj56, h51⟩ := bind_some h51
            refine SWp.seqC [0, 1, 5, 8] [5] (fun v : Unit => ⟨[(0, .t (.sl false 4 (List.map (GNode.enc false) nodes1))), (1, .t (vi k2)), (5, .ref (.box 5) 0 []), (8, .t (vi i50))], [(5, [vi e15.Kind, vi e15.Num, vs e15.Name, .sl false 1 (List.map vi e15.Kids)])]⟩) (fun v => j58 = Sum.inl v) (fun v hv => ?_) fun K57 hK57 => ?_
            rotate_left
            · refine SWp.block ?_
              refine SWp.seq ?_
              obtain ⟨v69, hj59, hj56⟩ := bind_some hj56
              refine SWp.seqC [0, 1, 5, 8, 107] [5] (fun _ : Unit => ⟨[(0, .t (.sl false 4 (List.map (GNode.enc false) nodes1))), (1, .t (vi k2)), (5, .ref (.box 5) 0 []), (8, .t (vi i50)), (107, .t (vb v69))], [(5, [vi e15.Kind, vi e15.Num, vs e15.Name, .sl false 1 (List.map vi e15.Kids)])]⟩) (fun _ => True) (fun _ _ => ?_) fun K60 hK60 => ?_
              rotate_left
              · obtain ⟨e61, he61, hj59⟩ := bind_some hj59
                obtain ⟨he61a, he61b, he61c, he61d⟩ := getI_some he61
                obtain ⟨r62, hc63, hj59⟩ := bind_some hj59
                rcases ite_or hj59 with ⟨hb64, hj59⟩ | ⟨hb65, hj59⟩
                · have hb64s := hb64
                  try simp at hb64s
                  refine SWp.drawT rfl (hPB _ rfl) [(83, .ref (.box 5) 3 []), (84, .t (.sl false 1 (List.map vi e15.Kids))), (85, .t (vi i50)), (86, .rop [vi e61] 0), (87, .t (vi e61)), (88, .t (vi k2)), (89, .t (vi (IntKind.wrap .i64 (k2 - 1)))), (90, .t (vb r62)), (91, .t (vb (!r62))), (92, .t (vb (!r62))), (93, .tup []), (94, .tup []), (95, .tup []), (96, .tup []), (97, .tup []), (98, .tup []), (99, .tup []), (100, .tup []), (101, .tup []), (102, .tup []), (103, .tup []), (104, .tup [])] [[], [0], [], [0, 1, 2], [0, 1, 2, 3], [], [5], [0, 1, 2, 3, 4, 5, 6], [0, 1, 2, 3, 4, 5, 6, 7], [0, 1, 2, 3, 4, 5, 6, 7, 8], [0, 1, 2, 3, 4, 5, 6, 7, 8, 9], [0, 1, 2, 3, 4, 5, 6, 7, 8, 9, 10], [0, 1, 2, 3, 4, 5, 6, 7, 8, 9], [0, 1, 2, 3, 4, 5, 6, 7, 8, 9], [0, 1, 2, 3, 4, 5, 6, 7, 8, 9], [0, 1, 2, 3, 4, 5, 6, 7, 8, 9, 14], [0, 1, 2, 3, 4, 5, 6, 7, 8, 9], [0, 1, 2, 3, 4, 5, 6, 7, 8, 9, 14, 15, 16], [0, 1, 2, 3, 4, 5, 6, 7, 8, 9, 14, 15, 16, 17], [0, 1, 2, 3, 4, 5, 6, 7, 8, 9, 13, 14, 15, 16, 17, 18], [0, 1, 2, 3, 4, 5, 6, 7, 8, 9, 13, 14, 15, 16, 17, 18, 19], [0, 1, 2, 3, 4, 5, 6, 7, 8, 9, 13, 14, 15, 16, 17, 18, 19, 20], [0, 1, 2, 3, 4, 5, 6, 7, 8, 9, 10, 11, 12, 13, 14, 15, 16, 17, 18, 19, 20, 21], [0, 1, 2, 3, 4, 5, 6, 7, 8, 9, 10, 11, 12, 13, 14, 15, 16, 17, 18, 19, 20, 21, 22], [0, 1, 2, 3, 4, 5, 6, 7, 8, 9, 10, 11, 12, 13, 14, 15, 16, 17, 18, 19, 20, 21, 22, 23]] (by simp) (by simp) (by simp [look]) rfl rfl rfl ?_ fun K hK => ?_
                  · refine ⟨?_, ?_, ?_, ?_, ?_, ?_, ?_, ?_, ?_, ?_, ?_, ?_, ?_, ?_, ?_, ?_, ?_, ?_, ?_, ?_, ?_, ?_, trivial⟩
                    all_goals (intro τ hbx hb hd hf K hK; try simp [vsAt] at hd; simp [vsAt] at hf; first | (refine wps_cons rfl fun K' hK' => ?_; simp [hN', hbx, hb, hd, hf, he61a, he61b, he61c, he61d, hb64, hb64s]; exact hK' _ (wps_nil (hK _ (by simp [vsAt, hbx, he61a, he61b, he61c, he61d, hb64, hb64s])))) | (refine wps_call [(.take, .tmp 87), (.take, .const (.int .i64 0)), (.take, .tmp 89)] rfl rfl ent82 (spec_l01In_ok _ _ _ hc63) fun K' hK' => ?_; simp [hN', hbx, hb, hd, hf, he61a, he61b, he61c, he61d, hb64, hb64s]; exact hK' _ (wps_nil (hK _ (by simp [vsAt, hbx, he61a, he61b, he61c, he61d, hb64, hb64s])))) | (refine wps_off fun K' hK' => ?_; simp [hN', hbx, hb, hd, hf, he61a, he61b, he61c, he61d, hb64, hb64s]; exact hK' _ (wps_nil (hK _ (by simp [vsAt, hbx, he61a, he61b, he61c, he61d, hb64, hb64s])))))
                  iterate 2 (refine wps_off fun K hK => ?_; simp [hN', he61a, he61b, he61c, he61d, hb64, hb64s]; refine hK _ ?_; clear hK)
                  refine wps_cons rfl fun K hK => ?_; simp [hN', he61a, he61b, he61c, he61d, hb64, hb64s]; refine hK _ ?_; clear hK
                  refine wps_nil (hK _ ?_); clear hK
                  cases hj59
                  exact hK60 _ () [] trivial (by simp [hN', he61a, he61b, he61c, he61d, hb64, hb64s])
                · have hb65s := hb65
                  try simp at hb65s
                  obtain ⟨e66, he66, hj59⟩ := bind_some hj59
                  obtain ⟨he66a, he66b, he66c, he66d⟩ := getI_some he66
                  refine SWp.drawT rfl (hPB _ rfl) [(83, .ref (.box 5) 3 []), (84, .t (.sl false 1 (List.map vi e15.Kids))), (85, .t (vi i50)), (86, .rop [vi e61] 0), (87, .t (vi e61)), (88, .t (vi k2)), (89, .t (vi (IntKind.wrap .i64 (k2 - 1)))), (90, .t (vb r62)), (91, .t (vb (!r62))), (92, .t (vb (!r62))), (93, .ref (.box 5) 0 []), (94, .t (vi e15.Kind)), (95, .t (vi i50)), (96, .t (.sl false 4 (List.map (GNode.enc false) nodes1))), (97, .ref (.box 5) 3 []), (98, .t (.sl false 1 (List.map vi e15.Kids))), (99, .t (vi i50)), (100, .rop [vi e61] 0), (101, .t (vi e61)), (102, .rop [vi e66.Kind, vi e66.Num, vs e66.Name, .sl false 1 (List.map vi e66.Kids)] 0), (103, .rop [vi e66.Kind, vi e66.Num, vs e66.Name, .sl false 1 (List.map vi e66.Kids)] 0), (104, .t (vi e66.Kind))] [[], [0], [], [0, 1, 2], [0, 1, 2, 3], [], [5], [0, 1, 2, 3, 4, 5, 6], [0, 1, 2, 3, 4, 5, 6, 7], [0, 1, 2, 3, 4, 5, 6, 7, 8], [0, 1, 2, 3, 4, 5, 6, 7, 8, 9], [0, 1, 2, 3, 4, 5, 6, 7, 8, 9, 10], [0, 1, 2, 3, 4, 5, 6, 7, 8, 9], [0, 1, 2, 3, 4, 5, 6, 7, 8, 9], [0, 1, 2, 3, 4, 5, 6, 7, 8, 9], [0, 1, 2, 3, 4, 5, 6, 7, 8, 9, 14], [0, 1, 2, 3, 4, 5, 6, 7, 8, 9], [0, 1, 2, 3, 4, 5, 6, 7, 8, 9, 14, 15, 16], [0, 1, 2, 3, 4, 5, 6, 7, 8, 9, 14, 15, 16, 17], [0, 1, 2, 3, 4, 5, 6, 7, 8, 9, 13, 14, 15, 16, 17, 18], [0, 1, 2, 3, 4, 5, 6, 7, 8, 9, 13, 14, 15, 16, 17, 18, 19], [0, 1, 2, 3, 4, 5, 6, 7, 8, 9, 13, 14, 15, 16, 17, 18, 19, 20], [0, 1, 2, 3, 4, 5, 6, 7, 8, 9, 10, 11, 12, 13, 14, 15, 16, 17, 18, 19, 20, 21], [0, 1, 2, 3, 4, 5, 6, 7, 8, 9, 10, 11, 12, 13, 14, 15, 16, 17, 18, 19, 20, 21, 22], [0, 1, 2, 3, 4, 5, 6, 7, 8, 9, 10, 11, 12, 13, 14, 15, 16, 17, 18, 19, 20, 21, 22, 23]] (by simp) (by simp) (by simp [look]) rfl rfl rfl ?_ fun K hK => ?_
                  · refine ⟨?_, ?_, ?_, ?_, ?_, ?_, ?_, ?_, ?_, ?_, ?_, ?_, ?_, ?_, ?_, ?_, ?_, ?_, ?_, ?_, ?_, ?_, trivial⟩
                    all_goals (intro τ hbx hb hd hf K hK; try simp [vsAt] at hd; simp [vsAt] at hf; first | (refine wps_cons rfl fun K' hK' => ?_; simp [hN', hbx, hb, hd, hf, he61a, he61b, he61c, he61d, hb65, hb65s, he66a, he66b, he66c, he66d]; exact hK' _ (wps_nil (hK _ (by simp [vsAt, hbx, he61a, he61b, he61c, he61d, hb65, hb65s, he66a, he66b, he66c, he66d])))) | (refine wps_call [(.take, .tmp 87), (.take, .const (.int .i64 0)), (.take, .tmp 89)] rfl rfl ent82 (spec_l01In_ok _ _ _ hc63) fun K' hK' => ?_; simp [hN', hbx, hb, hd, hf, he61a, he61b, he61c, he61d, hb65, hb65s, he66a, he66b, he66c, he66d]; exact hK' _ (wps_nil (hK _ (by simp [vsAt, hbx, he61a, he61b, he61c, he61d, hb65, hb65s, he66a, he66b, he66c, he66d])))))
                  obtain ⟨r67, hc68, hj59⟩ := bind_some hj59
                  refine wps_call [(.take, .tmp 94), (.take, .tmp 95), (.take, .tmp 104)] rfl rfl ent130 (spec_l04Fits_ok _ _ _ hc68) fun K hK => ?_; simp [hN', he61a, he61b, he61c, he61d, hb65, hb65s, he66a, he66b, he66c, he66d]; refine hK _ ?_; clear hK
                  iterate 2 (refine wps_cons rfl fun K hK => ?_; simp [hN', he61a, he61b, he61c, he61d, hb65, hb65s, he66a, he66b, he66c, he66d]; refine hK _ ?_; clear hK)
                  refine wps_nil (hK _ ?_); clear hK
                  cases hj59
                  exact hK60 _ () [] trivial (by simp [hN', he61a, he61b, he61c, he61d, hb65, hb65s, he66a, he66b, he66c, he66d])
              rcases ite_or hj56 with ⟨hb70, hj56⟩ | ⟨hb71, hj56⟩
              · refine SWp.condT' (b := v69) (by simp) hb70 ?_
                refine SWp.seqR rfl (hPB _ rfl) fun K hK => ?_
                refine wps_cons rfl fun K hK => ?_; simp [hN']; refine hK _ ?_; clear hK
                refine wps_nil (hK _ ?_); clear hK
                cases hj56
                try dsimp only at h51
                have h72 := congrArg some (ho52 _ (Option.some.inj h51).symm)
                cases h72
                try dsimp only at h
                cases h
                refine SWp.ret ?_
                simp [thenS, inBlockS, res119]
              · refine SWp.condF' (b := v69) (by simp) hb71 ?_
                refine SWp.skip ?_
                show SWp E C _ _ _
                refine SWp.seqR rfl (hPB _ rfl) fun K hK => ?_
                refine wps_cons rfl fun K hK => ?_; simp [hN']; refine hK _ ?_; clear hK
                refine wps_nil (hK _ ?_); clear hK
                refine SWp.block ?_
                refine SWp.loopO [] [0, 1, 5, 8, 9] [5] (fun v : Int => ⟨[(0, .t (.sl false 4 (List.map (GNode.enc false) nodes1))), (1, .t (vi k2)), (5, .ref (.box 5) 0 []), (8, .t (vi i50)), (9, .t (vi v))], [(5, [vi e15.Kind, vi e15.Num, vs e15.Name, .sl false 1 (List.map vi e15.Kids)])]⟩) (spec_NodeOk_l2 e15 i50) _ 0 hj56 (by simp [hN']) ?_
                intro g s76 h74 ho75
                obtain ⟨j73, hg⟩ : ∃ y, y = g := ⟨_, rfl⟩
                subst hg
                simp only [spec_NodeOk_l2] at h74
                try dsimp only
                refine SWp.seq ?_
                refine SWp.seqR rfl (hPB _ rfl) fun K hK => ?_
                iterate 3 (refine wps_cons rfl fun K hK => ?_; simp [hN']; refine hK _ ?_; clear hK)
                refine wps_nil (hK _ ?_); clear hK
                rcases ite_or h74 with ⟨hb77, h74⟩ | ⟨hb78, h74⟩
                · refine SWp.condT' (b := decide (j73 < i50)) (by simp) hb77 ?_
                  refine SWp.skip ?_
                  show SWp E C _ _ _
                  refine SWp.seq ?_
                  refine SWp.block ?_
                  refine SWp.seq ?_
                  obtain ⟨e80, he80, h74⟩ := bind_some h74
                  obtain ⟨he80a, he80b, he80c, he80d⟩ := getI_some he80
                  obtain ⟨e81, he81, h74⟩ := bind_some h74
                  obtain ⟨he81a, he81b, he81c, he81d⟩ := getI_some he81
                  refine SWp.drawT rfl (hPB _ rfl) [(113, .ref (.box 5) 3 []), (114, .t (.sl false 1 (List.map vi e15.Kids))), (115, .t (vi i50)), (116, .rop [vi e80] 0), (117, .t (vi e80)), (118, .ref (.box 5) 3 []), (119, .t (.sl false 1 (List.map vi e15.Kids))), (120, .t (vi j73)), (121, .rop [vi e81] 0), (122, .t (vi e81))] [[], [0], [], [0, 1, 2], [0, 1, 2, 3], [], [5], [], [5, 6, 7], [5, 6, 7, 8], [0, 1, 2, 3, 4, 5, 6, 7, 8, 9]] (by simp) (by simp) (by simp [look]) rfl rfl rfl ?_ fun K hK => ?_
                  · refine ⟨?_, ?_, ?_, ?_, ?_, ?_, ?_, ?_, ?_, ?_, trivial⟩
                    all_goals (intro τ hbx hb hd hf K hK; try simp [vsAt] at hd; simp [vsAt] at hf; first | (refine wps_cons rfl fun K' hK' => ?_; simp [hN', hbx, hb, hd, hf, he80a, he80b, he80c, he80d, he81a, he81b, he81c, he81d]; exact hK' _ (wps_nil (hK _ (by simp [vsAt, hbx, he80a, he80b, he80c, he80d, he81a, he81b, he81c, he81d])))))
                  refine wps_cons rfl fun K hK => ?_; simp [hN', he80a, he80b, he80c, he80d, he81a, he81b, he81c, he81d]; refine hK _ ?_; clear hK
                  refine wps_nil (hK _ ?_); clear hK
                  show SWp E C _ _ _
                  rcases ite_or h74 with ⟨hb82, h74⟩ | ⟨hb83, h74⟩
                  · refine SWp.condT' (b := e80 == e81) (by simp) hb82 ?_
                    refine SWp.seqR rfl (hPB _ rfl) fun K hK => ?_
                    refine wps_cons rfl fun K hK => ?_; simp [hN']; refine hK _ ?_; clear hK
                    refine wps_nil (hK _ ?_); clear hK
                    have h84 := congrArg some (ho75 _ (Option.some.inj h74).symm)
                    cases h84
                    try dsimp only at h51
                    have h85 := congrArg some (ho52 _ (Option.some.inj h51).symm)
                    cases h85
                    try dsimp only at h
                    cases h
                    refine SWp.ret ?_
                    simp [thenS, inBlockS, res119]
                  · refine SWp.condF' (b := e80 == e81) (by simp) hb83 ?_
                    refine SWp.skip ?_
                    show SWp E C _ _ _
                    refine SWp.reg rfl (hPB _ rfl) fun K hK => ?_
                    iterate 3 (refine wps_cons rfl fun K hK => ?_; simp [hN']; refine hK _ ?_; clear hK)
                    refine wps_nil (hK _ ?_); clear hK
                    cases h74
                    exact ⟨_, [], rfl, by simp [hN']⟩
                · refine SWp.condF' (b := decide (j73 < i50)) (by simp) hb78 ?_
                  refine SWp.exit ?_
                  have h86 := congrArg some (ho75 _ (Option.some.inj h74).symm)
                  cases h86
                  exact hK57 _ _ [] rfl (by simp [hN'])
            subst hv
            obtain ⟨⟩ := v
            try dsimp only at h51 ⊢
            refine SWp.reg rfl (hPB _ rfl) fun K hK => ?_
            iterate 3 (refine wps_cons rfl fun K hK => ?_; simp [hN']; refine hK _ ?_; clear hK)
            refine wps_nil (hK _ ?_); clear hK
            cases h51
            exact ⟨_, [], rfl, by simp [hN']⟩
          · refine SWp.condF' (b := decide (i50 < (e15.Kids.length : Int))) (by simp) hb55 ?_
            refine SWp.exit ?_
            have h87 := congrArg some (ho52 _ (Option.some.inj h51).symm)
            cases h87
            exact hK48 _ _ [] rfl (by simp [hN'])
        subst hv
        obtain ⟨⟩ := v
        try dsimp only at h ⊢
        refine SWp.seqR rfl (hPB _ rfl) fun K hK => ?_
        refine wps_cons rfl fun K hK => ?_; simp [hN']; refine hK _ ?_; clear hK
        refine wps_nil (hK _ ?_); clear hK
        cases h
        refine SWp.ret ?_
        simp [thenS, inBlockS, res119]
end Go.Proofs.T
set_option linter.unusedVariables false
set_option linter.unusedSimpArgs false
set_option maxHeartbeats 1000000
namespace Go.Proofs.T
open Go.OM
theorem res92 : Tryd.f92.results.toList = [.tmp 4] := rfl
theorem ent92 : Enters E.P 92 := enters_of Tryd.func92 (by simp [Tryd.f92]) rfl
theorem spec_l04Deeps_ok (nodes1 : List GNode) (k2 : Int) {r0 : List Int} (h : spec_l04Deeps nodes1 k2 = some r0) : Ok E 92 [.val (.sl false 4 (List.map (GNode.enc false) nodes1)), .val (vi k2)] [.sl true 1 (List.map vi r0)] [] := by
  refine ok_of_body (fn := Tryd.f92) Tryd.func92 rfl (by simp [Tryd.f92]) fun C hN hP => ?_
  have hPB : ∀ l, pinK [] l = true → pinB C.pin l = true := pinB_of (by rw [hP]; rfl)
  have hN' : C.N = 84 := hN
  clear hN
  unfold spec_l04Deeps at h
  refine SWp.seqR rfl (hPB _ rfl) fun K hK => ?_
  refine wps_cons rfl fun K hK => ?_; simp [hN']; refine hK _ ?_; clear hK
  refine wps_nil (hK _ ?_); clear hK
  refine SWp.seqR rfl (hPB _ rfl) fun K hK => ?_
  iterate 2 (refine wps_cons rfl fun K hK => ?_; simp [hN']; refine hK _ ?_; clear hK)
  refine wps_nil (hK _ ?_); clear hK
  obtain ⟨out72, hj3, h⟩ := bind_some h
  refine SWp.seqC [5] [] (fun _ : Unit => ⟨[(5, .t (.sl true 1 (List.map vi out72)))], []⟩) (fun _ => True) (fun _ _ => ?_) fun K4 hK4 => ?_
  rotate_left
  · refine SWp.seqR rfl (hPB _ rfl) fun K hK => ?_
    refine wps_cons rfl fun K hK => ?_; simp [hN']; refine hK _ ?_; clear hK
    refine wps_nil (hK _ ?_); clear hK
    refine SWp.block ?_
    refine SWp.loopO [] [0, 1, 5, 6] [] (fun v : (List Int) × Int => ⟨[(0, .t (.sl false 4 (List.map (GNode.enc false) nodes1))), (1, .t (vi k2)), (5, .t (.sl true 1 (List.map vi v.1))), (6, .t (vi v.2))], []⟩) (spec_l04Deeps_l1 nodes1 k2) _ ([], 0) hj3 (by simp [hN']) ?_
    intro g s10 h8 ho9
    obtain ⟨out6, i7⟩ := g
    simp only [spec_l04Deeps_l1] at h8
    try dsimp only
    refine SWp.seq ?_
    obtain ⟨v15, hj11, h8⟩ := bind_some h8
    refine SWp.seqRC rfl (hPB _ rfl) [0, 1, 5, 6, 18] [] (fun _ : Unit => ⟨[(0, .t (.sl false 4 (List.map (GNode.enc false) nodes1))), (1, .t (vi k2)), (5, .t (.sl true 1 (List.map vi out6))), (6, .t (vi i7)), (18, .t (vb v15))], []⟩) (fun _ => True) (fun _ _ => ?_) fun K12 hK12 => ?_
    rotate_left
    · refine wps_cons rfl fun K hK => ?_; simp [hN']; refine hK _ ?_; clear hK
      iterate 3 (refine wps_cons rfl fun K hK => ?_; simp [hN']; refine hK _ ?_; clear hK)
      rcases ite_or hj11 with ⟨hb13, hj11⟩ | ⟨hb14, hj11⟩
      · have hb13s := hb13
        try simp at hb13s
        iterate 5 (refine wps_cons rfl fun K hK => ?_; simp [hN', hb13, hb13s]; refine hK _ ?_; clear hK)
        refine wps_nil ?_
        cases hj11
        exact hK12 _ () [] trivial (by simp [hN', hb13, hb13s])
      · have hb14s := hb14
        try simp at hb14s
        iterate 4 (refine wps_off fun K hK => ?_; simp [hN', hb14, hb14s]; refine hK _ ?_; clear hK)
        refine wps_cons rfl fun K hK => ?_; simp [hN', hb14, hb14s]; refine hK _ ?_; clear hK
        refine wps_nil ?_
        cases hj11
        exact hK12 _ () [] trivial (by simp [hN', hb14, hb14s])
    rcases ite_or h8 with ⟨hb16, h8⟩ | ⟨hb17, h8⟩
    · refine SWp.condT' (b := v15) (by simp) hb16 ?_
      refine SWp.skip ?_
      show SWp E C _ _ _
      obtain ⟨out70, hj18, h8⟩ := bind_some h8
      refine SWp.seqC [0, 1, 5, 6] [] (fun _ : Unit => ⟨[(0, .t (.sl false 4 (List.map (GNode.enc false) nodes1))), (1, .t (vi k2)), (5, .t (.sl true 1 (List.map vi out70))), (6, .t (vi i7))], []⟩) (fun _ => True) (fun _ _ => ?_) fun K19 hK19 => ?_
      rotate_left
      · refine SWp.block ?_
        refine SWp.seqR rfl (hPB _ rfl) fun K hK => ?_
        refine wps_cons rfl fun K hK => ?_; simp [hN']; refine hK _ ?_; clear hK
        refine wps_nil (hK _ ?_); clear hK
        obtain ⟨deep36, hj21, hj18⟩ := bind_some hj18
        refine SWp.seqC [0, 1, 5, 6, 7] [] (fun _ : Unit => ⟨[(0, .t (.sl false 4 (List.map (GNode.enc false) nodes1))), (1, .t (vi k2)), (5, .t (.sl true 1 (List.map vi out6))), (6, .t (vi i7)), (7, .t (vi deep36))], []⟩) (fun _ => True) (fun _ _ => ?_) fun K22 hK22 => ?_
        rotate_left
        · obtain ⟨v33, hj24, hj21⟩ := bind_some hj21
          refine SWp.seqRC rfl (hPB _ rfl) [0, 1, 5, 6, 7, 36] [] (fun _ : Unit => ⟨[(0, .t (.sl false 4 (List.map (GNode.enc false) nodes1))), (1, .t (vi k2)), (5, .t (.sl true 1 (List.map vi out6))), (6, .t (vi i7)), (7, .t (vi 1)), (36, .t (vb v33))], []⟩) (fun _ => True) (fun _ _ => ?_) fun K25 hK25 => ?_
          rotate_left
          · refine wps_cons rfl fun K hK => ?_; simp [hN']; refine hK _ ?_; clear hK
            refine wps_cons rfl fun K hK => ?_; simp [hN']; refine hK _ ?_; clear hK
            obtain ⟨r26, hc27, hj24⟩ := bind_some hj24
            refine wps_call [(.take, .tmp 21), (.take, .tmp 22)] rfl rfl ent119 (spec_NodeOk_ok _ _ hc27) fun K hK => ?_; simp [hN']; refine hK _ ?_; clear hK
            iterate 2 (refine wps_cons rfl fun K hK => ?_; simp [hN']; refine hK _ ?_; clear hK)
            rcases ite_or hj24 with ⟨hb28, hj24⟩ | ⟨hb29, hj24⟩
            · have hb28s := hb28
              try simp at hb28s
              iterate 10 (refine wps_off fun K hK => ?_; simp [hN', hb28, hb28s]; refine hK _ ?_; clear hK)
              refine wps_cons rfl fun K hK => ?_; simp [hN', hb28, hb28s]; refine hK _ ?_; clear hK
              refine wps_nil ?_
              cases hj24
              exact hK25 _ () [] trivial (by simp [hN', hb28, hb28s])
            · have hb29s := hb29
              try simp at hb29s
              iterate 3 (refine wps_cons rfl fun K hK => ?_; simp [hN', hb29, hb29s]; refine hK _ ?_; clear hK)
              rcases ite_or hj24 with ⟨hb30, hj24⟩ | ⟨hb31, hj24⟩
              · have hb30s := hb30
                try simp at hb30s
                iterate 3 (refine wps_cons rfl fun K hK => ?_; simp [hN', hb29, hb29s, hb30, hb30s]; refine hK _ ?_; clear hK)
                obtain ⟨e32, he32, hj24⟩ := bind_some hj24
                obtain ⟨he32a, he32b, he32c, he32d⟩ := getI_some he32
                have he32j := he32b; try simp at he32j
                try simp only [Int.toNat_natCast] at he32c he32d
                iterate 5 (refine wps_cons rfl fun K hK => ?_; simp [hN', hb29, hb29s, hb30, hb30s, he32a, he32b, he32c, he32d, he32j]; refine hK _ ?_; clear hK)
                refine wps_nil ?_
                cases hj24
                exact hK25 _ () [] trivial (by simp [hN', hb29, hb29s, hb30, hb30s, he32a, he32b, he32c, he32d, he32j])
              · have hb31s := hb31
                try simp at hb31s
                iterate 6 (refine wps_off fun K hK => ?_; simp [hN', hb29, hb29s, hb31, hb31s]; refine hK _ ?_; clear hK)
                iterate 2 (refine wps_cons rfl fun K hK => ?_; simp [hN', hb29, hb29s, hb31, hb31s]; refine hK _ ?_; clear hK)
                refine wps_nil ?_
                cases hj24
                exact hK25 _ () [] trivial (by simp [hN', hb29, hb29s, hb31, hb31s])
          rcases ite_or hj21 with ⟨hb34, hj21⟩ | ⟨hb35, hj21⟩
          · refine SWp.condT' (b := v33) (by simp) hb34 ?_
            refine SWp.reg rfl (hPB _ rfl) fun K hK => ?_
            refine wps_cons rfl fun K hK => ?_; simp [hN']; refine hK _ ?_; clear hK
            refine wps_nil (hK _ ?_); clear hK
            cases hj21
            exact hK22 _ () [] trivial (by simp [hN'])
          · refine SWp.condF' (b := v33) (by simp) hb35 ?_
            refine SWp.skip ?_
            cases hj21
            exact hK22 _ () [] trivial (by simp [hN'])
        obtain ⟨deep62, hj37, hj18⟩ := bind_some hj18
        refine SWp.seqC [0, 1, 5, 6, 7] [] (fun _ : Unit => ⟨[(0, .t (.sl false 4 (List.map (GNode.enc false) nodes1))), (1, .t (vi k2)), (5, .t (.sl true 1 (List.map vi out6))), (6, .t (vi i7)), (7, .t (vi deep62))], []⟩) (fun _ => True) (fun _ _ => ?_) fun K38 hK38 => ?_
        rotate_left
        · refine SWp.seqR rfl (hPB _ rfl) fun K hK => ?_
          refine wps_cons rfl fun K hK => ?_; simp [hN']; refine hK _ ?_; clear hK
          refine wps_nil (hK _ ?_); clear hK
          refine SWp.block ?_
          refine SWp.loopO [] [0, 1, 5, 6, 7, 8] [] (fun v : Int × Int => ⟨[(0, .t (.sl false 4 (List.map (GNode.enc false) nodes1))), (1, .t (vi k2)), (5, .t (.sl true 1 (List.map vi out6))), (6, .t (vi i7)), (7, .t (vi v.1)), (8, .t (vi v.2))], []⟩) (spec_l04Deeps_l2 nodes1 out6 i7) _ (deep36, 0) hj37 (by simp [hN']) ?_
          intro g s44 h42 ho43
          obtain ⟨deep40, j41⟩ := g
          simp only [spec_l04Deeps_l2] at h42
          try dsimp only
          refine SWp.seq ?_
          obtain ⟨v50, hj45, h42⟩ := bind_some h42
          refine SWp.seqRC rfl (hPB _ rfl) [0, 1, 5, 6, 7, 8, 48] [] (fun _ : Unit => ⟨[(0, .t (.sl false 4 (List.map (GNode.enc false) nodes1))), (1, .t (vi k2)), (5, .t (.sl true 1 (List.map vi out6))), (6, .t (vi i7)), (7, .t (vi deep40)), (8, .t (vi j41)), (48, .t (vb v50))], []⟩) (fun _ => True) (fun _ _ => ?_) fun K46 hK46 => ?_
          rotate_left
          · refine wps_cons rfl fun K hK => ?_; simp [hN']; refine hK _ ?_; clear hK
            iterate 2 (refine wps_cons rfl fun K hK => ?_; simp [hN']; refine hK _ ?_; clear hK)
            rcases ite_or hj45 with ⟨hb47, hj45⟩ | ⟨hb48, hj45⟩
            · have hb47s := hb47
              try simp at hb47s
              iterate 3 (refine wps_cons rfl fun K hK => ?_; simp [hN', hb47, hb47s]; refine hK _ ?_; clear hK)
              obtain ⟨e49, he49, hj45⟩ := bind_some hj45
              obtain ⟨he49a, he49b, he49c, he49d⟩ := getI_some he49
              iterate 6 (refine wps_cons rfl fun K hK => ?_; simp [hN', hb47, hb47s, he49a, he49b, he49c, he49d]; refine hK _ ?_; clear hK)
              refine wps_nil ?_
              cases hj45
              exact hK46 _ () [] trivial (by simp [hN', hb47, hb47s, he49a, he49b, he49c, he49d])
            · have hb48s := hb48
              try simp at hb48s
              iterate 8 (refine wps_off fun K hK => ?_; simp [hN', hb48, hb48s]; refine hK _ ?_; clear hK)
              refine wps_cons rfl fun K hK => ?_; simp [hN', hb48, hb48s]; refine hK _ ?_; clear hK
              refine wps_nil ?_
              cases hj45
              exact hK46 _ () [] trivial (by simp [hN', hb48, hb48s])
          rcases ite_or h42 with ⟨hb51, h42⟩ | ⟨hb52, h42⟩
          · refine SWp.condT' (b := v50) (by simp) hb51 ?_
            refine SWp.skip ?_
            show SWp E C _ _ _
            refine SWp.seq ?_
            refine SWp.block ?_
            refine SWp.seqR rfl (hPB _ rfl) fun K hK => ?_
            iterate 3 (refine wps_cons rfl fun K hK => ?_; simp [hN']; refine hK _ ?_; clear hK)
            obtain ⟨e53, he53, h42⟩ := bind_some h42
            obtain ⟨he53a, he53b, he53c, he53d⟩ := getI_some he53
            iterate 4 (refine wps_cons rfl fun K hK => ?_; simp [hN', he53a, he53b, he53c, he53d]; refine hK _ ?_; clear hK)
            obtain ⟨e54, he54, h42⟩ := bind_some h42
            obtain ⟨he54a, he54b, he54c, he54d⟩ := getI_some he54
            iterate 2 (refine wps_cons rfl fun K hK => ?_; simp [hN', he53a, he53b, he53c, he53d, he54a, he54b, he54c, he54d]; refine hK _ ?_; clear hK)
            obtain ⟨e55, he55, h42⟩ := bind_some h42
            obtain ⟨he55a, he55b, he55c, he55d⟩ := getI_some he55
            iterate 5 (refine wps_cons rfl fun K hK => ?_; simp [hN', he53a, he53b, he53c, he53d, he54a, he54b, he54c, he54d, he55a, he55b, he55c, he55d]; refine hK _ ?_; clear hK)
            refine wps_nil (hK _ ?_); clear hK
            rcases ite_or h42 with ⟨hb56, h42⟩ | ⟨hb57, h42⟩
            · refine SWp.condT' (b := decide (IntKind.wrap .i64 (e55 + 1) > deep40)) (by simp) hb56 ?_
              refine SWp.reg rfl (hPB _ rfl) fun K hK => ?_
              iterate 3 (refine wps_cons rfl fun K hK => ?_; simp [hN']; refine hK _ ?_; clear hK)
              obtain ⟨e58, he58, h42⟩ := bind_some h42
              obtain ⟨he58a, he58b, he58c, he58d⟩ := getI_some he58
              iterate 4 (refine wps_cons rfl fun K hK => ?_; simp [hN', he58a, he58b, he58c, he58d]; refine hK _ ?_; clear hK)
              obtain ⟨e59, he59, h42⟩ := bind_some h42
              obtain ⟨he59a, he59b, he59c, he59d⟩ := getI_some he59
              iterate 2 (refine wps_cons rfl fun K hK => ?_; simp [hN', he58a, he58b, he58c, he58d, he59a, he59b, he59c, he59d]; refine hK _ ?_; clear hK)
              obtain ⟨e60, he60, h42⟩ := bind_some h42
              obtain ⟨he60a, he60b, he60c, he60d⟩ := getI_some he60
              iterate 4 (refine wps_cons rfl fun K hK => ?_; simp [hN', he58a, he58b, he58c, he58d, he59a, he59b, he59c, he59d, he60a, he60b, he60c, he60d]; refine hK _ ?_; clear hK)
              refine wps_nil (hK _ ?_); clear hK
              show SWp E C _ _ _
              refine SWp.reg rfl (hPB _ rfl) fun K hK => ?_
              iterate 3 (refine wps_cons rfl fun K hK => ?_; simp [hN']; refine hK _ ?_; clear hK)
              refine wps_nil (hK _ ?_); clear hK
              cases h42
              exact ⟨_, [], rfl, by simp [hN']⟩
            · refine SWp.condF' (b := decide (IntKind.wrap .i64 (e55 + 1) > deep40)) (by simp) hb57 ?_
              refine SWp.skip ?_
              show SWp E C _ _ _
              refine SWp.reg rfl (hPB _ rfl) fun K hK => ?_
              iterate 3 (refine wps_cons rfl fun K hK => ?_; simp [hN']; refine hK _ ?_; clear hK)
              refine wps_nil (hK _ ?_); clear hK
              cases h42
              exact ⟨_, [], rfl, by simp [hN']⟩
          · refine SWp.condF' (b := v50) (by simp) hb52 ?_
            refine SWp.exit ?_
            have h61 := congrArg some (ho43 _ (Option.some.inj h42).symm)
            cases h61
            exact hK38 _ () [] trivial (by simp [hN'])
        obtain ⟨deep68, hj63, hj18⟩ := bind_some hj18
        refine SWp.seqC [0, 1, 5, 6, 7] [] (fun _ : Unit => ⟨[(0, .t (.sl false 4 (List.map (GNode.enc false) nodes1))), (1, .t (vi k2)), (5, .t (.sl true 1 (List.map vi out6))), (6, .t (vi i7)), (7, .t (vi deep68))], []⟩) (fun _ => True) (fun _ _ => ?_) fun K64 hK64 => ?_
        rotate_left
        · refine SWp.seqR rfl (hPB _ rfl) fun K hK => ?_
          iterate 2 (refine wps_cons rfl fun K hK => ?_; simp [hN']; refine hK _ ?_; clear hK)
          refine wps_nil (hK _ ?_); clear hK
          rcases ite_or hj63 with ⟨hb66, hj63⟩ | ⟨hb67, hj63⟩
          · refine SWp.condT' (b := decide (deep62 > 10)) (by simp) hb66 ?_
            refine SWp.reg rfl (hPB _ rfl) fun K hK => ?_
            refine wps_cons rfl fun K hK => ?_; simp [hN']; refine hK _ ?_; clear hK
            refine wps_nil (hK _ ?_); clear hK
            cases hj63
            exact hK64 _ () [] trivial (by simp [hN'])
          · refine SWp.condF' (b := decide (deep62 > 10)) (by simp) hb67 ?_
            refine SWp.skip ?_
            cases hj63
            exact hK64 _ () [] trivial (by simp [hN'])
        refine SWp.reg rfl (hPB _ rfl) fun K hK => ?_
        iterate 3 (refine wps_cons rfl fun K hK => ?_; simp [hN']; refine hK _ ?_; clear hK)
        obtain ⟨l69, hl69, hj18⟩ := bind_some hj18
        obtain ⟨hl69a, hl69b, hl69d⟩ := appI_some hl69
        have hl69f : List.map vi out6 ++ List.map vi [deep68] = List.map vi l69 := app_map (f := vi) hl69d
        simp [eSl] at hl69a hl69b hl69f
        iterate 2 (refine wps_cons rfl fun K hK => ?_; simp [hN', hl69a, hl69b, hl69f]; refine hK _ ?_; clear hK)
        refine wps_nil (hK _ ?_); clear hK
        cases hj18
        exact hK19 _ () [] trivial (by simp [hN'])
      refine SWp.reg rfl (hPB _ rfl) fun K hK => ?_
      iterate 3 (refine wps_cons rfl fun K hK => ?_; simp [hN']; refine hK _ ?_; clear hK)
      refine wps_nil (hK _ ?_); clear hK
      cases h8
      exact ⟨_, [], rfl, by simp [hN']⟩
    · refine SWp.condF' (b := v15) (by simp) hb17 ?_
      refine SWp.exit ?_
      have h71 := congrArg some (ho9 _ (Option.some.inj h8).symm)
      cases h71
      exact hK4 _ () [] trivial (by simp [hN'])
  refine SWp.seqR rfl (hPB _ rfl) fun K hK => ?_
  iterate 2 (refine wps_cons rfl fun K hK => ?_; simp [hN']; refine hK _ ?_; clear hK)
  refine wps_nil (hK _ ?_); clear hK
  cases h
  refine SWp.ret ?_
  simp [thenS, inBlockS, res92]
end Go.Proofs.T
set_option linter.unusedVariables false
set_option linter.unusedSimpArgs false
set_option maxHeartbeats 1000000
namespace Go.Proofs.T
open Go.OM
theorem res58 : Tryd.f58.results.toList = [.tmp 4] := rfl
theorem ent58 : Enters E.P 58 := enters_of Tryd.func58 (by simp [Tryd.f58]) rfl
theorem spec_DeepOf_ok (nodes1 : List GNode) (k2 : Int) {r0 : Int} (h : spec_DeepOf nodes1 k2 = some r0) : Ok E 58 [.val (.sl false 4 (List.map (GNode.enc false) nodes1)), .val (vi k2)] [vi r0] [] := by
  refine ok_of_body (fn := Tryd.f58) Tryd.func58 rfl (by simp [Tryd.f58]) fun C hN hP => ?_
  have hPB : ∀ l, pinK [] l = true → pinB C.pin l = true := pinB_of (by rw [hP]; rfl)
  have hN' : C.N = 17 := hN
  clear hN
  unfold spec_DeepOf at h
  refine SWp.seqR rfl (hPB _ rfl) fun K hK => ?_
  refine wps_cons rfl fun K hK => ?_; simp [hN']; refine hK _ ?_; clear hK
  refine wps_nil (hK _ ?_); clear hK
  refine SWp.seq ?_
  refine SWp.seqR rfl (hPB _ rfl) fun K hK => ?_
  iterate 4 (refine wps_cons rfl fun K hK => ?_; simp [hN']; refine hK _ ?_; clear hK)
  obtain ⟨r3, hc4, h⟩ := bind_some h
  refine wps_call [(.take, .tmp 5), (.take, .const (.int .i64 0)), (.take, .tmp 8)] rfl rfl ent82 (spec_l01In_ok _ _ _ hc4) fun K hK => ?_; simp [hN']; refine hK _ ?_; clear hK
  refine wps_cons rfl fun K hK => ?_; simp [hN']; refine hK _ ?_; clear hK
  refine wps_nil (hK _ ?_); clear hK
  rcases ite_or h with ⟨hb5, h⟩ | ⟨hb6, h⟩
  · refine SWp.condT' (b := !r3) (by simp) hb5 ?_
    refine SWp.seqR rfl (hPB _ rfl) fun K hK => ?_
    refine wps_cons rfl fun K hK => ?_; simp [hN']; refine hK _ ?_; clear hK
    refine wps_nil (hK _ ?_); clear hK
    cases h
    refine SWp.ret ?_
    simp [thenS, inBlockS, res58]
  · refine SWp.condF' (b := !r3) (by simp) hb6 ?_
    refine SWp.skip ?_
    show SWp E C _ _ _
    refine SWp.seqR rfl (hPB _ rfl) fun K hK => ?_
    iterate 2 (refine wps_cons rfl fun K hK => ?_; simp [hN']; refine hK _ ?_; clear hK)
    obtain ⟨r7, hc8, h⟩ := bind_some h
    refine wps_call [(.take, .tmp 11), (.take, .tmp 12)] rfl rfl ent92 (spec_l04Deeps_ok _ _ hc8) fun K hK => ?_; simp [hN']; refine hK _ ?_; clear hK
    refine wps_cons rfl fun K hK => ?_; simp [hN']; refine hK _ ?_; clear hK
    obtain ⟨e9, he9, h⟩ := bind_some h
    obtain ⟨he9a, he9b, he9c, he9d⟩ := getI_some he9
    iterate 3 (refine wps_cons rfl fun K hK => ?_; simp [hN', he9a, he9b, he9c, he9d]; refine hK _ ?_; clear hK)
    refine wps_nil (hK _ ?_); clear hK
    cases h
    refine SWp.ret ?_
    simp [thenS, inBlockS, res58]
end Go.Proofs.T
set_option linter.unusedVariables false
set_option linter.unusedSimpArgs false
set_option maxHeartbeats 1000000
namespace Go.Proofs.T
open Go.OM
theorem res59 : Tryd.f59.results.toList = [.tmp 4, .tmp 5] := rfl
theorem ent59 : Enters E.P 59 := enters_of Tryd.func59 (by simp [Tryd.f59]) rfl
theorem spec_l26Const_b_ok (rec_spec_l26Const : (List GNode) → Int → Option (Int × Bool)) (hrec_spec_l26Const : ∀ (a0 : List GNode) (a1 : Int) {r0 : Int} {r1 : Bool}, rec_spec_l26Const a0 a1 = some (r0, r1) → Ok E 59 [.val (.sl false 4 (List.map (GNode.enc false) a0)), .val (vi a1)] [vi r0, vb r1] []) (nodes1 : List GNode) (k2 : Int) {r0 : Int} {r1 : Bool} (h : spec_l26Const_b rec_spec_l26Const nodes1 k2 = some (r0, r1)) : Ok E 59 [.val (.sl false 4 (List.map (GNode.enc false) nodes1)), .val (vi k2)] [vi r0, vb r1] [] := by
  refine ok_of_body (fn := Tryd.f59) Tryd.func59 rfl (by simp [Tryd.f59]) fun C hN hP => ?_
  have hPB : ∀ l, pinK [] l = true → pinB C.pin l = true := pinB_of (by rw [hP]; rfl)
  have hN' : C.N = 79 := hN
  clear hN
  unfold spec_l26Const_b at h
  refine SWp.seqR rfl (hPB _ rfl) fun K hK => ?_
  iterate 2 (refine wps_cons rfl fun K hK => ?_; simp [hN']; refine hK _ ?_; clear hK)
  refine wps_nil (hK _ ?_); clear hK
  refine SWp.seqR rfl (hPB _ rfl) fun K hK => ?_
  iterate 2 (refine wps_cons rfl fun K hK => ?_; simp [hN']; refine hK _ ?_; clear hK)
  obtain ⟨e3, he3, h⟩ := bind_some h
  obtain ⟨he3a, he3b, he3c, he3d⟩ := getI_some he3
  iterate 4 (refine wps_cons rfl fun K hK => ?_; simp [hN', he3a, he3b, he3c, he3d]; refine hK _ ?_; clear hK)
  refine wps_nil (hK _ ?_); clear hK
  refine SWp.seq ?_
  refine SWp.seqR rfl (hPB _ rfl) fun K hK => ?_
  iterate 2 (refine wps_cons rfl fun K hK => ?_; simp [hN']; refine hK _ ?_; clear hK)
  refine wps_nil (hK _ ?_); clear hK
  refine SWp.block ?_
  refine SWp.seqR rfl (hPB _ rfl) fun K hK => ?_
  iterate 2 (refine wps_cons rfl fun K hK => ?_; simp [hN']; refine hK _ ?_; clear hK)
  refine wps_nil (hK _ ?_); clear hK
  rcases ite_or h with ⟨hb4, h⟩ | ⟨hb5, h⟩
  · refine SWp.condT' (b := e3.Kind == 1) (by simp) hb4 ?_
    refine SWp.seqR rfl (hPB _ rfl) fun K hK => ?_
    iterate 4 (refine wps_cons rfl fun K hK => ?_; simp [hN']; refine hK _ ?_; clear hK)
    refine wps_nil (hK _ ?_); clear hK
    cases h
    refine SWp.ret ?_
    simp [thenS, inBlockS, res59]
  · refine SWp.condF' (b := e3.Kind == 1) (by simp) hb5 ?_
    obtain ⟨v13, hj6, h⟩ := bind_some h
    refine SWp.seqC [0, 6, 22] [6] (fun _ : Unit => ⟨[(0, .t (.sl false 4 (List.map (GNode.enc false) nodes1))), (6, .ref (.box 6) 0 []), (22, .t (vb v13))], [(6, [vi e3.Kind, vi e3.Num, vs e3.Name, .sl false 1 (List.map vi e3.Kids)])]⟩) (fun _ => True) (fun _ _ => ?_) fun K7 hK7 => ?_
    rotate_left
    · refine SWp.seqR rfl (hPB _ rfl) fun K hK => ?_
      iterate 2 (refine wps_cons rfl fun K hK => ?_; simp [hN']; refine hK _ ?_; clear hK)
      refine wps_nil (hK _ ?_); clear hK
      rcases ite_or hj6 with ⟨hb9, hj6⟩ | ⟨hb10, hj6⟩
      · refine SWp.condT' (b := e3.Kind == 9) (by simp) hb9 ?_
        refine SWp.skip ?_
        cases hj6
        exact hK7 _ () [] trivial (by simp [hN'])
      · refine SWp.condF' (b := e3.Kind == 9) (by simp) hb10 ?_
        refine SWp.seqR rfl (hPB _ rfl) fun K hK => ?_
        iterate 2 (refine wps_cons rfl fun K hK => ?_; simp [hN']; refine hK _ ?_; clear hK)
        refine wps_nil (hK _ ?_); clear hK
        rcases ite_or hj6 with ⟨hb11, hj6⟩ | ⟨hb12, hj6⟩
        · refine SWp.condT' (b := e3.Kind == 10) (by simp) hb11 ?_
          refine SWp.skip ?_
          cases hj6
          exact hK7 _ () [] trivial (by simp [hN'])
        · refine SWp.condF' (b := e3.Kind == 10) (by simp) hb12 ?_
          refine SWp.reg rfl (hPB _ rfl) fun K hK => ?_
          iterate 2 (refine wps_cons rfl fun K hK => ?_; simp [hN']; refine hK _ ?_; clear hK)
          refine wps_nil (hK _ ?_); clear hK
          cases hj6
          exact hK7 _ () [] trivial (by simp [hN'])
    rcases ite_or h with ⟨hb14, h⟩ | ⟨hb15, h⟩
    · refine SWp.condT' (b := v13) (by simp) hb14 ?_
      refine SWp.seqR rfl (hPB _ rfl) fun K hK => ?_
      iterate 3 (refine wps_cons rfl fun K hK => ?_; simp [hN']; refine hK _ ?_; clear hK)
      obtain ⟨e16, he16, h⟩ := bind_some h
      obtain ⟨he16a, he16b, he16c, he16d⟩ := getI_some he16
      have he16e : 0 < e3.Kids.length := by omega
      have he16g : e3.Kids[0]? = some e16 := he16c
      have he16i : e3.Kids[0] = e16 := he16d he16e
      iterate 2 (refine wps_cons rfl fun K hK => ?_; simp [hN', he16a, he16b, he16c, he16d, he16e, he16g, he16i]; refine hK _ ?_; clear hK)
      obtain ⟨⟨r17, r18⟩, hc19, h⟩ := bind_some h
      try dsimp only at h
      refine wps_call [(.take, .tmp 27), (.take, .tmp 31)] rfl rfl ent59 (hrec_spec_l26Const _ _ hc19) fun K hK => ?_; simp [hN', he16a, he16b, he16c, he16d, he16e, he16g, he16i]; refine hK _ ?_; clear hK
      iterate 5 (refine wps_cons rfl fun K hK => ?_; simp [hN', he16a, he16b, he16c, he16d, he16e, he16g, he16i]; refine hK _ ?_; clear hK)
      refine wps_nil (hK _ ?_); clear hK
      refine SWp.seqR rfl (hPB _ rfl) fun K hK => ?_
      iterate 3 (refine wps_cons rfl fun K hK => ?_; simp [hN']; refine hK _ ?_; clear hK)
      obtain ⟨e20, he20, h⟩ := bind_some h
      obtain ⟨he20a, he20b, he20c, he20d⟩ := getI_some he20
      have he20e : 1 < e3.Kids.length := by omega
      have he20g : e3.Kids[1]? = some e20 := he20c
      have he20i : e3.Kids[1] = e20 := he20d he20e
      iterate 2 (refine wps_cons rfl fun K hK => ?_; simp [hN', he20a, he20b, he20c, he20d, he20e, he20g, he20i]; refine hK _ ?_; clear hK)
      obtain ⟨⟨r21, r22⟩, hc23, h⟩ := bind_some h
      try dsimp only at h
      refine wps_call [(.take, .tmp 36), (.take, .tmp 40)] rfl rfl ent59 (hrec_spec_l26Const _ _ hc23) fun K hK => ?_; simp [hN', he20a, he20b, he20c, he20d, he20e, he20g, he20i]; refine hK _ ?_; clear hK
      iterate 5 (refine wps_cons rfl fun K hK => ?_; simp [hN', he20a, he20b, he20c, he20d, he20e, he20g, he20i]; refine hK _ ?_; clear hK)
      refine wps_nil (hK _ ?_); clear hK
      refine SWp.seq ?_
      obtain ⟨v28, hj24, h⟩ := bind_some h
      refine SWp.seqRC rfl (hPB _ rfl) [6, 7, 9, 49] [6] (fun _ : Unit => ⟨[(6, .ref (.box 6) 0 []), (7, .t (vi r17)), (9, .t (vi r21)), (49, .t (vb v28))], [(6, [vi e3.Kind, vi e3.Num, vs e3.Name, .sl false 1 (List.map vi e3.Kids)])]⟩) (fun _ => True) (fun _ _ => ?_) fun K25 hK25 => ?_
      rotate_left
      · refine wps_cons rfl fun K hK => ?_; simp [hN']; refine hK _ ?_; clear hK
        iterate 2 (refine wps_cons rfl fun K hK => ?_; simp [hN']; refine hK _ ?_; clear hK)
        rcases ite_or hj24 with ⟨hb26, hj24⟩ | ⟨hb27, hj24⟩
        · have hb26s := hb26
          try simp at hb26s
          iterate 2 (refine wps_off fun K hK => ?_; simp [hN', hb26, hb26s]; refine hK _ ?_; clear hK)
          refine wps_cons rfl fun K hK => ?_; simp [hN', hb26, hb26s]; refine hK _ ?_; clear hK
          refine wps_nil ?_
          cases hj24
          exact hK25 _ () [] trivial (by simp [hN', hb26, hb26s])
        · have hb27s := hb27
          try simp at hb27s
          iterate 3 (refine wps_cons rfl fun K hK => ?_; simp [hN', hb27, hb27s]; refine hK _ ?_; clear hK)
          refine wps_nil ?_
          cases hj24
          exact hK25 _ () [] trivial (by simp [hN', hb27, hb27s])
      rcases ite_or h with ⟨hb29, h⟩ | ⟨hb30, h⟩
      · refine SWp.condT' (b := v28) (by simp) hb29 ?_
        refine SWp.seqR rfl (hPB _ rfl) fun K hK => ?_
        iterate 2 (refine wps_cons rfl fun K hK => ?_; simp [hN']; refine hK _ ?_; clear hK)
        refine wps_nil (hK _ ?_); clear hK
        cases h
        refine SWp.ret ?_
        simp [thenS, inBlockS, res59]
      · refine SWp.condF' (b := v28) (by simp) hb30 ?_
        refine SWp.skip ?_
        show SWp E C _ _ _
        refine SWp.seqR rfl (hPB _ rfl) fun K hK => ?_
        refine wps_cons rfl fun K hK => ?_; simp [hN']; refine hK _ ?_; clear hK
        refine wps_nil (hK _ ?_); clear hK
        obtain ⟨n48, hj31, h⟩ := bind_some h
        refine SWp.seqC [11] [] (fun _ : Unit => ⟨[(11, .t (vi n48))], []⟩) (fun _ => True) (fun _ _ => ?_) fun K32 hK32 => ?_
        rotate_left
        · refine SWp.block ?_
          refine SWp.seqR rfl (hPB _ rfl) fun K hK => ?_
          iterate 4 (refine wps_cons rfl fun K hK => ?_; simp [hN']; refine hK _ ?_; clear hK)
          refine wps_nil (hK _ ?_); clear hK
          rcases ite_or hj31 with ⟨hb34, hj31⟩ | ⟨hb35, hj31⟩
          · refine SWp.condT' (b := e3.Kind == 9) (by simp) hb34 ?_
            refine SWp.reg rfl (hPB _ rfl) fun K hK => ?_
            iterate 4 (refine wps_cons rfl fun K hK => ?_; simp [hN']; refine hK _ ?_; clear hK)
            refine wps_nil (hK _ ?_); clear hK
            cases hj31
            exact hK32 _ () [] trivial (by simp [hN'])
          · refine SWp.condF' (b := e3.Kind == 9) (by simp) hb35 ?_
            obtain ⟨v45, hj36, hj31⟩ := bind_some hj31
            refine SWp.seqRC rfl (hPB _ rfl) [11, 57] [] (fun _ : Unit => ⟨[(11, .t (vi 0)), (57, .t (vb v45))], []⟩) (fun _ => True) (fun _ _ => ?_) fun K37 hK37 => ?_
            rotate_left
            · refine wps_cons rfl fun K hK => ?_; simp [hN']; refine hK _ ?_; clear hK
              iterate 3 (refine wps_cons rfl fun K hK => ?_; simp [hN']; refine hK _ ?_; clear hK)
              rcases ite_or hj36 with ⟨hb38, hj36⟩ | ⟨hb39, hj36⟩
              · have hb38s := hb38
                try simp at hb38s
                iterate 5 (refine wps_cons rfl fun K hK => ?_; simp [hN', hb38, hb38s]; refine hK _ ?_; clear hK)
                rcases ite_or hj36 with ⟨hb40, hj36⟩ | ⟨hb41, hj36⟩
                · have hb40s := hb40
                  try simp at hb40s
                  iterate 8 (refine wps_off fun K hK => ?_; simp [hN', hb38, hb38s, hb40, hb40s]; refine hK _ ?_; clear hK)
                  iterate 2 (refine wps_cons rfl fun K hK => ?_; simp [hN', hb38, hb38s, hb40, hb40s]; refine hK _ ?_; clear hK)
                  refine wps_nil ?_
                  cases hj36
                  exact hK37 _ () [] trivial (by simp [hN', hb38, hb38s, hb40, hb40s])
                · have hb41s := hb41
                  try simp at hb41s
                  iterate 4 (refine wps_cons rfl fun K hK => ?_; simp [hN', hb38, hb38s, hb41, hb41s]; refine hK _ ?_; clear hK)
                  have hk42 : (e3.Kind == 11) = false := by simp [hb38, hb38s, hb41, hb41s]
                  iterate 3 (refine wps_off fun K hK => ?_; simp [hN', hb38, hb38s, hb41, hb41s, hk42]; refine hK _ ?_; clear hK)
                  iterate 3 (refine wps_cons rfl fun K hK => ?_; simp [hN', hb38, hb38s, hb41, hb41s, hk42]; refine hK _ ?_; clear hK)
                  refine wps_nil ?_
                  cases hj36
                  exact hK37 _ () [] trivial (by simp [hN', hb38, hb38s, hb41, hb41s, hk42])
              · have hb39s := hb39
                try simp at hb39s
                iterate 3 (refine wps_off fun K hK => ?_; simp [hN', hb39, hb39s]; refine hK _ ?_; clear hK)
                iterate 6 (refine wps_cons rfl fun K hK => ?_; simp [hN', hb39, hb39s]; refine hK _ ?_; clear hK)
                rcases ite_or hj36 with ⟨hb43, hj36⟩ | ⟨hb44, hj36⟩
                · have hb43s := hb43
                  try simp at hb43s
                  iterate 6 (refine wps_cons rfl fun K hK => ?_; simp [hN', hb39, hb39s, hb43, hb43s]; refine hK _ ?_; clear hK)
                  refine wps_nil ?_
                  cases hj36
                  exact hK37 _ () [] trivial (by simp [hN', hb39, hb39s, hb43, hb43s])
                · have hb44s := hb44
                  try simp at hb44s
                  iterate 3 (refine wps_off fun K hK => ?_; simp [hN', hb39, hb39s, hb44, hb44s]; refine hK _ ?_; clear hK)
                  iterate 3 (refine wps_cons rfl fun K hK => ?_; simp [hN', hb39, hb39s, hb44, hb44s]; refine hK _ ?_; clear hK)
                  refine wps_nil ?_
                  cases hj36
                  exact hK37 _ () [] trivial (by simp [hN', hb39, hb39s, hb44, hb44s])
            rcases ite_or hj31 with ⟨hb46, hj31⟩ | ⟨hb47, hj31⟩
            · refine SWp.condT' (b := v45) (by simp) hb46 ?_
              refine SWp.reg rfl (hPB _ rfl) fun K hK => ?_
              refine wps_cons rfl fun K hK => ?_; simp [hN']; refine hK _ ?_; clear hK
              refine wps_nil (hK _ ?_); clear hK
              cases hj31
              exact hK32 _ () [] trivial (by simp [hN'])
            · refine SWp.condF' (b := v45) (by simp) hb47 ?_
              refine SWp.skip ?_
              cases hj31
              exact hK32 _ () [] trivial (by simp [hN'])
        refine SWp.seq ?_
        refine SWp.seqR rfl (hPB _ rfl) fun K hK => ?_
        iterate 2 (refine wps_cons rfl fun K hK => ?_; simp [hN']; refine hK _ ?_; clear hK)
        refine wps_nil (hK _ ?_); clear hK
        rcases ite_or h with ⟨hb49, h⟩ | ⟨hb50, h⟩
        · refine SWp.condT' (b := decide (n48 > 1000000000)) (by simp) hb49 ?_
          refine SWp.seqR rfl (hPB _ rfl) fun K hK => ?_
          iterate 2 (refine wps_cons rfl fun K hK => ?_; simp [hN']; refine hK _ ?_; clear hK)
          refine wps_nil (hK _ ?_); clear hK
          cases h
          refine SWp.ret ?_
          simp [thenS, inBlockS, res59]
        · refine SWp.condF' (b := decide (n48 > 1000000000)) (by simp) hb50 ?_
          refine SWp.skip ?_
          show SWp E C _ _ _
          refine SWp.seqR rfl (hPB _ rfl) fun K hK => ?_
          iterate 3 (refine wps_cons rfl fun K hK => ?_; simp [hN']; refine hK _ ?_; clear hK)
          refine wps_nil (hK _ ?_); clear hK
          cases h
          refine SWp.ret ?_
          simp [thenS, inBlockS, res59]
    · refine SWp.condF' (b := v13) (by simp) hb15 ?_
      refine SWp.skip ?_
      show SWp E C _ _ _
      refine SWp.seqR rfl (hPB _ rfl) fun K hK => ?_
      iterate 2 (refine wps_cons rfl fun K hK => ?_; simp [hN']; refine hK _ ?_; clear hK)
      refine wps_nil (hK _ ?_); clear hK
      cases h
      refine SWp.ret ?_
      simp [thenS, inBlockS, res59]
theorem spec_l26Const_rec_ok : ∀ n : Nat, (∀ (a0 : List GNode) (a1 : Int) {r0 : Int} {r1 : Bool}, (spec_l26Const_rec n) a0 a1 = some (r0, r1) → Ok E 59 [.val (.sl false 4 (List.map (GNode.enc false) a0)), .val (vi a1)] [vi r0, vb r1] [])
  | 0 => (by intros; rename_i h; cases h)
  | n + 1 => spec_l26Const_b_ok (spec_l26Const_rec n) (spec_l26Const_rec_ok n)
theorem spec_l26Const_ok : ∀ (a0 : List GNode) (a1 : Int) {r0 : Int} {r1 : Bool}, spec_l26Const a0 a1 = some (r0, r1) → Ok E 59 [.val (.sl false 4 (List.map (GNode.enc false) a0)), .val (vi a1)] [vi r0, vb r1] [] := (spec_l26Const_rec_ok recFuel)
end Go.Proofs.T
set_option linter.unusedVariables false
set_option linter.unusedSimpArgs false
set_option maxHeartbeats 1000000
namespace Go.Proofs.T
open Go.OM
theorem res23 : Tryd.f23.results.toList = [.tmp 4, .tmp 5] := rfl
theorem ent23 : Enters E.P 23 := enters_of Tryd.func23 (by simp [Tryd.f23]) rfl
theorem spec_ConstOf_ok (p1 : GProgram) (k2 : Int) {r0 : Int} {r1 : Bool} (h : spec_ConstOf p1 k2 = some (r0, r1)) : Ok E 23 [.val (GProgram.enc false p1), .val (vi k2)] [vi r0, vb r1] [] := by
  refine ok_of_body (fn := Tryd.f23) Tryd.func23 rfl (by simp [Tryd.f23]) fun C hN hP => ?_
  have hPB : ∀ l, pinK [] l = true → pinB C.pin l = true := pinB_of (by rw [hP]; rfl)
  have hN' : C.N = 17 := hN
  clear hN
  unfold spec_ConstOf at h
  refine SWp.seqR rfl (hPB _ rfl) fun K hK => ?_
  iterate 3 (refine wps_cons rfl fun K hK => ?_; simp [hN']; refine hK _ ?_; clear hK)
  refine wps_nil (hK _ ?_); clear hK
  refine SWp.seq ?_
  refine SWp.seqR rfl (hPB _ rfl) fun K hK => ?_
  iterate 3 (refine wps_cons rfl fun K hK => ?_; simp [hN']; refine hK _ ?_; clear hK)
  obtain ⟨r3, hc4, h⟩ := bind_some h
  refine wps_call [(.take, .tmp 7), (.take, .tmp 8)] rfl rfl ent58 (spec_DeepOf_ok _ _ hc4) fun K hK => ?_; simp [hN']; refine hK _ ?_; clear hK
  refine wps_cons rfl fun K hK => ?_; simp [hN']; refine hK _ ?_; clear hK
  refine wps_nil (hK _ ?_); clear hK
  rcases ite_or h with ⟨hb5, h⟩ | ⟨hb6, h⟩
  · refine SWp.condT' (b := r3 == 0) (by simp) hb5 ?_
    refine SWp.seqR rfl (hPB _ rfl) fun K hK => ?_
    iterate 2 (refine wps_cons rfl fun K hK => ?_; simp [hN']; refine hK _ ?_; clear hK)
    refine wps_nil (hK _ ?_); clear hK
    cases h
    refine SWp.ret ?_
    simp [thenS, inBlockS, res23]
  · refine SWp.condF' (b := r3 == 0) (by simp) hb6 ?_
    refine SWp.skip ?_
    show SWp E C _ _ _
    refine SWp.seqR rfl (hPB _ rfl) fun K hK => ?_
    iterate 3 (refine wps_cons rfl fun K hK => ?_; simp [hN']; refine hK _ ?_; clear hK)
    obtain ⟨⟨r7, r8⟩, hc9, h⟩ := bind_some h
    try dsimp only at h
    refine wps_call [(.take, .tmp 12), (.take, .tmp 13)] rfl rfl ent59 (spec_l26Const_ok _ _ hc9) fun K hK => ?_; simp [hN']; refine hK _ ?_; clear hK
    iterate 4 (refine wps_cons rfl fun K hK => ?_; simp [hN']; refine hK _ ?_; clear hK)
    refine wps_nil (hK _ ?_); clear hK
    cases h
    refine SWp.ret ?_
    simp [thenS, inBlockS, res23]
end Go.Proofs.T
set_option linter.unusedVariables false
set_option linter.unusedSimpArgs false
set_option maxHeartbeats 1000000
namespace Go.Proofs.T
open Go.OM
theorem res27 : Tryd.f27.results.toList = [.tmp 4] := rfl
theorem ent27 : Enters E.P 27 := enters_of Tryd.func27 (by simp [Tryd.f27]) rfl
theorem spec_Foldable_ok (p1 : GProgram) (k2 : Int) {r0 : Bool} (h : spec_Foldable p1 k2 = some r0) : Ok E 27 [.val (GProgram.enc false p1), .val (vi k2)] [vb r0] [] := by
  refine ok_of_body (fn := Tryd.f27) Tryd.func27 rfl (by simp [Tryd.f27]) fun C hN hP => ?_
  have hPB : ∀ l, pinK [] l = true → pinB C.pin l = true := pinB_of (by rw [hP]; rfl)
  have hN' : C.N = 23 := hN
  clear hN
  unfold spec_Foldable at h
  refine SWp.seqR rfl (hPB _ rfl) fun K hK => ?_
  iterate 2 (refine wps_cons rfl fun K hK => ?_; simp [hN']; refine hK _ ?_; clear hK)
  refine wps_nil (hK _ ?_); clear hK
  refine SWp.seqR rfl (hPB _ rfl) fun K hK => ?_
  iterate 2 (refine wps_cons rfl fun K hK => ?_; simp [hN']; refine hK _ ?_; clear hK)
  obtain ⟨⟨r3, r4⟩, hc5, h⟩ := bind_some h
  try dsimp only at h
  refine wps_call [(.take, .tmp 8), (.take, .tmp 9)] rfl rfl ent23 (spec_ConstOf_ok _ _ hc5) fun K hK => ?_; simp [hN']; refine hK _ ?_; clear hK
  iterate 5 (refine wps_cons rfl fun K hK => ?_; simp [hN']; refine hK _ ?_; clear hK)
  refine wps_nil (hK _ ?_); clear hK
  obtain ⟨v11, hj6, h⟩ := bind_some h
  refine SWp.seqRC rfl (hPB _ rfl) [4] [] (fun _ : Unit => ⟨[(4, .t (vb v11))], []⟩) (fun _ => True) (fun _ _ => ?_) fun K7 hK7 => ?_
  rotate_left
  · refine wps_cons rfl fun K hK => ?_; simp [hN']; refine hK _ ?_; clear hK
    refine wps_cons rfl fun K hK => ?_; simp [hN']; refine hK _ ?_; clear hK
    rcases ite_or hj6 with ⟨hb8, hj6⟩ | ⟨hb9, hj6⟩
    · have hb8s := hb8
      try simp at hb8s
      iterate 3 (refine wps_cons rfl fun K hK => ?_; simp [hN', hb8, hb8s]; refine hK _ ?_; clear hK)
      obtain ⟨e10, he10, hj6⟩ := bind_some hj6
      obtain ⟨he10a, he10b, he10c, he10d⟩ := getI_some he10
      iterate 6 (refine wps_cons rfl fun K hK => ?_; simp [hN', hb8, hb8s, he10a, he10b, he10c, he10d]; refine hK _ ?_; clear hK)
      refine wps_nil ?_
      cases hj6
      exact hK7 _ () [] trivial (by simp [hN', hb8, hb8s, he10a, he10b, he10c, he10d])
    · have hb9s := hb9
      try simp at hb9s
      iterate 7 (refine wps_off fun K hK => ?_; simp [hN', hb9, hb9s]; refine hK _ ?_; clear hK)
      iterate 2 (refine wps_cons rfl fun K hK => ?_; simp [hN', hb9, hb9s]; refine hK _ ?_; clear hK)
      refine wps_nil ?_
      cases hj6
      exact hK7 _ () [] trivial (by simp [hN', hb9, hb9s])
  cases h
  refine SWp.ret ?_
  simp [thenS, inBlockS, res27]
end Go.Proofs.T
set_option linter.unusedVariables false
set_option linter.unusedSimpArgs false
set_option maxHeartbeats 1000000
namespace Go.Proofs.T
open Go.OM
theorem res66 : Tryd.f66.results.toList = [.tmp 6] := rfl
theorem ent66 : Enters E.P 66 := enters_of Tryd.func66 (by simp [Tryd.f66]) rfl
theorem impl_in_ok (n1 : Int) (low2 : Int) (high3 : Int) {r0 : Bool} (h : impl_in n1 low2 high3 = some r0) : Ok E 66 [.val (vi n1), .val (vi low2), .val (vi high3)] [vb r0] [] := by
  refine ok_of_body (fn := Tryd.f66) Tryd.func66 rfl (by simp [Tryd.f66]) fun C hN hP => ?_
  have hPB : ∀ l, pinK [] l = true → pinB C.pin l = true := pinB_of (by rw [hP]; rfl)
  have hN' : C.N = 15 := hN
  clear hN
  unfold impl_in at h
  refine SWp.seqR rfl (hPB _ rfl) fun K hK => ?_
  refine wps_cons rfl fun K hK => ?_; simp [hN']; refine hK _ ?_; clear hK
  refine wps_nil (hK _ ?_); clear hK
  obtain ⟨v8, hj4, h⟩ := bind_some h
  refine SWp.seqRC rfl (hPB _ rfl) [6] [] (fun _ : Unit => ⟨[(6, .t (vb v8))], []⟩) (fun _ => True) (fun _ _ => ?_) fun K5 hK5 => ?_
  rotate_left
  · refine wps_cons rfl fun K hK => ?_; simp [hN']; refine hK _ ?_; clear hK
    iterate 3 (refine wps_cons rfl fun K hK => ?_; simp [hN']; refine hK _ ?_; clear hK)
    rcases ite_or hj4 with ⟨hb6, hj4⟩ | ⟨hb7, hj4⟩
    · have hb6s := hb6
      try simp at hb6s
      iterate 5 (refine wps_cons rfl fun K hK => ?_; simp [hN', hb6, hb6s]; refine hK _ ?_; clear hK)
      refine wps_nil ?_
      cases hj4
      exact hK5 _ () [] trivial (by simp [hN', hb6, hb6s])
    · have hb7s := hb7
      try simp at hb7s
      iterate 3 (refine wps_off fun K hK => ?_; simp [hN', hb7, hb7s]; refine hK _ ?_; clear hK)
      iterate 2 (refine wps_cons rfl fun K hK => ?_; simp [hN', hb7, hb7s]; refine hK _ ?_; clear hK)
      refine wps_nil ?_
      cases hj4
      exact hK5 _ () [] trivial (by simp [hN', hb7, hb7s])
  cases h
  refine SWp.ret ?_
  simp [thenS, inBlockS, res66]
end Go.Proofs.T
set_option linter.unusedVariables false
set_option linter.unusedSimpArgs false
set_option maxHeartbeats 1000000
namespace Go.Proofs.T
open Go.OM
theorem res69 : Tryd.f69.results.toList = [.tmp 4] := rfl
theorem ent69 : Enters E.P 69 := enters_of Tryd.func69 (by simp [Tryd.f69]) rfl
theorem impl_hasInt_ok (l1 : List Int) (n2 : Int) {r0 : Bool} (h : impl_hasInt l1 n2 = some r0) : Ok E 69 [.val (.sl false 1 (List.map vi l1)), .val (vi n2)] [vb r0] [] := by
  refine ok_of_body (fn := Tryd.f69) Tryd.func69 rfl (by simp [Tryd.f69]) fun C hN hP => ?_
  have hPB : ∀ l, pinK [] l = true → pinB C.pin l = true := pinB_of (by rw [hP]; rfl)
  have hN' : C.N = 17 := hN
  clear hN
  unfold impl_hasInt at h
  refine SWp.seqR rfl (hPB _ rfl) fun K hK => ?_
  refine wps_cons rfl fun K hK => ?_; simp [hN']; refine hK _ ?_; clear hK
  refine wps_nil (hK _ ?_); clear hK
  obtain ⟨j5, hj3, h⟩ := bind_some h
  refine SWp.seqC [] [] (fun v : Unit => ⟨[], []⟩) (fun v => j5 = Sum.inl v) (fun v hv => ?_) fun K4 hK4 => ?_
  rotate_left
  · refine SWp.seqR rfl (hPB _ rfl) fun K hK => ?_
    iterate 3 (refine wps_cons rfl fun K hK => ?_; simp [hN']; refine hK _ ?_; clear hK)
    refine wps_nil (hK _ ?_); clear hK
    refine SWp.block ?_
    refine SWp.loopO [] [1, 7, 8, 9] [] (fun v : Int => ⟨[(1, .t (vi n2)), (7, .t (.sl false 1 (List.map vi l1))), (8, .t (vi (l1.length : Int))), (9, .t (vi v))], []⟩) (impl_hasInt_l1 l1 n2) _ 0 hj3 (by simp [hN']) ?_
    intro g s9 h7 ho8
    obtain ⟨v6, hg⟩ : ∃ y, y = g := ⟨_, rfl⟩
    subst hg
    simp only [impl_hasInt_l1] at h7
    try dsimp only
    refine SWp.seqR rfl (hPB _ rfl) fun K hK => ?_
    refine wps_cons rfl fun K hK => ?_; simp [hN']; refine hK _ ?_; clear hK
    refine wps_nil (hK _ ?_); clear hK
    refine SWp.seq ?_
    rcases ite_or h7 with ⟨hb10, h7⟩ | ⟨hb11, h7⟩
    · refine SWp.condT' (b := decide (v6 < (l1.length : Int))) (by simp) hb10 ?_
      refine SWp.skip ?_
      show SWp E C _ _ _
      refine SWp.seq ?_
      refine SWp.block ?_
      refine SWp.seqR rfl (hPB _ rfl) fun K hK => ?_
      obtain ⟨e12, he12, h7⟩ := bind_some h7
      obtain ⟨he12a, he12b, he12c, he12d⟩ := getI_some he12
      iterate 3 (refine wps_cons rfl fun K hK => ?_; simp [hN', he12a, he12b, he12c, he12d]; refine hK _ ?_; clear hK)
      refine wps_nil (hK _ ?_); clear hK
      refine SWp.seqR rfl (hPB _ rfl) fun K hK => ?_
      iterate 3 (refine wps_cons rfl fun K hK => ?_; simp [hN']; refine hK _ ?_; clear hK)
      refine wps_nil (hK _ ?_); clear hK
      rcases ite_or h7 with ⟨hb13, h7⟩ | ⟨hb14, h7⟩
      · refine SWp.condT' (b := e12 == n2) (by simp) hb13 ?_
        refine SWp.seqR rfl (hPB _ rfl) fun K hK => ?_
        refine wps_cons rfl fun K hK => ?_; simp [hN']; refine hK _ ?_; clear hK
        refine wps_nil (hK _ ?_); clear hK
        have h15 := congrArg some (ho8 _ (Option.some.inj h7).symm)
        cases h15
        try dsimp only at h
        cases h
        refine SWp.ret ?_
        simp [thenS, inBlockS, res69]
      · refine SWp.condF' (b := e12 == n2) (by simp) hb14 ?_
        refine SWp.skip ?_
        show SWp E C _ _ _
        refine SWp.reg rfl (hPB _ rfl) fun K hK => ?_
        iterate 2 (refine wps_cons rfl fun K hK => ?_; simp [hN']; refine hK _ ?_; clear hK)
        refine wps_nil (hK _ ?_); clear hK
        cases h7
        exact ⟨_, [], rfl, by simp [hN']⟩
    · refine SWp.condF' (b := decide (v6 < (l1.length : Int))) (by simp) hb11 ?_
      refine SWp.exit ?_
      have h16 := congrArg some (ho8 _ (Option.some.inj h7).symm)
      cases h16
      exact hK4 _ _ [] rfl (by simp [hN'])
  subst hv
  obtain ⟨⟩ := v
  try dsimp only at h ⊢
  refine SWp.seqR rfl (hPB _ rfl) fun K hK => ?_
  refine wps_cons rfl fun K hK => ?_; simp [hN']; refine hK _ ?_; clear hK
  refine wps_nil (hK _ ?_); clear hK
  cases h
  refine SWp.ret ?_
  simp [thenS, inBlockS, res69]
end Go.Proofs.T
set_option linter.unusedVariables false
set_option linter.unusedSimpArgs false
set_option maxHeartbeats 1000000
namespace Go.Proofs.T
open Go.OM
theorem res111 : Tryd.f111.results.toList = [.tmp 2] := rfl
theorem ent111 : Enters E.P 111 := enters_of Tryd.func111 (by simp [Tryd.f111]) rfl
theorem impl_isLetter_ok (b1 : Int) {r0 : Bool} (h : impl_isLetter b1 = some r0) : Ok E 111 [.val (vk .u8 b1)] [vb r0] [] := by
  refine ok_of_body (fn := Tryd.f111) Tryd.func111 rfl (by simp [Tryd.f111]) fun C hN hP => ?_
  have hPB : ∀ l, pinK [] l = true → pinB C.pin l = true := pinB_of (by rw [hP]; rfl)
  have hN' : C.N = 9 := hN
  clear hN
  unfold impl_isLetter at h
  refine SWp.seqR rfl (hPB _ rfl) fun K hK => ?_
  refine wps_cons rfl fun K hK => ?_; simp [hN']; refine hK _ ?_; clear hK
  refine wps_nil (hK _ ?_); clear hK
  obtain ⟨v6, hj2, h⟩ := bind_some h
  refine SWp.seqRC rfl (hPB _ rfl) [2] [] (fun _ : Unit => ⟨[(2, .t (vb v6))], []⟩) (fun _ => True) (fun _ _ => ?_) fun K3 hK3 => ?_
  rotate_left
  · refine wps_cons rfl fun K hK => ?_; simp [hN']; refine hK _ ?_; clear hK
    iterate 2 (refine wps_cons rfl fun K hK => ?_; simp [hN']; refine hK _ ?_; clear hK)
    rcases ite_or hj2 with ⟨hb4, hj2⟩ | ⟨hb5, hj2⟩
    · have hb4s := hb4
      try simp at hb4s
      iterate 4 (refine wps_cons rfl fun K hK => ?_; simp [hN', hb4, hb4s]; refine hK _ ?_; clear hK)
      refine wps_nil ?_
      cases hj2
      exact hK3 _ () [] trivial (by simp [hN', hb4, hb4s])
    · have hb5s := hb5
      try simp at hb5s
      iterate 2 (refine wps_off fun K hK => ?_; simp [hN', hb5, hb5s]; refine hK _ ?_; clear hK)
      iterate 2 (refine wps_cons rfl fun K hK => ?_; simp [hN', hb5, hb5s]; refine hK _ ?_; clear hK)
      refine wps_nil ?_
      cases hj2
      exact hK3 _ () [] trivial (by simp [hN', hb5, hb5s])
  cases h
  refine SWp.ret ?_
  simp [thenS, inBlockS, res111]
end Go.Proofs.T
set_option linter.unusedVariables false
set_option linter.unusedSimpArgs false
set_option maxHeartbeats 1000000
namespace Go.Proofs.T
open Go.OM
theorem res112 : Tryd.f112.results.toList = [.tmp 2] := rfl
theorem ent112 : Enters E.P 112 := enters_of Tryd.func112 (by simp [Tryd.f112]) rfl
theorem impl_isFigure_ok (b1 : Int) {r0 : Bool} (h : impl_isFigure b1 = some r0) : Ok E 112 [.val (vk .u8 b1)] [vb r0] [] := by
  refine ok_of_body (fn := Tryd.f112) Tryd.func112 rfl (by simp [Tryd.f112]) fun C hN hP => ?_
  have hPB : ∀ l, pinK [] l = true → pinB C.pin l = true := pinB_of (by rw [hP]; rfl)
  have hN' : C.N = 9 := hN
  clear hN
  unfold impl_isFigure at h
  refine SWp.seqR rfl (hPB _ rfl) fun K hK => ?_
  refine wps_cons rfl fun K hK => ?_; simp [hN']; refine hK _ ?_; clear hK
  refine wps_nil (hK _ ?_); clear hK
  obtain ⟨v6, hj2, h⟩ := bind_some h
  refine SWp.seqRC rfl (hPB _ rfl) [2] [] (fun _ : Unit => ⟨[(2, .t (vb v6))], []⟩) (fun _ => True) (fun _ _ => ?_) fun K3 hK3 => ?_
  rotate_left
  · refine wps_cons rfl fun K hK => ?_; simp [hN']; refine hK _ ?_; clear hK
    iterate 2 (refine wps_cons rfl fun K hK => ?_; simp [hN']; refine hK _ ?_; clear hK)
    rcases ite_or hj2 with ⟨hb4, hj2⟩ | ⟨hb5, hj2⟩
    · have hb4s := hb4
      try simp at hb4s
      iterate 4 (refine wps_cons rfl fun K hK => ?_; simp [hN', hb4, hb4s]; refine hK _ ?_; clear hK)
      refine wps_nil ?_
      cases hj2
      exact hK3 _ () [] trivial (by simp [hN', hb4, hb4s])
    · have hb5s := hb5
      try simp at hb5s
      iterate 2 (refine wps_off fun K hK => ?_; simp [hN', hb5, hb5s]; refine hK _ ?_; clear hK)
      iterate 2 (refine wps_cons rfl fun K hK => ?_; simp [hN', hb5, hb5s]; refine hK _ ?_; clear hK)
      refine wps_nil ?_
      cases hj2
      exact hK3 _ () [] trivial (by simp [hN', hb5, hb5s])
  cases h
  refine SWp.ret ?_
  simp [thenS, inBlockS, res112]
end Go.Proofs.T
/-
  DERIVED: THE SHELF's CONTRACTS AT THIS DUMP, IN PLAIN WORDS (tools/lay-plain.mjs out of 'TrydShelf.lean', which tools/lay-shelf.mjs wrote): THE SAME DECLARATIONS UNDER THE SAME NAMES: 'import', 'namespace', 'open', 'def', 'theorem' AND NOTHING ELSE: no command of the shelf's: FOR A HAND-IN. Each laying: the table of numbers ('.._ren') and one theorem, a field a fact of the dump's own or the kernel's comparison; each contract: ONE APPLICATION.
-/
namespace Go.Proofs
open Go.Shelf
def Tryd.lays129_ren : Go.Shelf.Ren := ⟨fun | 129 => 146 | n => n, fun | 53 => 148 | 3 => 3 | 4 => 4 | 46 => 158 | 5 => 5 | 9 => 9 | n => n, fun | n => n⟩
theorem Tryd.lays129 : Go.Proofs.Lays.n129 Tryd.prog Tryd.lays129_ren := {
  mixed := by kernel_rfl
  f129 := Tryd.func146.trans (congrArg some (by kernel_rfl))
  t3 := Tryd.underlying3
  a3 := Tryd.isAgg3
  z3 := Tryd.sizeOf3
  v3 := Tryd.zeroValue3
  t4 := Tryd.underlying4
  a4 := Tryd.isAgg4
  z4 := Tryd.sizeOf4
  v4 := Tryd.zeroValue4
  t5 := Tryd.underlying5
  a5 := Tryd.isAgg5
  z5 := Tryd.sizeOf5
  v5 := Tryd.zeroValue5
  t9 := Tryd.underlying9
  a9 := Tryd.isAgg9
  z9 := Tryd.sizeOf9
  v9 := Tryd.zeroValue9
  t46 := Tryd.underlying158
  a46 := Tryd.isAgg158
  z46 := Tryd.sizeOf158
  v46 := Tryd.zeroValue158
  t53 := Tryd.underlying148
  a53 := Tryd.isAgg148
  z53 := Tryd.sizeOf148
  v53 := Tryd.zeroValue148 }
/-- bits.Len64: "Len64 returns the minimum number of bits required to represent x; the result is 0 for x == 0.": IT RETURNS 'Lib.bitLen x'; the world is as it was. ('h0', 'h1': x is a uint64.) (LAID: no walk: one application.) -/
theorem Tryd.bits_Len64 (x : Int) (w : World) (h0 : 0 ≤ x) (h1 : x ≤ 18446744073709551615) :
    Calls Tryd.prog 146 #[.int .u64 x] w fun e w' => e = .returned (.int .i64 (Lib.bitLen x.toNat)) ∧ w' = w := Any.bits_Len64 Tryd.lays129 x w h0 h1
def Tryd.lays317_ren : Go.Shelf.Ren := ⟨fun | 317 => 145 | n => n, fun | 3 => 3 | 46 => 158 | n => n, fun | n => n⟩
theorem Tryd.lays317 : Go.Proofs.Lays.n317 Tryd.prog Tryd.lays317_ren := {
  mixed := by kernel_rfl
  f317 := Tryd.func145.trans (congrArg some (by kernel_rfl))
  t3 := Tryd.underlying3
  a3 := Tryd.isAgg3
  z3 := Tryd.sizeOf3
  v3 := Tryd.zeroValue3
  t46 := Tryd.underlying158
  a46 := Tryd.isAgg158
  z46 := Tryd.sizeOf158
  v46 := Tryd.zeroValue158 }
open Go.Lib in
/-- internal/strconv.log10Pow2: "log10Pow2(x) returns ⌊log₁₀ 2**x⌋ = ⌊x * log₁₀ 2⌋.": '(x * 78913) >> 18', at an x up to 64 (a length in bits). The world is as it was. (LAID: no walk: one application.) -/
theorem Tryd.internal_strconv_log10Pow2 (x : Nat) (h : x ≤ 64) (w : World) :
    Calls Tryd.prog 145 #[.int .i64 x] w fun e w' => e = .returned (.int .i64 (Lib.l10 x)) ∧ w' = w := Any.internal_strconv_log10Pow2 Tryd.lays317 x h w
def Tryd.lays318_ren : Go.Shelf.Ren := ⟨fun | 318 => 147 | n => n, fun | 3 => 3 | 4 => 4 | n => n, fun | n => n⟩
theorem Tryd.lays318 : Go.Proofs.Lays.n318 Tryd.prog Tryd.lays318_ren := {
  mixed := by kernel_rfl
  f318 := Tryd.func147.trans (congrArg some (by kernel_rfl))
  t3 := Tryd.underlying3
  a3 := Tryd.isAgg3
  z3 := Tryd.sizeOf3
  v3 := Tryd.zeroValue3
  t4 := Tryd.underlying4
  a4 := Tryd.isAgg4
  z4 := Tryd.sizeOf4
  v4 := Tryd.zeroValue4 }
open Go.Lib in
/-- internal/strconv.bool2: "bool2 converts b to an integer: 1 for true, 0 for false." The world is as it was. (LAID: no walk: one application.) -/
theorem Tryd.internal_strconv_bool2_int (b : Bool) (w : World) :
    Calls Tryd.prog 147 #[.bool b] w fun e w' => e = .returned (.int .i64 (if b then 1 else 0)) ∧ w' = w := Any.internal_strconv_bool2_int Tryd.lays318 b w
def Tryd.lays283_ren : Go.Shelf.Ren := ⟨fun | 283 => 136 | n => n, fun | 3 => 3 | 9 => 9 | 4 => 4 | n => n, fun | n => n⟩
theorem Tryd.lays283 : Go.Proofs.Lays.n283 Tryd.prog Tryd.lays283_ren := {
  mixed := by kernel_rfl
  f283 := Tryd.func136.trans (congrArg some (by kernel_rfl))
  t3 := Tryd.underlying3
  a3 := Tryd.isAgg3
  z3 := Tryd.sizeOf3
  v3 := Tryd.zeroValue3
  t4 := Tryd.underlying4
  a4 := Tryd.isAgg4
  z4 := Tryd.sizeOf4
  v4 := Tryd.zeroValue4
  t9 := Tryd.underlying9
  a9 := Tryd.isAgg9
  z9 := Tryd.sizeOf9
  v9 := Tryd.zeroValue9 }
open Go.Lib in
/-- internal/strconv.small: "small returns the string for an i with 0 <= i < nSmalls.": i's decimal numeral. The world is as it was. (LAID: no walk: one application.) -/
theorem Tryd.internal_strconv_small (i : Nat) (h : i < 100) (w : World) :
    Calls Tryd.prog 136 #[.int .i64 i] w fun e w' => e = .returned (.string ⟨(Lib.decDigits i).toArray⟩) ∧ w' = w := Any.internal_strconv_small Tryd.lays283 i h w
def Tryd.laysM284_ren : Go.Shelf.Ren := ⟨fun | 284 => 137 | 129 => 146 | 317 => 145 | 318 => 147 | n => n, fun | 53 => 148 | 3 => 3 | 212 => 155 | 0 => 0 | 4 => 4 | 46 => 158 | 5 => 5 | 9 => 9 | n => n, fun | 17 => 0 | n => n⟩
theorem Tryd.laysM284 : Go.Proofs.LaysM.n284 Tryd.prog Tryd.laysM284_ren := {
  mixed := by kernel_rfl
  f129 := Tryd.func146.trans (congrArg some (by kernel_rfl))
  f284 := Tryd.func137.trans (congrArg some (by kernel_rfl))
  f317 := Tryd.func145.trans (congrArg some (by kernel_rfl))
  f318 := Tryd.func147.trans (congrArg some (by kernel_rfl))
  t0 := Tryd.underlying0
  a0 := Tryd.isAgg0
  z0 := Tryd.sizeOf0
  v0 := Tryd.zeroValue0
  t3 := Tryd.underlying3
  a3 := Tryd.isAgg3
  z3 := Tryd.sizeOf3
  v3 := Tryd.zeroValue3
  t4 := Tryd.underlying4
  a4 := Tryd.isAgg4
  z4 := Tryd.sizeOf4
  v4 := Tryd.zeroValue4
  t5 := Tryd.underlying5
  a5 := Tryd.isAgg5
  z5 := Tryd.sizeOf5
  v5 := Tryd.zeroValue5
  t9 := Tryd.underlying9
  a9 := Tryd.isAgg9
  z9 := Tryd.sizeOf9
  v9 := Tryd.zeroValue9
  t46 := Tryd.underlying158
  a46 := Tryd.isAgg158
  z46 := Tryd.sizeOf158
  v46 := Tryd.zeroValue158
  t53 := Tryd.underlying148
  a53 := Tryd.isAgg148
  z53 := Tryd.sizeOf148
  v53 := Tryd.zeroValue148
  t212 := Tryd.underlying155
  a212 := Tryd.isAgg155
  z212 := Tryd.sizeOf155
  v212 := Tryd.zeroValue155
  g17 := by kernel_rfl
  i0 := by kernel_rfl
  i3 := by kernel_rfl
  i4 := by kernel_rfl
  i5 := by kernel_rfl
  i9 := by kernel_rfl
  i46 := by kernel_rfl
  i53 := by kernel_rfl
  i212 := by kernel_rfl
  m17 := by kernel_rfl }
open Go.Lib in
/-- internal/strconv.numDigits, at a d that is not 0: THE NUMBER OF d's DECIMAL DIGITS. The world is as it was. (LAID: no walk: one application.) -/
theorem Tryd.internal_strconv_numDigits (u : Nat) (h1 : 1 ≤ u) (h2 : u < 18446744073709551616) (w : World) (htab : Lib.TabIs Tryd.prog w "internal/strconv.uint64pow10" .u64 Lib.pow10Tab) :
    Calls Tryd.prog 137 #[.int .u64 u] w fun e w' => e = .returned (.int .i64 (Lib.nDigits u)) ∧ w' = w := Any.internal_strconv_numDigits Tryd.laysM284 u h1 h2 w htab
def Tryd.lays285_ren : Go.Shelf.Ren := ⟨fun | 285 => 138 | n => n, fun | 37 => 127 | 53 => 148 | 3 => 3 | 4 => 4 | 51 => 156 | 9 => 9 | 5 => 5 | 0 => 0 | n => n, fun | n => n⟩
theorem Tryd.lays285 : Go.Proofs.Lays.n285 Tryd.prog Tryd.lays285_ren := {
  mixed := by kernel_rfl
  f285 := Tryd.func138.trans (congrArg some (by kernel_rfl))
  t0 := Tryd.underlying0
  a0 := Tryd.isAgg0
  z0 := Tryd.sizeOf0
  v0 := Tryd.zeroValue0
  t3 := Tryd.underlying3
  a3 := Tryd.isAgg3
  z3 := Tryd.sizeOf3
  v3 := Tryd.zeroValue3
  t4 := Tryd.underlying4
  a4 := Tryd.isAgg4
  z4 := Tryd.sizeOf4
  v4 := Tryd.zeroValue4
  t5 := Tryd.underlying5
  a5 := Tryd.isAgg5
  z5 := Tryd.sizeOf5
  v5 := Tryd.zeroValue5
  t9 := Tryd.underlying9
  a9 := Tryd.isAgg9
  z9 := Tryd.sizeOf9
  v9 := Tryd.zeroValue9
  t37 := Tryd.underlying127
  a37 := Tryd.isAgg127
  z37 := Tryd.sizeOf127
  v37 := Tryd.zeroValue127
  t51 := Tryd.underlying156
  a51 := Tryd.isAgg156
  z51 := Tryd.sizeOf156
  v51 := Tryd.zeroValue156
  t53 := Tryd.underlying148
  a53 := Tryd.isAgg148
  z53 := Tryd.sizeOf148
  v53 := Tryd.zeroValue148 }
open Go.RowKit Go.Sort Go.Lib in
/-- internal/strconv.formatBase10: "formatBase10 formats the decimal representation of u into a. The caller is responsible for ensuring that a is big enough to hold u. If a is too big, leading zeros will be filled in as needed.": THE ROW HOLDS u's DIGITS ('FmtInv .. 0 ..': every place t holds 'dg u (len - 1 - t)'); all else is as it was but for the count of draws. (LAID: no walk: one application.) -/
theorem Tryd.internal_strconv_formatBase10 (blk off cap : Nat) (u : Nat) (d : Array UInt8) (w : World) (hH : Holds (fun (b : UInt8) => Value.int .u8 (b.toNat : Int)) w blk off d) (hu : u < 10 ^ d.size) (hu64 : u < 18446744073709551616) (hsz : d.size < 4611686018427387904) :
    Calls Tryd.prog 138 #[.slice (some ⟨blk, off, none⟩) d.size cap, .int .u64 u] w fun e w' =>
      e = .returned (.tuple #[]) ∧ ∃ (n v' : Nat) (dk : Array UInt8), w' = (putRow (fun (b : UInt8) => Value.int .u8 (b.toNat : Int)) w blk off dk).drewN n ∧ FmtInv d.size u 0 v' dk := Any.internal_strconv_formatBase10 Tryd.lays285 blk off cap u d w hH hu hu64 hsz
def Tryd.laysM246_ren : Go.Shelf.Ren := ⟨fun | 246 => 124 | 283 => 136 | 284 => 137 | 285 => 138 | 286 => 139 | 129 => 146 | 317 => 145 | 318 => 147 | 319 => 148 | 320 => 149 | 337 => 151 | 338 => 152 | n => n, fun | 2 => 2 | 3 => 3 | 9 => 9 | 4 => 4 | 171 => 147 | 0 => 0 | 53 => 148 | 37 => 127 | 5 => 5 | 173 => 151 | 212 => 155 | 51 => 156 | 20 => 20 | 213 => 157 | 46 => 158 | 232 => 164 | 233 => 165 | n => n, fun | 17 => 0 | 18 => 1 | 19 => 2 | n => n⟩
theorem Tryd.laysM246 : Go.Proofs.LaysM.n246 Tryd.prog Tryd.laysM246_ren := {
  mixed := by kernel_rfl
  f129 := Tryd.func146.trans (congrArg some (by kernel_rfl))
  f246 := Tryd.func124.trans (congrArg some (by kernel_rfl))
  f283 := Tryd.func136.trans (congrArg some (by kernel_rfl))
  f284 := Tryd.func137.trans (congrArg some (by kernel_rfl))
  f285 := Tryd.func138.trans (congrArg some (by kernel_rfl))
  f286 := Tryd.func139.trans (congrArg some (by kernel_rfl))
  f317 := Tryd.func145.trans (congrArg some (by kernel_rfl))
  f318 := Tryd.func147.trans (congrArg some (by kernel_rfl))
  f319 := Tryd.func148.trans (congrArg some (by kernel_rfl))
  f320 := Tryd.func149.trans (congrArg some (by kernel_rfl))
  f337 := Tryd.func151.trans (congrArg some (by kernel_rfl))
  f338 := Tryd.func152.trans (congrArg some (by kernel_rfl))
  t0 := Tryd.underlying0
  a0 := Tryd.isAgg0
  z0 := Tryd.sizeOf0
  v0 := Tryd.zeroValue0
  t2 := Tryd.underlying2
  a2 := Tryd.isAgg2
  z2 := Tryd.sizeOf2
  v2 := Tryd.zeroValue2
  t3 := Tryd.underlying3
  a3 := Tryd.isAgg3
  z3 := Tryd.sizeOf3
  v3 := Tryd.zeroValue3
  t4 := Tryd.underlying4
  a4 := Tryd.isAgg4
  z4 := Tryd.sizeOf4
  v4 := Tryd.zeroValue4
  t5 := Tryd.underlying5
  a5 := Tryd.isAgg5
  z5 := Tryd.sizeOf5
  v5 := Tryd.zeroValue5
  t9 := Tryd.underlying9
  a9 := Tryd.isAgg9
  z9 := Tryd.sizeOf9
  v9 := Tryd.zeroValue9
  t20 := Tryd.underlying20
  a20 := Tryd.isAgg20
  z20 := Tryd.sizeOf20
  v20 := Tryd.zeroValue20
  t37 := Tryd.underlying127
  a37 := Tryd.isAgg127
  z37 := Tryd.sizeOf127
  v37 := Tryd.zeroValue127
  t46 := Tryd.underlying158
  a46 := Tryd.isAgg158
  z46 := Tryd.sizeOf158
  v46 := Tryd.zeroValue158
  t51 := Tryd.underlying156
  a51 := Tryd.isAgg156
  z51 := Tryd.sizeOf156
  v51 := Tryd.zeroValue156
  t53 := Tryd.underlying148
  a53 := Tryd.isAgg148
  z53 := Tryd.sizeOf148
  v53 := Tryd.zeroValue148
  t171 := Tryd.underlying147
  a171 := Tryd.isAgg147
  z171 := Tryd.sizeOf147
  v171 := Tryd.zeroValue147
  t173 := Tryd.underlying151
  a173 := Tryd.isAgg151
  z173 := Tryd.sizeOf151
  v173 := Tryd.zeroValue151
  t212 := Tryd.underlying155
  a212 := Tryd.isAgg155
  z212 := Tryd.sizeOf155
  v212 := Tryd.zeroValue155
  t213 := Tryd.underlying157
  a213 := Tryd.isAgg157
  z213 := Tryd.sizeOf157
  t232 := Tryd.underlying164
  a232 := Tryd.isAgg164
  z232 := Tryd.sizeOf164
  v232 := Tryd.zeroValue164
  t233 := Tryd.underlying165
  a233 := Tryd.isAgg165
  z233 := Tryd.sizeOf165
  v233 := Tryd.zeroValue165
  g17 := by kernel_rfl
  g18 := by kernel_rfl
  g19 := by kernel_rfl
  i0 := by kernel_rfl
  i2 := by kernel_rfl
  i3 := by kernel_rfl
  i4 := by kernel_rfl
  i5 := by kernel_rfl
  i9 := by kernel_rfl
  i20 := by kernel_rfl
  i37 := by kernel_rfl
  i46 := by kernel_rfl
  i51 := by kernel_rfl
  i53 := by kernel_rfl
  i171 := by kernel_rfl
  i173 := by kernel_rfl
  i212 := by kernel_rfl
  i232 := by kernel_rfl
  i233 := by kernel_rfl
  m17 := by kernel_rfl
  m18 := by kernel_rfl
  m19 := by kernel_rfl }
open Go.RowKit Go.Sort Go.Lib in
/-- internal/strconv.FormatInt: "FormatInt returns the string representation of i in the given base": AT BASE 10: i's decimal numeral, for every int64. The world behind the call: the world before it, new blocks behind the heap, draws. (LAID: no walk: one application.) -/
theorem Tryd.internal_strconv_FormatInt_10 (n : Int) (h0 : -9223372036854775808 ≤ n) (h1 : n ≤ 9223372036854775807) (w : World) (htab : Lib.TabIs Tryd.prog w "internal/strconv.uint64pow10" .u64 Lib.pow10Tab) :
    Calls Tryd.prog 124 #[.int .i64 n, .int .i64 10] w fun e w' => e = .returned (.string ⟨(Lib.itoa n).toArray⟩) ∧ ∃ k os, w' = grow (w.drewN k) os := Any.internal_strconv_FormatInt_10 Tryd.laysM246 n h0 h1 w htab
def Tryd.lays246_ren : Go.Shelf.Ren := ⟨fun | 246 => 124 | 283 => 136 | 284 => 137 | 285 => 138 | 286 => 139 | 129 => 146 | 317 => 145 | 318 => 147 | 319 => 148 | 320 => 149 | 337 => 151 | 338 => 152 | n => n, fun | 2 => 2 | 3 => 3 | 9 => 9 | 4 => 4 | 171 => 147 | 0 => 0 | 53 => 148 | 37 => 127 | 5 => 5 | 173 => 151 | 212 => 155 | 51 => 156 | 20 => 20 | 213 => 157 | 46 => 158 | 232 => 164 | 233 => 165 | n => n, fun | 17 => 0 | 18 => 1 | 19 => 2 | n => n⟩
theorem Tryd.lays246 : Go.Proofs.Lays.n246 Tryd.prog Tryd.lays246_ren := {
  mixed := by kernel_rfl
  f129 := Tryd.func146.trans (congrArg some (by kernel_rfl))
  f246 := Tryd.func124.trans (congrArg some (by kernel_rfl))
  f283 := Tryd.func136.trans (congrArg some (by kernel_rfl))
  f284 := Tryd.func137.trans (congrArg some (by kernel_rfl))
  f285 := Tryd.func138.trans (congrArg some (by kernel_rfl))
  f286 := Tryd.func139.trans (congrArg some (by kernel_rfl))
  f317 := Tryd.func145.trans (congrArg some (by kernel_rfl))
  f318 := Tryd.func147.trans (congrArg some (by kernel_rfl))
  f319 := Tryd.func148.trans (congrArg some (by kernel_rfl))
  f320 := Tryd.func149.trans (congrArg some (by kernel_rfl))
  f337 := Tryd.func151.trans (congrArg some (by kernel_rfl))
  f338 := Tryd.func152.trans (congrArg some (by kernel_rfl))
  t0 := Tryd.underlying0
  a0 := Tryd.isAgg0
  z0 := Tryd.sizeOf0
  v0 := Tryd.zeroValue0
  t2 := Tryd.underlying2
  a2 := Tryd.isAgg2
  z2 := Tryd.sizeOf2
  v2 := Tryd.zeroValue2
  t3 := Tryd.underlying3
  a3 := Tryd.isAgg3
  z3 := Tryd.sizeOf3
  v3 := Tryd.zeroValue3
  t4 := Tryd.underlying4
  a4 := Tryd.isAgg4
  z4 := Tryd.sizeOf4
  v4 := Tryd.zeroValue4
  t5 := Tryd.underlying5
  a5 := Tryd.isAgg5
  z5 := Tryd.sizeOf5
  v5 := Tryd.zeroValue5
  t9 := Tryd.underlying9
  a9 := Tryd.isAgg9
  z9 := Tryd.sizeOf9
  v9 := Tryd.zeroValue9
  t20 := Tryd.underlying20
  a20 := Tryd.isAgg20
  z20 := Tryd.sizeOf20
  v20 := Tryd.zeroValue20
  t37 := Tryd.underlying127
  a37 := Tryd.isAgg127
  z37 := Tryd.sizeOf127
  v37 := Tryd.zeroValue127
  t46 := Tryd.underlying158
  a46 := Tryd.isAgg158
  z46 := Tryd.sizeOf158
  v46 := Tryd.zeroValue158
  t51 := Tryd.underlying156
  a51 := Tryd.isAgg156
  z51 := Tryd.sizeOf156
  v51 := Tryd.zeroValue156
  t53 := Tryd.underlying148
  a53 := Tryd.isAgg148
  z53 := Tryd.sizeOf148
  v53 := Tryd.zeroValue148
  t171 := Tryd.underlying147
  a171 := Tryd.isAgg147
  z171 := Tryd.sizeOf147
  v171 := Tryd.zeroValue147
  t173 := Tryd.underlying151
  a173 := Tryd.isAgg151
  z173 := Tryd.sizeOf151
  v173 := Tryd.zeroValue151
  t212 := Tryd.underlying155
  a212 := Tryd.isAgg155
  z212 := Tryd.sizeOf155
  v212 := Tryd.zeroValue155
  t213 := Tryd.underlying157
  a213 := Tryd.isAgg157
  z213 := Tryd.sizeOf157
  t232 := Tryd.underlying164
  a232 := Tryd.isAgg164
  z232 := Tryd.sizeOf164
  v232 := Tryd.zeroValue164
  t233 := Tryd.underlying165
  a233 := Tryd.isAgg165
  z233 := Tryd.sizeOf165
  v233 := Tryd.zeroValue165
  g17 := by kernel_rfl
  g18 := by kernel_rfl
  g19 := by kernel_rfl }
open Go.RowKit Go.Sort Go.Lib in
/-- THE ROAD WITHOUT THE TABLE: 0 <= i < 100: two constants are read, nothing is laid: no premise on the world, and the world is as it was. (LAID: no walk: one application.) -/
theorem Tryd.internal_strconv_FormatInt_10_small (i : Nat) (hi : i < 100) (w : World) :
    Calls Tryd.prog 124 #[.int .i64 i, .int .i64 10] w fun e w' => e = .returned (.string ⟨(Lib.decDigits i).toArray⟩) ∧ w' = w := Any.internal_strconv_FormatInt_10_small Tryd.lays246 i hi w
def Tryd.laysM243_ren : Go.Shelf.Ren := ⟨fun | 243 => 105 | 246 => 124 | 283 => 136 | 284 => 137 | 285 => 138 | 286 => 139 | 129 => 146 | 317 => 145 | 318 => 147 | 319 => 148 | 320 => 149 | 337 => 151 | 338 => 152 | n => n, fun | 3 => 3 | 9 => 9 | 2 => 2 | 4 => 4 | 171 => 147 | 0 => 0 | 53 => 148 | 37 => 127 | 5 => 5 | 173 => 151 | 212 => 155 | 51 => 156 | 20 => 20 | 213 => 157 | 46 => 158 | 232 => 164 | 233 => 165 | n => n, fun | 17 => 0 | 18 => 1 | 19 => 2 | n => n⟩
theorem Tryd.laysM243 : Go.Proofs.LaysM.n243 Tryd.prog Tryd.laysM243_ren := {
  mixed := by kernel_rfl
  f129 := Tryd.func146.trans (congrArg some (by kernel_rfl))
  f243 := Tryd.func105.trans (congrArg some (by kernel_rfl))
  f246 := Tryd.func124.trans (congrArg some (by kernel_rfl))
  f283 := Tryd.func136.trans (congrArg some (by kernel_rfl))
  f284 := Tryd.func137.trans (congrArg some (by kernel_rfl))
  f285 := Tryd.func138.trans (congrArg some (by kernel_rfl))
  f286 := Tryd.func139.trans (congrArg some (by kernel_rfl))
  f317 := Tryd.func145.trans (congrArg some (by kernel_rfl))
  f318 := Tryd.func147.trans (congrArg some (by kernel_rfl))
  f319 := Tryd.func148.trans (congrArg some (by kernel_rfl))
  f320 := Tryd.func149.trans (congrArg some (by kernel_rfl))
  f337 := Tryd.func151.trans (congrArg some (by kernel_rfl))
  f338 := Tryd.func152.trans (congrArg some (by kernel_rfl))
  t0 := Tryd.underlying0
  a0 := Tryd.isAgg0
  z0 := Tryd.sizeOf0
  v0 := Tryd.zeroValue0
  t2 := Tryd.underlying2
  a2 := Tryd.isAgg2
  z2 := Tryd.sizeOf2
  v2 := Tryd.zeroValue2
  t3 := Tryd.underlying3
  a3 := Tryd.isAgg3
  z3 := Tryd.sizeOf3
  v3 := Tryd.zeroValue3
  t4 := Tryd.underlying4
  a4 := Tryd.isAgg4
  z4 := Tryd.sizeOf4
  v4 := Tryd.zeroValue4
  t5 := Tryd.underlying5
  a5 := Tryd.isAgg5
  z5 := Tryd.sizeOf5
  v5 := Tryd.zeroValue5
  t9 := Tryd.underlying9
  a9 := Tryd.isAgg9
  z9 := Tryd.sizeOf9
  v9 := Tryd.zeroValue9
  t20 := Tryd.underlying20
  a20 := Tryd.isAgg20
  z20 := Tryd.sizeOf20
  v20 := Tryd.zeroValue20
  t37 := Tryd.underlying127
  a37 := Tryd.isAgg127
  z37 := Tryd.sizeOf127
  v37 := Tryd.zeroValue127
  t46 := Tryd.underlying158
  a46 := Tryd.isAgg158
  z46 := Tryd.sizeOf158
  v46 := Tryd.zeroValue158
  t51 := Tryd.underlying156
  a51 := Tryd.isAgg156
  z51 := Tryd.sizeOf156
  v51 := Tryd.zeroValue156
  t53 := Tryd.underlying148
  a53 := Tryd.isAgg148
  z53 := Tryd.sizeOf148
  v53 := Tryd.zeroValue148
  t171 := Tryd.underlying147
  a171 := Tryd.isAgg147
  z171 := Tryd.sizeOf147
  v171 := Tryd.zeroValue147
  t173 := Tryd.underlying151
  a173 := Tryd.isAgg151
  z173 := Tryd.sizeOf151
  v173 := Tryd.zeroValue151
  t212 := Tryd.underlying155
  a212 := Tryd.isAgg155
  z212 := Tryd.sizeOf155
  v212 := Tryd.zeroValue155
  t213 := Tryd.underlying157
  a213 := Tryd.isAgg157
  z213 := Tryd.sizeOf157
  t232 := Tryd.underlying164
  a232 := Tryd.isAgg164
  z232 := Tryd.sizeOf164
  v232 := Tryd.zeroValue164
  t233 := Tryd.underlying165
  a233 := Tryd.isAgg165
  z233 := Tryd.sizeOf165
  v233 := Tryd.zeroValue165
  g17 := by kernel_rfl
  g18 := by kernel_rfl
  g19 := by kernel_rfl
  i0 := by kernel_rfl
  i2 := by kernel_rfl
  i3 := by kernel_rfl
  i4 := by kernel_rfl
  i5 := by kernel_rfl
  i9 := by kernel_rfl
  i20 := by kernel_rfl
  i37 := by kernel_rfl
  i46 := by kernel_rfl
  i51 := by kernel_rfl
  i53 := by kernel_rfl
  i171 := by kernel_rfl
  i173 := by kernel_rfl
  i212 := by kernel_rfl
  i232 := by kernel_rfl
  i233 := by kernel_rfl
  m17 := by kernel_rfl
  m18 := by kernel_rfl
  m19 := by kernel_rfl }
open Go.RowKit Go.Sort Go.Lib in
/-- internal/strconv.Itoa: "Itoa is equivalent to FormatInt(int64(i), 10).": i's decimal numeral, for every int. (LAID: no walk: one application.) -/
theorem Tryd.internal_strconv_Itoa (n : Int) (h0 : -9223372036854775808 ≤ n) (h1 : n ≤ 9223372036854775807) (w : World) (htab : Lib.TabIs Tryd.prog w "internal/strconv.uint64pow10" .u64 Lib.pow10Tab) :
    Calls Tryd.prog 105 #[.int .i64 n] w fun e w' => e = .returned (.string ⟨(Lib.itoa n).toArray⟩) ∧ ∃ k os, w' = grow (w.drewN k) os := Any.internal_strconv_Itoa Tryd.laysM243 n h0 h1 w htab
def Tryd.lays243_ren : Go.Shelf.Ren := ⟨fun | 243 => 105 | 246 => 124 | 283 => 136 | 284 => 137 | 285 => 138 | 286 => 139 | 129 => 146 | 317 => 145 | 318 => 147 | 319 => 148 | 320 => 149 | 337 => 151 | 338 => 152 | n => n, fun | 3 => 3 | 9 => 9 | 2 => 2 | 4 => 4 | 171 => 147 | 0 => 0 | 53 => 148 | 37 => 127 | 5 => 5 | 173 => 151 | 212 => 155 | 51 => 156 | 20 => 20 | 213 => 157 | 46 => 158 | 232 => 164 | 233 => 165 | n => n, fun | 17 => 0 | 18 => 1 | 19 => 2 | n => n⟩
theorem Tryd.lays243 : Go.Proofs.Lays.n243 Tryd.prog Tryd.lays243_ren := {
  mixed := by kernel_rfl
  f129 := Tryd.func146.trans (congrArg some (by kernel_rfl))
  f243 := Tryd.func105.trans (congrArg some (by kernel_rfl))
  f246 := Tryd.func124.trans (congrArg some (by kernel_rfl))
  f283 := Tryd.func136.trans (congrArg some (by kernel_rfl))
  f284 := Tryd.func137.trans (congrArg some (by kernel_rfl))
  f285 := Tryd.func138.trans (congrArg some (by kernel_rfl))
  f286 := Tryd.func139.trans (congrArg some (by kernel_rfl))
  f317 := Tryd.func145.trans (congrArg some (by kernel_rfl))
  f318 := Tryd.func147.trans (congrArg some (by kernel_rfl))
  f319 := Tryd.func148.trans (congrArg some (by kernel_rfl))
  f320 := Tryd.func149.trans (congrArg some (by kernel_rfl))
  f337 := Tryd.func151.trans (congrArg some (by kernel_rfl))
  f338 := Tryd.func152.trans (congrArg some (by kernel_rfl))
  t0 := Tryd.underlying0
  a0 := Tryd.isAgg0
  z0 := Tryd.sizeOf0
  v0 := Tryd.zeroValue0
  t2 := Tryd.underlying2
  a2 := Tryd.isAgg2
  z2 := Tryd.sizeOf2
  v2 := Tryd.zeroValue2
  t3 := Tryd.underlying3
  a3 := Tryd.isAgg3
  z3 := Tryd.sizeOf3
  v3 := Tryd.zeroValue3
  t4 := Tryd.underlying4
  a4 := Tryd.isAgg4
  z4 := Tryd.sizeOf4
  v4 := Tryd.zeroValue4
  t5 := Tryd.underlying5
  a5 := Tryd.isAgg5
  z5 := Tryd.sizeOf5
  v5 := Tryd.zeroValue5
  t9 := Tryd.underlying9
  a9 := Tryd.isAgg9
  z9 := Tryd.sizeOf9
  v9 := Tryd.zeroValue9
  t20 := Tryd.underlying20
  a20 := Tryd.isAgg20
  z20 := Tryd.sizeOf20
  v20 := Tryd.zeroValue20
  t37 := Tryd.underlying127
  a37 := Tryd.isAgg127
  z37 := Tryd.sizeOf127
  v37 := Tryd.zeroValue127
  t46 := Tryd.underlying158
  a46 := Tryd.isAgg158
  z46 := Tryd.sizeOf158
  v46 := Tryd.zeroValue158
  t51 := Tryd.underlying156
  a51 := Tryd.isAgg156
  z51 := Tryd.sizeOf156
  v51 := Tryd.zeroValue156
  t53 := Tryd.underlying148
  a53 := Tryd.isAgg148
  z53 := Tryd.sizeOf148
  v53 := Tryd.zeroValue148
  t171 := Tryd.underlying147
  a171 := Tryd.isAgg147
  z171 := Tryd.sizeOf147
  v171 := Tryd.zeroValue147
  t173 := Tryd.underlying151
  a173 := Tryd.isAgg151
  z173 := Tryd.sizeOf151
  v173 := Tryd.zeroValue151
  t212 := Tryd.underlying155
  a212 := Tryd.isAgg155
  z212 := Tryd.sizeOf155
  v212 := Tryd.zeroValue155
  t213 := Tryd.underlying157
  a213 := Tryd.isAgg157
  z213 := Tryd.sizeOf157
  t232 := Tryd.underlying164
  a232 := Tryd.isAgg164
  z232 := Tryd.sizeOf164
  v232 := Tryd.zeroValue164
  t233 := Tryd.underlying165
  a233 := Tryd.isAgg165
  z233 := Tryd.sizeOf165
  v233 := Tryd.zeroValue165
  g17 := by kernel_rfl
  g18 := by kernel_rfl
  g19 := by kernel_rfl }
open Go.RowKit Go.Sort Go.Lib in
/-- THE ROAD WITHOUT THE TABLE: 0 <= i < 100. (LAID: no walk: one application.) -/
theorem Tryd.internal_strconv_Itoa_small (i : Nat) (hi : i < 100) (w : World) :
    Calls Tryd.prog 105 #[.int .i64 i] w fun e w' => e = .returned (.string ⟨(Lib.decDigits i).toArray⟩) ∧ w' = w := Any.internal_strconv_Itoa_small Tryd.lays243 i hi w
def Tryd.laysM171_ren : Go.Shelf.Ren := ⟨fun | 171 => 79 | 243 => 105 | 246 => 124 | 283 => 136 | 284 => 137 | 285 => 138 | 286 => 139 | 129 => 146 | 317 => 145 | 318 => 147 | 319 => 148 | 320 => 149 | 337 => 151 | 338 => 152 | n => n, fun | 3 => 3 | 9 => 9 | 2 => 2 | 4 => 4 | 171 => 147 | 0 => 0 | 53 => 148 | 37 => 127 | 5 => 5 | 173 => 151 | 212 => 155 | 51 => 156 | 20 => 20 | 213 => 157 | 46 => 158 | 232 => 164 | 233 => 165 | n => n, fun | 17 => 0 | 18 => 1 | 19 => 2 | n => n⟩
theorem Tryd.laysM171 : Go.Proofs.LaysM.n171 Tryd.prog Tryd.laysM171_ren := {
  mixed := by kernel_rfl
  f129 := Tryd.func146.trans (congrArg some (by kernel_rfl))
  f171 := Tryd.func79.trans (congrArg some (by kernel_rfl))
  f243 := Tryd.func105.trans (congrArg some (by kernel_rfl))
  f246 := Tryd.func124.trans (congrArg some (by kernel_rfl))
  f283 := Tryd.func136.trans (congrArg some (by kernel_rfl))
  f284 := Tryd.func137.trans (congrArg some (by kernel_rfl))
  f285 := Tryd.func138.trans (congrArg some (by kernel_rfl))
  f286 := Tryd.func139.trans (congrArg some (by kernel_rfl))
  f317 := Tryd.func145.trans (congrArg some (by kernel_rfl))
  f318 := Tryd.func147.trans (congrArg some (by kernel_rfl))
  f319 := Tryd.func148.trans (congrArg some (by kernel_rfl))
  f320 := Tryd.func149.trans (congrArg some (by kernel_rfl))
  f337 := Tryd.func151.trans (congrArg some (by kernel_rfl))
  f338 := Tryd.func152.trans (congrArg some (by kernel_rfl))
  t0 := Tryd.underlying0
  a0 := Tryd.isAgg0
  z0 := Tryd.sizeOf0
  v0 := Tryd.zeroValue0
  t2 := Tryd.underlying2
  a2 := Tryd.isAgg2
  z2 := Tryd.sizeOf2
  v2 := Tryd.zeroValue2
  t3 := Tryd.underlying3
  a3 := Tryd.isAgg3
  z3 := Tryd.sizeOf3
  v3 := Tryd.zeroValue3
  t4 := Tryd.underlying4
  a4 := Tryd.isAgg4
  z4 := Tryd.sizeOf4
  v4 := Tryd.zeroValue4
  t5 := Tryd.underlying5
  a5 := Tryd.isAgg5
  z5 := Tryd.sizeOf5
  v5 := Tryd.zeroValue5
  t9 := Tryd.underlying9
  a9 := Tryd.isAgg9
  z9 := Tryd.sizeOf9
  v9 := Tryd.zeroValue9
  t20 := Tryd.underlying20
  a20 := Tryd.isAgg20
  z20 := Tryd.sizeOf20
  v20 := Tryd.zeroValue20
  t37 := Tryd.underlying127
  a37 := Tryd.isAgg127
  z37 := Tryd.sizeOf127
  v37 := Tryd.zeroValue127
  t46 := Tryd.underlying158
  a46 := Tryd.isAgg158
  z46 := Tryd.sizeOf158
  v46 := Tryd.zeroValue158
  t51 := Tryd.underlying156
  a51 := Tryd.isAgg156
  z51 := Tryd.sizeOf156
  v51 := Tryd.zeroValue156
  t53 := Tryd.underlying148
  a53 := Tryd.isAgg148
  z53 := Tryd.sizeOf148
  v53 := Tryd.zeroValue148
  t171 := Tryd.underlying147
  a171 := Tryd.isAgg147
  z171 := Tryd.sizeOf147
  v171 := Tryd.zeroValue147
  t173 := Tryd.underlying151
  a173 := Tryd.isAgg151
  z173 := Tryd.sizeOf151
  v173 := Tryd.zeroValue151
  t212 := Tryd.underlying155
  a212 := Tryd.isAgg155
  z212 := Tryd.sizeOf155
  v212 := Tryd.zeroValue155
  t213 := Tryd.underlying157
  a213 := Tryd.isAgg157
  z213 := Tryd.sizeOf157
  t232 := Tryd.underlying164
  a232 := Tryd.isAgg164
  z232 := Tryd.sizeOf164
  v232 := Tryd.zeroValue164
  t233 := Tryd.underlying165
  a233 := Tryd.isAgg165
  z233 := Tryd.sizeOf165
  v233 := Tryd.zeroValue165
  g17 := by kernel_rfl
  g18 := by kernel_rfl
  g19 := by kernel_rfl
  i0 := by kernel_rfl
  i2 := by kernel_rfl
  i3 := by kernel_rfl
  i4 := by kernel_rfl
  i5 := by kernel_rfl
  i9 := by kernel_rfl
  i20 := by kernel_rfl
  i37 := by kernel_rfl
  i46 := by kernel_rfl
  i51 := by kernel_rfl
  i53 := by kernel_rfl
  i171 := by kernel_rfl
  i173 := by kernel_rfl
  i212 := by kernel_rfl
  i232 := by kernel_rfl
  i233 := by kernel_rfl
  m17 := by kernel_rfl
  m18 := by kernel_rfl
  m19 := by kernel_rfl }
open Go.RowKit Go.Sort Go.Lib in
/-- strconv.Itoa: "Itoa is equivalent to FormatInt(int64(i), 10).": i's DECIMAL NUMERAL ('Lib.itoa': a '-' where i is negative, then the digits), FOR EVERY int. The world behind the call: the world before it, new blocks behind the heap (the library's 'var a [24]byte'), draws. (LAID: no walk: one application.) -/
theorem Tryd.strconv_Itoa (n : Int) (h0 : -9223372036854775808 ≤ n) (h1 : n ≤ 9223372036854775807) (w : World) (htab : Lib.TabIs Tryd.prog w "internal/strconv.uint64pow10" .u64 Lib.pow10Tab) :
    Calls Tryd.prog 79 #[.int .i64 n] w fun e w' => e = .returned (.string ⟨(Lib.itoa n).toArray⟩) ∧ ∃ k os, w' = grow (w.drewN k) os := Any.strconv_Itoa Tryd.laysM171 n h0 h1 w htab
def Tryd.lays171_ren : Go.Shelf.Ren := ⟨fun | 171 => 79 | 243 => 105 | 246 => 124 | 283 => 136 | 284 => 137 | 285 => 138 | 286 => 139 | 129 => 146 | 317 => 145 | 318 => 147 | 319 => 148 | 320 => 149 | 337 => 151 | 338 => 152 | n => n, fun | 3 => 3 | 9 => 9 | 2 => 2 | 4 => 4 | 171 => 147 | 0 => 0 | 53 => 148 | 37 => 127 | 5 => 5 | 173 => 151 | 212 => 155 | 51 => 156 | 20 => 20 | 213 => 157 | 46 => 158 | 232 => 164 | 233 => 165 | n => n, fun | 17 => 0 | 18 => 1 | 19 => 2 | n => n⟩
theorem Tryd.lays171 : Go.Proofs.Lays.n171 Tryd.prog Tryd.lays171_ren := {
  mixed := by kernel_rfl
  f129 := Tryd.func146.trans (congrArg some (by kernel_rfl))
  f171 := Tryd.func79.trans (congrArg some (by kernel_rfl))
  f243 := Tryd.func105.trans (congrArg some (by kernel_rfl))
  f246 := Tryd.func124.trans (congrArg some (by kernel_rfl))
  f283 := Tryd.func136.trans (congrArg some (by kernel_rfl))
  f284 := Tryd.func137.trans (congrArg some (by kernel_rfl))
  f285 := Tryd.func138.trans (congrArg some (by kernel_rfl))
  f286 := Tryd.func139.trans (congrArg some (by kernel_rfl))
  f317 := Tryd.func145.trans (congrArg some (by kernel_rfl))
  f318 := Tryd.func147.trans (congrArg some (by kernel_rfl))
  f319 := Tryd.func148.trans (congrArg some (by kernel_rfl))
  f320 := Tryd.func149.trans (congrArg some (by kernel_rfl))
  f337 := Tryd.func151.trans (congrArg some (by kernel_rfl))
  f338 := Tryd.func152.trans (congrArg some (by kernel_rfl))
  t0 := Tryd.underlying0
  a0 := Tryd.isAgg0
  z0 := Tryd.sizeOf0
  v0 := Tryd.zeroValue0
  t2 := Tryd.underlying2
  a2 := Tryd.isAgg2
  z2 := Tryd.sizeOf2
  v2 := Tryd.zeroValue2
  t3 := Tryd.underlying3
  a3 := Tryd.isAgg3
  z3 := Tryd.sizeOf3
  v3 := Tryd.zeroValue3
  t4 := Tryd.underlying4
  a4 := Tryd.isAgg4
  z4 := Tryd.sizeOf4
  v4 := Tryd.zeroValue4
  t5 := Tryd.underlying5
  a5 := Tryd.isAgg5
  z5 := Tryd.sizeOf5
  v5 := Tryd.zeroValue5
  t9 := Tryd.underlying9
  a9 := Tryd.isAgg9
  z9 := Tryd.sizeOf9
  v9 := Tryd.zeroValue9
  t20 := Tryd.underlying20
  a20 := Tryd.isAgg20
  z20 := Tryd.sizeOf20
  v20 := Tryd.zeroValue20
  t37 := Tryd.underlying127
  a37 := Tryd.isAgg127
  z37 := Tryd.sizeOf127
  v37 := Tryd.zeroValue127
  t46 := Tryd.underlying158
  a46 := Tryd.isAgg158
  z46 := Tryd.sizeOf158
  v46 := Tryd.zeroValue158
  t51 := Tryd.underlying156
  a51 := Tryd.isAgg156
  z51 := Tryd.sizeOf156
  v51 := Tryd.zeroValue156
  t53 := Tryd.underlying148
  a53 := Tryd.isAgg148
  z53 := Tryd.sizeOf148
  v53 := Tryd.zeroValue148
  t171 := Tryd.underlying147
  a171 := Tryd.isAgg147
  z171 := Tryd.sizeOf147
  v171 := Tryd.zeroValue147
  t173 := Tryd.underlying151
  a173 := Tryd.isAgg151
  z173 := Tryd.sizeOf151
  v173 := Tryd.zeroValue151
  t212 := Tryd.underlying155
  a212 := Tryd.isAgg155
  z212 := Tryd.sizeOf155
  v212 := Tryd.zeroValue155
  t213 := Tryd.underlying157
  a213 := Tryd.isAgg157
  z213 := Tryd.sizeOf157
  t232 := Tryd.underlying164
  a232 := Tryd.isAgg164
  z232 := Tryd.sizeOf164
  v232 := Tryd.zeroValue164
  t233 := Tryd.underlying165
  a233 := Tryd.isAgg165
  z233 := Tryd.sizeOf165
  v233 := Tryd.zeroValue165
  g17 := by kernel_rfl
  g18 := by kernel_rfl
  g19 := by kernel_rfl }
open Go.RowKit Go.Sort Go.Lib in
/-- THE ROAD WITHOUT THE TABLE: 0 <= i < 100: NO PREMISE ON THE WORLD, AND THE WORLD IS AS IT WAS: a row that keeps its argument in that range need list no table ('laid = []'). (LAID: no walk: one application.) -/
theorem Tryd.strconv_Itoa_small (i : Nat) (hi : i < 100) (w : World) :
    Calls Tryd.prog 79 #[.int .i64 i] w fun e w' => e = .returned (.string ⟨(Lib.decDigits i).toArray⟩) ∧ w' = w := Any.strconv_Itoa_small Tryd.lays171 i hi w
def Tryd.lays217_ren : Go.Shelf.Ren := ⟨fun | 217 => 161 | 266 => 165 | n => n, fun | 9 => 9 | 5 => 5 | 3 => 3 | n => n, fun | n => n⟩
theorem Tryd.lays217 : Go.Proofs.Lays.n217 Tryd.prog Tryd.lays217_ren := {
  mixed := by kernel_rfl
  f217 := Tryd.func161.trans (congrArg some (by kernel_rfl))
  f266 := Tryd.func165.trans (congrArg some (by kernel_rfl))
  t3 := Tryd.underlying3
  a3 := Tryd.isAgg3
  z3 := Tryd.sizeOf3
  v3 := Tryd.zeroValue3
  t5 := Tryd.underlying5
  a5 := Tryd.isAgg5
  z5 := Tryd.sizeOf5
  v5 := Tryd.zeroValue5
  t9 := Tryd.underlying9
  a9 := Tryd.isAgg9
  z9 := Tryd.sizeOf9
  v9 := Tryd.zeroValue9 }
open Go.RowKit Go.Lib in
/-- internal/stringslite.IndexByte (what strings.IndexByte calls): IT RETURNS 'Lib.indexByte s c'; the world is as it was. (LAID: no walk: one application.) -/
theorem Tryd.stringslite_IndexByte (s : ByteArray) (c : Int) (w : World) :
    Calls Tryd.prog 161 #[.string s, .int .u8 c] w fun e w' => e = .returned (.int .i64 (Lib.indexByte s.data.toList c.toNat.toUInt8)) ∧ w' = w := Any.stringslite_IndexByte Tryd.lays217 s c w
def Tryd.lays224_ren : Go.Shelf.Ren := ⟨fun | 224 => 163 | n => n, fun | 3 => 3 | n => n, fun | n => n⟩
theorem Tryd.lays224 : Go.Proofs.Lays.n224 Tryd.prog Tryd.lays224_ren := {
  mixed := by kernel_rfl
  f224 := Tryd.func163.trans (congrArg some (by kernel_rfl))
  t3 := Tryd.underlying3
  a3 := Tryd.isAgg3
  z3 := Tryd.sizeOf3
  v3 := Tryd.zeroValue3 }
open Go.RowKit Go.Lib in
/-- internal/bytealg.Cutover: "Cutover reports the number of failures of IndexByte we should tolerate before switching over to Index. n is the number of bytes processed so far.": on amd64: (n + 16) / 8. (LAID: no walk: one application.) -/
theorem Tryd.bytealg_Cutover (n : Int) (h0 : 0 ≤ n) (h1 : n < 4611686018427387904) (w : World) :
    Calls Tryd.prog 163 #[.int .i64 n] w fun e w' => e = .returned (.int .i64 ((n + 16) / 8)) ∧ w' = w := Any.bytealg_Cutover Tryd.lays224 n h0 h1 w
def Tryd.lays314_ren : Go.Shelf.Ren := ⟨fun | 314 => 166 | n => n, fun | 9 => 9 | 51 => 156 | 3 => 3 | 4 => 4 | 5 => 5 | 46 => 158 | n => n, fun | n => n⟩
theorem Tryd.lays314 : Go.Proofs.Lays.n314 Tryd.prog Tryd.lays314_ren := {
  mixed := by kernel_rfl
  f314 := Tryd.func166.trans (congrArg some (by kernel_rfl))
  t3 := Tryd.underlying3
  a3 := Tryd.isAgg3
  z3 := Tryd.sizeOf3
  v3 := Tryd.zeroValue3
  t4 := Tryd.underlying4
  a4 := Tryd.isAgg4
  z4 := Tryd.sizeOf4
  v4 := Tryd.zeroValue4
  t5 := Tryd.underlying5
  a5 := Tryd.isAgg5
  z5 := Tryd.sizeOf5
  v5 := Tryd.zeroValue5
  t9 := Tryd.underlying9
  a9 := Tryd.isAgg9
  z9 := Tryd.sizeOf9
  v9 := Tryd.zeroValue9
  t46 := Tryd.underlying158
  a46 := Tryd.isAgg158
  z46 := Tryd.sizeOf158
  v46 := Tryd.zeroValue158
  t51 := Tryd.underlying156
  a51 := Tryd.isAgg156
  z51 := Tryd.sizeOf156
  v51 := Tryd.zeroValue156 }
open Go.RowKit Go.Lib in
/-- hashStr: "returns the hash and the appropriate multiplicative factor for use in Rabin-Karp algorithm": THE HASH OF ALL OF sep, AND 16777619 ^ len(sep), both in uint32. (LAID: no walk: one application.) -/
theorem Tryd.bytealg_hashStr (sep : ByteArray) (hs : sep.size < 4294967281) (w : World) :
    Calls Tryd.prog 166 #[.string sep] w fun e w' => e = .returned (.tuple #[.int .u32 (RK.H sep.data.toList % 4294967296), .int .u32 (16777619 ^ sep.size % 4294967296)]) ∧ w' = w := Any.bytealg_hashStr Tryd.lays314 sep hs w
def Tryd.lays267_ren : Go.Shelf.Ren := ⟨fun | 267 => 164 | 314 => 166 | n => n, fun | 9 => 9 | 3 => 3 | 146 => 174 | 51 => 156 | 4 => 4 | 5 => 5 | 46 => 158 | n => n, fun | n => n⟩
theorem Tryd.lays267 : Go.Proofs.Lays.n267 Tryd.prog Tryd.lays267_ren := {
  mixed := by kernel_rfl
  f267 := Tryd.func164.trans (congrArg some (by kernel_rfl))
  f314 := Tryd.func166.trans (congrArg some (by kernel_rfl))
  t3 := Tryd.underlying3
  a3 := Tryd.isAgg3
  z3 := Tryd.sizeOf3
  v3 := Tryd.zeroValue3
  t4 := Tryd.underlying4
  a4 := Tryd.isAgg4
  z4 := Tryd.sizeOf4
  v4 := Tryd.zeroValue4
  t5 := Tryd.underlying5
  a5 := Tryd.isAgg5
  z5 := Tryd.sizeOf5
  v5 := Tryd.zeroValue5
  t9 := Tryd.underlying9
  a9 := Tryd.isAgg9
  z9 := Tryd.sizeOf9
  v9 := Tryd.zeroValue9
  t46 := Tryd.underlying158
  a46 := Tryd.isAgg158
  z46 := Tryd.sizeOf158
  v46 := Tryd.zeroValue158
  t51 := Tryd.underlying156
  a51 := Tryd.isAgg156
  z51 := Tryd.sizeOf156
  v51 := Tryd.zeroValue156
  t146 := Tryd.underlying174
  a146 := Tryd.isAgg174
  z146 := Tryd.sizeOf174
  v146 := Tryd.zeroValue174 }
open Go.RowKit Go.Lib in
theorem Tryd.bytealg_IndexRabinKarp (s sep : ByteArray) (h1 : 1 ≤ sep.size) (h2 : sep.size ≤ s.size) (hs : s.size < 4294967281) (w : World) :
    Calls Tryd.prog 164 #[.string s, .string sep] w fun e w' => e = .returned (.int .i64 (Lib.index s.data.toList sep.data.toList)) ∧ w' = w := Any.bytealg_IndexRabinKarp Tryd.lays267 s sep h1 h2 hs w
def Tryd.lays219_ren : Go.Shelf.Ren := ⟨fun | 219 => 159 | 217 => 161 | 225 => 162 | 224 => 163 | 267 => 164 | 266 => 165 | 314 => 166 | n => n, fun | 9 => 9 | 3 => 3 | 4 => 4 | 5 => 5 | 46 => 158 | 146 => 174 | 51 => 156 | n => n, fun | 1 => 3 | n => n⟩
theorem Tryd.lays219 : Go.Proofs.Lays.n219 Tryd.prog Tryd.lays219_ren := {
  mixed := by kernel_rfl
  f217 := Tryd.func161.trans (congrArg some (by kernel_rfl))
  f219 := Tryd.func159.trans (congrArg some (by kernel_rfl))
  f224 := Tryd.func163.trans (congrArg some (by kernel_rfl))
  f225 := Tryd.func162.trans (congrArg some (by kernel_rfl))
  f266 := Tryd.func165.trans (congrArg some (by kernel_rfl))
  f267 := Tryd.func164.trans (congrArg some (by kernel_rfl))
  f314 := Tryd.func166.trans (congrArg some (by kernel_rfl))
  t3 := Tryd.underlying3
  a3 := Tryd.isAgg3
  z3 := Tryd.sizeOf3
  v3 := Tryd.zeroValue3
  t4 := Tryd.underlying4
  a4 := Tryd.isAgg4
  z4 := Tryd.sizeOf4
  v4 := Tryd.zeroValue4
  t5 := Tryd.underlying5
  a5 := Tryd.isAgg5
  z5 := Tryd.sizeOf5
  v5 := Tryd.zeroValue5
  t9 := Tryd.underlying9
  a9 := Tryd.isAgg9
  z9 := Tryd.sizeOf9
  v9 := Tryd.zeroValue9
  t46 := Tryd.underlying158
  a46 := Tryd.isAgg158
  z46 := Tryd.sizeOf158
  v46 := Tryd.zeroValue158
  t51 := Tryd.underlying156
  a51 := Tryd.isAgg156
  z51 := Tryd.sizeOf156
  v51 := Tryd.zeroValue156
  t146 := Tryd.underlying174
  a146 := Tryd.isAgg174
  z146 := Tryd.sizeOf174
  v146 := Tryd.zeroValue174
  g1 := by kernel_rfl }
open Go.RowKit Go.Lib in
/-- internal/stringslite.Index (what strings.Index calls) AT A substr OF ONE BYTE c: IT RETURNS 'Lib.indexByte s c'; the world is as it was. (LAID: no walk: one application.) -/
theorem Tryd.stringslite_Index_one (s : ByteArray) (c : UInt8) (w : World) :
    Calls Tryd.prog 159 #[.string s, .string ⟨#[c]⟩] w fun e w' => e = .returned (.int .i64 (Lib.indexByte s.data.toList c)) ∧ w' = w := Any.stringslite_Index_one Tryd.lays219 s c w
open Go.RowKit Go.Lib in
/-- internal/stringslite.Index (what strings.Index calls) AT A substr OF WHATEVER LENGTH: IT RETURNS 'Lib.index s substr'; the world is as it was. 'm': what internal/bytealg.MaxLen holds: whatever. (LAID: no walk: one application.) -/
theorem Tryd.stringslite_Index (s sub : ByteArray) (m : Int) (w : World) (hs : s.size < 4294967281) (hm : w.cell? ⟨3, 0, none⟩ = some (.int .i64 m)) :
    Calls Tryd.prog 159 #[.string s, .string sub] w fun e w' => e = .returned (.int .i64 (Lib.index s.data.toList sub.data.toList)) ∧ w' = w := Any.stringslite_Index Tryd.lays219 s sub m w hs hm
def Tryd.lays143_ren : Go.Shelf.Ren := ⟨fun | 143 => 155 | 219 => 159 | 217 => 161 | 225 => 162 | 224 => 163 | 267 => 164 | 266 => 165 | 314 => 166 | n => n, fun | 9 => 9 | 3 => 3 | 4 => 4 | 5 => 5 | 46 => 158 | 146 => 174 | 51 => 156 | n => n, fun | 1 => 3 | n => n⟩
theorem Tryd.lays143 : Go.Proofs.Lays.n143 Tryd.prog Tryd.lays143_ren := {
  mixed := by kernel_rfl
  f143 := Tryd.func155.trans (congrArg some (by kernel_rfl))
  f217 := Tryd.func161.trans (congrArg some (by kernel_rfl))
  f219 := Tryd.func159.trans (congrArg some (by kernel_rfl))
  f224 := Tryd.func163.trans (congrArg some (by kernel_rfl))
  f225 := Tryd.func162.trans (congrArg some (by kernel_rfl))
  f266 := Tryd.func165.trans (congrArg some (by kernel_rfl))
  f267 := Tryd.func164.trans (congrArg some (by kernel_rfl))
  f314 := Tryd.func166.trans (congrArg some (by kernel_rfl))
  t3 := Tryd.underlying3
  a3 := Tryd.isAgg3
  z3 := Tryd.sizeOf3
  v3 := Tryd.zeroValue3
  t4 := Tryd.underlying4
  a4 := Tryd.isAgg4
  z4 := Tryd.sizeOf4
  v4 := Tryd.zeroValue4
  t5 := Tryd.underlying5
  a5 := Tryd.isAgg5
  z5 := Tryd.sizeOf5
  v5 := Tryd.zeroValue5
  t9 := Tryd.underlying9
  a9 := Tryd.isAgg9
  z9 := Tryd.sizeOf9
  v9 := Tryd.zeroValue9
  t46 := Tryd.underlying158
  a46 := Tryd.isAgg158
  z46 := Tryd.sizeOf158
  v46 := Tryd.zeroValue158
  t51 := Tryd.underlying156
  a51 := Tryd.isAgg156
  z51 := Tryd.sizeOf156
  v51 := Tryd.zeroValue156
  t146 := Tryd.underlying174
  a146 := Tryd.isAgg174
  z146 := Tryd.sizeOf174
  v146 := Tryd.zeroValue174
  g1 := by kernel_rfl }
open Go.RowKit Go.Lib in
/-- strings.Index: "Index returns the index of the first instance of substr in s, or -1 if substr is not present in s.": AT A substr OF ONE BYTE c: IT RETURNS 'Lib.indexByte s c'; the world is as it was. (LAID: no walk: one application.) -/
theorem Tryd.strings_Index_one (s : ByteArray) (c : UInt8) (w : World) :
    Calls Tryd.prog 155 #[.string s, .string ⟨#[c]⟩] w fun e w' => e = .returned (.int .i64 (Lib.indexByte s.data.toList c)) ∧ w' = w := Any.strings_Index_one Tryd.lays143 s c w
open Go.RowKit Go.Lib in
/-- strings.Index: "Index returns the index of the first instance of substr in s, or -1 if substr is not present in s.": IT RETURNS 'Lib.index s substr'; the world is as it was. (LAID: no walk: one application.) -/
theorem Tryd.strings_Index (s sub : ByteArray) (m : Int) (w : World) (hs : s.size < 4294967281) (hm : w.cell? ⟨3, 0, none⟩ = some (.int .i64 m)) :
    Calls Tryd.prog 155 #[.string s, .string sub] w fun e w' => e = .returned (.int .i64 (Lib.index s.data.toList sub.data.toList)) ∧ w' = w := Any.strings_Index Tryd.lays143 s sub m w hs hm
def Tryd.lays138_ren : Go.Shelf.Ren := ⟨fun | 138 => 154 | 195 => 156 | 218 => 158 | 143 => 155 | 219 => 159 | 217 => 161 | 225 => 162 | 224 => 163 | 267 => 164 | 266 => 165 | 314 => 166 | n => n, fun | 9 => 9 | 3 => 3 | 4 => 4 | 5 => 5 | 0 => 0 | 46 => 158 | 146 => 174 | 51 => 156 | n => n, fun | 1 => 3 | n => n⟩
theorem Tryd.lays138 : Go.Proofs.Lays.n138 Tryd.prog Tryd.lays138_ren := {
  mixed := by kernel_rfl
  f138 := Tryd.func154.trans (congrArg some (by kernel_rfl))
  f143 := Tryd.func155.trans (congrArg some (by kernel_rfl))
  f195 := Tryd.func156.trans (congrArg some (by kernel_rfl))
  f217 := Tryd.func161.trans (congrArg some (by kernel_rfl))
  f218 := Tryd.func158.trans (congrArg some (by kernel_rfl))
  f219 := Tryd.func159.trans (congrArg some (by kernel_rfl))
  f224 := Tryd.func163.trans (congrArg some (by kernel_rfl))
  f225 := Tryd.func162.trans (congrArg some (by kernel_rfl))
  f266 := Tryd.func165.trans (congrArg some (by kernel_rfl))
  f267 := Tryd.func164.trans (congrArg some (by kernel_rfl))
  f314 := Tryd.func166.trans (congrArg some (by kernel_rfl))
  t0 := Tryd.underlying0
  a0 := Tryd.isAgg0
  z0 := Tryd.sizeOf0
  v0 := Tryd.zeroValue0
  t3 := Tryd.underlying3
  a3 := Tryd.isAgg3
  z3 := Tryd.sizeOf3
  v3 := Tryd.zeroValue3
  t4 := Tryd.underlying4
  a4 := Tryd.isAgg4
  z4 := Tryd.sizeOf4
  v4 := Tryd.zeroValue4
  t5 := Tryd.underlying5
  a5 := Tryd.isAgg5
  z5 := Tryd.sizeOf5
  v5 := Tryd.zeroValue5
  t9 := Tryd.underlying9
  a9 := Tryd.isAgg9
  z9 := Tryd.sizeOf9
  v9 := Tryd.zeroValue9
  t46 := Tryd.underlying158
  a46 := Tryd.isAgg158
  z46 := Tryd.sizeOf158
  v46 := Tryd.zeroValue158
  t51 := Tryd.underlying156
  a51 := Tryd.isAgg156
  z51 := Tryd.sizeOf156
  v51 := Tryd.zeroValue156
  t146 := Tryd.underlying174
  a146 := Tryd.isAgg174
  z146 := Tryd.sizeOf174
  v146 := Tryd.zeroValue174
  g1 := by kernel_rfl }
open Go.RowKit Go.Lib in
/-- strings.Count AT A substr OF ONE BYTE ('hp'): "Count counts the number of non-overlapping instances of substr in s.": IT RETURNS 'Lib.countByte s (that byte)'; the world is as it was. ✋ NO CONTRACT HERE YET at an empty substr (utf8.RuneCountInString) or at a longer one (a loop over strings.Index). (LAID: no walk: one application.) -/
theorem Tryd.strings_Count_one (s : ByteArray) (c : UInt8) (w : World) :
    Calls Tryd.prog 154 #[.string s, .string ⟨#[c]⟩] w fun e w' => e = .returned (.int .i64 (Lib.countByte s.data.toList c)) ∧ w' = w := Any.strings_Count_one Tryd.lays138 s c w
open Go.RowKit Go.Lib in
/-- strings.Count AT A substr OF TWO BYTES OR MORE: "Count counts the number of non-overlapping instances of substr in s.": IT RETURNS 'Lib.count s substr'; the world is as it was. (LAID: no walk: one application.) -/
theorem Tryd.strings_Count (s sub : ByteArray) (m : Int) (w : World) (hs : s.size < 4294967281) (hm : w.cell? ⟨3, 0, none⟩ = some (.int .i64 m)) (h2 : 2 ≤ sub.size) :
    Calls Tryd.prog 154 #[.string s, .string sub] w fun e w' => e = .returned (.int .i64 (Lib.countB s sub)) ∧ w' = w := Any.strings_Count Tryd.lays138 s sub m w hs hm h2
def Tryd.laysM219_ren : Go.Shelf.Ren := ⟨fun | 219 => 159 | 217 => 161 | 225 => 162 | 224 => 163 | 267 => 164 | 266 => 165 | 314 => 166 | n => n, fun | 9 => 9 | 3 => 3 | 4 => 4 | 5 => 5 | 46 => 158 | 146 => 174 | 51 => 156 | n => n, fun | 1 => 3 | n => n⟩
theorem Tryd.laysM219 : Go.Proofs.LaysM.n219 Tryd.prog Tryd.laysM219_ren := {
  mixed := by kernel_rfl
  f217 := Tryd.func161.trans (congrArg some (by kernel_rfl))
  f219 := Tryd.func159.trans (congrArg some (by kernel_rfl))
  f224 := Tryd.func163.trans (congrArg some (by kernel_rfl))
  f225 := Tryd.func162.trans (congrArg some (by kernel_rfl))
  f266 := Tryd.func165.trans (congrArg some (by kernel_rfl))
  f267 := Tryd.func164.trans (congrArg some (by kernel_rfl))
  f314 := Tryd.func166.trans (congrArg some (by kernel_rfl))
  t3 := Tryd.underlying3
  a3 := Tryd.isAgg3
  z3 := Tryd.sizeOf3
  v3 := Tryd.zeroValue3
  t4 := Tryd.underlying4
  a4 := Tryd.isAgg4
  z4 := Tryd.sizeOf4
  v4 := Tryd.zeroValue4
  t5 := Tryd.underlying5
  a5 := Tryd.isAgg5
  z5 := Tryd.sizeOf5
  v5 := Tryd.zeroValue5
  t9 := Tryd.underlying9
  a9 := Tryd.isAgg9
  z9 := Tryd.sizeOf9
  v9 := Tryd.zeroValue9
  t46 := Tryd.underlying158
  a46 := Tryd.isAgg158
  z46 := Tryd.sizeOf158
  v46 := Tryd.zeroValue158
  t51 := Tryd.underlying156
  a51 := Tryd.isAgg156
  z51 := Tryd.sizeOf156
  v51 := Tryd.zeroValue156
  t146 := Tryd.underlying174
  a146 := Tryd.isAgg174
  z146 := Tryd.sizeOf174
  v146 := Tryd.zeroValue174
  g1 := by kernel_rfl
  i3 := by kernel_rfl
  i4 := by kernel_rfl
  i5 := by kernel_rfl
  i9 := by kernel_rfl
  i46 := by kernel_rfl
  i51 := by kernel_rfl
  i146 := by kernel_rfl
  m1 := by kernel_rfl
  s1_3 := fun w h => Go.Proofs.cell_of_shapedOpen_int (zero := #[.int .i64 0]) (t := 3) h (of_decide_eq_true (by kernel_rfl)) (by kernel_rfl) rfl (by kernel_rfl) (by kernel_rfl) Tryd.underlying3 }
open Go.RowKit Go.Lib in
theorem Tryd.stringslite_Index_shaped (s sub : ByteArray) (w : World) (h : w.ShapedOpen Tryd.prog) (hs : s.size < 4294967281) :
    Calls Tryd.prog 159 #[.string s, .string sub] w fun e w' => e = .returned (.int .i64 (Lib.index s.data.toList sub.data.toList)) ∧ w' = w := Any.stringslite_Index_shaped Tryd.laysM219 s sub w h hs
def Tryd.laysM143_ren : Go.Shelf.Ren := ⟨fun | 143 => 155 | 219 => 159 | 217 => 161 | 225 => 162 | 224 => 163 | 267 => 164 | 266 => 165 | 314 => 166 | n => n, fun | 9 => 9 | 3 => 3 | 4 => 4 | 5 => 5 | 46 => 158 | 146 => 174 | 51 => 156 | n => n, fun | 1 => 3 | n => n⟩
theorem Tryd.laysM143 : Go.Proofs.LaysM.n143 Tryd.prog Tryd.laysM143_ren := {
  mixed := by kernel_rfl
  f143 := Tryd.func155.trans (congrArg some (by kernel_rfl))
  f217 := Tryd.func161.trans (congrArg some (by kernel_rfl))
  f219 := Tryd.func159.trans (congrArg some (by kernel_rfl))
  f224 := Tryd.func163.trans (congrArg some (by kernel_rfl))
  f225 := Tryd.func162.trans (congrArg some (by kernel_rfl))
  f266 := Tryd.func165.trans (congrArg some (by kernel_rfl))
  f267 := Tryd.func164.trans (congrArg some (by kernel_rfl))
  f314 := Tryd.func166.trans (congrArg some (by kernel_rfl))
  t3 := Tryd.underlying3
  a3 := Tryd.isAgg3
  z3 := Tryd.sizeOf3
  v3 := Tryd.zeroValue3
  t4 := Tryd.underlying4
  a4 := Tryd.isAgg4
  z4 := Tryd.sizeOf4
  v4 := Tryd.zeroValue4
  t5 := Tryd.underlying5
  a5 := Tryd.isAgg5
  z5 := Tryd.sizeOf5
  v5 := Tryd.zeroValue5
  t9 := Tryd.underlying9
  a9 := Tryd.isAgg9
  z9 := Tryd.sizeOf9
  v9 := Tryd.zeroValue9
  t46 := Tryd.underlying158
  a46 := Tryd.isAgg158
  z46 := Tryd.sizeOf158
  v46 := Tryd.zeroValue158
  t51 := Tryd.underlying156
  a51 := Tryd.isAgg156
  z51 := Tryd.sizeOf156
  v51 := Tryd.zeroValue156
  t146 := Tryd.underlying174
  a146 := Tryd.isAgg174
  z146 := Tryd.sizeOf174
  v146 := Tryd.zeroValue174
  g1 := by kernel_rfl
  i3 := by kernel_rfl
  i4 := by kernel_rfl
  i5 := by kernel_rfl
  i9 := by kernel_rfl
  i46 := by kernel_rfl
  i51 := by kernel_rfl
  i146 := by kernel_rfl
  m1 := by kernel_rfl
  s1_3 := fun w h => Go.Proofs.cell_of_shapedOpen_int (zero := #[.int .i64 0]) (t := 3) h (of_decide_eq_true (by kernel_rfl)) (by kernel_rfl) rfl (by kernel_rfl) (by kernel_rfl) Tryd.underlying3 }
open Go.RowKit Go.Lib in
theorem Tryd.strings_Index_shaped (s sub : ByteArray) (w : World) (h : w.ShapedOpen Tryd.prog) (hs : s.size < 4294967281) :
    Calls Tryd.prog 155 #[.string s, .string sub] w fun e w' => e = .returned (.int .i64 (Lib.index s.data.toList sub.data.toList)) ∧ w' = w := Any.strings_Index_shaped Tryd.laysM143 s sub w h hs
def Tryd.laysM138_ren : Go.Shelf.Ren := ⟨fun | 138 => 154 | 195 => 156 | 218 => 158 | 143 => 155 | 219 => 159 | 217 => 161 | 225 => 162 | 224 => 163 | 267 => 164 | 266 => 165 | 314 => 166 | n => n, fun | 9 => 9 | 3 => 3 | 4 => 4 | 5 => 5 | 0 => 0 | 46 => 158 | 146 => 174 | 51 => 156 | n => n, fun | 1 => 3 | n => n⟩
theorem Tryd.laysM138 : Go.Proofs.LaysM.n138 Tryd.prog Tryd.laysM138_ren := {
  mixed := by kernel_rfl
  f138 := Tryd.func154.trans (congrArg some (by kernel_rfl))
  f143 := Tryd.func155.trans (congrArg some (by kernel_rfl))
  f195 := Tryd.func156.trans (congrArg some (by kernel_rfl))
  f217 := Tryd.func161.trans (congrArg some (by kernel_rfl))
  f218 := Tryd.func158.trans (congrArg some (by kernel_rfl))
  f219 := Tryd.func159.trans (congrArg some (by kernel_rfl))
  f224 := Tryd.func163.trans (congrArg some (by kernel_rfl))
  f225 := Tryd.func162.trans (congrArg some (by kernel_rfl))
  f266 := Tryd.func165.trans (congrArg some (by kernel_rfl))
  f267 := Tryd.func164.trans (congrArg some (by kernel_rfl))
  f314 := Tryd.func166.trans (congrArg some (by kernel_rfl))
  t0 := Tryd.underlying0
  a0 := Tryd.isAgg0
  z0 := Tryd.sizeOf0
  v0 := Tryd.zeroValue0
  t3 := Tryd.underlying3
  a3 := Tryd.isAgg3
  z3 := Tryd.sizeOf3
  v3 := Tryd.zeroValue3
  t4 := Tryd.underlying4
  a4 := Tryd.isAgg4
  z4 := Tryd.sizeOf4
  v4 := Tryd.zeroValue4
  t5 := Tryd.underlying5
  a5 := Tryd.isAgg5
  z5 := Tryd.sizeOf5
  v5 := Tryd.zeroValue5
  t9 := Tryd.underlying9
  a9 := Tryd.isAgg9
  z9 := Tryd.sizeOf9
  v9 := Tryd.zeroValue9
  t46 := Tryd.underlying158
  a46 := Tryd.isAgg158
  z46 := Tryd.sizeOf158
  v46 := Tryd.zeroValue158
  t51 := Tryd.underlying156
  a51 := Tryd.isAgg156
  z51 := Tryd.sizeOf156
  v51 := Tryd.zeroValue156
  t146 := Tryd.underlying174
  a146 := Tryd.isAgg174
  z146 := Tryd.sizeOf174
  v146 := Tryd.zeroValue174
  g1 := by kernel_rfl
  i0 := by kernel_rfl
  i3 := by kernel_rfl
  i4 := by kernel_rfl
  i5 := by kernel_rfl
  i9 := by kernel_rfl
  i46 := by kernel_rfl
  i51 := by kernel_rfl
  i146 := by kernel_rfl
  m1 := by kernel_rfl
  s1_3 := fun w h => Go.Proofs.cell_of_shapedOpen_int (zero := #[.int .i64 0]) (t := 3) h (of_decide_eq_true (by kernel_rfl)) (by kernel_rfl) rfl (by kernel_rfl) (by kernel_rfl) Tryd.underlying3 }
open Go.RowKit Go.Lib in
theorem Tryd.strings_Count_shaped (s sub : ByteArray) (w : World) (h : w.ShapedOpen Tryd.prog) (hs : s.size < 4294967281) (h2 : 2 ≤ sub.size) :
    Calls Tryd.prog 154 #[.string s, .string sub] w fun e w' => e = .returned (.int .i64 (Lib.countB s sub)) ∧ w' = w := Any.strings_Count_shaped Tryd.laysM138 s sub w h hs h2
open Go.RowKit Go.Lib in
/-- strings.Count at whatever sep that is not empty: the two roads under one statement. (LAID: no walk: one application.) -/
theorem Tryd.strings_Count_any (s sep : ByteArray) (m : Int) (w : World) (hs : s.size < 4294967281) (hm : w.cell? ⟨3, 0, none⟩ = some (.int .i64 m)) (h1 : 1 ≤ sep.size) :
    Calls Tryd.prog 154 #[.string s, .string sep] w fun e w' => e = .returned (.int .i64 (Lib.countB s sep)) ∧ w' = w := Any.strings_Count_any Tryd.lays138 s sep m w hs hm h1
def Tryd.lays221_ren : Go.Shelf.Ren := ⟨fun | 221 => 150 | 268 => 153 | 138 => 154 | 143 => 155 | 195 => 156 | 197 => 157 | 218 => 158 | 219 => 159 | 260 => 160 | 217 => 161 | 225 => 162 | 224 => 163 | 267 => 164 | 266 => 165 | 314 => 166 | n => n, fun | 9 => 9 | 3 => 3 | 31 => 136 | 4 => 4 | 0 => 0 | 105 => 167 | 21 => 21 | 5 => 5 | 46 => 158 | 119 => 170 | 139 => 173 | 138 => 172 | 146 => 174 | 51 => 156 | n => n, fun | 1 => 3 | 3 => 4 | 4 => 5 | n => n⟩
theorem Tryd.lays221 : Go.Proofs.Lays.n221 Tryd.prog Tryd.lays221_ren := {
  mixed := by kernel_rfl
  f138 := Tryd.func154.trans (congrArg some (by kernel_rfl))
  f143 := Tryd.func155.trans (congrArg some (by kernel_rfl))
  f195 := Tryd.func156.trans (congrArg some (by kernel_rfl))
  f197 := Tryd.func157.trans (congrArg some (by kernel_rfl))
  f217 := Tryd.func161.trans (congrArg some (by kernel_rfl))
  f218 := Tryd.func158.trans (congrArg some (by kernel_rfl))
  f219 := Tryd.func159.trans (congrArg some (by kernel_rfl))
  f221 := Tryd.func150.trans (congrArg some (by kernel_rfl))
  f224 := Tryd.func163.trans (congrArg some (by kernel_rfl))
  f225 := Tryd.func162.trans (congrArg some (by kernel_rfl))
  f260 := Tryd.func160.trans (congrArg some (by kernel_rfl))
  f266 := Tryd.func165.trans (congrArg some (by kernel_rfl))
  f267 := Tryd.func164.trans (congrArg some (by kernel_rfl))
  f268 := Tryd.func153.trans (congrArg some (by kernel_rfl))
  f314 := Tryd.func166.trans (congrArg some (by kernel_rfl))
  t0 := Tryd.underlying0
  a0 := Tryd.isAgg0
  z0 := Tryd.sizeOf0
  v0 := Tryd.zeroValue0
  t3 := Tryd.underlying3
  a3 := Tryd.isAgg3
  z3 := Tryd.sizeOf3
  v3 := Tryd.zeroValue3
  t4 := Tryd.underlying4
  a4 := Tryd.isAgg4
  z4 := Tryd.sizeOf4
  v4 := Tryd.zeroValue4
  t5 := Tryd.underlying5
  a5 := Tryd.isAgg5
  z5 := Tryd.sizeOf5
  v5 := Tryd.zeroValue5
  t9 := Tryd.underlying9
  a9 := Tryd.isAgg9
  z9 := Tryd.sizeOf9
  v9 := Tryd.zeroValue9
  t21 := Tryd.underlying21
  a21 := Tryd.isAgg21
  z21 := Tryd.sizeOf21
  v21 := Tryd.zeroValue21
  t31 := Tryd.underlying136
  a31 := Tryd.isAgg136
  z31 := Tryd.sizeOf136
  v31 := Tryd.zeroValue136
  t46 := Tryd.underlying158
  a46 := Tryd.isAgg158
  z46 := Tryd.sizeOf158
  v46 := Tryd.zeroValue158
  t51 := Tryd.underlying156
  a51 := Tryd.isAgg156
  z51 := Tryd.sizeOf156
  v51 := Tryd.zeroValue156
  t105 := Tryd.underlying167
  a105 := Tryd.isAgg167
  z105 := Tryd.sizeOf167
  v105 := Tryd.zeroValue167
  t119 := Tryd.underlying170
  a119 := Tryd.isAgg170
  z119 := Tryd.sizeOf170
  t138 := Tryd.underlying172
  a138 := Tryd.isAgg172
  z138 := Tryd.sizeOf172
  v138 := Tryd.zeroValue172
  t139 := Tryd.underlying173
  a139 := Tryd.isAgg173
  z139 := Tryd.sizeOf173
  v139 := Tryd.zeroValue173
  t146 := Tryd.underlying174
  a146 := Tryd.isAgg174
  z146 := Tryd.sizeOf174
  v146 := Tryd.zeroValue174
  g1 := by kernel_rfl
  g3 := by kernel_rfl
  g4 := by kernel_rfl }
open Go.RowKit Go.Lib in
theorem Tryd.strings_genSplit (s sep : ByteArray) (sv : Nat) (n : Int) (N : Nat) (m : Int) (w : World) (hs : s.size < 4294967281) (hm : w.cell? ⟨3, 0, none⟩ = some (.int .i64 m)) (h1 : 1 ≤ sep.size) (hsv : sv ≤ sep.size) (hn0 : n ≠ 0) (hn63 : n ≤ 9223372036854775807) (hN : (N : Int) = min (if n < 0 then (Lib.countB s sep : Int) + 1 else n) ((s.size : Int) + 1)) :
    Calls Tryd.prog 150 #[.string s, .string sep, .int .i64 sv, .int .i64 n] w fun e w' =>
      e = .returned (.slice (some ⟨w.heap.size, 0, none⟩) (Lib.splitB sep sv (N - 1) s).length N) ∧ w' = w.alloc (.cells (Lib.cellsOf (Lib.splitB sep sv (N - 1) s) N) 9) := Any.strings_genSplit Tryd.lays221 (by kernel_rfl) s sep sv n N m w hs hm h1 hsv hn0 hn63 hN
def Tryd.lays146_ren : Go.Shelf.Ren := ⟨fun | 146 => 140 | 221 => 150 | 268 => 153 | 138 => 154 | 143 => 155 | 195 => 156 | 197 => 157 | 218 => 158 | 219 => 159 | 260 => 160 | 217 => 161 | 225 => 162 | 224 => 163 | 267 => 164 | 266 => 165 | 314 => 166 | n => n, fun | 9 => 9 | 31 => 136 | 3 => 3 | 4 => 4 | 0 => 0 | 105 => 167 | 21 => 21 | 5 => 5 | 46 => 158 | 119 => 170 | 139 => 173 | 138 => 172 | 146 => 174 | 51 => 156 | n => n, fun | 1 => 3 | 3 => 4 | 4 => 5 | n => n⟩
theorem Tryd.lays146 : Go.Proofs.Lays.n146 Tryd.prog Tryd.lays146_ren := {
  mixed := by kernel_rfl
  f138 := Tryd.func154.trans (congrArg some (by kernel_rfl))
  f143 := Tryd.func155.trans (congrArg some (by kernel_rfl))
  f146 := Tryd.func140.trans (congrArg some (by kernel_rfl))
  f195 := Tryd.func156.trans (congrArg some (by kernel_rfl))
  f197 := Tryd.func157.trans (congrArg some (by kernel_rfl))
  f217 := Tryd.func161.trans (congrArg some (by kernel_rfl))
  f218 := Tryd.func158.trans (congrArg some (by kernel_rfl))
  f219 := Tryd.func159.trans (congrArg some (by kernel_rfl))
  f221 := Tryd.func150.trans (congrArg some (by kernel_rfl))
  f224 := Tryd.func163.trans (congrArg some (by kernel_rfl))
  f225 := Tryd.func162.trans (congrArg some (by kernel_rfl))
  f260 := Tryd.func160.trans (congrArg some (by kernel_rfl))
  f266 := Tryd.func165.trans (congrArg some (by kernel_rfl))
  f267 := Tryd.func164.trans (congrArg some (by kernel_rfl))
  f268 := Tryd.func153.trans (congrArg some (by kernel_rfl))
  f314 := Tryd.func166.trans (congrArg some (by kernel_rfl))
  t0 := Tryd.underlying0
  a0 := Tryd.isAgg0
  z0 := Tryd.sizeOf0
  v0 := Tryd.zeroValue0
  t3 := Tryd.underlying3
  a3 := Tryd.isAgg3
  z3 := Tryd.sizeOf3
  v3 := Tryd.zeroValue3
  t4 := Tryd.underlying4
  a4 := Tryd.isAgg4
  z4 := Tryd.sizeOf4
  v4 := Tryd.zeroValue4
  t5 := Tryd.underlying5
  a5 := Tryd.isAgg5
  z5 := Tryd.sizeOf5
  v5 := Tryd.zeroValue5
  t9 := Tryd.underlying9
  a9 := Tryd.isAgg9
  z9 := Tryd.sizeOf9
  v9 := Tryd.zeroValue9
  t21 := Tryd.underlying21
  a21 := Tryd.isAgg21
  z21 := Tryd.sizeOf21
  v21 := Tryd.zeroValue21
  t31 := Tryd.underlying136
  a31 := Tryd.isAgg136
  z31 := Tryd.sizeOf136
  v31 := Tryd.zeroValue136
  t46 := Tryd.underlying158
  a46 := Tryd.isAgg158
  z46 := Tryd.sizeOf158
  v46 := Tryd.zeroValue158
  t51 := Tryd.underlying156
  a51 := Tryd.isAgg156
  z51 := Tryd.sizeOf156
  v51 := Tryd.zeroValue156
  t105 := Tryd.underlying167
  a105 := Tryd.isAgg167
  z105 := Tryd.sizeOf167
  v105 := Tryd.zeroValue167
  t119 := Tryd.underlying170
  a119 := Tryd.isAgg170
  z119 := Tryd.sizeOf170
  t138 := Tryd.underlying172
  a138 := Tryd.isAgg172
  z138 := Tryd.sizeOf172
  v138 := Tryd.zeroValue172
  t139 := Tryd.underlying173
  a139 := Tryd.isAgg173
  z139 := Tryd.sizeOf173
  v139 := Tryd.zeroValue173
  t146 := Tryd.underlying174
  a146 := Tryd.isAgg174
  z146 := Tryd.sizeOf174
  v146 := Tryd.zeroValue174
  g1 := by kernel_rfl
  g3 := by kernel_rfl
  g4 := by kernel_rfl }
open Go.RowKit Go.Lib in
/-- strings.Split. (LAID: no walk: one application.) -/
theorem Tryd.strings_Split (s sep : ByteArray) (m : Int) (w : World) (hs : s.size < 4294967281) (hm : w.cell? ⟨3, 0, none⟩ = some (.int .i64 m)) (h1 : 1 ≤ sep.size) :
    Calls Tryd.prog 140 #[.string s, .string sep] w fun e w' =>
      e = .returned (.slice (some ⟨w.heap.size, 0, none⟩) (Lib.countB s sep + 1) (Lib.countB s sep + 1)) ∧ w' = w.alloc (.cells ((Lib.splitB sep 0 (Lib.countB s sep) s).map Value.string).toArray 9) := Any.strings_Split Tryd.lays146 (by kernel_rfl) s sep m w hs hm h1
def Tryd.lays260_ren : Go.Shelf.Ren := ⟨fun | 260 => 160 | n => n, fun | 9 => 9 | 21 => 21 | 3 => 3 | 4 => 4 | 5 => 5 | 119 => 170 | 0 => 0 | 46 => 158 | 139 => 173 | 138 => 172 | n => n, fun | 3 => 4 | 4 => 5 | n => n⟩
theorem Tryd.lays260 : Go.Proofs.Lays.n260 Tryd.prog Tryd.lays260_ren := {
  mixed := by kernel_rfl
  f260 := Tryd.func160.trans (congrArg some (by kernel_rfl))
  t0 := Tryd.underlying0
  a0 := Tryd.isAgg0
  z0 := Tryd.sizeOf0
  v0 := Tryd.zeroValue0
  t3 := Tryd.underlying3
  a3 := Tryd.isAgg3
  z3 := Tryd.sizeOf3
  v3 := Tryd.zeroValue3
  t4 := Tryd.underlying4
  a4 := Tryd.isAgg4
  z4 := Tryd.sizeOf4
  v4 := Tryd.zeroValue4
  t5 := Tryd.underlying5
  a5 := Tryd.isAgg5
  z5 := Tryd.sizeOf5
  v5 := Tryd.zeroValue5
  t9 := Tryd.underlying9
  a9 := Tryd.isAgg9
  z9 := Tryd.sizeOf9
  v9 := Tryd.zeroValue9
  t21 := Tryd.underlying21
  a21 := Tryd.isAgg21
  z21 := Tryd.sizeOf21
  v21 := Tryd.zeroValue21
  t46 := Tryd.underlying158
  a46 := Tryd.isAgg158
  z46 := Tryd.sizeOf158
  v46 := Tryd.zeroValue158
  t119 := Tryd.underlying170
  a119 := Tryd.isAgg170
  z119 := Tryd.sizeOf170
  t138 := Tryd.underlying172
  a138 := Tryd.isAgg172
  z138 := Tryd.sizeOf172
  v138 := Tryd.zeroValue172
  t139 := Tryd.underlying173
  a139 := Tryd.isAgg173
  z139 := Tryd.sizeOf173
  v139 := Tryd.zeroValue173
  g3 := by kernel_rfl
  g4 := by kernel_rfl }
open Go.RowKit Go.Lib in
theorem Tryd.utf8_decodeRuneInStringSlow (s : ByteArray) (w : World) (hT : Lib.Utf8Tabs 4 5 w) :
    Calls Tryd.prog 160 #[.string s] w fun e w' => e = .returned (.tuple #[.int .i32 (Lib.decodeGo s).1, .int .i64 (Lib.decodeGo s).2]) ∧ Below w.heap.size w w' := Any.utf8_decodeRuneInStringSlow Tryd.lays260 s w hT
end Go.Proofs
set_option linter.unusedVariables false
set_option linter.unusedSimpArgs false
namespace Go.Proofs.T
open Go.OM
theorem ent140 : Enters E.P 140 := enters_of Tryd.func140 (by simp [Tryd.f140]) rfl
theorem maxLen_cell {w : World} (h : E.Gl w) : ∃ m, w.cell? ⟨3, 0, none⟩ = some (.int .i64 m) := by
  obtain ⟨cs, t, fr, h1, m, h2⟩ := h _ (List.mem_singleton.2 rfl)
  refine ⟨m, ?_⟩
  have h1' : w.heap[3]? = some (.cells cs t fr) := h1
  simp [World.cell?, h1', h2]
theorem strings_Split_ok (s sep : ByteArray) {r0 : List ByteArray} (h : strings_Split s sep = some r0) : Ok E 140 [.val (vs s), .val (vs sep)] [.sl true 1 (List.map vs r0)] [] := by
  unfold strings_Split at h
  split at h
  case isFalse => cases h
  rename_i hr
  injection h with h
  subst h
  have := ok_fresh (E := E) (f := 140) (ty := 9) (xs := [.string s, .string sep]) (es := (Lib.splitB sep 0 (Lib.countB s sep) s).map Value.string) (by simp [TA.OneCell]) fun w hw => by
    obtain ⟨m, hm⟩ := maxLen_cell hw
    have h1 := Tryd.strings_Split s sep m w hr.1 hm hr.2.1
    refine h1.mono fun e w' ⟨h2, h3⟩ => ⟨?_, h3⟩
    rw [h2, List.length_map, hr.2.2]
    try rfl
  rw [List.map_map] at this
  exact this
end Go.Proofs.T
set_option linter.unusedVariables false
set_option linter.unusedSimpArgs false
set_option maxHeartbeats 1000000
namespace Go.Proofs.T
open Go.OM
theorem res126 : Tryd.f126.results.toList = [.tmp 4] := rfl
theorem ent126 : Enters E.P 126 := enters_of Tryd.func126 (by simp [Tryd.f126]) rfl
theorem impl_oneOf_ok (s1 : ByteArray) (words2 : ByteArray) {r0 : Bool} (h : impl_oneOf s1 words2 = some r0) : Ok E 126 [.val (vs s1), .val (vs words2)] [vb r0] [] := by
  refine ok_of_body (fn := Tryd.f126) Tryd.func126 rfl (by simp [Tryd.f126]) fun C hN hP => ?_
  have hPB : ∀ l, pinK [] l = true → pinB C.pin l = true := pinB_of (by rw [hP]; rfl)
  have hN' : C.N = 18 := hN
  clear hN
  unfold impl_oneOf at h
  refine SWp.seqR rfl (hPB _ rfl) fun K hK => ?_
  refine wps_cons rfl fun K hK => ?_; simp [hN']; refine hK _ ?_; clear hK
  refine wps_nil (hK _ ?_); clear hK
  obtain ⟨j5, hj3, h⟩ := bind_some h
  refine SWp.seqC [] [] (fun v : Unit => ⟨[], []⟩) (fun v => j5 = Sum.inl v) (fun v hv => ?_) fun K4 hK4 => ?_
  rotate_left
  · refine SWp.seqR rfl (hPB _ rfl) fun K hK => ?_
    refine wps_cons rfl fun K hK => ?_; simp [hN']; refine hK _ ?_; clear hK
    obtain ⟨r6, hc7, hj3⟩ := bind_some hj3
    refine wps_call [(.take, .tmp 7), (.take, .const (.string (⟨#[32]⟩ : ByteArray)))] rfl rfl ent140 (strings_Split_ok _ _ hc7) fun K hK => ?_; simp [hN']; refine hK _ ?_; clear hK
    iterate 2 (refine wps_cons rfl fun K hK => ?_; simp [hN']; refine hK _ ?_; clear hK)
    refine wps_nil (hK _ ?_); clear hK
    refine SWp.block ?_
    refine SWp.loopO [] [0, 8, 9, 10] [] (fun v : Int => ⟨[(0, .t (vs s1)), (8, .t (.sl true 1 (List.map vs r6))), (9, .t (vi (r6.length : Int))), (10, .t (vi v))], []⟩) (impl_oneOf_l1 s1 r6) _ 0 hj3 (by simp [hN']) ?_
    intro g s11 h9 ho10
    obtain ⟨v8, hg⟩ : ∃ y, y = g := ⟨_, rfl⟩
    subst hg
    simp only [impl_oneOf_l1] at h9
    try dsimp only
    refine SWp.seqR rfl (hPB _ rfl) fun K hK => ?_
    refine wps_cons rfl fun K hK => ?_; simp [hN']; refine hK _ ?_; clear hK
    refine wps_nil (hK _ ?_); clear hK
    refine SWp.seq ?_
    rcases ite_or h9 with ⟨hb12, h9⟩ | ⟨hb13, h9⟩
    · refine SWp.condT' (b := decide (v8 < (r6.length : Int))) (by simp) hb12 ?_
      refine SWp.skip ?_
      show SWp E C _ _ _
      refine SWp.seq ?_
      refine SWp.block ?_
      refine SWp.seqR rfl (hPB _ rfl) fun K hK => ?_
      obtain ⟨e14, he14, h9⟩ := bind_some h9
      obtain ⟨he14a, he14b, he14c, he14d⟩ := getI_some he14
      iterate 3 (refine wps_cons rfl fun K hK => ?_; simp [hN', he14a, he14b, he14c, he14d]; refine hK _ ?_; clear hK)
      refine wps_nil (hK _ ?_); clear hK
      refine SWp.seqR rfl (hPB _ rfl) fun K hK => ?_
      iterate 3 (refine wps_cons rfl fun K hK => ?_; simp [hN']; refine hK _ ?_; clear hK)
      refine wps_nil (hK _ ?_); clear hK
      rcases ite_or h9 with ⟨hb15, h9⟩ | ⟨hb16, h9⟩
      · refine SWp.condT' (b := sEq e14 s1) (by simp) hb15 ?_
        refine SWp.seqR rfl (hPB _ rfl) fun K hK => ?_
        refine wps_cons rfl fun K hK => ?_; simp [hN']; refine hK _ ?_; clear hK
        refine wps_nil (hK _ ?_); clear hK
        have h17 := congrArg some (ho10 _ (Option.some.inj h9).symm)
        cases h17
        try dsimp only at h
        cases h
        refine SWp.ret ?_
        simp [thenS, inBlockS, res126]
      · refine SWp.condF' (b := sEq e14 s1) (by simp) hb16 ?_
        refine SWp.skip ?_
        show SWp E C _ _ _
        refine SWp.reg rfl (hPB _ rfl) fun K hK => ?_
        iterate 2 (refine wps_cons rfl fun K hK => ?_; simp [hN']; refine hK _ ?_; clear hK)
        refine wps_nil (hK _ ?_); clear hK
        cases h9
        exact ⟨_, [], rfl, by simp [hN']⟩
    · refine SWp.condF' (b := decide (v8 < (r6.length : Int))) (by simp) hb13 ?_
      refine SWp.exit ?_
      have h18 := congrArg some (ho10 _ (Option.some.inj h9).symm)
      cases h18
      exact hK4 _ _ [] rfl (by simp [hN'])
  subst hv
  obtain ⟨⟩ := v
  try dsimp only at h ⊢
  refine SWp.seqR rfl (hPB _ rfl) fun K hK => ?_
  refine wps_cons rfl fun K hK => ?_; simp [hN']; refine hK _ ?_; clear hK
  refine wps_nil (hK _ ?_); clear hK
  cases h
  refine SWp.ret ?_
  simp [thenS, inBlockS, res126]
end Go.Proofs.T
set_option linter.unusedVariables false
set_option linter.unusedSimpArgs false
set_option maxHeartbeats 1000000
namespace Go.Proofs.T
open Go.OM
theorem res113 : Tryd.f113.results.toList = [.tmp 2] := rfl
theorem ent113 : Enters E.P 113 := enters_of Tryd.func113 (by simp [Tryd.f113]) rfl
theorem impl_KeyWord_ok (s1 : ByteArray) {r0 : Bool} (h : impl_KeyWord s1 = some r0) : Ok E 113 [.val (vs s1)] [vb r0] [] := by
  refine ok_of_body (fn := Tryd.f113) Tryd.func113 rfl (by simp [Tryd.f113]) fun C hN hP => ?_
  have hPB : ∀ l, pinK [] l = true → pinB C.pin l = true := pinB_of (by rw [hP]; rfl)
  have hN' : C.N = 5 := hN
  clear hN
  unfold impl_KeyWord at h
  refine SWp.seqR rfl (hPB _ rfl) fun K hK => ?_
  refine wps_cons rfl fun K hK => ?_; simp [hN']; refine hK _ ?_; clear hK
  refine wps_nil (hK _ ?_); clear hK
  refine SWp.seqR rfl (hPB _ rfl) fun K hK => ?_
  refine wps_cons rfl fun K hK => ?_; simp [hN']; refine hK _ ?_; clear hK
  obtain ⟨r2, hc3, h⟩ := bind_some h
  refine wps_call [(.take, .tmp 3), (.take, .const (.string (⟨#[102, 110, 32, 108, 101, 116, 32, 105, 102, 32, 101, 108, 115, 101, 32, 119, 104, 105, 108, 101, 32, 112, 114, 105, 110, 116, 32, 100, 111, 32, 110, 101, 119, 32, 99, 108, 111, 110, 101, 32, 109, 117, 116, 32, 105, 110, 112, 117, 116, 32, 105, 110, 116, 32, 98, 111, 120, 32, 114, 101, 116]⟩ : ByteArray)))] rfl rfl ent126 (impl_oneOf_ok _ _ hc3) fun K hK => ?_; simp [hN']; refine hK _ ?_; clear hK
  refine wps_cons rfl fun K hK => ?_; simp [hN']; refine hK _ ?_; clear hK
  refine wps_nil (hK _ ?_); clear hK
  cases h
  refine SWp.ret ?_
  simp [thenS, inBlockS, res113]
end Go.Proofs.T
set_option linter.unusedVariables false
set_option linter.unusedSimpArgs false
set_option maxHeartbeats 1000000
namespace Go.Proofs.T
open Go.OM
theorem res86 : Tryd.f86.results.toList = [.tmp 2] := rfl
theorem ent86 : Enters E.P 86 := enters_of Tryd.func86 (by simp [Tryd.f86]) rfl
theorem impl_NameOk_ok (s1 : ByteArray) {r0 : Bool} (h : impl_NameOk s1 = some r0) : Ok E 86 [.val (vs s1)] [vb r0] [] := by
  refine ok_of_body (fn := Tryd.f86) Tryd.func86 rfl (by simp [Tryd.f86]) fun C hN hP => ?_
  have hPB : ∀ l, pinK [] l = true → pinB C.pin l = true := pinB_of (by rw [hP]; rfl)
  have hN' : C.N = 35 := hN
  clear hN
  unfold impl_NameOk at h
  refine SWp.seqR rfl (hPB _ rfl) fun K hK => ?_
  refine wps_cons rfl fun K hK => ?_; simp [hN']; refine hK _ ?_; clear hK
  refine wps_nil (hK _ ?_); clear hK
  refine SWp.seq ?_
  obtain ⟨v11, hj2, h⟩ := bind_some h
  refine SWp.seqRC rfl (hPB _ rfl) [0, 13] [] (fun _ : Unit => ⟨[(0, .t (vs s1)), (13, .t (vb v11))], []⟩) (fun _ => True) (fun _ _ => ?_) fun K3 hK3 => ?_
  rotate_left
  · refine wps_cons rfl fun K hK => ?_; simp [hN']; refine hK _ ?_; clear hK
    refine wps_cons rfl fun K hK => ?_; simp [hN']; refine hK _ ?_; clear hK
    obtain ⟨r4, hc5, hj2⟩ := bind_some hj2
    refine wps_call [(.take, .tmp 5), (.take, .const (.int .i64 1)), (.take, .const (.int .i64 8))] rfl rfl ent66 (impl_in_ok _ _ _ hc5) fun K hK => ?_; simp [hN']; refine hK _ ?_; clear hK
    iterate 2 (refine wps_cons rfl fun K hK => ?_; simp [hN']; refine hK _ ?_; clear hK)
    rcases ite_or hj2 with ⟨hb6, hj2⟩ | ⟨hb7, hj2⟩
    · have hb6s := hb6
      try simp at hb6s
      iterate 4 (refine wps_off fun K hK => ?_; simp [hN', hb6, hb6s]; refine hK _ ?_; clear hK)
      refine wps_cons rfl fun K hK => ?_; simp [hN', hb6, hb6s]; refine hK _ ?_; clear hK
      refine wps_nil ?_
      cases hj2
      exact hK3 _ () [] trivial (by simp [hN', hb6, hb6s])
    · have hb7s := hb7
      try simp at hb7s
      refine wps_cons rfl fun K hK => ?_; simp [hN', hb7, hb7s]; refine hK _ ?_; clear hK
      obtain ⟨c8, hc8, hj2⟩ := bind_some hj2
      obtain ⟨hc8a, hc8b, hc8c⟩ := sAt_some hc8
      have hc8e : 0 < s1.size := by omega
      refine wps_cons rfl fun K hK => ?_; simp [hN', hb7, hb7s, hc8a, hc8b, hc8c, hc8e]; refine hK _ ?_; clear hK
      obtain ⟨r9, hc10, hj2⟩ := bind_some hj2
      refine wps_call [(.take, .tmp 10)] rfl rfl ent111 (impl_isLetter_ok _ hc10) fun K hK => ?_; simp [hN', hb7, hb7s, hc8a, hc8b, hc8c, hc8e]; refine hK _ ?_; clear hK
      iterate 2 (refine wps_cons rfl fun K hK => ?_; simp [hN', hb7, hb7s, hc8a, hc8b, hc8c, hc8e]; refine hK _ ?_; clear hK)
      refine wps_nil ?_
      cases hj2
      exact hK3 _ () [] trivial (by simp [hN', hb7, hb7s, hc8a, hc8b, hc8c, hc8e])
  rcases ite_or h with ⟨hb12, h⟩ | ⟨hb13, h⟩
  · refine SWp.condT' (b := v11) (by simp) hb12 ?_
    refine SWp.seqR rfl (hPB _ rfl) fun K hK => ?_
    refine wps_cons rfl fun K hK => ?_; simp [hN']; refine hK _ ?_; clear hK
    refine wps_nil (hK _ ?_); clear hK
    cases h
    refine SWp.ret ?_
    simp [thenS, inBlockS, res86]
  · refine SWp.condF' (b := v11) (by simp) hb13 ?_
    refine SWp.skip ?_
    show SWp E C _ _ _
    obtain ⟨j16, hj14, h⟩ := bind_some h
    refine SWp.seqC [0] [] (fun v : Unit => ⟨[(0, .t (vs s1))], []⟩) (fun v => j16 = Sum.inl v) (fun v hv => ?_) fun K15 hK15 => ?_
    rotate_left
    · refine SWp.seqR rfl (hPB _ rfl) fun K hK => ?_
      refine wps_cons rfl fun K hK => ?_; simp [hN']; refine hK _ ?_; clear hK
      refine wps_nil (hK _ ?_); clear hK
      refine SWp.block ?_
      refine SWp.loopO [] [0, 3] [] (fun v : Int => ⟨[(0, .t (vs s1)), (3, .t (vi v))], []⟩) (impl_NameOk_l1 s1) _ 0 hj14 (by simp [hN']) ?_
      intro g s20 h18 ho19
      obtain ⟨i17, hg⟩ : ∃ y, y = g := ⟨_, rfl⟩
      subst hg
      simp only [impl_NameOk_l1] at h18
      try dsimp only
      refine SWp.seq ?_
      refine SWp.seqR rfl (hPB _ rfl) fun K hK => ?_
      iterate 4 (refine wps_cons rfl fun K hK => ?_; simp [hN']; refine hK _ ?_; clear hK)
      refine wps_nil (hK _ ?_); clear hK
      rcases ite_or h18 with ⟨hb21, h18⟩ | ⟨hb22, h18⟩
      · refine SWp.condT' (b := decide (i17 < (s1.size : Int))) (by simp) hb21 ?_
        refine SWp.skip ?_
        show SWp E C _ _ _
        refine SWp.seq ?_
        refine SWp.block ?_
        obtain ⟨v32, hj23, h18⟩ := bind_some h18
        refine SWp.seqRC rfl (hPB _ rfl) [0, 3, 31] [] (fun _ : Unit => ⟨[(0, .t (vs s1)), (3, .t (vi i17)), (31, .t (vb v32))], []⟩) (fun _ => True) (fun _ _ => ?_) fun K24 hK24 => ?_
        rotate_left
        · refine wps_cons rfl fun K hK => ?_; simp [hN']; refine hK _ ?_; clear hK
          refine wps_cons rfl fun K hK => ?_; simp [hN']; refine hK _ ?_; clear hK
          obtain ⟨c25, hc25, hj23⟩ := bind_some hj23
          obtain ⟨hc25a, hc25b, hc25c⟩ := sAt_some hc25
          refine wps_cons rfl fun K hK => ?_; simp [hN', hc25a, hc25b, hc25c]; refine hK _ ?_; clear hK
          obtain ⟨r26, hc27, hj23⟩ := bind_some hj23
          refine wps_call [(.take, .tmp 22)] rfl rfl ent111 (impl_isLetter_ok _ hc27) fun K hK => ?_; simp [hN', hc25a, hc25b, hc25c]; refine hK _ ?_; clear hK
          iterate 2 (refine wps_cons rfl fun K hK => ?_; simp [hN', hc25a, hc25b, hc25c]; refine hK _ ?_; clear hK)
          rcases ite_or hj23 with ⟨hb28, hj23⟩ | ⟨hb29, hj23⟩
          · have hb28s := hb28
            try simp at hb28s
            iterate 3 (refine wps_cons rfl fun K hK => ?_; simp [hN', hc25a, hc25b, hc25c, hb28, hb28s]; refine hK _ ?_; clear hK)
            obtain ⟨r30, hc31, hj23⟩ := bind_some hj23
            refine wps_call [(.take, .tmp 28)] rfl rfl ent112 (impl_isFigure_ok _ hc31) fun K hK => ?_; simp [hN', hc25a, hc25b, hc25c, hb28, hb28s]; refine hK _ ?_; clear hK
            iterate 2 (refine wps_cons rfl fun K hK => ?_; simp [hN', hc25a, hc25b, hc25c, hb28, hb28s]; refine hK _ ?_; clear hK)
            refine wps_nil ?_
            cases hj23
            exact hK24 _ () [] trivial (by simp [hN', hc25a, hc25b, hc25c, hb28, hb28s])
          · have hb29s := hb29
            try simp at hb29s
            iterate 5 (refine wps_off fun K hK => ?_; simp [hN', hc25a, hc25b, hc25c, hb29, hb29s]; refine hK _ ?_; clear hK)
            refine wps_cons rfl fun K hK => ?_; simp [hN', hc25a, hc25b, hc25c, hb29, hb29s]; refine hK _ ?_; clear hK
            refine wps_nil ?_
            cases hj23
            exact hK24 _ () [] trivial (by simp [hN', hc25a, hc25b, hc25c, hb29, hb29s])
        rcases ite_or h18 with ⟨hb33, h18⟩ | ⟨hb34, h18⟩
        · refine SWp.condT' (b := v32) (by simp) hb33 ?_
          refine SWp.seqR rfl (hPB _ rfl) fun K hK => ?_
          refine wps_cons rfl fun K hK => ?_; simp [hN']; refine hK _ ?_; clear hK
          refine wps_nil (hK _ ?_); clear hK
          have h35 := congrArg some (ho19 _ (Option.some.inj h18).symm)
          cases h35
          try dsimp only at h
          cases h
          refine SWp.ret ?_
          simp [thenS, inBlockS, res86]
        · refine SWp.condF' (b := v32) (by simp) hb34 ?_
          refine SWp.skip ?_
          show SWp E C _ _ _
          refine SWp.reg rfl (hPB _ rfl) fun K hK => ?_
          iterate 3 (refine wps_cons rfl fun K hK => ?_; simp [hN']; refine hK _ ?_; clear hK)
          refine wps_nil (hK _ ?_); clear hK
          cases h18
          exact ⟨_, [], rfl, by simp [hN']⟩
      · refine SWp.condF' (b := decide (i17 < (s1.size : Int))) (by simp) hb22 ?_
        refine SWp.exit ?_
        have h36 := congrArg some (ho19 _ (Option.some.inj h18).symm)
        cases h36
        exact hK15 _ _ [] rfl (by simp [hN'])
    subst hv
    obtain ⟨⟩ := v
    try dsimp only at h ⊢
    refine SWp.seqR rfl (hPB _ rfl) fun K hK => ?_
    refine wps_cons rfl fun K hK => ?_; simp [hN']; refine hK _ ?_; clear hK
    obtain ⟨r37, hc38, h⟩ := bind_some h
    refine wps_call [(.take, .tmp 32)] rfl rfl ent113 (impl_KeyWord_ok _ hc38) fun K hK => ?_; simp [hN']; refine hK _ ?_; clear hK
    iterate 2 (refine wps_cons rfl fun K hK => ?_; simp [hN']; refine hK _ ?_; clear hK)
    refine wps_nil (hK _ ?_); clear hK
    cases h
    refine SWp.ret ?_
    simp [thenS, inBlockS, res86]
end Go.Proofs.T
set_option linter.unusedVariables false
set_option linter.unusedSimpArgs false
set_option maxHeartbeats 1000000
namespace Go.Proofs.T
open Go.OM
theorem res132 : Tryd.f132.results.toList = [.tmp 2, .tmp 3] := rfl
theorem ent132 : Enters E.P 132 := enters_of Tryd.func132 (by simp [Tryd.f132]) rfl
theorem impl_shape_ok (kind1 : Int) {r0 : Int} {r1 : Int} (h : impl_shape kind1 = some (r0, r1)) : Ok E 132 [.val (vi kind1)] [vi r0, vi r1] [] := by
  refine ok_of_body (fn := Tryd.f132) Tryd.func132 rfl (by simp [Tryd.f132]) fun C hN hP => ?_
  have hPB : ∀ l, pinK [] l = true → pinB C.pin l = true := pinB_of (by rw [hP]; rfl)
  have hN' : C.N = 23 := hN
  clear hN
  unfold impl_shape at h
  refine SWp.seqR rfl (hPB _ rfl) fun K hK => ?_
  iterate 2 (refine wps_cons rfl fun K hK => ?_; simp [hN']; refine hK _ ?_; clear hK)
  refine wps_nil (hK _ ?_); clear hK
  refine SWp.seq ?_
  refine SWp.seqR rfl (hPB _ rfl) fun K hK => ?_
  refine wps_cons rfl fun K hK => ?_; simp [hN']; refine hK _ ?_; clear hK
  refine wps_nil (hK _ ?_); clear hK
  refine SWp.block ?_
  obtain ⟨v15, hj2, h⟩ := bind_some h
  refine SWp.seqC [4, 5] [] (fun _ : Unit => ⟨[(4, .t (vi kind1)), (5, .t (vb v15))], []⟩) (fun _ => True) (fun _ _ => ?_) fun K3 hK3 => ?_
  rotate_left
  · refine SWp.seqR rfl (hPB _ rfl) fun K hK => ?_
    iterate 2 (refine wps_cons rfl fun K hK => ?_; simp [hN']; refine hK _ ?_; clear hK)
    refine wps_nil (hK _ ?_); clear hK
    rcases ite_or hj2 with ⟨hb5, hj2⟩ | ⟨hb6, hj2⟩
    · refine SWp.condT' (b := kind1 == 8) (by simp) hb5 ?_
      refine SWp.skip ?_
      cases hj2
      exact hK3 _ () [] trivial (by simp [hN'])
    · refine SWp.condF' (b := kind1 == 8) (by simp) hb6 ?_
      refine SWp.seqR rfl (hPB _ rfl) fun K hK => ?_
      iterate 2 (refine wps_cons rfl fun K hK => ?_; simp [hN']; refine hK _ ?_; clear hK)
      refine wps_nil (hK _ ?_); clear hK
      rcases ite_or hj2 with ⟨hb7, hj2⟩ | ⟨hb8, hj2⟩
      · refine SWp.condT' (b := kind1 == 13) (by simp) hb7 ?_
        refine SWp.skip ?_
        cases hj2
        exact hK3 _ () [] trivial (by simp [hN'])
      · refine SWp.condF' (b := kind1 == 13) (by simp) hb8 ?_
        refine SWp.seqR rfl (hPB _ rfl) fun K hK => ?_
        iterate 2 (refine wps_cons rfl fun K hK => ?_; simp [hN']; refine hK _ ?_; clear hK)
        refine wps_nil (hK _ ?_); clear hK
        rcases ite_or hj2 with ⟨hb9, hj2⟩ | ⟨hb10, hj2⟩
        · refine SWp.condT' (b := kind1 == 14) (by simp) hb9 ?_
          refine SWp.skip ?_
          cases hj2
          exact hK3 _ () [] trivial (by simp [hN'])
        · refine SWp.condF' (b := kind1 == 14) (by simp) hb10 ?_
          refine SWp.seqR rfl (hPB _ rfl) fun K hK => ?_
          iterate 2 (refine wps_cons rfl fun K hK => ?_; simp [hN']; refine hK _ ?_; clear hK)
          refine wps_nil (hK _ ?_); clear hK
          rcases ite_or hj2 with ⟨hb11, hj2⟩ | ⟨hb12, hj2⟩
          · refine SWp.condT' (b := kind1 == 15) (by simp) hb11 ?_
            refine SWp.skip ?_
            cases hj2
            exact hK3 _ () [] trivial (by simp [hN'])
          · refine SWp.condF' (b := kind1 == 15) (by simp) hb12 ?_
            refine SWp.seqR rfl (hPB _ rfl) fun K hK => ?_
            iterate 2 (refine wps_cons rfl fun K hK => ?_; simp [hN']; refine hK _ ?_; clear hK)
            refine wps_nil (hK _ ?_); clear hK
            rcases ite_or hj2 with ⟨hb13, hj2⟩ | ⟨hb14, hj2⟩
            · refine SWp.condT' (b := kind1 == 18) (by simp) hb13 ?_
              refine SWp.skip ?_
              cases hj2
              exact hK3 _ () [] trivial (by simp [hN'])
            · refine SWp.condF' (b := kind1 == 18) (by simp) hb14 ?_
              refine SWp.reg rfl (hPB _ rfl) fun K hK => ?_
              iterate 2 (refine wps_cons rfl fun K hK => ?_; simp [hN']; refine hK _ ?_; clear hK)
              refine wps_nil (hK _ ?_); clear hK
              cases hj2
              exact hK3 _ () [] trivial (by simp [hN'])
  rcases ite_or h with ⟨hb16, h⟩ | ⟨hb17, h⟩
  · refine SWp.condT' (b := v15) (by simp) hb16 ?_
    refine SWp.seqR rfl (hPB _ rfl) fun K hK => ?_
    iterate 2 (refine wps_cons rfl fun K hK => ?_; simp [hN']; refine hK _ ?_; clear hK)
    refine wps_nil (hK _ ?_); clear hK
    cases h
    refine SWp.ret ?_
    simp [thenS, inBlockS, res132]
  · refine SWp.condF' (b := v15) (by simp) hb17 ?_
    obtain ⟨v27, hj18, h⟩ := bind_some h
    refine SWp.seqC [4, 12] [] (fun _ : Unit => ⟨[(4, .t (vi kind1)), (12, .t (vb v27))], []⟩) (fun _ => True) (fun _ _ => ?_) fun K19 hK19 => ?_
    rotate_left
    · refine SWp.seqR rfl (hPB _ rfl) fun K hK => ?_
      iterate 2 (refine wps_cons rfl fun K hK => ?_; simp [hN']; refine hK _ ?_; clear hK)
      refine wps_nil (hK _ ?_); clear hK
      rcases ite_or hj18 with ⟨hb21, hj18⟩ | ⟨hb22, hj18⟩
      · refine SWp.condT' (b := kind1 == 9) (by simp) hb21 ?_
        refine SWp.skip ?_
        cases hj18
        exact hK19 _ () [] trivial (by simp [hN'])
      · refine SWp.condF' (b := kind1 == 9) (by simp) hb22 ?_
        refine SWp.seqR rfl (hPB _ rfl) fun K hK => ?_
        iterate 2 (refine wps_cons rfl fun K hK => ?_; simp [hN']; refine hK _ ?_; clear hK)
        refine wps_nil (hK _ ?_); clear hK
        rcases ite_or hj18 with ⟨hb23, hj18⟩ | ⟨hb24, hj18⟩
        · refine SWp.condT' (b := kind1 == 10) (by simp) hb23 ?_
          refine SWp.skip ?_
          cases hj18
          exact hK19 _ () [] trivial (by simp [hN'])
        · refine SWp.condF' (b := kind1 == 10) (by simp) hb24 ?_
          refine SWp.seqR rfl (hPB _ rfl) fun K hK => ?_
          iterate 2 (refine wps_cons rfl fun K hK => ?_; simp [hN']; refine hK _ ?_; clear hK)
          refine wps_nil (hK _ ?_); clear hK
          rcases ite_or hj18 with ⟨hb25, hj18⟩ | ⟨hb26, hj18⟩
          · refine SWp.condT' (b := kind1 == 11) (by simp) hb25 ?_
            refine SWp.skip ?_
            cases hj18
            exact hK19 _ () [] trivial (by simp [hN'])
          · refine SWp.condF' (b := kind1 == 11) (by simp) hb26 ?_
            refine SWp.reg rfl (hPB _ rfl) fun K hK => ?_
            iterate 2 (refine wps_cons rfl fun K hK => ?_; simp [hN']; refine hK _ ?_; clear hK)
            refine wps_nil (hK _ ?_); clear hK
            cases hj18
            exact hK19 _ () [] trivial (by simp [hN'])
    rcases ite_or h with ⟨hb28, h⟩ | ⟨hb29, h⟩
    · refine SWp.condT' (b := v27) (by simp) hb28 ?_
      refine SWp.seqR rfl (hPB _ rfl) fun K hK => ?_
      iterate 2 (refine wps_cons rfl fun K hK => ?_; simp [hN']; refine hK _ ?_; clear hK)
      refine wps_nil (hK _ ?_); clear hK
      cases h
      refine SWp.ret ?_
      simp [thenS, inBlockS, res132]
    · refine SWp.condF' (b := v27) (by simp) hb29 ?_
      refine SWp.seqR rfl (hPB _ rfl) fun K hK => ?_
      iterate 2 (refine wps_cons rfl fun K hK => ?_; simp [hN']; refine hK _ ?_; clear hK)
      refine wps_nil (hK _ ?_); clear hK
      rcases ite_or h with ⟨hb30, h⟩ | ⟨hb31, h⟩
      · refine SWp.condT' (b := kind1 == 16) (by simp) hb30 ?_
        refine SWp.seqR rfl (hPB _ rfl) fun K hK => ?_
        iterate 2 (refine wps_cons rfl fun K hK => ?_; simp [hN']; refine hK _ ?_; clear hK)
        refine wps_nil (hK _ ?_); clear hK
        cases h
        refine SWp.ret ?_
        simp [thenS, inBlockS, res132]
      · refine SWp.condF' (b := kind1 == 16) (by simp) hb31 ?_
        refine SWp.seqR rfl (hPB _ rfl) fun K hK => ?_
        iterate 2 (refine wps_cons rfl fun K hK => ?_; simp [hN']; refine hK _ ?_; clear hK)
        refine wps_nil (hK _ ?_); clear hK
        rcases ite_or h with ⟨hb32, h⟩ | ⟨hb33, h⟩
        · refine SWp.condT' (b := kind1 == 12) (by simp) hb32 ?_
          refine SWp.seqR rfl (hPB _ rfl) fun K hK => ?_
          iterate 2 (refine wps_cons rfl fun K hK => ?_; simp [hN']; refine hK _ ?_; clear hK)
          refine wps_nil (hK _ ?_); clear hK
          cases h
          refine SWp.ret ?_
          simp [thenS, inBlockS, res132]
        · refine SWp.condF' (b := kind1 == 12) (by simp) hb33 ?_
          refine SWp.seqR rfl (hPB _ rfl) fun K hK => ?_
          iterate 2 (refine wps_cons rfl fun K hK => ?_; simp [hN']; refine hK _ ?_; clear hK)
          refine wps_nil (hK _ ?_); clear hK
          rcases ite_or h with ⟨hb34, h⟩ | ⟨hb35, h⟩
          · refine SWp.condT' (b := kind1 == 20) (by simp) hb34 ?_
            refine SWp.seqR rfl (hPB _ rfl) fun K hK => ?_
            iterate 2 (refine wps_cons rfl fun K hK => ?_; simp [hN']; refine hK _ ?_; clear hK)
            refine wps_nil (hK _ ?_); clear hK
            cases h
            refine SWp.ret ?_
            simp [thenS, inBlockS, res132]
          · refine SWp.condF' (b := kind1 == 20) (by simp) hb35 ?_
            refine SWp.skip ?_
            show SWp E C _ _ _
            refine SWp.seqR rfl (hPB _ rfl) fun K hK => ?_
            iterate 2 (refine wps_cons rfl fun K hK => ?_; simp [hN']; refine hK _ ?_; clear hK)
            refine wps_nil (hK _ ?_); clear hK
            cases h
            refine SWp.ret ?_
            simp [thenS, inBlockS, res132]
end Go.Proofs.T
set_option linter.unusedVariables false
set_option linter.unusedSimpArgs false
set_option maxHeartbeats 1000000
namespace Go.Proofs.T
open Go.OM
theorem res143 : Tryd.f143.results.toList = [.tmp 2] := rfl
theorem ent143 : Enters E.P 143 := enters_of Tryd.func143 (by simp [Tryd.f143]) rfl
theorem impl_isStep_ok (kind1 : Int) {r0 : Bool} (h : impl_isStep kind1 = some r0) : Ok E 143 [.val (vi kind1)] [vb r0] [] := by
  refine ok_of_body (fn := Tryd.f143) Tryd.func143 rfl (by simp [Tryd.f143]) fun C hN hP => ?_
  have hPB : ∀ l, pinK [] l = true → pinB C.pin l = true := pinB_of (by rw [hP]; rfl)
  have hN' : C.N = 5 := hN
  clear hN
  unfold impl_isStep at h
  refine SWp.seqR rfl (hPB _ rfl) fun K hK => ?_
  refine wps_cons rfl fun K hK => ?_; simp [hN']; refine hK _ ?_; clear hK
  refine wps_nil (hK _ ?_); clear hK
  refine SWp.seqR rfl (hPB _ rfl) fun K hK => ?_
  refine wps_cons rfl fun K hK => ?_; simp [hN']; refine hK _ ?_; clear hK
  obtain ⟨r2, hc3, h⟩ := bind_some h
  refine wps_call [(.take, .tmp 3), (.take, .const (.int .i64 13)), (.take, .const (.int .i64 19))] rfl rfl ent66 (impl_in_ok _ _ _ hc3) fun K hK => ?_; simp [hN']; refine hK _ ?_; clear hK
  refine wps_cons rfl fun K hK => ?_; simp [hN']; refine hK _ ?_; clear hK
  refine wps_nil (hK _ ?_); clear hK
  cases h
  refine SWp.ret ?_
  simp [thenS, inBlockS, res143]
end Go.Proofs.T
set_option linter.unusedVariables false
set_option linter.unusedSimpArgs false
set_option maxHeartbeats 1000000
namespace Go.Proofs.T
open Go.OM
theorem res144 : Tryd.f144.results.toList = [.tmp 2] := rfl
theorem ent144 : Enters E.P 144 := enters_of Tryd.func144 (by simp [Tryd.f144]) rfl
theorem impl_isValue_ok (kind1 : Int) {r0 : Bool} (h : impl_isValue kind1 = some r0) : Ok E 144 [.val (vi kind1)] [vb r0] [] := by
  refine ok_of_body (fn := Tryd.f144) Tryd.func144 rfl (by simp [Tryd.f144]) fun C hN hP => ?_
  have hPB : ∀ l, pinK [] l = true → pinB C.pin l = true := pinB_of (by rw [hP]; rfl)
  have hN' : C.N = 5 := hN
  clear hN
  unfold impl_isValue at h
  refine SWp.seqR rfl (hPB _ rfl) fun K hK => ?_
  refine wps_cons rfl fun K hK => ?_; simp [hN']; refine hK _ ?_; clear hK
  refine wps_nil (hK _ ?_); clear hK
  refine SWp.seqR rfl (hPB _ rfl) fun K hK => ?_
  refine wps_cons rfl fun K hK => ?_; simp [hN']; refine hK _ ?_; clear hK
  obtain ⟨r2, hc3, h⟩ := bind_some h
  refine wps_call [(.take, .tmp 3), (.take, .const (.int .i64 1)), (.take, .const (.int .i64 12))] rfl rfl ent66 (impl_in_ok _ _ _ hc3) fun K hK => ?_; simp [hN']; refine hK _ ?_; clear hK
  refine wps_cons rfl fun K hK => ?_; simp [hN']; refine hK _ ?_; clear hK
  refine wps_nil (hK _ ?_); clear hK
  cases h
  refine SWp.ret ?_
  simp [thenS, inBlockS, res144]
end Go.Proofs.T
set_option linter.unusedVariables false
set_option linter.unusedSimpArgs false
set_option maxHeartbeats 1000000
namespace Go.Proofs.T
open Go.OM
theorem res133 : Tryd.f133.results.toList = [.tmp 6] := rfl
theorem ent133 : Enters E.P 133 := enters_of Tryd.func133 (by simp [Tryd.f133]) rfl
theorem impl_kidFits_ok (kind1 : Int) (i2 : Int) (kid3 : Int) {r0 : Bool} (h : impl_kidFits kind1 i2 kid3 = some r0) : Ok E 133 [.val (vi kind1), .val (vi i2), .val (vi kid3)] [vb r0] [] := by
  refine ok_of_body (fn := Tryd.f133) Tryd.func133 rfl (by simp [Tryd.f133]) fun C hN hP => ?_
  have hPB : ∀ l, pinK [] l = true → pinB C.pin l = true := pinB_of (by rw [hP]; rfl)
  have hN' : C.N = 32 := hN
  clear hN
  unfold impl_kidFits at h
  refine SWp.seqR rfl (hPB _ rfl) fun K hK => ?_
  refine wps_cons rfl fun K hK => ?_; simp [hN']; refine hK _ ?_; clear hK
  refine wps_nil (hK _ ?_); clear hK
  refine SWp.seq ?_
  refine SWp.block ?_
  refine SWp.seqR rfl (hPB _ rfl) fun K hK => ?_
  iterate 3 (refine wps_cons rfl fun K hK => ?_; simp [hN']; refine hK _ ?_; clear hK)
  refine wps_nil (hK _ ?_); clear hK
  rcases ite_or h with ⟨hb4, h⟩ | ⟨hb5, h⟩
  · refine SWp.condT' (b := kind1 == 20) (by simp) hb4 ?_
    refine SWp.seqR rfl (hPB _ rfl) fun K hK => ?_
    refine wps_cons rfl fun K hK => ?_; simp [hN']; refine hK _ ?_; clear hK
    obtain ⟨r6, hc7, h⟩ := bind_some h
    refine wps_call [(.take, .tmp 10)] rfl rfl ent143 (impl_isStep_ok _ hc7) fun K hK => ?_; simp [hN']; refine hK _ ?_; clear hK
    refine wps_cons rfl fun K hK => ?_; simp [hN']; refine hK _ ?_; clear hK
    refine wps_nil (hK _ ?_); clear hK
    cases h
    refine SWp.ret ?_
    simp [thenS, inBlockS, res133]
  · refine SWp.condF' (b := kind1 == 20) (by simp) hb5 ?_
    obtain ⟨v14, hj8, h⟩ := bind_some h
    refine SWp.seqRC rfl (hPB _ rfl) [0, 2, 12] [] (fun _ : Unit => ⟨[(0, .t (vi kind1)), (2, .t (vi kid3)), (12, .t (vb v14))], []⟩) (fun _ => True) (fun _ _ => ?_) fun K9 hK9 => ?_
    rotate_left
    · refine wps_cons rfl fun K hK => ?_; simp [hN']; refine hK _ ?_; clear hK
      iterate 2 (refine wps_cons rfl fun K hK => ?_; simp [hN']; refine hK _ ?_; clear hK)
      rcases ite_or hj8 with ⟨hb10, hj8⟩ | ⟨hb11, hj8⟩
      · have hb10s := hb10
        try simp at hb10s
        iterate 2 (refine wps_off fun K hK => ?_; simp [hN', hb10, hb10s]; refine hK _ ?_; clear hK)
        iterate 6 (refine wps_cons rfl fun K hK => ?_; simp [hN', hb10, hb10s]; refine hK _ ?_; clear hK)
        refine wps_nil ?_
        cases hj8
        exact hK9 _ () [] trivial (by simp [hN', hb10, hb10s])
      · have hb11s := hb11
        try simp at hb11s
        iterate 4 (refine wps_cons rfl fun K hK => ?_; simp [hN', hb11, hb11s]; refine hK _ ?_; clear hK)
        rcases ite_or hj8 with ⟨hb12, hj8⟩ | ⟨hb13, hj8⟩
        · have hb12s := hb12
          try simp at hb12s
          iterate 4 (refine wps_cons rfl fun K hK => ?_; simp [hN', hb11, hb11s, hb12, hb12s]; refine hK _ ?_; clear hK)
          refine wps_nil ?_
          cases hj8
          exact hK9 _ () [] trivial (by simp [hN', hb11, hb11s, hb12, hb12s])
        · have hb13s := hb13
          try simp at hb13s
          iterate 2 (refine wps_off fun K hK => ?_; simp [hN', hb11, hb11s, hb13, hb13s]; refine hK _ ?_; clear hK)
          iterate 2 (refine wps_cons rfl fun K hK => ?_; simp [hN', hb11, hb11s, hb13, hb13s]; refine hK _ ?_; clear hK)
          refine wps_nil ?_
          cases hj8
          exact hK9 _ () [] trivial (by simp [hN', hb11, hb11s, hb13, hb13s])
    rcases ite_or h with ⟨hb15, h⟩ | ⟨hb16, h⟩
    · refine SWp.condT' (b := v14) (by simp) hb15 ?_
      refine SWp.seqR rfl (hPB _ rfl) fun K hK => ?_
      iterate 3 (refine wps_cons rfl fun K hK => ?_; simp [hN']; refine hK _ ?_; clear hK)
      refine wps_nil (hK _ ?_); clear hK
      cases h
      refine SWp.ret ?_
      simp [thenS, inBlockS, res133]
    · refine SWp.condF' (b := v14) (by simp) hb16 ?_
      refine SWp.seqR rfl (hPB _ rfl) fun K hK => ?_
      iterate 3 (refine wps_cons rfl fun K hK => ?_; simp [hN']; refine hK _ ?_; clear hK)
      refine wps_nil (hK _ ?_); clear hK
      rcases ite_or h with ⟨hb17, h⟩ | ⟨hb18, h⟩
      · refine SWp.condT' (b := kind1 == 19) (by simp) hb17 ?_
        refine SWp.seqR rfl (hPB _ rfl) fun K hK => ?_
        iterate 3 (refine wps_cons rfl fun K hK => ?_; simp [hN']; refine hK _ ?_; clear hK)
        refine wps_nil (hK _ ?_); clear hK
        cases h
        refine SWp.ret ?_
        simp [thenS, inBlockS, res133]
      · refine SWp.condF' (b := kind1 == 19) (by simp) hb18 ?_
        refine SWp.skip ?_
        show SWp E C _ _ _
        refine SWp.seqR rfl (hPB _ rfl) fun K hK => ?_
        refine wps_cons rfl fun K hK => ?_; simp [hN']; refine hK _ ?_; clear hK
        obtain ⟨r19, hc20, h⟩ := bind_some h
        refine wps_call [(.take, .tmp 30)] rfl rfl ent144 (impl_isValue_ok _ hc20) fun K hK => ?_; simp [hN']; refine hK _ ?_; clear hK
        refine wps_cons rfl fun K hK => ?_; simp [hN']; refine hK _ ?_; clear hK
        refine wps_nil (hK _ ?_); clear hK
        cases h
        refine SWp.ret ?_
        simp [thenS, inBlockS, res133]
end Go.Proofs.T
set_option linter.unusedVariables false
set_option linter.unusedSimpArgs false
set_option maxHeartbeats 1000000
namespace Go.Proofs.T
open Go.OM
theorem res134 : Tryd.f134.results.toList = [.tmp 2] := rfl
theorem ent134 : Enters E.P 134 := enters_of Tryd.func134 (by simp [Tryd.f134]) rfl
theorem impl_hasName_ok (kind1 : Int) {r0 : Bool} (h : impl_hasName kind1 = some r0) : Ok E 134 [.val (vi kind1)] [vb r0] [] := by
  refine ok_of_body (fn := Tryd.f134) Tryd.func134 rfl (by simp [Tryd.f134]) fun C hN hP => ?_
  have hPB : ∀ l, pinK [] l = true → pinB C.pin l = true := pinB_of (by rw [hP]; rfl)
  have hN' : C.N = 9 := hN
  clear hN
  unfold impl_hasName at h
  refine SWp.seqR rfl (hPB _ rfl) fun K hK => ?_
  refine wps_cons rfl fun K hK => ?_; simp [hN']; refine hK _ ?_; clear hK
  refine wps_nil (hK _ ?_); clear hK
  obtain ⟨v10, hj2, h⟩ := bind_some h
  refine SWp.seqRC rfl (hPB _ rfl) [2] [] (fun _ : Unit => ⟨[(2, .t (vb v10))], []⟩) (fun _ => True) (fun _ _ => ?_) fun K3 hK3 => ?_
  rotate_left
  · refine wps_cons rfl fun K hK => ?_; simp [hN']; refine hK _ ?_; clear hK
    obtain ⟨r4, hc5, hj2⟩ := bind_some hj2
    refine wps_call [(.take, .tmp 3), (.take, .const (.int .i64 2)), (.take, .const (.int .i64 6))] rfl rfl ent66 (impl_in_ok _ _ _ hc5) fun K hK => ?_; simp [hN']; refine hK _ ?_; clear hK
    refine wps_cons rfl fun K hK => ?_; simp [hN']; refine hK _ ?_; clear hK
    rcases ite_or hj2 with ⟨hb6, hj2⟩ | ⟨hb7, hj2⟩
    · have hb6s := hb6
      try simp at hb6s
      iterate 2 (refine wps_off fun K hK => ?_; simp [hN', hb6, hb6s]; refine hK _ ?_; clear hK)
      iterate 2 (refine wps_cons rfl fun K hK => ?_; simp [hN', hb6, hb6s]; refine hK _ ?_; clear hK)
      refine wps_nil ?_
      cases hj2
      exact hK3 _ () [] trivial (by simp [hN', hb6, hb6s])
    · have hb7s := hb7
      try simp at hb7s
      refine wps_cons rfl fun K hK => ?_; simp [hN', hb7, hb7s]; refine hK _ ?_; clear hK
      obtain ⟨r8, hc9, hj2⟩ := bind_some hj2
      refine wps_call [(.take, .tmp 6), (.take, .const (.int .i64 12)), (.take, .const (.int .i64 15))] rfl rfl ent66 (impl_in_ok _ _ _ hc9) fun K hK => ?_; simp [hN', hb7, hb7s]; refine hK _ ?_; clear hK
      iterate 2 (refine wps_cons rfl fun K hK => ?_; simp [hN', hb7, hb7s]; refine hK _ ?_; clear hK)
      refine wps_nil ?_
      cases hj2
      exact hK3 _ () [] trivial (by simp [hN', hb7, hb7s])
  cases h
  refine SWp.ret ?_
  simp [thenS, inBlockS, res134]
end Go.Proofs.T
set_option linter.unusedVariables false
set_option linter.unusedSimpArgs false
set_option maxHeartbeats 1000000
namespace Go.Proofs.T
open Go.OM
theorem res121 : Tryd.f121.results.toList = [.tmp 4] := rfl
theorem ent121 : Enters E.P 121 := enters_of Tryd.func121 (by simp [Tryd.f121]) rfl
theorem impl_NodeOk_ok (nodes1 : List GNode) (k2 : Int) {r0 : Bool} (h : impl_NodeOk nodes1 k2 = some r0) : Ok E 121 [.val (.sl false 4 (List.map (GNode.enc false) nodes1)), .val (vi k2)] [vb r0] [] := by
  refine ok_of_body (fn := Tryd.f121) Tryd.func121 rfl (by simp [Tryd.f121]) fun C hN hP => ?_
  have hPB : ∀ l, pinK [] l = true → pinB C.pin l = true := pinB_of (by rw [hP]; rfl)
  have hN' : C.N = 101 := hN
  clear hN
  unfold impl_NodeOk at h
  refine SWp.seqR rfl (hPB _ rfl) fun K hK => ?_
  refine wps_cons rfl fun K hK => ?_; simp [hN']; refine hK _ ?_; clear hK
  refine wps_nil (hK _ ?_); clear hK
  refine SWp.seq ?_
  refine SWp.seqR rfl (hPB _ rfl) fun K hK => ?_
  iterate 4 (refine wps_cons rfl fun K hK => ?_; simp [hN']; refine hK _ ?_; clear hK)
  obtain ⟨r3, hc4, h⟩ := bind_some h
  refine wps_call [(.take, .tmp 10), (.take, .const (.int .i64 0)), (.take, .tmp 13)] rfl rfl ent66 (impl_in_ok _ _ _ hc4) fun K hK => ?_; simp [hN']; refine hK _ ?_; clear hK
  refine wps_cons rfl fun K hK => ?_; simp [hN']; refine hK _ ?_; clear hK
  refine wps_nil (hK _ ?_); clear hK
  rcases ite_or h with ⟨hb5, h⟩ | ⟨hb6, h⟩
  · refine SWp.condT' (b := !r3) (by simp) hb5 ?_
    refine SWp.seqR rfl (hPB _ rfl) fun K hK => ?_
    refine wps_cons rfl fun K hK => ?_; simp [hN']; refine hK _ ?_; clear hK
    refine wps_nil (hK _ ?_); clear hK
    cases h
    refine SWp.ret ?_
    simp [thenS, inBlockS, res121]
  · refine SWp.condF' (b := !r3) (by simp) hb6 ?_
    refine SWp.skip ?_
    show SWp E C _ _ _
    refine SWp.seqR rfl (hPB _ rfl) fun K hK => ?_
    iterate 2 (refine wps_cons rfl fun K hK => ?_; simp [hN']; refine hK _ ?_; clear hK)
    obtain ⟨e7, he7, h⟩ := bind_some h
    obtain ⟨he7a, he7b, he7c, he7d⟩ := getI_some he7
    iterate 4 (refine wps_cons rfl fun K hK => ?_; simp [hN', he7a, he7b, he7c, he7d]; refine hK _ ?_; clear hK)
    refine wps_nil (hK _ ?_); clear hK
    refine SWp.seqR rfl (hPB _ rfl) fun K hK => ?_
    iterate 2 (refine wps_cons rfl fun K hK => ?_; simp [hN']; refine hK _ ?_; clear hK)
    obtain ⟨⟨r8, r9⟩, hc10, h⟩ := bind_some h
    try dsimp only at h
    refine wps_call [(.take, .tmp 22)] rfl rfl ent132 (impl_shape_ok _ hc10) fun K hK => ?_; simp [hN']; refine hK _ ?_; clear hK
    iterate 5 (refine wps_cons rfl fun K hK => ?_; simp [hN']; refine hK _ ?_; clear hK)
    refine wps_nil (hK _ ?_); clear hK
    refine SWp.seq ?_
    obtain ⟨v19, hj11, h⟩ := bind_some h
    refine SWp.seqRC rfl (hPB _ rfl) [0, 1, 5, 38] [5] (fun _ : Unit => ⟨[(0, .t (.sl false 4 (List.map (GNode.enc false) nodes1))), (1, .t (vi k2)), (5, .ref (.box 5) 0 []), (38, .t (vb v19))], [(5, [vi e7.Kind, vi e7.Num, vs e7.Name, .sl false 1 (List.map vi e7.Kids)])]⟩) (fun _ => True) (fun _ _ => ?_) fun K12 hK12 => ?_
    rotate_left
    · refine wps_cons rfl fun K hK => ?_; simp [hN']; refine hK _ ?_; clear hK
      refine wps_cons rfl fun K hK => ?_; simp [hN']; refine hK _ ?_; clear hK
      obtain ⟨r13, hc14, hj11⟩ := bind_some hj11
      refine wps_call [(.take, .tmp 27), (.take, .const (.int .i64 1)), (.take, .const (.int .i64 20))] rfl rfl ent66 (impl_in_ok _ _ _ hc14) fun K hK => ?_; simp [hN']; refine hK _ ?_; clear hK
      iterate 2 (refine wps_cons rfl fun K hK => ?_; simp [hN']; refine hK _ ?_; clear hK)
      rcases ite_or hj11 with ⟨hb15, hj11⟩ | ⟨hb16, hj11⟩
      · have hb15s := hb15
        try simp at hb15s
        iterate 7 (refine wps_off fun K hK => ?_; simp [hN', hb15, hb15s]; refine hK _ ?_; clear hK)
        refine wps_cons rfl fun K hK => ?_; simp [hN', hb15, hb15s]; refine hK _ ?_; clear hK
        refine wps_nil ?_
        cases hj11
        exact hK12 _ () [] trivial (by simp [hN', hb15, hb15s])
      · have hb16s := hb16
        try simp at hb16s
        iterate 5 (refine wps_cons rfl fun K hK => ?_; simp [hN', hb16, hb16s]; refine hK _ ?_; clear hK)
        obtain ⟨r17, hc18, hj11⟩ := bind_some hj11
        refine wps_call [(.take, .tmp 33), (.take, .tmp 34), (.take, .tmp 35)] rfl rfl ent66 (impl_in_ok _ _ _ hc18) fun K hK => ?_; simp [hN', hb16, hb16s]; refine hK _ ?_; clear hK
        iterate 2 (refine wps_cons rfl fun K hK => ?_; simp [hN', hb16, hb16s]; refine hK _ ?_; clear hK)
        refine wps_nil ?_
        cases hj11
        exact hK12 _ () [] trivial (by simp [hN', hb16, hb16s])
    rcases ite_or h with ⟨hb20, h⟩ | ⟨hb21, h⟩
    · refine SWp.condT' (b := v19) (by simp) hb20 ?_
      refine SWp.seqR rfl (hPB _ rfl) fun K hK => ?_
      refine wps_cons rfl fun K hK => ?_; simp [hN']; refine hK _ ?_; clear hK
      refine wps_nil (hK _ ?_); clear hK
      cases h
      refine SWp.ret ?_
      simp [thenS, inBlockS, res121]
    · refine SWp.condF' (b := v19) (by simp) hb21 ?_
      refine SWp.skip ?_
      show SWp E C _ _ _
      obtain ⟨j24, hj22, h⟩ := bind_some h
      refine SWp.seqC [5] [5] (fun v : Unit => ⟨[(5, .ref (.box 5) 0 [])], [(5, [vi e7.Kind, vi e7.Num, vs e7.Name, .sl false 1 (List.map vi e7.Kids)])]⟩) (fun v => j24 = Sum.inl v) (fun v hv => ?_) fun K23 hK23 => ?_
      rotate_left
      · refine SWp.seqR rfl (hPB _ rfl) fun K hK => ?_
        iterate 4 (refine wps_cons rfl fun K hK => ?_; simp [hN']; refine hK _ ?_; clear hK)
        refine wps_nil (hK _ ?_); clear hK
        refine SWp.block ?_
        refine SWp.loopO [] [0, 1, 5, 40, 41, 42] [5] (fun v : Int => ⟨[(0, .t (.sl false 4 (List.map (GNode.enc false) nodes1))), (1, .t (vi k2)), (5, .ref (.box 5) 0 []), (40, .t (.sl false 1 (List.map vi e7.Kids))), (41, .t (vi (e7.Kids.length : Int))), (42, .t (vi v))], [(5, [vi e7.Kind, vi e7.Num, vs e7.Name, .sl false 1 (List.map vi e7.Kids)])]⟩) (impl_NodeOk_l1 nodes1 k2 e7) _ 0 hj22 (by simp [hN']) ?_
        intro g s28 h26 ho27
        obtain ⟨v25, hg⟩ : ∃ y, y = g := ⟨_, rfl⟩
        subst hg
        simp only [impl_NodeOk_l1] at h26
        try dsimp only
        refine SWp.seqR rfl (hPB _ rfl) fun K hK => ?_
        refine wps_cons rfl fun K hK => ?_; simp [hN']; refine hK _ ?_; clear hK
        refine wps_nil (hK _ ?_); clear hK
        refine SWp.seq ?_
        rcases ite_or h26 with ⟨hb29, h26⟩ | ⟨hb30, h26⟩
        · refine SWp.condT' (b := decide (v25 < (e7.Kids.length : Int))) (by simp) hb29 ?_
          refine SWp.skip ?_
          show SWp E C _ _ _
          refine SWp.seq ?_
          refine SWp.block ?_
          refine SWp.seqR rfl (hPB _ rfl) fun K hK => ?_
          refine wps_cons rfl fun K hK => ?_; simp [hN']; refine hK _ ?_; clear hK
          obtain ⟨e31, he31, h26⟩ := bind_some h26
          obtain ⟨he31a, he31b, he31c, he31d⟩ := getI_some he31
          iterate 4 (refine wps_cons rfl fun K hK => ?_; simp [hN', he31a, he31b, he31c, he31d]; refine hK _ ?_; clear hK)
          refine wps_nil (hK _ ?_); clear hK
          obtain ⟨v46, hj32, h26⟩ := bind_some h26
          refine SWp.seqC [0, 1, 5, 40, 41, 42, 71] [5] (fun _ : Unit => ⟨[(0, .t (.sl false 4 (List.map (GNode.enc false) nodes1))), (1, .t (vi k2)), (5, .ref (.box 5) 0 []), (40, .t (.sl false 1 (List.map vi e7.Kids))), (41, .t (vi (e7.Kids.length : Int))), (42, .t (vi v25)), (71, .t (vb v46))], [(5, [vi e7.Kind, vi e7.Num, vs e7.Name, .sl false 1 (List.map vi e7.Kids)])]⟩) (fun _ => True) (fun _ _ => ?_) fun K33 hK33 => ?_
          rotate_left
          · obtain ⟨r34, hc35, hj32⟩ := bind_some hj32
            rcases ite_or hj32 with ⟨hb36, hj32⟩ | ⟨hb37, hj32⟩
            · have hb36s := hb36
              try simp at hb36s
              refine SWp.drawT rfl (hPB _ rfl) [(47, .t (vi e31)), (48, .t (vi k2)), (49, .t (vi (IntKind.wrap .i64 (k2 - 1)))), (50, .t (vb r34)), (51, .t (vb (!r34))), (52, .t (vb (!r34))), (53, .tup []), (54, .tup []), (55, .tup []), (56, .tup []), (57, .tup []), (58, .tup []), (59, .t (vb true)), (60, .t (vb true)), (61, .tup []), (62, .tup []), (63, .tup []), (64, .tup []), (65, .tup []), (66, .tup []), (67, .tup []), (68, .tup [])] [[], [], [1], [0, 1, 2], [0, 1, 2, 3], [0, 1, 2, 3, 4], [0, 1, 2, 3, 4, 5], [0, 1, 2, 3, 4, 5, 6], [0, 1, 2, 3, 4, 5], [0, 1, 2, 3, 4, 5, 6, 7, 8], [0, 1, 2, 3, 4, 5], [0, 1, 2, 3, 4, 5, 6, 7, 8, 9, 10], [0, 1, 2, 3, 4, 5, 6, 7, 8, 9, 10, 11], [0, 1, 2, 3, 4, 5, 6, 7, 8, 9, 10, 11, 12], [0, 1, 2, 3, 4, 5, 6, 7, 8, 9, 10, 11, 12, 13], [0, 1, 2, 3, 4, 5, 6, 7, 8, 9, 10, 11, 12, 13, 14], [0, 1, 2, 3, 4, 5, 6, 7, 8, 9, 10, 11, 12, 13], [0, 1, 2, 3, 4, 5, 6, 7, 8, 9, 10, 11, 12, 13], [0, 1, 2, 3, 4, 5, 6, 7, 8, 9, 10, 11, 12, 13], [0, 1, 2, 3, 4, 5, 6, 7, 8, 9, 10, 11, 12, 13, 17, 18], [0, 1, 2, 3, 4, 5, 6, 7, 8, 9, 10, 11, 12, 13, 17, 18, 19], [0, 1, 2, 3, 4, 5, 6, 7, 8, 9, 10, 11, 12, 13, 17, 18, 19, 20], [0, 1, 2, 3, 4, 5, 6, 7, 8, 9, 10, 11, 12, 13, 14, 15, 16, 17, 18, 19, 20, 21], [0, 1, 2, 3, 4, 5, 6, 7, 8, 9, 10, 11, 12, 13, 14, 15, 16, 17, 18, 19, 20, 21, 22], [0, 1, 2, 3, 4, 5, 6, 7, 8, 9, 10, 11, 12, 13, 14, 15, 16, 17, 18, 19, 20, 21, 22, 23]] (by simp) (by simp) (by simp [look]) rfl rfl rfl ?_ fun K hK => ?_
              · refine ⟨?_, ?_, ?_, ?_, ?_, ?_, ?_, ?_, ?_, ?_, ?_, ?_, ?_, ?_, ?_, ?_, ?_, ?_, ?_, ?_, ?_, ?_, trivial⟩
                all_goals (intro τ hbx hb hd hf K hK; try simp [vsAt] at hd; simp [vsAt] at hf; first | (refine wps_cons rfl fun K' hK' => ?_; simp [hN', hbx, hb, hd, hf, hb36, hb36s]; exact hK' _ (wps_nil (hK _ (by simp [vsAt, hbx, hb36, hb36s])))) | (refine wps_call [(.take, .tmp 47), (.take, .const (.int .i64 0)), (.take, .tmp 49)] rfl rfl ent66 (impl_in_ok _ _ _ hc35) fun K' hK' => ?_; simp [hN', hbx, hb, hd, hf, hb36, hb36s]; exact hK' _ (wps_nil (hK _ (by simp [vsAt, hbx, hb36, hb36s])))) | (refine wps_off fun K' hK' => ?_; simp [hN', hbx, hb, hd, hf, hb36, hb36s]; exact hK' _ (wps_nil (hK _ (by simp [vsAt, hbx, hb36, hb36s])))))
              iterate 2 (refine wps_off fun K hK => ?_; simp [hN', hb36, hb36s]; refine hK _ ?_; clear hK)
              refine wps_cons rfl fun K hK => ?_; simp [hN', hb36, hb36s]; refine hK _ ?_; clear hK
              refine wps_nil (hK _ ?_); clear hK
              cases hj32
              exact hK33 _ () [] trivial (by simp [hN', hb36, hb36s])
            · have hb37s := hb37
              try simp at hb37s
              obtain ⟨l38, hl38, hj32⟩ := bind_some hj32
              obtain ⟨hl38a, hl38b, hl38c, hl38d, hl38e, hl38g, hl38i, hl38j⟩ := subI_some hl38
              have hl38f : (List.map vi e7.Kids).take v25.toNat = List.map vi l38 := by subst hl38e; simp
              have hl38m := hl38f; try simp at hl38m
              have hl38k : 0 ≤ e7.Kids.length := by omega
              obtain ⟨r39, hc40, hj32⟩ := bind_some hj32
              rcases ite_or hj32 with ⟨hb41, hj32⟩ | ⟨hb42, hj32⟩
              · have hb41s := hb41
                try simp at hb41s
                refine SWp.drawT rfl (hPB _ rfl) [(47, .t (vi e31)), (48, .t (vi k2)), (49, .t (vi (IntKind.wrap .i64 (k2 - 1)))), (50, .t (vb r34)), (51, .t (vb (!r34))), (52, .t (vb (!r34))), (53, .ref (.box 5) 3 []), (54, .t (.sl false 1 (List.map vi e7.Kids))), (55, .t (vi v25)), (56, .t (.sl false 1 (List.map vi l38))), (57, .t (vi e31)), (58, .t (vb r39)), (59, .t (vb r39)), (60, .t (vb r39)), (61, .tup []), (62, .tup []), (63, .tup []), (64, .tup []), (65, .tup []), (66, .tup []), (67, .tup []), (68, .tup [])] [[], [], [1], [0, 1, 2], [0, 1, 2, 3], [0, 1, 2, 3, 4], [0, 1, 2, 3, 4, 5], [0, 1, 2, 3, 4, 5, 6], [0, 1, 2, 3, 4, 5], [0, 1, 2, 3, 4, 5, 6, 7, 8], [0, 1, 2, 3, 4, 5], [0, 1, 2, 3, 4, 5, 6, 7, 8, 9, 10], [0, 1, 2, 3, 4, 5, 6, 7, 8, 9, 10, 11], [0, 1, 2, 3, 4, 5, 6, 7, 8, 9, 10, 11, 12], [0, 1, 2, 3, 4, 5, 6, 7, 8, 9, 10, 11, 12, 13], [0, 1, 2, 3, 4, 5, 6, 7, 8, 9, 10, 11, 12, 13, 14], [0, 1, 2, 3, 4, 5, 6, 7, 8, 9, 10, 11, 12, 13], [0, 1, 2, 3, 4, 5, 6, 7, 8, 9, 10, 11, 12, 13], [0, 1, 2, 3, 4, 5, 6, 7, 8, 9, 10, 11, 12, 13], [0, 1, 2, 3, 4, 5, 6, 7, 8, 9, 10, 11, 12, 13, 17, 18], [0, 1, 2, 3, 4, 5, 6, 7, 8, 9, 10, 11, 12, 13, 17, 18, 19], [0, 1, 2, 3, 4, 5, 6, 7, 8, 9, 10, 11, 12, 13, 17, 18, 19, 20], [0, 1, 2, 3, 4, 5, 6, 7, 8, 9, 10, 11, 12, 13, 14, 15, 16, 17, 18, 19, 20, 21], [0, 1, 2, 3, 4, 5, 6, 7, 8, 9, 10, 11, 12, 13, 14, 15, 16, 17, 18, 19, 20, 21, 22], [0, 1, 2, 3, 4, 5, 6, 7, 8, 9, 10, 11, 12, 13, 14, 15, 16, 17, 18, 19, 20, 21, 22, 23]] (by simp) (by simp) (by simp [look]) rfl rfl rfl ?_ fun K hK => ?_
                · refine ⟨?_, ?_, ?_, ?_, ?_, ?_, ?_, ?_, ?_, ?_, ?_, ?_, ?_, ?_, ?_, ?_, ?_, ?_, ?_, ?_, ?_, ?_, trivial⟩
                  all_goals (intro τ hbx hb hd hf K hK; try simp [vsAt] at hd; simp [vsAt] at hf; first | (refine wps_cons rfl fun K' hK' => ?_; simp [hN', hbx, hb, hd, hf, hb37, hb37s, hl38a, hl38b, hl38c, hl38d, hl38f, hl38g, hl38i, hl38j, hl38m, hl38k, hb41, hb41s]; exact hK' _ (wps_nil (hK _ (by simp [vsAt, hbx, hb37, hb37s, hl38a, hl38b, hl38c, hl38d, hl38f, hl38g, hl38i, hl38j, hl38m, hl38k, hb41, hb41s])))) | (refine wps_call [(.take, .tmp 47), (.take, .const (.int .i64 0)), (.take, .tmp 49)] rfl rfl ent66 (impl_in_ok _ _ _ hc35) fun K' hK' => ?_; simp [hN', hbx, hb, hd, hf, hb37, hb37s, hl38a, hl38b, hl38c, hl38d, hl38f, hl38g, hl38i, hl38j, hl38m, hl38k, hb41, hb41s]; exact hK' _ (wps_nil (hK _ (by simp [vsAt, hbx, hb37, hb37s, hl38a, hl38b, hl38c, hl38d, hl38f, hl38g, hl38i, hl38j, hl38m, hl38k, hb41, hb41s])))) | (refine wps_call [(.take, .tmp 56), (.take, .tmp 57)] rfl rfl ent69 (impl_hasInt_ok _ _ hc40) fun K' hK' => ?_; simp [hN', hbx, hb, hd, hf, hb37, hb37s, hl38a, hl38b, hl38c, hl38d, hl38f, hl38g, hl38i, hl38j, hl38m, hl38k, hb41, hb41s]; exact hK' _ (wps_nil (hK _ (by simp [vsAt, hbx, hb37, hb37s, hl38a, hl38b, hl38c, hl38d, hl38f, hl38g, hl38i, hl38j, hl38m, hl38k, hb41, hb41s])))) | (refine wps_off fun K' hK' => ?_; simp [hN', hbx, hb, hd, hf, hb37, hb37s, hl38a, hl38b, hl38c, hl38d, hl38f, hl38g, hl38i, hl38j, hl38m, hl38k, hb41, hb41s]; exact hK' _ (wps_nil (hK _ (by simp [vsAt, hbx, hb37, hb37s, hl38a, hl38b, hl38c, hl38d, hl38f, hl38g, hl38i, hl38j, hl38m, hl38k, hb41, hb41s])))))
                iterate 2 (refine wps_off fun K hK => ?_; simp [hN', hb37, hb37s, hl38a, hl38b, hl38c, hl38d, hl38f, hl38g, hl38i, hl38j, hl38m, hl38k, hb41, hb41s]; refine hK _ ?_; clear hK)
                refine wps_cons rfl fun K hK => ?_; simp [hN', hb37, hb37s, hl38a, hl38b, hl38c, hl38d, hl38f, hl38g, hl38i, hl38j, hl38m, hl38k, hb41, hb41s]; refine hK _ ?_; clear hK
                refine wps_nil (hK _ ?_); clear hK
                cases hj32
                exact hK33 _ () [] trivial (by simp [hN', hb37, hb37s, hl38a, hl38b, hl38c, hl38d, hl38f, hl38g, hl38i, hl38j, hl38m, hl38k, hb41, hb41s])
              · have hb42s := hb42
                try simp at hb42s
                obtain ⟨e43, he43, hj32⟩ := bind_some hj32
                obtain ⟨he43a, he43b, he43c, he43d⟩ := getI_some he43
                refine SWp.drawT rfl (hPB _ rfl) [(47, .t (vi e31)), (48, .t (vi k2)), (49, .t (vi (IntKind.wrap .i64 (k2 - 1)))), (50, .t (vb r34)), (51, .t (vb (!r34))), (52, .t (vb (!r34))), (53, .ref (.box 5) 3 []), (54, .t (.sl false 1 (List.map vi e7.Kids))), (55, .t (vi v25)), (56, .t (.sl false 1 (List.map vi l38))), (57, .t (vi e31)), (58, .t (vb r39)), (59, .t (vb r39)), (60, .t (vb r39)), (61, .ref (.box 5) 0 []), (62, .t (vi e7.Kind)), (63, .t (vi v25)), (64, .t (.sl false 4 (List.map (GNode.enc false) nodes1))), (65, .t (vi e31)), (66, .rop [vi e43.Kind, vi e43.Num, vs e43.Name, .sl false 1 (List.map vi e43.Kids)] 0), (67, .rop [vi e43.Kind, vi e43.Num, vs e43.Name, .sl false 1 (List.map vi e43.Kids)] 0), (68, .t (vi e43.Kind))] [[], [], [1], [0, 1, 2], [0, 1, 2, 3], [0, 1, 2, 3, 4], [0, 1, 2, 3, 4, 5], [0, 1, 2, 3, 4, 5, 6], [0, 1, 2, 3, 4, 5], [0, 1, 2, 3, 4, 5, 6, 7, 8], [0, 1, 2, 3, 4, 5], [0, 1, 2, 3, 4, 5, 6, 7, 8, 9, 10], [0, 1, 2, 3, 4, 5, 6, 7, 8, 9, 10, 11], [0, 1, 2, 3, 4, 5, 6, 7, 8, 9, 10, 11, 12], [0, 1, 2, 3, 4, 5, 6, 7, 8, 9, 10, 11, 12, 13], [0, 1, 2, 3, 4, 5, 6, 7, 8, 9, 10, 11, 12, 13, 14], [0, 1, 2, 3, 4, 5, 6, 7, 8, 9, 10, 11, 12, 13], [0, 1, 2, 3, 4, 5, 6, 7, 8, 9, 10, 11, 12, 13], [0, 1, 2, 3, 4, 5, 6, 7, 8, 9, 10, 11, 12, 13], [0, 1, 2, 3, 4, 5, 6, 7, 8, 9, 10, 11, 12, 13, 17, 18], [0, 1, 2, 3, 4, 5, 6, 7, 8, 9, 10, 11, 12, 13, 17, 18, 19], [0, 1, 2, 3, 4, 5, 6, 7, 8, 9, 10, 11, 12, 13, 17, 18, 19, 20], [0, 1, 2, 3, 4, 5, 6, 7, 8, 9, 10, 11, 12, 13, 14, 15, 16, 17, 18, 19, 20, 21], [0, 1, 2, 3, 4, 5, 6, 7, 8, 9, 10, 11, 12, 13, 14, 15, 16, 17, 18, 19, 20, 21, 22], [0, 1, 2, 3, 4, 5, 6, 7, 8, 9, 10, 11, 12, 13, 14, 15, 16, 17, 18, 19, 20, 21, 22, 23]] (by simp) (by simp) (by simp [look]) rfl rfl rfl ?_ fun K hK => ?_
                · refine ⟨?_, ?_, ?_, ?_, ?_, ?_, ?_, ?_, ?_, ?_, ?_, ?_, ?_, ?_, ?_, ?_, ?_, ?_, ?_, ?_, ?_, ?_, trivial⟩
                  all_goals (intro τ hbx hb hd hf K hK; try simp [vsAt] at hd; simp [vsAt] at hf; first | (refine wps_cons rfl fun K' hK' => ?_; simp [hN', hbx, hb, hd, hf, hb37, hb37s, hl38a, hl38b, hl38c, hl38d, hl38f, hl38g, hl38i, hl38j, hl38m, hl38k, hb42, hb42s, he43a, he43b, he43c, he43d]; exact hK' _ (wps_nil (hK _ (by simp [vsAt, hbx, hb37, hb37s, hl38a, hl38b, hl38c, hl38d, hl38f, hl38g, hl38i, hl38j, hl38m, hl38k, hb42, hb42s, he43a, he43b, he43c, he43d])))) | (refine wps_call [(.take, .tmp 47), (.take, .const (.int .i64 0)), (.take, .tmp 49)] rfl rfl ent66 (impl_in_ok _ _ _ hc35) fun K' hK' => ?_; simp [hN', hbx, hb, hd, hf, hb37, hb37s, hl38a, hl38b, hl38c, hl38d, hl38f, hl38g, hl38i, hl38j, hl38m, hl38k, hb42, hb42s, he43a, he43b, he43c, he43d]; exact hK' _ (wps_nil (hK _ (by simp [vsAt, hbx, hb37, hb37s, hl38a, hl38b, hl38c, hl38d, hl38f, hl38g, hl38i, hl38j, hl38m, hl38k, hb42, hb42s, he43a, he43b, he43c, he43d])))) | (refine wps_call [(.take, .tmp 56), (.take, .tmp 57)] rfl rfl ent69 (impl_hasInt_ok _ _ hc40) fun K' hK' => ?_; simp [hN', hbx, hb, hd, hf, hb37, hb37s, hl38a, hl38b, hl38c, hl38d, hl38f, hl38g, hl38i, hl38j, hl38m, hl38k, hb42, hb42s, he43a, he43b, he43c, he43d]; exact hK' _ (wps_nil (hK _ (by simp [vsAt, hbx, hb37, hb37s, hl38a, hl38b, hl38c, hl38d, hl38f, hl38g, hl38i, hl38j, hl38m, hl38k, hb42, hb42s, he43a, he43b, he43c, he43d])))))
                obtain ⟨r44, hc45, hj32⟩ := bind_some hj32
                refine wps_call [(.take, .tmp 62), (.take, .tmp 63), (.take, .tmp 68)] rfl rfl ent133 (impl_kidFits_ok _ _ _ hc45) fun K hK => ?_; simp [hN', hb37, hb37s, hl38a, hl38b, hl38c, hl38d, hl38f, hl38g, hl38i, hl38j, hl38m, hl38k, hb42, hb42s, he43a, he43b, he43c, he43d]; refine hK _ ?_; clear hK
                iterate 2 (refine wps_cons rfl fun K hK => ?_; simp [hN', hb37, hb37s, hl38a, hl38b, hl38c, hl38d, hl38f, hl38g, hl38i, hl38j, hl38m, hl38k, hb42, hb42s, he43a, he43b, he43c, he43d]; refine hK _ ?_; clear hK)
                refine wps_nil (hK _ ?_); clear hK
                cases hj32
                exact hK33 _ () [] trivial (by simp [hN', hb37, hb37s, hl38a, hl38b, hl38c, hl38d, hl38f, hl38g, hl38i, hl38j, hl38m, hl38k, hb42, hb42s, he43a, he43b, he43c, he43d])
          rcases ite_or h26 with ⟨hb47, h26⟩ | ⟨hb48, h26⟩
          · refine SWp.condT' (b := v46) (by simp) hb47 ?_
            refine SWp.seqR rfl (hPB _ rfl) fun K hK => ?_
            refine wps_cons rfl fun K hK => ?_; simp [hN']; refine hK _ ?_; clear hK
            refine wps_nil (hK _ ?_); clear hK
            have h49 := congrArg some (ho27 _ (Option.some.inj h26).symm)
            cases h49
            try dsimp only at h
            cases h
            refine SWp.ret ?_
            simp [thenS, inBlockS, res121]
          · refine SWp.condF' (b := v46) (by simp) hb48 ?_
            refine SWp.skip ?_
            show SWp E C _ _ _
            refine SWp.reg rfl (hPB _ rfl) fun K hK => ?_
            iterate 2 (refine wps_cons rfl fun K hK => ?_; simp [hN']; refine hK _ ?_; clear hK)
            refine wps_nil (hK _ ?_); clear hK
            cases h26
            exact ⟨_, [], rfl, by simp [hN']⟩
        · refine SWp.condF' (b := decide (v25 < (e7.Kids.length : Int))) (by simp) hb30 ?_
          refine SWp.exit ?_
          have h50 := congrArg some (ho27 _ (Option.some.inj h26).symm)
          cases h50
          exact hK23 _ _ [] rfl (by simp [hN'])
      subst hv
      obtain ⟨⟩ := v
      try dsimp only at h ⊢
      refine SWp.seq ?_
      obtain ⟨v61, hj51, h⟩ := bind_some h
      refine SWp.seqRC rfl (hPB _ rfl) [5, 91] [5] (fun _ : Unit => ⟨[(5, .ref (.box 5) 0 []), (91, .t (vb v61))], [(5, [vi e7.Kind, vi e7.Num, vs e7.Name, .sl false 1 (List.map vi e7.Kids)])]⟩) (fun _ => True) (fun _ _ => ?_) fun K52 hK52 => ?_
      rotate_left
      · refine wps_cons rfl fun K hK => ?_; simp [hN']; refine hK _ ?_; clear hK
        iterate 3 (refine wps_cons rfl fun K hK => ?_; simp [hN']; refine hK _ ?_; clear hK)
        rcases ite_or hj51 with ⟨hb53, hj51⟩ | ⟨hb54, hj51⟩
        · have hb53s := hb53
          try simp at hb53s
          iterate 2 (refine wps_cons rfl fun K hK => ?_; simp [hN', hb53, hb53s]; refine hK _ ?_; clear hK)
          obtain ⟨r55, hc56, hj51⟩ := bind_some hj51
          refine wps_call [(.take, .tmp 78), (.take, .const (.int .i64 0)), (.take, .const (.int .i64 1000000000))] rfl rfl ent66 (impl_in_ok _ _ _ hc56) fun K hK => ?_; simp [hN', hb53, hb53s]; refine hK _ ?_; clear hK
          iterate 3 (refine wps_cons rfl fun K hK => ?_; simp [hN', hb53, hb53s]; refine hK _ ?_; clear hK)
          rcases ite_or hj51 with ⟨hb57, hj51⟩ | ⟨hb58, hj51⟩
          · have hb57s := hb57
            try simp at hb57s
            iterate 8 (refine wps_off fun K hK => ?_; simp [hN', hb53, hb53s, hb57, hb57s]; refine hK _ ?_; clear hK)
            refine wps_cons rfl fun K hK => ?_; simp [hN', hb53, hb53s, hb57, hb57s]; refine hK _ ?_; clear hK
            refine wps_nil ?_
            cases hj51
            exact hK52 _ () [] trivial (by simp [hN', hb53, hb53s, hb57, hb57s])
          · have hb58s := hb58
            try simp at hb58s
            iterate 4 (refine wps_cons rfl fun K hK => ?_; simp [hN', hb53, hb53s, hb58, hb58s]; refine hK _ ?_; clear hK)
            have hk59 : (e7.Kind != 1) = false := by simp [hb53, hb53s, hb58, hb58s]
            iterate 3 (refine wps_off fun K hK => ?_; simp [hN', hb53, hb53s, hb58, hb58s, hk59]; refine hK _ ?_; clear hK)
            iterate 2 (refine wps_cons rfl fun K hK => ?_; simp [hN', hb53, hb53s, hb58, hb58s, hk59]; refine hK _ ?_; clear hK)
            refine wps_nil ?_
            cases hj51
            exact hK52 _ () [] trivial (by simp [hN', hb53, hb53s, hb58, hb58s, hk59])
        · have hb54s := hb54
          try simp at hb54s
          iterate 4 (refine wps_off fun K hK => ?_; simp [hN', hb54, hb54s]; refine hK _ ?_; clear hK)
          iterate 6 (refine wps_cons rfl fun K hK => ?_; simp [hN', hb54, hb54s]; refine hK _ ?_; clear hK)
          have hk60 : (e7.Kind != 1) = true := by simp [hb54, hb54s]
          iterate 5 (refine wps_cons rfl fun K hK => ?_; simp [hN', hb54, hb54s, hk60]; refine hK _ ?_; clear hK)
          refine wps_nil ?_
          cases hj51
          exact hK52 _ () [] trivial (by simp [hN', hb54, hb54s, hk60])
      rcases ite_or h with ⟨hb62, h⟩ | ⟨hb63, h⟩
      · refine SWp.condT' (b := v61) (by simp) hb62 ?_
        refine SWp.seqR rfl (hPB _ rfl) fun K hK => ?_
        refine wps_cons rfl fun K hK => ?_; simp [hN']; refine hK _ ?_; clear hK
        refine wps_nil (hK _ ?_); clear hK
        cases h
        refine SWp.ret ?_
        simp [thenS, inBlockS, res121]
      · refine SWp.condF' (b := v61) (by simp) hb63 ?_
        refine SWp.skip ?_
        show SWp E C _ _ _
        refine SWp.seq ?_
        refine SWp.seqR rfl (hPB _ rfl) fun K hK => ?_
        iterate 2 (refine wps_cons rfl fun K hK => ?_; simp [hN']; refine hK _ ?_; clear hK)
        obtain ⟨r64, hc65, h⟩ := bind_some h
        refine wps_call [(.take, .tmp 93)] rfl rfl ent134 (impl_hasName_ok _ hc65) fun K hK => ?_; simp [hN']; refine hK _ ?_; clear hK
        refine wps_nil (hK _ ?_); clear hK
        rcases ite_or h with ⟨hb66, h⟩ | ⟨hb67, h⟩
        · refine SWp.condT' (b := r64) (by simp) hb66 ?_
          refine SWp.seqR rfl (hPB _ rfl) fun K hK => ?_
          iterate 2 (refine wps_cons rfl fun K hK => ?_; simp [hN']; refine hK _ ?_; clear hK)
          obtain ⟨r68, hc69, h⟩ := bind_some h
          refine wps_call [(.take, .tmp 96)] rfl rfl ent86 (impl_NameOk_ok _ hc69) fun K hK => ?_; simp [hN']; refine hK _ ?_; clear hK
          refine wps_cons rfl fun K hK => ?_; simp [hN']; refine hK _ ?_; clear hK
          refine wps_nil (hK _ ?_); clear hK
          cases h
          refine SWp.ret ?_
          simp [thenS, inBlockS, res121]
        · refine SWp.condF' (b := r64) (by simp) hb67 ?_
          refine SWp.skip ?_
          show SWp E C _ _ _
          refine SWp.seqR rfl (hPB _ rfl) fun K hK => ?_
          iterate 4 (refine wps_cons rfl fun K hK => ?_; simp [hN']; refine hK _ ?_; clear hK)
          refine wps_nil (hK _ ?_); clear hK
          cases h
          refine SWp.ret ?_
          simp [thenS, inBlockS, res121]
end Go.Proofs.T
set_option linter.unusedVariables false
set_option linter.unusedSimpArgs false
set_option maxHeartbeats 1000000
namespace Go.Proofs.T
open Go.OM
theorem res95 : Tryd.f95.results.toList = [.tmp 4, .tmp 5] := rfl
theorem ent95 : Enters E.P 95 := enters_of Tryd.func95 (by simp [Tryd.f95]) rfl
theorem impl_depths_ok (nodes1 : List GNode) (k2 : Int) {r0 : List Int} {r1 : Bool} (h : impl_depths nodes1 k2 = some (r0, r1)) : Ok E 95 [.val (.sl false 4 (List.map (GNode.enc false) nodes1)), .val (vi k2)] [.sl true 1 (List.map vi r0), vb r1] [] := by
  refine ok_of_body (fn := Tryd.f95) Tryd.func95 rfl (by simp [Tryd.f95]) fun C hN hP => ?_
  have hPB : ∀ l, pinK [] l = true → pinB C.pin l = true := pinB_of (by rw [hP]; rfl)
  have hN' : C.N = 51 := hN
  clear hN
  unfold impl_depths at h
  refine SWp.seqR rfl (hPB _ rfl) fun K hK => ?_
  iterate 2 (refine wps_cons rfl fun K hK => ?_; simp [hN']; refine hK _ ?_; clear hK)
  refine wps_nil (hK _ ?_); clear hK
  refine SWp.seq ?_
  refine SWp.seqR rfl (hPB _ rfl) fun K hK => ?_
  iterate 4 (refine wps_cons rfl fun K hK => ?_; simp [hN']; refine hK _ ?_; clear hK)
  obtain ⟨r3, hc4, h⟩ := bind_some h
  refine wps_call [(.take, .tmp 11), (.take, .const (.int .i64 0)), (.take, .tmp 14)] rfl rfl ent66 (impl_in_ok _ _ _ hc4) fun K hK => ?_; simp [hN']; refine hK _ ?_; clear hK
  refine wps_cons rfl fun K hK => ?_; simp [hN']; refine hK _ ?_; clear hK
  refine wps_nil (hK _ ?_); clear hK
  rcases ite_or h with ⟨hb5, h⟩ | ⟨hb6, h⟩
  · refine SWp.condT' (b := !r3) (by simp) hb5 ?_
    refine SWp.seqR rfl (hPB _ rfl) fun K hK => ?_
    iterate 2 (refine wps_cons rfl fun K hK => ?_; simp [hN']; refine hK _ ?_; clear hK)
    refine wps_nil (hK _ ?_); clear hK
    cases h
    refine SWp.ret ?_
    simp [thenS, inBlockS, res95]
  · refine SWp.condF' (b := !r3) (by simp) hb6 ?_
    refine SWp.skip ?_
    show SWp E C _ _ _
    refine SWp.seqR rfl (hPB _ rfl) fun K hK => ?_
    refine wps_cons rfl fun K hK => ?_; simp [hN']; refine hK _ ?_; clear hK
    refine wps_nil (hK _ ?_); clear hK
    obtain ⟨j9, hj7, h⟩ := bind_some h
    refine SWp.seqC [6] [] (fun v : List Int => ⟨[(6, .t (.sl true 1 (List.map vi v)))], []⟩) (fun v => j9 = Sum.inl v) (fun v hv => ?_) fun K8 hK8 => ?_
    rotate_left
    · refine SWp.seqR rfl (hPB _ rfl) fun K hK => ?_
      refine wps_cons rfl fun K hK => ?_; simp [hN']; refine hK _ ?_; clear hK
      refine wps_nil (hK _ ?_); clear hK
      refine SWp.block ?_
      refine SWp.loopO [] [0, 1, 6, 7] [] (fun v : (List Int) × Int => ⟨[(0, .t (.sl false 4 (List.map (GNode.enc false) nodes1))), (1, .t (vi k2)), (6, .t (.sl true 1 (List.map vi v.1))), (7, .t (vi v.2))], []⟩) (impl_depths_l1 nodes1 k2) _ ([], 0) hj7 (by simp [hN']) ?_
      intro g s14 h12 ho13
      obtain ⟨out10, i11⟩ := g
      simp only [impl_depths_l1] at h12
      try dsimp only
      refine SWp.seq ?_
      refine SWp.seqR rfl (hPB _ rfl) fun K hK => ?_
      iterate 3 (refine wps_cons rfl fun K hK => ?_; simp [hN']; refine hK _ ?_; clear hK)
      refine wps_nil (hK _ ?_); clear hK
      rcases ite_or h12 with ⟨hb15, h12⟩ | ⟨hb16, h12⟩
      · refine SWp.condT' (b := decide (i11 ≤ k2)) (by simp) hb15 ?_
        refine SWp.skip ?_
        show SWp E C _ _ _
        obtain ⟨j19, hj17, h12⟩ := bind_some h12
        refine SWp.seqC [0, 1, 6, 7] [] (fun v : List Int => ⟨[(0, .t (.sl false 4 (List.map (GNode.enc false) nodes1))), (1, .t (vi k2)), (6, .t (.sl true 1 (List.map vi v))), (7, .t (vi i11))], []⟩) (fun v => j19 = Sum.inl v) (fun v hv => ?_) fun K18 hK18 => ?_
        rotate_left
        · refine SWp.block ?_
          refine SWp.seq ?_
          refine SWp.seqR rfl (hPB _ rfl) fun K hK => ?_
          iterate 2 (refine wps_cons rfl fun K hK => ?_; simp [hN']; refine hK _ ?_; clear hK)
          obtain ⟨r20, hc21, hj17⟩ := bind_some hj17
          refine wps_call [(.take, .tmp 22), (.take, .tmp 23)] rfl rfl ent121 (impl_NodeOk_ok _ _ hc21) fun K hK => ?_; simp [hN']; refine hK _ ?_; clear hK
          refine wps_cons rfl fun K hK => ?_; simp [hN']; refine hK _ ?_; clear hK
          refine wps_nil (hK _ ?_); clear hK
          rcases ite_or hj17 with ⟨hb22, hj17⟩ | ⟨hb23, hj17⟩
          · refine SWp.condT' (b := !r20) (by simp) hb22 ?_
            refine SWp.seqR rfl (hPB _ rfl) fun K hK => ?_
            iterate 2 (refine wps_cons rfl fun K hK => ?_; simp [hN']; refine hK _ ?_; clear hK)
            refine wps_nil (hK _ ?_); clear hK
            cases hj17
            try dsimp only at h12
            have h24 := congrArg some (ho13 _ (Option.some.inj h12).symm)
            cases h24
            try dsimp only at h
            cases h
            refine SWp.ret ?_
            simp [thenS, inBlockS, res95]
          · refine SWp.condF' (b := !r20) (by simp) hb23 ?_
            refine SWp.skip ?_
            show SWp E C _ _ _
            refine SWp.seqR rfl (hPB _ rfl) fun K hK => ?_
            refine wps_cons rfl fun K hK => ?_; simp [hN']; refine hK _ ?_; clear hK
            refine wps_nil (hK _ ?_); clear hK
            obtain ⟨d39, hj25, hj17⟩ := bind_some hj17
            refine SWp.seqC [0, 1, 6, 7, 8] [] (fun _ : Unit => ⟨[(0, .t (.sl false 4 (List.map (GNode.enc false) nodes1))), (1, .t (vi k2)), (6, .t (.sl true 1 (List.map vi out10))), (7, .t (vi i11)), (8, .t (vi d39))], []⟩) (fun _ => True) (fun _ _ => ?_) fun K26 hK26 => ?_
            rotate_left
            · refine SWp.seqR rfl (hPB _ rfl) fun K hK => ?_
              iterate 2 (refine wps_cons rfl fun K hK => ?_; simp [hN']; refine hK _ ?_; clear hK)
              obtain ⟨e28, he28, hj25⟩ := bind_some hj25
              obtain ⟨he28a, he28b, he28c, he28d⟩ := getI_some he28
              iterate 5 (refine wps_cons rfl fun K hK => ?_; simp [hN', he28a, he28b, he28c, he28d]; refine hK _ ?_; clear hK)
              refine wps_nil (hK _ ?_); clear hK
              refine SWp.block ?_
              refine SWp.loopO [] [0, 1, 6, 7, 8, 30, 31, 32] [] (fun v : Int × Int => ⟨[(0, .t (.sl false 4 (List.map (GNode.enc false) nodes1))), (1, .t (vi k2)), (6, .t (.sl true 1 (List.map vi out10))), (7, .t (vi i11)), (8, .t (vi v.1)), (30, .t (.sl false 1 (List.map vi e28.Kids))), (31, .t (vi (e28.Kids.length : Int))), (32, .t (vi v.2))], []⟩) (impl_depths_l2 out10 e28) _ (1, 0) hj25 (by simp [hN']) ?_
              intro g s33 h31 ho32
              obtain ⟨d29, v30⟩ := g
              simp only [impl_depths_l2] at h31
              try dsimp only
              refine SWp.seqR rfl (hPB _ rfl) fun K hK => ?_
              refine wps_cons rfl fun K hK => ?_; simp [hN']; refine hK _ ?_; clear hK
              refine wps_nil (hK _ ?_); clear hK
              refine SWp.seq ?_
              rcases ite_or h31 with ⟨hb34, h31⟩ | ⟨hb35, h31⟩
              · refine SWp.condT' (b := decide (v30 < (e28.Kids.length : Int))) (by simp) hb34 ?_
                refine SWp.skip ?_
                show SWp E C _ _ _
                refine SWp.seq ?_
                refine SWp.block ?_
                refine SWp.seqR rfl (hPB _ rfl) fun K hK => ?_
                obtain ⟨e36, he36, h31⟩ := bind_some h31
                obtain ⟨he36a, he36b, he36c, he36d⟩ := getI_some he36
                iterate 3 (refine wps_cons rfl fun K hK => ?_; simp [hN', he36a, he36b, he36c, he36d]; refine hK _ ?_; clear hK)
                refine wps_nil (hK _ ?_); clear hK
                refine SWp.reg rfl (hPB _ rfl) fun K hK => ?_
                iterate 3 (refine wps_cons rfl fun K hK => ?_; simp [hN']; refine hK _ ?_; clear hK)
                obtain ⟨e37, he37, h31⟩ := bind_some h31
                obtain ⟨he37a, he37b, he37c, he37d⟩ := getI_some he37
                iterate 5 (refine wps_cons rfl fun K hK => ?_; simp [hN', he37a, he37b, he37c, he37d]; refine hK _ ?_; clear hK)
                refine wps_nil (hK _ ?_); clear hK
                show SWp E C _ _ _
                refine SWp.reg rfl (hPB _ rfl) fun K hK => ?_
                iterate 2 (refine wps_cons rfl fun K hK => ?_; simp [hN']; refine hK _ ?_; clear hK)
                refine wps_nil (hK _ ?_); clear hK
                cases h31
                exact ⟨_, [], rfl, by simp [hN']⟩
              · refine SWp.condF' (b := decide (v30 < (e28.Kids.length : Int))) (by simp) hb35 ?_
                refine SWp.exit ?_
                have h38 := congrArg some (ho32 _ (Option.some.inj h31).symm)
                cases h38
                exact hK26 _ () [] trivial (by simp [hN'])
            refine SWp.seq ?_
            refine SWp.seqR rfl (hPB _ rfl) fun K hK => ?_
            iterate 2 (refine wps_cons rfl fun K hK => ?_; simp [hN']; refine hK _ ?_; clear hK)
            refine wps_nil (hK _ ?_); clear hK
            rcases ite_or hj17 with ⟨hb40, hj17⟩ | ⟨hb41, hj17⟩
            · refine SWp.condT' (b := decide (d39 > 10)) (by simp) hb40 ?_
              refine SWp.seqR rfl (hPB _ rfl) fun K hK => ?_
              iterate 2 (refine wps_cons rfl fun K hK => ?_; simp [hN']; refine hK _ ?_; clear hK)
              refine wps_nil (hK _ ?_); clear hK
              cases hj17
              try dsimp only at h12
              have h42 := congrArg some (ho13 _ (Option.some.inj h12).symm)
              cases h42
              try dsimp only at h
              cases h
              refine SWp.ret ?_
              simp [thenS, inBlockS, res95]
            · refine SWp.condF' (b := decide (d39 > 10)) (by simp) hb41 ?_
              refine SWp.skip ?_
              show SWp E C _ _ _
              refine SWp.reg rfl (hPB _ rfl) fun K hK => ?_
              iterate 3 (refine wps_cons rfl fun K hK => ?_; simp [hN']; refine hK _ ?_; clear hK)
              obtain ⟨l43, hl43, hj17⟩ := bind_some hj17
              obtain ⟨hl43a, hl43b, hl43d⟩ := appI_some hl43
              have hl43f : List.map vi out10 ++ List.map vi [d39] = List.map vi l43 := app_map (f := vi) hl43d
              simp [eSl] at hl43a hl43b hl43f
              iterate 2 (refine wps_cons rfl fun K hK => ?_; simp [hN', hl43a, hl43b, hl43f]; refine hK _ ?_; clear hK)
              refine wps_nil (hK _ ?_); clear hK
              cases hj17
              exact hK18 _ _ [] rfl (by simp [hN'])
        subst hv
        obtain ⟨out44, hv⟩ : ∃ y, y = v := ⟨_, rfl⟩
        subst hv
        try dsimp only at h12 ⊢
        refine SWp.reg rfl (hPB _ rfl) fun K hK => ?_
        iterate 3 (refine wps_cons rfl fun K hK => ?_; simp [hN']; refine hK _ ?_; clear hK)
        refine wps_nil (hK _ ?_); clear hK
        cases h12
        exact ⟨_, [], rfl, by simp [hN']⟩
      · refine SWp.condF' (b := decide (i11 ≤ k2)) (by simp) hb16 ?_
        refine SWp.exit ?_
        have h45 := congrArg some (ho13 _ (Option.some.inj h12).symm)
        cases h45
        exact hK8 _ _ [] rfl (by simp [hN'])
    subst hv
    obtain ⟨out46, hv⟩ : ∃ y, y = v := ⟨_, rfl⟩
    subst hv
    try dsimp only at h ⊢
    refine SWp.seqR rfl (hPB _ rfl) fun K hK => ?_
    iterate 3 (refine wps_cons rfl fun K hK => ?_; simp [hN']; refine hK _ ?_; clear hK)
    refine wps_nil (hK _ ?_); clear hK
    cases h
    refine SWp.ret ?_
    simp [thenS, inBlockS, res95]
end Go.Proofs.T
set_option linter.unusedVariables false
set_option linter.unusedSimpArgs false
set_option maxHeartbeats 1000000
namespace Go.Proofs.T
open Go.OM
theorem res62 : Tryd.f62.results.toList = [.tmp 4] := rfl
theorem ent62 : Enters E.P 62 := enters_of Tryd.func62 (by simp [Tryd.f62]) rfl
theorem impl_DeepOf_ok (nodes1 : List GNode) (k2 : Int) {r0 : Int} (h : impl_DeepOf nodes1 k2 = some r0) : Ok E 62 [.val (.sl false 4 (List.map (GNode.enc false) nodes1)), .val (vi k2)] [vi r0] [] := by
  refine ok_of_body (fn := Tryd.f62) Tryd.func62 rfl (by simp [Tryd.f62]) fun C hN hP => ?_
  have hPB : ∀ l, pinK [] l = true → pinB C.pin l = true := pinB_of (by rw [hP]; rfl)
  have hN' : C.N = 19 := hN
  clear hN
  unfold impl_DeepOf at h
  refine SWp.seqR rfl (hPB _ rfl) fun K hK => ?_
  refine wps_cons rfl fun K hK => ?_; simp [hN']; refine hK _ ?_; clear hK
  refine wps_nil (hK _ ?_); clear hK
  refine SWp.seqR rfl (hPB _ rfl) fun K hK => ?_
  iterate 2 (refine wps_cons rfl fun K hK => ?_; simp [hN']; refine hK _ ?_; clear hK)
  obtain ⟨⟨r3, r4⟩, hc5, h⟩ := bind_some h
  try dsimp only at h
  refine wps_call [(.take, .tmp 8), (.take, .tmp 9)] rfl rfl ent95 (impl_depths_ok _ _ hc5) fun K hK => ?_; simp [hN']; refine hK _ ?_; clear hK
  iterate 5 (refine wps_cons rfl fun K hK => ?_; simp [hN']; refine hK _ ?_; clear hK)
  refine wps_nil (hK _ ?_); clear hK
  refine SWp.seq ?_
  refine SWp.seqR rfl (hPB _ rfl) fun K hK => ?_
  iterate 2 (refine wps_cons rfl fun K hK => ?_; simp [hN']; refine hK _ ?_; clear hK)
  refine wps_nil (hK _ ?_); clear hK
  rcases ite_or h with ⟨hb6, h⟩ | ⟨hb7, h⟩
  · refine SWp.condT' (b := !r4) (by simp) hb6 ?_
    refine SWp.seqR rfl (hPB _ rfl) fun K hK => ?_
    refine wps_cons rfl fun K hK => ?_; simp [hN']; refine hK _ ?_; clear hK
    refine wps_nil (hK _ ?_); clear hK
    cases h
    refine SWp.ret ?_
    simp [thenS, inBlockS, res62]
  · refine SWp.condF' (b := !r4) (by simp) hb7 ?_
    refine SWp.skip ?_
    show SWp E C _ _ _
    refine SWp.seqR rfl (hPB _ rfl) fun K hK => ?_
    iterate 2 (refine wps_cons rfl fun K hK => ?_; simp [hN']; refine hK _ ?_; clear hK)
    obtain ⟨e8, he8, h⟩ := bind_some h
    obtain ⟨he8a, he8b, he8c, he8d⟩ := getI_some he8
    iterate 3 (refine wps_cons rfl fun K hK => ?_; simp [hN', he8a, he8b, he8c, he8d]; refine hK _ ?_; clear hK)
    refine wps_nil (hK _ ?_); clear hK
    cases h
    refine SWp.ret ?_
    simp [thenS, inBlockS, res62]
end Go.Proofs.T
set_option linter.unusedVariables false
set_option linter.unusedSimpArgs false
set_option maxHeartbeats 1000000
namespace Go.Proofs.T
open Go.OM
theorem res96 : Tryd.f96.results.toList = [.tmp 2] := rfl
theorem ent96 : Enters E.P 96 := enters_of Tryd.func96 (by simp [Tryd.f96]) rfl
theorem impl_bit_ok (is1 : Bool) {r0 : Int} (h : impl_bit is1 = some r0) : Ok E 96 [.val (vb is1)] [vi r0] [] := by
  refine ok_of_body (fn := Tryd.f96) Tryd.func96 rfl (by simp [Tryd.f96]) fun C hN hP => ?_
  have hPB : ∀ l, pinK [] l = true → pinB C.pin l = true := pinB_of (by rw [hP]; rfl)
  have hN' : C.N = 4 := hN
  clear hN
  unfold impl_bit at h
  refine SWp.seqR rfl (hPB _ rfl) fun K hK => ?_
  refine wps_cons rfl fun K hK => ?_; simp [hN']; refine hK _ ?_; clear hK
  refine wps_nil (hK _ ?_); clear hK
  refine SWp.seq ?_
  refine SWp.seqR rfl (hPB _ rfl) fun K hK => ?_
  refine wps_cons rfl fun K hK => ?_; simp [hN']; refine hK _ ?_; clear hK
  refine wps_nil (hK _ ?_); clear hK
  rcases ite_or h with ⟨hb2, h⟩ | ⟨hb3, h⟩
  · refine SWp.condT' (b := is1) (by simp) hb2 ?_
    refine SWp.seqR rfl (hPB _ rfl) fun K hK => ?_
    refine wps_cons rfl fun K hK => ?_; simp [hN']; refine hK _ ?_; clear hK
    refine wps_nil (hK _ ?_); clear hK
    cases h
    refine SWp.ret ?_
    simp [thenS, inBlockS, res96]
  · refine SWp.condF' (b := is1) (by simp) hb3 ?_
    refine SWp.skip ?_
    show SWp E C _ _ _
    refine SWp.seqR rfl (hPB _ rfl) fun K hK => ?_
    refine wps_cons rfl fun K hK => ?_; simp [hN']; refine hK _ ?_; clear hK
    refine wps_nil (hK _ ?_); clear hK
    cases h
    refine SWp.ret ?_
    simp [thenS, inBlockS, res96]
end Go.Proofs.T
set_option linter.unusedVariables false
set_option linter.unusedSimpArgs false
set_option maxHeartbeats 1000000
namespace Go.Proofs.T
open Go.OM
theorem res63 : Tryd.f63.results.toList = [.tmp 4, .tmp 5] := rfl
theorem ent63 : Enters E.P 63 := enters_of Tryd.func63 (by simp [Tryd.f63]) rfl
theorem impl_constOf_b_ok (rec_impl_constOf : GProgram → Int → Option (Int × Bool)) (hrec_impl_constOf : ∀ (a0 : GProgram) (a1 : Int) {r0 : Int} {r1 : Bool}, rec_impl_constOf a0 a1 = some (r0, r1) → Ok E 63 [.val (GProgram.enc false a0), .val (vi a1)] [vi r0, vb r1] []) (p1 : GProgram) (k2 : Int) {r0 : Int} {r1 : Bool} (h : impl_constOf_b rec_impl_constOf p1 k2 = some (r0, r1)) : Ok E 63 [.val (GProgram.enc false p1), .val (vi k2)] [vi r0, vb r1] [] := by
  refine ok_of_body (fn := Tryd.f63) Tryd.func63 rfl (by simp [Tryd.f63]) fun C hN hP => ?_
  have hPB : ∀ l, pinK [] l = true → pinB C.pin l = true := pinB_of (by rw [hP]; rfl)
  have hN' : C.N = 70 := hN
  clear hN
  unfold impl_constOf_b at h
  refine SWp.seqR rfl (hPB _ rfl) fun K hK => ?_
  iterate 3 (refine wps_cons rfl fun K hK => ?_; simp [hN']; refine hK _ ?_; clear hK)
  refine wps_nil (hK _ ?_); clear hK
  refine SWp.seqR rfl (hPB _ rfl) fun K hK => ?_
  iterate 3 (refine wps_cons rfl fun K hK => ?_; simp [hN']; refine hK _ ?_; clear hK)
  obtain ⟨e3, he3, h⟩ := bind_some h
  obtain ⟨he3a, he3b, he3c, he3d⟩ := getI_some he3
  iterate 4 (refine wps_cons rfl fun K hK => ?_; simp [hN', he3a, he3b, he3c, he3d]; refine hK _ ?_; clear hK)
  refine wps_nil (hK _ ?_); clear hK
  refine SWp.seq ?_
  refine SWp.seqR rfl (hPB _ rfl) fun K hK => ?_
  iterate 3 (refine wps_cons rfl fun K hK => ?_; simp [hN']; refine hK _ ?_; clear hK)
  refine wps_nil (hK _ ?_); clear hK
  rcases ite_or h with ⟨hb4, h⟩ | ⟨hb5, h⟩
  · refine SWp.condT' (b := e3.Kind == 1) (by simp) hb4 ?_
    refine SWp.seqR rfl (hPB _ rfl) fun K hK => ?_
    iterate 4 (refine wps_cons rfl fun K hK => ?_; simp [hN']; refine hK _ ?_; clear hK)
    refine wps_nil (hK _ ?_); clear hK
    cases h
    refine SWp.ret ?_
    simp [thenS, inBlockS, res63]
  · refine SWp.condF' (b := e3.Kind == 1) (by simp) hb5 ?_
    refine SWp.skip ?_
    show SWp E C _ _ _
    refine SWp.seq ?_
    refine SWp.seqR rfl (hPB _ rfl) fun K hK => ?_
    iterate 2 (refine wps_cons rfl fun K hK => ?_; simp [hN']; refine hK _ ?_; clear hK)
    obtain ⟨r6, hc7, h⟩ := bind_some h
    refine wps_call [(.take, .tmp 22), (.take, .const (.int .i64 9)), (.take, .const (.int .i64 11))] rfl rfl ent66 (impl_in_ok _ _ _ hc7) fun K hK => ?_; simp [hN']; refine hK _ ?_; clear hK
    refine wps_cons rfl fun K hK => ?_; simp [hN']; refine hK _ ?_; clear hK
    refine wps_nil (hK _ ?_); clear hK
    rcases ite_or h with ⟨hb8, h⟩ | ⟨hb9, h⟩
    · refine SWp.condT' (b := !r6) (by simp) hb8 ?_
      refine SWp.seqR rfl (hPB _ rfl) fun K hK => ?_
      iterate 2 (refine wps_cons rfl fun K hK => ?_; simp [hN']; refine hK _ ?_; clear hK)
      refine wps_nil (hK _ ?_); clear hK
      cases h
      refine SWp.ret ?_
      simp [thenS, inBlockS, res63]
    · refine SWp.condF' (b := !r6) (by simp) hb9 ?_
      refine SWp.skip ?_
      show SWp E C _ _ _
      refine SWp.seq ?_
      obtain ⟨e11, he11, h⟩ := bind_some h
      obtain ⟨he11a, he11b, he11c, he11d⟩ := getI_some he11
      have he11e : 0 < e3.Kids.length := by omega
      have he11g : e3.Kids[0]? = some e11 := he11c
      have he11i : e3.Kids[0] = e11 := he11d he11e
      obtain ⟨⟨r12, r13⟩, hc14, h⟩ := bind_some h
      try dsimp only at h
      refine SWp.drawT rfl (hPB _ rfl) [(26, .t (GProgram.enc false p1)), (27, .ref (.box 6) 3 []), (28, .t (.sl false 1 (List.map vi e3.Kids))), (29, .rop [vi e11] 0), (30, .t (vi e11)), (31, .tup [vi r12, vb r13]), (25, .tup [vi r12, vb r13]), (32, .t (vi r12)), (33, .t (vb r13)), (7, .t (vi r12))] [[], [], [1], [1, 2], [1, 2, 3], [0, 1, 2, 3, 4], [0, 1, 2, 3, 4, 5], [0, 1, 2, 3, 4, 5, 6], [0, 1, 2, 3, 4, 5, 6], [0, 1, 2, 3, 4, 5, 6, 7], [0, 1, 2, 3, 4, 5, 6, 7, 8, 9]] (by simp) (by simp) (by simp [look]) rfl rfl rfl ?_ fun K hK => ?_
      · refine ⟨?_, ?_, ?_, ?_, ?_, ?_, ?_, ?_, ?_, ?_, trivial⟩
        all_goals (intro τ hbx hb hd hf K hK; try simp [vsAt] at hd; simp [vsAt] at hf; first | (refine wps_cons rfl fun K' hK' => ?_; simp [hN', hbx, hb, hd, hf, he11a, he11b, he11c, he11d, he11e, he11g, he11i]; exact hK' _ (wps_nil (hK _ (by simp [vsAt, hbx, he11a, he11b, he11c, he11d, he11e, he11g, he11i])))) | (refine wps_call [(.take, .tmp 26), (.take, .tmp 30)] rfl rfl ent63 (hrec_impl_constOf _ _ hc14) fun K' hK' => ?_; simp [hN', hbx, hb, hd, hf, he11a, he11b, he11c, he11d, he11e, he11g, he11i]; exact hK' _ (wps_nil (hK _ (by simp [vsAt, hbx, he11a, he11b, he11c, he11d, he11e, he11g, he11i])))))
      refine wps_cons rfl fun K hK => ?_; simp [hN', he11a, he11b, he11c, he11d, he11e, he11g, he11i]; refine hK _ ?_; clear hK
      refine wps_nil (hK _ ?_); clear hK
      show SWp E C _ _ _
      refine SWp.seq ?_
      obtain ⟨e16, he16, h⟩ := bind_some h
      obtain ⟨he16a, he16b, he16c, he16d⟩ := getI_some he16
      have he16e : 1 < e3.Kids.length := by omega
      have he16g : e3.Kids[1]? = some e16 := he16c
      have he16i : e3.Kids[1] = e16 := he16d he16e
      obtain ⟨⟨r17, r18⟩, hc19, h⟩ := bind_some h
      try dsimp only at h
      refine SWp.drawT rfl (hPB _ rfl) [(35, .t (GProgram.enc false p1)), (36, .ref (.box 6) 3 []), (37, .t (.sl false 1 (List.map vi e3.Kids))), (38, .rop [vi e16] 0), (39, .t (vi e16)), (40, .tup [vi r17, vb r18]), (34, .tup [vi r17, vb r18]), (41, .t (vi r17)), (42, .t (vb r18)), (9, .t (vi r17))] [[], [], [1], [1, 2], [1, 2, 3], [0, 1, 2, 3, 4], [0, 1, 2, 3, 4, 5], [0, 1, 2, 3, 4, 5, 6], [0, 1, 2, 3, 4, 5, 6], [0, 1, 2, 3, 4, 5, 6, 7], [0, 1, 2, 3, 4, 5, 6, 7, 8, 9]] (by simp) (by simp) (by simp [look]) rfl rfl rfl ?_ fun K hK => ?_
      · refine ⟨?_, ?_, ?_, ?_, ?_, ?_, ?_, ?_, ?_, ?_, trivial⟩
        all_goals (intro τ hbx hb hd hf K hK; try simp [vsAt] at hd; simp [vsAt] at hf; first | (refine wps_cons rfl fun K' hK' => ?_; simp [hN', hbx, hb, hd, hf, he16a, he16b, he16c, he16d, he16e, he16g, he16i]; exact hK' _ (wps_nil (hK _ (by simp [vsAt, hbx, he16a, he16b, he16c, he16d, he16e, he16g, he16i])))) | (refine wps_call [(.take, .tmp 35), (.take, .tmp 39)] rfl rfl ent63 (hrec_impl_constOf _ _ hc19) fun K' hK' => ?_; simp [hN', hbx, hb, hd, hf, he16a, he16b, he16c, he16d, he16e, he16g, he16i]; exact hK' _ (wps_nil (hK _ (by simp [vsAt, hbx, he16a, he16b, he16c, he16d, he16e, he16g, he16i])))))
      refine wps_cons rfl fun K hK => ?_; simp [hN', he16a, he16b, he16c, he16d, he16e, he16g, he16i]; refine hK _ ?_; clear hK
      refine wps_nil (hK _ ?_); clear hK
      show SWp E C _ _ _
      refine SWp.seq ?_
      obtain ⟨v24, hj20, h⟩ := bind_some h
      refine SWp.seqRC rfl (hPB _ rfl) [6, 7, 9, 48] [6] (fun _ : Unit => ⟨[(6, .ref (.box 6) 0 []), (7, .t (vi r12)), (9, .t (vi r17)), (48, .t (vb v24))], [(6, [vi e3.Kind, vi e3.Num, vs e3.Name, .sl false 1 (List.map vi e3.Kids)])]⟩) (fun _ => True) (fun _ _ => ?_) fun K21 hK21 => ?_
      rotate_left
      · refine wps_cons rfl fun K hK => ?_; simp [hN']; refine hK _ ?_; clear hK
        iterate 2 (refine wps_cons rfl fun K hK => ?_; simp [hN']; refine hK _ ?_; clear hK)
        rcases ite_or hj20 with ⟨hb22, hj20⟩ | ⟨hb23, hj20⟩
        · have hb22s := hb22
          try simp at hb22s
          iterate 2 (refine wps_off fun K hK => ?_; simp [hN', hb22, hb22s]; refine hK _ ?_; clear hK)
          refine wps_cons rfl fun K hK => ?_; simp [hN', hb22, hb22s]; refine hK _ ?_; clear hK
          refine wps_nil ?_
          cases hj20
          exact hK21 _ () [] trivial (by simp [hN', hb22, hb22s])
        · have hb23s := hb23
          try simp at hb23s
          iterate 3 (refine wps_cons rfl fun K hK => ?_; simp [hN', hb23, hb23s]; refine hK _ ?_; clear hK)
          refine wps_nil ?_
          cases hj20
          exact hK21 _ () [] trivial (by simp [hN', hb23, hb23s])
      rcases ite_or h with ⟨hb25, h⟩ | ⟨hb26, h⟩
      · refine SWp.condT' (b := v24) (by simp) hb25 ?_
        refine SWp.seqR rfl (hPB _ rfl) fun K hK => ?_
        iterate 2 (refine wps_cons rfl fun K hK => ?_; simp [hN']; refine hK _ ?_; clear hK)
        refine wps_nil (hK _ ?_); clear hK
        cases h
        refine SWp.ret ?_
        simp [thenS, inBlockS, res63]
      · refine SWp.condF' (b := v24) (by simp) hb26 ?_
        refine SWp.skip ?_
        show SWp E C _ _ _
        refine SWp.seq ?_
        refine SWp.seqR rfl (hPB _ rfl) fun K hK => ?_
        iterate 2 (refine wps_cons rfl fun K hK => ?_; simp [hN']; refine hK _ ?_; clear hK)
        refine wps_nil (hK _ ?_); clear hK
        refine SWp.block ?_
        refine SWp.seqR rfl (hPB _ rfl) fun K hK => ?_
        iterate 2 (refine wps_cons rfl fun K hK => ?_; simp [hN']; refine hK _ ?_; clear hK)
        refine wps_nil (hK _ ?_); clear hK
        rcases ite_or h with ⟨hb27, h⟩ | ⟨hb28, h⟩
        · refine SWp.condT' (b := e3.Kind == 9) (by simp) hb27 ?_
          refine SWp.seq ?_
          refine SWp.seqR rfl (hPB _ rfl) fun K hK => ?_
          iterate 4 (refine wps_cons rfl fun K hK => ?_; simp [hN']; refine hK _ ?_; clear hK)
          refine wps_nil (hK _ ?_); clear hK
          rcases ite_or h with ⟨hb29, h⟩ | ⟨hb30, h⟩
          · refine SWp.condT' (b := decide (IntKind.wrap .i64 (r12 + r17) > 1000000000)) (by simp) hb29 ?_
            refine SWp.seqR rfl (hPB _ rfl) fun K hK => ?_
            iterate 2 (refine wps_cons rfl fun K hK => ?_; simp [hN']; refine hK _ ?_; clear hK)
            refine wps_nil (hK _ ?_); clear hK
            cases h
            refine SWp.ret ?_
            simp [thenS, inBlockS, res63]
          · refine SWp.condF' (b := decide (IntKind.wrap .i64 (r12 + r17) > 1000000000)) (by simp) hb30 ?_
            refine SWp.skip ?_
            show SWp E C _ _ _
            refine SWp.seqR rfl (hPB _ rfl) fun K hK => ?_
            iterate 5 (refine wps_cons rfl fun K hK => ?_; simp [hN']; refine hK _ ?_; clear hK)
            refine wps_nil (hK _ ?_); clear hK
            cases h
            refine SWp.ret ?_
            simp [thenS, inBlockS, res63]
        · refine SWp.condF' (b := e3.Kind == 9) (by simp) hb28 ?_
          refine SWp.seqR rfl (hPB _ rfl) fun K hK => ?_
          iterate 2 (refine wps_cons rfl fun K hK => ?_; simp [hN']; refine hK _ ?_; clear hK)
          refine wps_nil (hK _ ?_); clear hK
          rcases ite_or h with ⟨hb31, h⟩ | ⟨hb32, h⟩
          · refine SWp.condT' (b := e3.Kind == 10) (by simp) hb31 ?_
            refine SWp.seqR rfl (hPB _ rfl) fun K hK => ?_
            iterate 3 (refine wps_cons rfl fun K hK => ?_; simp [hN']; refine hK _ ?_; clear hK)
            obtain ⟨r33, hc34, h⟩ := bind_some h
            refine wps_call [(.take, .tmp 64)] rfl rfl ent96 (impl_bit_ok _ hc34) fun K hK => ?_; simp [hN']; refine hK _ ?_; clear hK
            iterate 2 (refine wps_cons rfl fun K hK => ?_; simp [hN']; refine hK _ ?_; clear hK)
            refine wps_nil (hK _ ?_); clear hK
            cases h
            refine SWp.ret ?_
            simp [thenS, inBlockS, res63]
          · refine SWp.condF' (b := e3.Kind == 10) (by simp) hb32 ?_
            refine SWp.skip ?_
            show SWp E C _ _ _
            refine SWp.seqR rfl (hPB _ rfl) fun K hK => ?_
            iterate 3 (refine wps_cons rfl fun K hK => ?_; simp [hN']; refine hK _ ?_; clear hK)
            obtain ⟨r35, hc36, h⟩ := bind_some h
            refine wps_call [(.take, .tmp 68)] rfl rfl ent96 (impl_bit_ok _ hc36) fun K hK => ?_; simp [hN']; refine hK _ ?_; clear hK
            iterate 2 (refine wps_cons rfl fun K hK => ?_; simp [hN']; refine hK _ ?_; clear hK)
            refine wps_nil (hK _ ?_); clear hK
            cases h
            refine SWp.ret ?_
            simp [thenS, inBlockS, res63]
theorem impl_constOf_rec_ok : ∀ n : Nat, (∀ (a0 : GProgram) (a1 : Int) {r0 : Int} {r1 : Bool}, (impl_constOf_rec n) a0 a1 = some (r0, r1) → Ok E 63 [.val (GProgram.enc false a0), .val (vi a1)] [vi r0, vb r1] [])
  | 0 => (by intros; rename_i h; cases h)
  | n + 1 => impl_constOf_b_ok (impl_constOf_rec n) (impl_constOf_rec_ok n)
theorem impl_constOf_ok : ∀ (a0 : GProgram) (a1 : Int) {r0 : Int} {r1 : Bool}, impl_constOf a0 a1 = some (r0, r1) → Ok E 63 [.val (GProgram.enc false a0), .val (vi a1)] [vi r0, vb r1] [] := (impl_constOf_rec_ok recFuel)
end Go.Proofs.T
set_option linter.unusedVariables false
set_option linter.unusedSimpArgs false
set_option maxHeartbeats 1000000
namespace Go.Proofs.T
open Go.OM
theorem res25 : Tryd.f25.results.toList = [.tmp 4, .tmp 5] := rfl
theorem ent25 : Enters E.P 25 := enters_of Tryd.func25 (by simp [Tryd.f25]) rfl
theorem impl_ConstOf_ok (p1 : GProgram) (k2 : Int) {r0 : Int} {r1 : Bool} (h : impl_ConstOf p1 k2 = some (r0, r1)) : Ok E 25 [.val (GProgram.enc false p1), .val (vi k2)] [vi r0, vb r1] [] := by
  refine ok_of_body (fn := Tryd.f25) Tryd.func25 rfl (by simp [Tryd.f25]) fun C hN hP => ?_
  have hPB : ∀ l, pinK [] l = true → pinB C.pin l = true := pinB_of (by rw [hP]; rfl)
  have hN' : C.N = 16 := hN
  clear hN
  unfold impl_ConstOf at h
  refine SWp.seqR rfl (hPB _ rfl) fun K hK => ?_
  iterate 3 (refine wps_cons rfl fun K hK => ?_; simp [hN']; refine hK _ ?_; clear hK)
  refine wps_nil (hK _ ?_); clear hK
  refine SWp.seq ?_
  refine SWp.seqR rfl (hPB _ rfl) fun K hK => ?_
  iterate 3 (refine wps_cons rfl fun K hK => ?_; simp [hN']; refine hK _ ?_; clear hK)
  obtain ⟨r3, hc4, h⟩ := bind_some h
  refine wps_call [(.take, .tmp 7), (.take, .tmp 8)] rfl rfl ent62 (impl_DeepOf_ok _ _ hc4) fun K hK => ?_; simp [hN']; refine hK _ ?_; clear hK
  refine wps_cons rfl fun K hK => ?_; simp [hN']; refine hK _ ?_; clear hK
  refine wps_nil (hK _ ?_); clear hK
  rcases ite_or h with ⟨hb5, h⟩ | ⟨hb6, h⟩
  · refine SWp.condT' (b := r3 == 0) (by simp) hb5 ?_
    refine SWp.seqR rfl (hPB _ rfl) fun K hK => ?_
    iterate 2 (refine wps_cons rfl fun K hK => ?_; simp [hN']; refine hK _ ?_; clear hK)
    refine wps_nil (hK _ ?_); clear hK
    cases h
    refine SWp.ret ?_
    simp [thenS, inBlockS, res25]
  · refine SWp.condF' (b := r3 == 0) (by simp) hb6 ?_
    refine SWp.skip ?_
    show SWp E C _ _ _
    refine SWp.seqR rfl (hPB _ rfl) fun K hK => ?_
    iterate 2 (refine wps_cons rfl fun K hK => ?_; simp [hN']; refine hK _ ?_; clear hK)
    obtain ⟨⟨r7, r8⟩, hc9, h⟩ := bind_some h
    try dsimp only at h
    refine wps_call [(.take, .tmp 11), (.take, .tmp 12)] rfl rfl ent63 (impl_constOf_ok _ _ hc9) fun K hK => ?_; simp [hN']; refine hK _ ?_; clear hK
    iterate 4 (refine wps_cons rfl fun K hK => ?_; simp [hN']; refine hK _ ?_; clear hK)
    refine wps_nil (hK _ ?_); clear hK
    cases h
    refine SWp.ret ?_
    simp [thenS, inBlockS, res25]
end Go.Proofs.T
set_option linter.unusedVariables false
set_option linter.unusedSimpArgs false
set_option maxHeartbeats 1000000
namespace Go.Proofs.T
open Go.OM
theorem res28 : Tryd.f28.results.toList = [.tmp 4] := rfl
theorem ent28 : Enters E.P 28 := enters_of Tryd.func28 (by simp [Tryd.f28]) rfl
theorem impl_Foldable_ok (p1 : GProgram) (k2 : Int) {r0 : Bool} (h : impl_Foldable p1 k2 = some r0) : Ok E 28 [.val (GProgram.enc false p1), .val (vi k2)] [vb r0] [] := by
  refine ok_of_body (fn := Tryd.f28) Tryd.func28 rfl (by simp [Tryd.f28]) fun C hN hP => ?_
  have hPB : ∀ l, pinK [] l = true → pinB C.pin l = true := pinB_of (by rw [hP]; rfl)
  have hN' : C.N = 23 := hN
  clear hN
  unfold impl_Foldable at h
  refine SWp.seqR rfl (hPB _ rfl) fun K hK => ?_
  iterate 2 (refine wps_cons rfl fun K hK => ?_; simp [hN']; refine hK _ ?_; clear hK)
  refine wps_nil (hK _ ?_); clear hK
  refine SWp.seqR rfl (hPB _ rfl) fun K hK => ?_
  iterate 2 (refine wps_cons rfl fun K hK => ?_; simp [hN']; refine hK _ ?_; clear hK)
  obtain ⟨⟨r3, r4⟩, hc5, h⟩ := bind_some h
  try dsimp only at h
  refine wps_call [(.take, .tmp 8), (.take, .tmp 9)] rfl rfl ent25 (impl_ConstOf_ok _ _ hc5) fun K hK => ?_; simp [hN']; refine hK _ ?_; clear hK
  iterate 5 (refine wps_cons rfl fun K hK => ?_; simp [hN']; refine hK _ ?_; clear hK)
  refine wps_nil (hK _ ?_); clear hK
  obtain ⟨v13, hj6, h⟩ := bind_some h
  refine SWp.seqRC rfl (hPB _ rfl) [4] [] (fun _ : Unit => ⟨[(4, .t (vb v13))], []⟩) (fun _ => True) (fun _ _ => ?_) fun K7 hK7 => ?_
  rotate_left
  · refine wps_cons rfl fun K hK => ?_; simp [hN']; refine hK _ ?_; clear hK
    refine wps_cons rfl fun K hK => ?_; simp [hN']; refine hK _ ?_; clear hK
    rcases ite_or hj6 with ⟨hb8, hj6⟩ | ⟨hb9, hj6⟩
    · have hb8s := hb8
      try simp at hb8s
      iterate 3 (refine wps_cons rfl fun K hK => ?_; simp [hN', hb8, hb8s]; refine hK _ ?_; clear hK)
      obtain ⟨e10, he10, hj6⟩ := bind_some hj6
      obtain ⟨he10a, he10b, he10c, he10d⟩ := getI_some he10
      iterate 3 (refine wps_cons rfl fun K hK => ?_; simp [hN', hb8, hb8s, he10a, he10b, he10c, he10d]; refine hK _ ?_; clear hK)
      obtain ⟨r11, hc12, hj6⟩ := bind_some hj6
      refine wps_call [(.take, .tmp 20), (.take, .const (.int .i64 9)), (.take, .const (.int .i64 11))] rfl rfl ent66 (impl_in_ok _ _ _ hc12) fun K hK => ?_; simp [hN', hb8, hb8s, he10a, he10b, he10c, he10d]; refine hK _ ?_; clear hK
      iterate 2 (refine wps_cons rfl fun K hK => ?_; simp [hN', hb8, hb8s, he10a, he10b, he10c, he10d]; refine hK _ ?_; clear hK)
      refine wps_nil ?_
      cases hj6
      exact hK7 _ () [] trivial (by simp [hN', hb8, hb8s, he10a, he10b, he10c, he10d])
    · have hb9s := hb9
      try simp at hb9s
      iterate 7 (refine wps_off fun K hK => ?_; simp [hN', hb9, hb9s]; refine hK _ ?_; clear hK)
      iterate 2 (refine wps_cons rfl fun K hK => ?_; simp [hN', hb9, hb9s]; refine hK _ ?_; clear hK)
      refine wps_nil ?_
      cases hj6
      exact hK7 _ () [] trivial (by simp [hN', hb9, hb9s])
  cases h
  refine SWp.ret ?_
  simp [thenS, inBlockS, res28]
end Go.Proofs.T
