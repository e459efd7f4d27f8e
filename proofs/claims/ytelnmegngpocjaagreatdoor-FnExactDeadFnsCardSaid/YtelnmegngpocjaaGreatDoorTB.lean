import Derived.Test.YtelnmegngpocjaaGreatDoorTA
import Derived.Shelf.Small.Bits
import Derived.Shelf.Utf8.RuneCount
import Derived.Shelf.Strconv.Itoa0
import Derived.Shelf.Strings.Search1
import Derived.Shelf.Strings.Search2
import Derived.Shelf.Strings.Search3
import Derived.Shelf.Strings.Count
import Derived.Shelf.LaysM
import Derived.Shelf.Strings.Shaped
import Derived.Shelf.Sort.Plain
import Derived.Shelf.Strings.Split
import Derived.Shelf.Strings.SplitShaped
import Derived.Shelf.Unicode.Decode
import Derived.Shelf.Strings.RuneCount
import Derived.Shelf.Strings.Explode
import Derived.Shelf.Unicode.DecodeSlow
import Derived.Shelf.Unicode.DecodeAny
import Derived.Ground.Names2Prog
import Derived.Shelf.Slices.SearchI
import Derived.Shelf.Slices.In.SortNone
import Derived.Shelf.Slices.In.SortNone2
import Derived.Test.YtelnmegngpocjaaGreatDoorProg
set_option linter.unusedVariables false
set_option linter.unusedSimpArgs false
set_option linter.unusedVariables false
set_option linter.unusedSimpArgs false
set_option maxHeartbeats 1000000
namespace Go.Proofs.T
open Go.OM
theorem res104 : Tryz.f104.results.toList = [.tmp 2] := rfl
theorem ent104 : Enters E.P 104 := enters_of Tryz.func104 (by simp [Tryz.f104]) rfl
theorem spec_l04Named_ok (kind1 : Int) {r0 : Bool} (h : spec_l04Named kind1 = some r0) : Ok E 104 [.val (vi kind1)] [vb r0] [] := by
  refine ok_of_body (fn := Tryz.f104) Tryz.func104 rfl (by simp [Tryz.f104]) fun C hN hP => ?_
  have hPB : ∀ l, pinK [] l = true → pinB C.pin l = true := pinB_of (by rw [hP]; rfl)
  have hN' : C.N = 14 := hN
  clear hN
  unfold spec_l04Named at h
  refine SWp.seqR rfl (hPB _ rfl) fun K hK => ?_
  refine wps_cons rfl fun K hK => ?_; simp [hN']; refine hK _ ?_; clear hK
  refine wps_nil (hK _ ?_); clear hK
  refine SWp.seq ?_
  refine SWp.seqR rfl (hPB _ rfl) fun K hK => ?_
  refine wps_cons rfl fun K hK => ?_; simp [hN']; refine hK _ ?_; clear hK
  refine wps_nil (hK _ ?_); clear hK
  refine SWp.block ?_
  obtain ⟨v21, hj2, h⟩ := bind_some h
  refine SWp.seqC [4] [] (fun _ : Unit => ⟨[(4, .t (vb v21))], []⟩) (fun _ => True) (fun _ _ => ?_) fun K3 hK3 => ?_
  rotate_left
  · refine SWp.seqR rfl (hPB _ rfl) fun K hK => ?_
    iterate 2 (refine wps_cons rfl fun K hK => ?_; simp [hN']; refine hK _ ?_; clear hK)
    refine wps_nil (hK _ ?_); clear hK
    rcases ite_or hj2 with ⟨hb5, hj2⟩ | ⟨hb6, hj2⟩
    · refine SWp.condT' (b := kind1 == 2) (by simp) hb5 ?_
      refine SWp.skip ?_
      cases hj2
      exact hK3 _ () [] trivial (by simp [hN'])
    · refine SWp.condF' (b := kind1 == 2) (by simp) hb6 ?_
      refine SWp.seqR rfl (hPB _ rfl) fun K hK => ?_
      iterate 2 (refine wps_cons rfl fun K hK => ?_; simp [hN']; refine hK _ ?_; clear hK)
      refine wps_nil (hK _ ?_); clear hK
      rcases ite_or hj2 with ⟨hb7, hj2⟩ | ⟨hb8, hj2⟩
      · refine SWp.condT' (b := kind1 == 3) (by simp) hb7 ?_
        refine SWp.skip ?_
        cases hj2
        exact hK3 _ () [] trivial (by simp [hN'])
      · refine SWp.condF' (b := kind1 == 3) (by simp) hb8 ?_
        refine SWp.seqR rfl (hPB _ rfl) fun K hK => ?_
        iterate 2 (refine wps_cons rfl fun K hK => ?_; simp [hN']; refine hK _ ?_; clear hK)
        refine wps_nil (hK _ ?_); clear hK
        rcases ite_or hj2 with ⟨hb9, hj2⟩ | ⟨hb10, hj2⟩
        · refine SWp.condT' (b := kind1 == 4) (by simp) hb9 ?_
          refine SWp.skip ?_
          cases hj2
          exact hK3 _ () [] trivial (by simp [hN'])
        · refine SWp.condF' (b := kind1 == 4) (by simp) hb10 ?_
          refine SWp.seqR rfl (hPB _ rfl) fun K hK => ?_
          iterate 2 (refine wps_cons rfl fun K hK => ?_; simp [hN']; refine hK _ ?_; clear hK)
          refine wps_nil (hK _ ?_); clear hK
          rcases ite_or hj2 with ⟨hb11, hj2⟩ | ⟨hb12, hj2⟩
          · refine SWp.condT' (b := kind1 == 5) (by simp) hb11 ?_
            refine SWp.skip ?_
            cases hj2
            exact hK3 _ () [] trivial (by simp [hN'])
          · refine SWp.condF' (b := kind1 == 5) (by simp) hb12 ?_
            refine SWp.seqR rfl (hPB _ rfl) fun K hK => ?_
            iterate 2 (refine wps_cons rfl fun K hK => ?_; simp [hN']; refine hK _ ?_; clear hK)
            refine wps_nil (hK _ ?_); clear hK
            rcases ite_or hj2 with ⟨hb13, hj2⟩ | ⟨hb14, hj2⟩
            · refine SWp.condT' (b := kind1 == 6) (by simp) hb13 ?_
              refine SWp.skip ?_
              cases hj2
              exact hK3 _ () [] trivial (by simp [hN'])
            · refine SWp.condF' (b := kind1 == 6) (by simp) hb14 ?_
              refine SWp.seqR rfl (hPB _ rfl) fun K hK => ?_
              iterate 2 (refine wps_cons rfl fun K hK => ?_; simp [hN']; refine hK _ ?_; clear hK)
              refine wps_nil (hK _ ?_); clear hK
              rcases ite_or hj2 with ⟨hb15, hj2⟩ | ⟨hb16, hj2⟩
              · refine SWp.condT' (b := kind1 == 12) (by simp) hb15 ?_
                refine SWp.skip ?_
                cases hj2
                exact hK3 _ () [] trivial (by simp [hN'])
              · refine SWp.condF' (b := kind1 == 12) (by simp) hb16 ?_
                refine SWp.seqR rfl (hPB _ rfl) fun K hK => ?_
                iterate 2 (refine wps_cons rfl fun K hK => ?_; simp [hN']; refine hK _ ?_; clear hK)
                refine wps_nil (hK _ ?_); clear hK
                rcases ite_or hj2 with ⟨hb17, hj2⟩ | ⟨hb18, hj2⟩
                · refine SWp.condT' (b := kind1 == 13) (by simp) hb17 ?_
                  refine SWp.skip ?_
                  cases hj2
                  exact hK3 _ () [] trivial (by simp [hN'])
                · refine SWp.condF' (b := kind1 == 13) (by simp) hb18 ?_
                  refine SWp.seqR rfl (hPB _ rfl) fun K hK => ?_
                  iterate 2 (refine wps_cons rfl fun K hK => ?_; simp [hN']; refine hK _ ?_; clear hK)
                  refine wps_nil (hK _ ?_); clear hK
                  rcases ite_or hj2 with ⟨hb19, hj2⟩ | ⟨hb20, hj2⟩
                  · refine SWp.condT' (b := kind1 == 14) (by simp) hb19 ?_
                    refine SWp.skip ?_
                    cases hj2
                    exact hK3 _ () [] trivial (by simp [hN'])
                  · refine SWp.condF' (b := kind1 == 14) (by simp) hb20 ?_
                    refine SWp.reg rfl (hPB _ rfl) fun K hK => ?_
                    iterate 2 (refine wps_cons rfl fun K hK => ?_; simp [hN']; refine hK _ ?_; clear hK)
                    refine wps_nil (hK _ ?_); clear hK
                    cases hj2
                    exact hK3 _ () [] trivial (by simp [hN'])
  rcases ite_or h with ⟨hb22, h⟩ | ⟨hb23, h⟩
  · refine SWp.condT' (b := v21) (by simp) hb22 ?_
    refine SWp.seqR rfl (hPB _ rfl) fun K hK => ?_
    refine wps_cons rfl fun K hK => ?_; simp [hN']; refine hK _ ?_; clear hK
    refine wps_nil (hK _ ?_); clear hK
    cases h
    refine SWp.ret ?_
    simp [thenS, inBlockS, res104]
  · refine SWp.condF' (b := v21) (by simp) hb23 ?_
    refine SWp.skip ?_
    show SWp E C _ _ _
    refine SWp.seqR rfl (hPB _ rfl) fun K hK => ?_
    refine wps_cons rfl fun K hK => ?_; simp [hN']; refine hK _ ?_; clear hK
    refine wps_nil (hK _ ?_); clear hK
    cases h
    refine SWp.ret ?_
    simp [thenS, inBlockS, res104]
end Go.Proofs.T
set_option linter.unusedVariables false
set_option linter.unusedSimpArgs false
set_option maxHeartbeats 1000000
namespace Go.Proofs.T
open Go.OM
theorem res92 : Tryz.f92.results.toList = [.tmp 2] := rfl
theorem ent92 : Enters E.P 92 := enters_of Tryz.func92 (by simp [Tryz.f92]) rfl
theorem spec_l04Value_ok (kind1 : Int) {r0 : Bool} (h : spec_l04Value kind1 = some r0) : Ok E 92 [.val (vi kind1)] [vb r0] [] := by
  refine ok_of_body (fn := Tryz.f92) Tryz.func92 rfl (by simp [Tryz.f92]) fun C hN hP => ?_
  have hPB : ∀ l, pinK [] l = true → pinB C.pin l = true := pinB_of (by rw [hP]; rfl)
  have hN' : C.N = 5 := hN
  clear hN
  unfold spec_l04Value at h
  refine SWp.seqR rfl (hPB _ rfl) fun K hK => ?_
  refine wps_cons rfl fun K hK => ?_; simp [hN']; refine hK _ ?_; clear hK
  refine wps_nil (hK _ ?_); clear hK
  refine SWp.seqR rfl (hPB _ rfl) fun K hK => ?_
  refine wps_cons rfl fun K hK => ?_; simp [hN']; refine hK _ ?_; clear hK
  obtain ⟨r2, hc3, h⟩ := bind_some h
  refine wps_call [(.take, .tmp 3), (.take, .const (.int .i64 1)), (.take, .const (.int .i64 12))] rfl rfl ent51 (spec_l01In_ok _ _ _ hc3) fun K hK => ?_; simp [hN']; refine hK _ ?_; clear hK
  refine wps_cons rfl fun K hK => ?_; simp [hN']; refine hK _ ?_; clear hK
  refine wps_nil (hK _ ?_); clear hK
  cases h
  refine SWp.ret ?_
  simp [thenS, inBlockS, res92]
end Go.Proofs.T
set_option linter.unusedVariables false
set_option linter.unusedSimpArgs false
set_option maxHeartbeats 1000000
namespace Go.Proofs.T
open Go.OM
theorem res124 : Tryz.f124.results.toList = [.tmp 2] := rfl
theorem ent124 : Enters E.P 124 := enters_of Tryz.func124 (by simp [Tryz.f124]) rfl
theorem spec_l04Statement_ok (kind1 : Int) {r0 : Bool} (h : spec_l04Statement kind1 = some r0) : Ok E 124 [.val (vi kind1)] [vb r0] [] := by
  refine ok_of_body (fn := Tryz.f124) Tryz.func124 rfl (by simp [Tryz.f124]) fun C hN hP => ?_
  have hPB : ∀ l, pinK [] l = true → pinB C.pin l = true := pinB_of (by rw [hP]; rfl)
  have hN' : C.N = 5 := hN
  clear hN
  unfold spec_l04Statement at h
  refine SWp.seqR rfl (hPB _ rfl) fun K hK => ?_
  refine wps_cons rfl fun K hK => ?_; simp [hN']; refine hK _ ?_; clear hK
  refine wps_nil (hK _ ?_); clear hK
  refine SWp.seqR rfl (hPB _ rfl) fun K hK => ?_
  refine wps_cons rfl fun K hK => ?_; simp [hN']; refine hK _ ?_; clear hK
  obtain ⟨r2, hc3, h⟩ := bind_some h
  refine wps_call [(.take, .tmp 3), (.take, .const (.int .i64 13)), (.take, .const (.int .i64 19))] rfl rfl ent51 (spec_l01In_ok _ _ _ hc3) fun K hK => ?_; simp [hN']; refine hK _ ?_; clear hK
  refine wps_cons rfl fun K hK => ?_; simp [hN']; refine hK _ ?_; clear hK
  refine wps_nil (hK _ ?_); clear hK
  cases h
  refine SWp.ret ?_
  simp [thenS, inBlockS, res124]
end Go.Proofs.T
set_option linter.unusedVariables false
set_option linter.unusedSimpArgs false
set_option maxHeartbeats 1000000
namespace Go.Proofs.T
open Go.OM
theorem res105 : Tryz.f105.results.toList = [.tmp 6] := rfl
theorem ent105 : Enters E.P 105 := enters_of Tryz.func105 (by simp [Tryz.f105]) rfl
theorem spec_l04Fits_ok (kind1 : Int) (at2 : Int) (kid3 : Int) {r0 : Bool} (h : spec_l04Fits kind1 at2 kid3 = some r0) : Ok E 105 [.val (vi kind1), .val (vi at2), .val (vi kid3)] [vb r0] [] := by
  refine ok_of_body (fn := Tryz.f105) Tryz.func105 rfl (by simp [Tryz.f105]) fun C hN hP => ?_
  have hPB : ∀ l, pinK [] l = true → pinB C.pin l = true := pinB_of (by rw [hP]; rfl)
  have hN' : C.N = 25 := hN
  clear hN
  unfold spec_l04Fits at h
  refine SWp.seqR rfl (hPB _ rfl) fun K hK => ?_
  refine wps_cons rfl fun K hK => ?_; simp [hN']; refine hK _ ?_; clear hK
  refine wps_nil (hK _ ?_); clear hK
  refine SWp.seq ?_
  refine SWp.seqR rfl (hPB _ rfl) fun K hK => ?_
  refine wps_cons rfl fun K hK => ?_; simp [hN']; refine hK _ ?_; clear hK
  refine wps_nil (hK _ ?_); clear hK
  refine SWp.block ?_
  refine SWp.seqR rfl (hPB _ rfl) fun K hK => ?_
  iterate 2 (refine wps_cons rfl fun K hK => ?_; simp [hN']; refine hK _ ?_; clear hK)
  refine wps_nil (hK _ ?_); clear hK
  rcases ite_or h with ⟨hb4, h⟩ | ⟨hb5, h⟩
  · refine SWp.condT' (b := kind1 == 20) (by simp) hb4 ?_
    refine SWp.seqR rfl (hPB _ rfl) fun K hK => ?_
    refine wps_cons rfl fun K hK => ?_; simp [hN']; refine hK _ ?_; clear hK
    obtain ⟨r6, hc7, h⟩ := bind_some h
    refine wps_call [(.take, .tmp 10)] rfl rfl ent124 (spec_l04Statement_ok _ hc7) fun K hK => ?_; simp [hN']; refine hK _ ?_; clear hK
    refine wps_cons rfl fun K hK => ?_; simp [hN']; refine hK _ ?_; clear hK
    refine wps_nil (hK _ ?_); clear hK
    cases h
    refine SWp.ret ?_
    simp [thenS, inBlockS, res105]
  · refine SWp.condF' (b := kind1 == 20) (by simp) hb5 ?_
    obtain ⟨v13, hj8, h⟩ := bind_some h
    refine SWp.seqC [1, 2, 7, 12] [] (fun _ : Unit => ⟨[(1, .t (vi at2)), (2, .t (vi kid3)), (7, .t (vi kind1)), (12, .t (vb v13))], []⟩) (fun _ => True) (fun _ _ => ?_) fun K9 hK9 => ?_
    rotate_left
    · refine SWp.seqR rfl (hPB _ rfl) fun K hK => ?_
      iterate 2 (refine wps_cons rfl fun K hK => ?_; simp [hN']; refine hK _ ?_; clear hK)
      refine wps_nil (hK _ ?_); clear hK
      rcases ite_or hj8 with ⟨hb11, hj8⟩ | ⟨hb12, hj8⟩
      · refine SWp.condT' (b := kind1 == 16) (by simp) hb11 ?_
        refine SWp.skip ?_
        cases hj8
        exact hK9 _ () [] trivial (by simp [hN'])
      · refine SWp.condF' (b := kind1 == 16) (by simp) hb12 ?_
        refine SWp.reg rfl (hPB _ rfl) fun K hK => ?_
        iterate 2 (refine wps_cons rfl fun K hK => ?_; simp [hN']; refine hK _ ?_; clear hK)
        refine wps_nil (hK _ ?_); clear hK
        cases hj8
        exact hK9 _ () [] trivial (by simp [hN'])
    rcases ite_or h with ⟨hb14, h⟩ | ⟨hb15, h⟩
    · refine SWp.condT' (b := v13) (by simp) hb14 ?_
      refine SWp.seqR rfl (hPB _ rfl) fun K hK => ?_
      iterate 2 (refine wps_cons rfl fun K hK => ?_; simp [hN']; refine hK _ ?_; clear hK)
      refine wps_nil (hK _ ?_); clear hK
      rcases ite_or h with ⟨hb16, h⟩ | ⟨hb17, h⟩
      · refine SWp.condT' (b := decide (at2 > 0)) (by simp) hb16 ?_
        refine SWp.seqR rfl (hPB _ rfl) fun K hK => ?_
        iterate 3 (refine wps_cons rfl fun K hK => ?_; simp [hN']; refine hK _ ?_; clear hK)
        refine wps_nil (hK _ ?_); clear hK
        cases h
        refine SWp.ret ?_
        simp [thenS, inBlockS, res105]
      · refine SWp.condF' (b := decide (at2 > 0)) (by simp) hb17 ?_
        refine SWp.skip ?_
        show SWp E C _ _ _
        refine SWp.seqR rfl (hPB _ rfl) fun K hK => ?_
        refine wps_cons rfl fun K hK => ?_; simp [hN']; refine hK _ ?_; clear hK
        obtain ⟨r18, hc19, h⟩ := bind_some h
        refine wps_call [(.take, .tmp 23)] rfl rfl ent92 (spec_l04Value_ok _ hc19) fun K hK => ?_; simp [hN']; refine hK _ ?_; clear hK
        refine wps_cons rfl fun K hK => ?_; simp [hN']; refine hK _ ?_; clear hK
        refine wps_nil (hK _ ?_); clear hK
        cases h
        refine SWp.ret ?_
        simp [thenS, inBlockS, res105]
    · refine SWp.condF' (b := v13) (by simp) hb15 ?_
      refine SWp.seqR rfl (hPB _ rfl) fun K hK => ?_
      iterate 2 (refine wps_cons rfl fun K hK => ?_; simp [hN']; refine hK _ ?_; clear hK)
      refine wps_nil (hK _ ?_); clear hK
      rcases ite_or h with ⟨hb20, h⟩ | ⟨hb21, h⟩
      · refine SWp.condT' (b := kind1 == 19) (by simp) hb20 ?_
        refine SWp.seqR rfl (hPB _ rfl) fun K hK => ?_
        iterate 3 (refine wps_cons rfl fun K hK => ?_; simp [hN']; refine hK _ ?_; clear hK)
        refine wps_nil (hK _ ?_); clear hK
        cases h
        refine SWp.ret ?_
        simp [thenS, inBlockS, res105]
      · refine SWp.condF' (b := kind1 == 19) (by simp) hb21 ?_
        refine SWp.skip ?_
        show SWp E C _ _ _
        refine SWp.seqR rfl (hPB _ rfl) fun K hK => ?_
        refine wps_cons rfl fun K hK => ?_; simp [hN']; refine hK _ ?_; clear hK
        obtain ⟨r22, hc23, h⟩ := bind_some h
        refine wps_call [(.take, .tmp 23)] rfl rfl ent92 (spec_l04Value_ok _ hc23) fun K hK => ?_; simp [hN']; refine hK _ ?_; clear hK
        refine wps_cons rfl fun K hK => ?_; simp [hN']; refine hK _ ?_; clear hK
        refine wps_nil (hK _ ?_); clear hK
        cases h
        refine SWp.ret ?_
        simp [thenS, inBlockS, res105]
end Go.Proofs.T
set_option linter.unusedVariables false
set_option linter.unusedSimpArgs false
set_option maxHeartbeats 8000000
namespace Go.Proofs.T
open Go.OM
theorem res90 : Tryz.f90.results.toList = [.tmp 4] := rfl
theorem ent90 : Enters E.P 90 := enters_of Tryz.func90 (by simp [Tryz.f90]) rfl
theorem spec_NodeOk_ok (nodes1 : List GNode) (k2 : Int) {r0 : Bool} (h : spec_NodeOk nodes1 k2 = some r0) : Ok E 90 [.val (.sl false 4 (List.map (GNode.enc false) nodes1)), .val (vi k2)] [vb r0] [] := by
  refine ok_of_body (fn := Tryz.f90) Tryz.func90 rfl (by simp [Tryz.f90]) fun C hN hP => ?_
  have hPB : ∀ l, pinK [] l = true → pinB C.pin l = true := pinB_of (by rw [hP]; rfl)
  have hN' : C.N = 124 := hN
  clear hN
  unfold spec_NodeOk at h
  refine SWp.seqR rfl (hPB _ rfl) fun K hK => ?_
  refine wps_cons rfl fun K hK => ?_; simp [hN']; refine hK _ ?_; clear hK
  refine wps_nil (hK _ ?_); clear hK
  refine SWp.seq ?_
  obtain ⟨v12, hj3, h⟩ := bind_some h
  refine SWp.seqRC rfl (hPB _ rfl) [0, 1, 24] [] (fun _ : Unit => ⟨[(0, .t (.sl false 4 (List.map (GNode.enc false) nodes1))), (1, .t (vi k2)), (24, .t (vb v12))], []⟩) (fun _ => True) (fun _ _ => ?_) fun K4 hK4 => ?_
  rotate_left
  · refine wps_cons rfl fun K hK => ?_; simp [hN']; refine hK _ ?_; clear hK
    iterate 3 (refine wps_cons rfl fun K hK => ?_; simp [hN']; refine hK _ ?_; clear hK)
    obtain ⟨r5, hc6, hj3⟩ := bind_some hj3
    refine wps_call [(.take, .tmp 10), (.take, .const (.int .i64 0)), (.take, .tmp 13)] rfl rfl ent51 (spec_l01In_ok _ _ _ hc6) fun K hK => ?_; simp [hN']; refine hK _ ?_; clear hK
    iterate 2 (refine wps_cons rfl fun K hK => ?_; simp [hN']; refine hK _ ?_; clear hK)
    rcases ite_or hj3 with ⟨hb7, hj3⟩ | ⟨hb8, hj3⟩
    · have hb7s := hb7
      try simp at hb7s
      iterate 7 (refine wps_off fun K hK => ?_; simp [hN', hb7, hb7s]; refine hK _ ?_; clear hK)
      refine wps_cons rfl fun K hK => ?_; simp [hN', hb7, hb7s]; refine hK _ ?_; clear hK
      refine wps_nil ?_
      cases hj3
      exact hK4 _ () [] trivial (by simp [hN', hb7, hb7s])
    · have hb8s := hb8
      try simp at hb8s
      iterate 2 (refine wps_cons rfl fun K hK => ?_; simp [hN', hb8, hb8s]; refine hK _ ?_; clear hK)
      obtain ⟨e9, he9, hj3⟩ := bind_some hj3
      obtain ⟨he9a, he9b, he9c, he9d⟩ := getI_some he9
      iterate 3 (refine wps_cons rfl fun K hK => ?_; simp [hN', hb8, hb8s, he9a, he9b, he9c, he9d]; refine hK _ ?_; clear hK)
      obtain ⟨r10, hc11, hj3⟩ := bind_some hj3
      refine wps_call [(.take, .tmp 21), (.take, .const (.int .i64 1)), (.take, .const (.int .i64 20))] rfl rfl ent51 (spec_l01In_ok _ _ _ hc11) fun K hK => ?_; simp [hN', hb8, hb8s, he9a, he9b, he9c, he9d]; refine hK _ ?_; clear hK
      iterate 2 (refine wps_cons rfl fun K hK => ?_; simp [hN', hb8, hb8s, he9a, he9b, he9c, he9d]; refine hK _ ?_; clear hK)
      refine wps_nil ?_
      cases hj3
      exact hK4 _ () [] trivial (by simp [hN', hb8, hb8s, he9a, he9b, he9c, he9d])
  rcases ite_or h with ⟨hb13, h⟩ | ⟨hb14, h⟩
  · refine SWp.condT' (b := v12) (by simp) hb13 ?_
    refine SWp.seqR rfl (hPB _ rfl) fun K hK => ?_
    refine wps_cons rfl fun K hK => ?_; simp [hN']; refine hK _ ?_; clear hK
    refine wps_nil (hK _ ?_); clear hK
    cases h
    refine SWp.ret ?_
    simp [thenS, inBlockS, res90]
  · refine SWp.condF' (b := v12) (by simp) hb14 ?_
    refine SWp.skip ?_
    show SWp E C _ _ _
    refine SWp.seqR rfl (hPB _ rfl) fun K hK => ?_
    iterate 2 (refine wps_cons rfl fun K hK => ?_; simp [hN']; refine hK _ ?_; clear hK)
    obtain ⟨e15, he15, h⟩ := bind_some h
    obtain ⟨he15a, he15b, he15c, he15d⟩ := getI_some he15
    iterate 4 (refine wps_cons rfl fun K hK => ?_; simp [hN', he15a, he15b, he15c, he15d]; refine hK _ ?_; clear hK)
    refine wps_nil (hK _ ?_); clear hK
    refine SWp.seqR rfl (hPB _ rfl) fun K hK => ?_
    iterate 2 (refine wps_cons rfl fun K hK => ?_; simp [hN']; refine hK _ ?_; clear hK)
    obtain ⟨⟨r16, r17⟩, hc18, h⟩ := bind_some h
    try dsimp only at h
    refine wps_call [(.take, .tmp 31)] rfl rfl ent103 (spec_l04Kids_ok _ hc18) fun K hK => ?_; simp [hN']; refine hK _ ?_; clear hK
    iterate 5 (refine wps_cons rfl fun K hK => ?_; simp [hN']; refine hK _ ?_; clear hK)
    refine wps_nil (hK _ ?_); clear hK
    refine SWp.seq ?_
    obtain ⟨v31, hj19, h⟩ := bind_some h
    refine SWp.seqRC rfl (hPB _ rfl) [0, 1, 5, 57] [5] (fun _ : Unit => ⟨[(0, .t (.sl false 4 (List.map (GNode.enc false) nodes1))), (1, .t (vi k2)), (5, .ref (.box 5) 0 []), (57, .t (vb v31))], [(5, [vi e15.Kind, vi e15.Num, vs e15.Name, .sl false 1 (List.map vi e15.Kids)])]⟩) (fun _ => True) (fun _ _ => ?_) fun K20 hK20 => ?_
    rotate_left
    · refine wps_cons rfl fun K hK => ?_; simp [hN']; refine hK _ ?_; clear hK
      iterate 4 (refine wps_cons rfl fun K hK => ?_; simp [hN']; refine hK _ ?_; clear hK)
      obtain ⟨r21, hc22, hj19⟩ := bind_some hj19
      refine wps_call [(.take, .tmp 37), (.take, .tmp 38), (.take, .tmp 39)] rfl rfl ent51 (spec_l01In_ok _ _ _ hc22) fun K hK => ?_; simp [hN']; refine hK _ ?_; clear hK
      iterate 2 (refine wps_cons rfl fun K hK => ?_; simp [hN']; refine hK _ ?_; clear hK)
      rcases ite_or hj19 with ⟨hb23, hj19⟩ | ⟨hb24, hj19⟩
      · have hb23s := hb23
        try simp at hb23s
        iterate 4 (refine wps_off fun K hK => ?_; simp [hN', hb23, hb23s]; refine hK _ ?_; clear hK)
        iterate 2 (refine wps_cons rfl fun K hK => ?_; simp [hN', hb23, hb23s]; refine hK _ ?_; clear hK)
        iterate 8 (refine wps_off fun K hK => ?_; simp [hN', hb23, hb23s]; refine hK _ ?_; clear hK)
        refine wps_cons rfl fun K hK => ?_; simp [hN', hb23, hb23s]; refine hK _ ?_; clear hK
        refine wps_nil ?_
        cases hj19
        exact hK20 _ () [] trivial (by simp [hN', hb23, hb23s])
      · have hb24s := hb24
        try simp at hb24s
        iterate 2 (refine wps_cons rfl fun K hK => ?_; simp [hN', hb24, hb24s]; refine hK _ ?_; clear hK)
        obtain ⟨r25, hc26, hj19⟩ := bind_some hj19
        refine wps_call [(.take, .tmp 44), (.take, .const (.int .i64 0)), (.take, .const (.int .i64 1000000000))] rfl rfl ent51 (spec_l01In_ok _ _ _ hc26) fun K hK => ?_; simp [hN', hb24, hb24s]; refine hK _ ?_; clear hK
        iterate 3 (refine wps_cons rfl fun K hK => ?_; simp [hN', hb24, hb24s]; refine hK _ ?_; clear hK)
        rcases ite_or hj19 with ⟨hb27, hj19⟩ | ⟨hb28, hj19⟩
        · have hb27s := hb27
          try simp at hb27s
          iterate 8 (refine wps_off fun K hK => ?_; simp [hN', hb24, hb24s, hb27, hb27s]; refine hK _ ?_; clear hK)
          refine wps_cons rfl fun K hK => ?_; simp [hN', hb24, hb24s, hb27, hb27s]; refine hK _ ?_; clear hK
          refine wps_nil ?_
          cases hj19
          exact hK20 _ () [] trivial (by simp [hN', hb24, hb24s, hb27, hb27s])
        · have hb28s := hb28
          try simp at hb28s
          iterate 4 (refine wps_cons rfl fun K hK => ?_; simp [hN', hb24, hb24s, hb28, hb28s]; refine hK _ ?_; clear hK)
          rcases ite_or hj19 with ⟨hb29, hj19⟩ | ⟨hb30, hj19⟩
          · have hb29s := hb29
            try simp at hb29s
            iterate 5 (refine wps_cons rfl fun K hK => ?_; simp [hN', hb24, hb24s, hb28, hb28s, hb29, hb29s]; refine hK _ ?_; clear hK)
            refine wps_nil ?_
            cases hj19
            exact hK20 _ () [] trivial (by simp [hN', hb24, hb24s, hb28, hb28s, hb29, hb29s])
          · have hb30s := hb30
            try simp at hb30s
            iterate 3 (refine wps_off fun K hK => ?_; simp [hN', hb24, hb24s, hb28, hb28s, hb30, hb30s]; refine hK _ ?_; clear hK)
            iterate 2 (refine wps_cons rfl fun K hK => ?_; simp [hN', hb24, hb24s, hb28, hb28s, hb30, hb30s]; refine hK _ ?_; clear hK)
            refine wps_nil ?_
            cases hj19
            exact hK20 _ () [] trivial (by simp [hN', hb24, hb24s, hb28, hb28s, hb30, hb30s])
    rcases ite_or h with ⟨hb32, h⟩ | ⟨hb33, h⟩
    · refine SWp.condT' (b := v31) (by simp) hb32 ?_
      refine SWp.seqR rfl (hPB _ rfl) fun K hK => ?_
      refine wps_cons rfl fun K hK => ?_; simp [hN']; refine hK _ ?_; clear hK
      refine wps_nil (hK _ ?_); clear hK
      cases h
      refine SWp.ret ?_
      simp [thenS, inBlockS, res90]
    · refine SWp.condF' (b := v31) (by simp) hb33 ?_
      refine SWp.skip ?_
      show SWp E C _ _ _
      refine SWp.seq ?_
      obtain ⟨v44, hj34, h⟩ := bind_some h
      refine SWp.seqC [0, 1, 5, 75] [5] (fun _ : Unit => ⟨[(0, .t (.sl false 4 (List.map (GNode.enc false) nodes1))), (1, .t (vi k2)), (5, .ref (.box 5) 0 []), (75, .t (vb v44))], [(5, [vi e15.Kind, vi e15.Num, vs e15.Name, .sl false 1 (List.map vi e15.Kids)])]⟩) (fun _ => True) (fun _ _ => ?_) fun K35 hK35 => ?_
      rotate_left
      · obtain ⟨r36, hc37, hj34⟩ := bind_some hj34
        refine SWp.drawT rfl (hPB _ rfl) [(58, .ref (.box 5) 0 []), (59, .t (vi e15.Kind)), (60, .t (vb r36)), (61, .ref (.box 5) 2 []), (62, .t (vs e15.Name)), (63, .t (vb (!(sEq e15.Name (⟨#[]⟩ : ByteArray)))))] [[], [0], [0, 1], [], [3], [3, 4], [0, 1, 2, 3, 4, 5], [0, 1, 2, 3, 4, 5, 6], [0, 1, 2, 3, 4, 5, 6, 7], [0, 1, 2, 3, 4, 5, 6, 7, 8], [0, 1, 2, 3, 4, 5, 6, 7, 8, 9], [0, 1, 2, 3, 4, 5, 6, 7, 8, 9, 10], [0, 1, 2, 3, 4, 5, 6, 7, 8, 9, 10, 11], [0, 1, 2, 3, 4, 5, 6, 7, 8, 9, 10, 11, 12], [0, 1, 2, 3, 4, 5, 6, 7, 8, 9, 10, 11, 12, 13], [0, 1, 2, 3, 4, 5, 6, 7, 8, 9, 10, 11, 12, 13, 14], [0, 1, 2, 3, 4, 5, 6, 7, 8, 9, 10, 11, 12, 13, 14, 15], [0, 1, 2, 3, 4, 5, 6, 7, 8, 9, 10, 11, 12, 13, 14, 15, 16]] (by simp) (by simp) (by simp [look]) rfl rfl rfl ?_ fun K hK => ?_
        · refine ⟨?_, ?_, ?_, ?_, ?_, ?_, trivial⟩
          all_goals (intro τ hbx hb hd hf K hK; try simp [vsAt] at hd; simp [vsAt] at hf; first | (refine wps_cons rfl fun K' hK' => ?_; simp [hN', hbx, hb, hd, hf]; exact hK' _ (wps_nil (hK _ (by simp [vsAt, hbx])))) | (refine wps_call [(.take, .tmp 59)] rfl rfl ent104 (spec_l04Named_ok _ hc37) fun K' hK' => ?_; simp [hN', hbx, hb, hd, hf]; exact hK' _ (wps_nil (hK _ (by simp [vsAt, hbx])))))
        iterate 2 (refine wps_cons rfl fun K hK => ?_; simp [hN']; refine hK _ ?_; clear hK)
        rcases ite_or hj34 with ⟨hb38, hj34⟩ | ⟨hb39, hj34⟩
        · have hb38s := hb38
          try simp at hb38s
          iterate 9 (refine wps_off fun K hK => ?_; simp [hN', hb38, hb38s]; refine hK _ ?_; clear hK)
          refine wps_cons rfl fun K hK => ?_; simp [hN', hb38, hb38s]; refine hK _ ?_; clear hK
          refine wps_nil (hK _ ?_); clear hK
          cases hj34
          exact hK35 _ () [] trivial (by simp [hN', hb38, hb38s])
        · have hb39s := hb39
          try simp at hb39s
          iterate 4 (refine wps_cons rfl fun K hK => ?_; simp [hN', hb39, hb39s]; refine hK _ ?_; clear hK)
          rcases ite_or hj34 with ⟨hb40, hj34⟩ | ⟨hb41, hj34⟩
          · have hb40s := hb40
            try simp at hb40s
            iterate 2 (refine wps_cons rfl fun K hK => ?_; simp [hN', hb39, hb39s, hb40, hb40s]; refine hK _ ?_; clear hK)
            obtain ⟨r42, hc43, hj34⟩ := bind_some hj34
            refine wps_call [(.take, .tmp 71)] rfl rfl ent91 (spec_NameOk_ok _ hc43) fun K hK => ?_; simp [hN', hb39, hb39s, hb40, hb40s]; refine hK _ ?_; clear hK
            iterate 3 (refine wps_cons rfl fun K hK => ?_; simp [hN', hb39, hb39s, hb40, hb40s]; refine hK _ ?_; clear hK)
            refine wps_nil (hK _ ?_); clear hK
            cases hj34
            exact hK35 _ () [] trivial (by simp [hN', hb39, hb39s, hb40, hb40s])
          · have hb41s := hb41
            try simp at hb41s
            iterate 4 (refine wps_off fun K hK => ?_; simp [hN', hb39, hb39s, hb41, hb41s]; refine hK _ ?_; clear hK)
            iterate 2 (refine wps_cons rfl fun K hK => ?_; simp [hN', hb39, hb39s, hb41, hb41s]; refine hK _ ?_; clear hK)
            refine wps_nil (hK _ ?_); clear hK
            cases hj34
            exact hK35 _ () [] trivial (by simp [hN', hb39, hb39s, hb41, hb41s])
      rcases ite_or h with ⟨hb45, h⟩ | ⟨hb46, h⟩
      · refine SWp.condT' (b := v44) (by simp) hb45 ?_
        refine SWp.seqR rfl (hPB _ rfl) fun K hK => ?_
        refine wps_cons rfl fun K hK => ?_; simp [hN']; refine hK _ ?_; clear hK
        refine wps_nil (hK _ ?_); clear hK
        cases h
        refine SWp.ret ?_
        simp [thenS, inBlockS, res90]
      · refine SWp.condF' (b := v44) (by simp) hb46 ?_
        refine SWp.skip ?_
        show SWp E C _ _ _
        obtain ⟨j49, hj47, h⟩ := bind_some h
        refine SWp.seqC [] [] (fun v : Unit => ⟨[], []⟩) (fun v => j49 = Sum.inl v) (fun v hv => ?_) fun K48 hK48 => ?_
        rotate_left
        · refine SWp.seqR rfl (hPB _ rfl) fun K hK => ?_
          refine wps_cons rfl fun K hK => ?_; simp [hN']; refine hK _ ?_; clear hK
          refine wps_nil (hK _ ?_); clear hK
          refine SWp.block ?_
          refine SWp.loopO [] [0, 1, 5, 8] [5] (fun v : Int => ⟨[(0, .t (.sl false 4 (List.map (GNode.enc false) nodes1))), (1, .t (vi k2)), (5, .ref (.box 5) 0 []), (8, .t (vi v))], [(5, [vi e15.Kind, vi e15.Num, vs e15.Name, .sl false 1 (List.map vi e15.Kids)])]⟩) (spec_NodeOk_l1 nodes1 k2 e15) _ 0 hj47 (by simp [hN']) ?_
          intro g s53 h51 ho52
          obtain ⟨i50, hg⟩ : ∃ y, y = g := ⟨_, rfl⟩
          subst hg
          simp only [spec_NodeOk_l1] at h51
          try dsimp only
          refine SWp.seq ?_
          refine SWp.seqR rfl (hPB _ rfl) fun K hK => ?_
          iterate 5 (refine wps_cons rfl fun K hK => ?_; simp [hN']; refine hK _ ?_; clear hK)
          refine wps_nil (hK _ ?_); clear hK
          rcases ite_or h51 with ⟨hb54, h51⟩ | ⟨hb55, h51⟩
          · refine SWp.condT' (b := decide (i50 < (e15.Kids.length : Int))) (by simp) hb54 ?_
            refine SWp.skip ?_
            show SWp E C _ _ _
            obtain ⟨j58, hj56, h51⟩ := bind_some h51
            refine SWp.seqC [0, 1, 5, 8] [5] (fun v : Unit => ⟨[(0, .t (.sl false 4 (List.map (GNode.enc false) nodes1))), (1, .t (vi k2)), (5, .ref (.box 5) 0 []), (8, .t (vi i50))], [(5, [vi e15.Kind, vi e15.Num, vs e15.Name, .sl false 1 (List.map vi e15.Kids)])]⟩) (fun v => j58 = Sum.inl v) (fun v hv => ?_) fun K57 hK57 => ?_
            rotate_left
            · refine SWp.block ?_
              refine SWp.seq ?_
              obtain ⟨v69, hj59, hj56⟩ := bind_some hj56
              refine SWp.seqC [0, 1, 5, 8, 107] [5] (fun _ : Unit => ⟨[(0, .t (.sl false 4 (List.map (GNode.enc false) nodes1))), (1, .t (vi k2)), (5, .ref (.box 5) 0 []), (8, .t (vi i50)), (107, .t (vb v69))], [(5, [vi e15.Kind, vi e15.Num, vs e15.Name, .sl false 1 (List.map vi e15.Kids)])]⟩) (fun _ => True) (fun _ _ => ?_) fun K60 hK60 => ?_
              rotate_left
              · obtain ⟨e61, he61, hj59⟩ := bind_some hj59
                obtain ⟨he61a, he61b, he61c, he61d⟩ := getI_some he61
                obtain ⟨r62, hc63, hj59⟩ := bind_some hj59
                rcases ite_or hj59 with ⟨hb64, hj59⟩ | ⟨hb65, hj59⟩
                · have hb64s := hb64
                  try simp at hb64s
                  refine SWp.drawT rfl (hPB _ rfl) [(83, .ref (.box 5) 3 []), (84, .t (.sl false 1 (List.map vi e15.Kids))), (85, .t (vi i50)), (86, .rop [vi e61] 0), (87, .t (vi e61)), (88, .t (vi k2)), (89, .t (vi (IntKind.wrap .i64 (k2 - 1)))), (90, .t (vb r62)), (91, .t (vb (!r62))), (92, .t (vb (!r62))), (93, .tup []), (94, .tup []), (95, .tup []), (96, .tup []), (97, .tup []), (98, .tup []), (99, .tup []), (100, .tup []), (101, .tup []), (102, .tup []), (103, .tup []), (104, .tup [])] [[], [0], [], [0, 1, 2], [0, 1, 2, 3], [], [5], [0, 1, 2, 3, 4, 5, 6], [0, 1, 2, 3, 4, 5, 6, 7], [0, 1, 2, 3, 4, 5, 6, 7, 8], [0, 1, 2, 3, 4, 5, 6, 7, 8, 9], [0, 1, 2, 3, 4, 5, 6, 7, 8, 9, 10], [0, 1, 2, 3, 4, 5, 6, 7, 8, 9], [0, 1, 2, 3, 4, 5, 6, 7, 8, 9], [0, 1, 2, 3, 4, 5, 6, 7, 8, 9], [0, 1, 2, 3, 4, 5, 6, 7, 8, 9, 14], [0, 1, 2, 3, 4, 5, 6, 7, 8, 9], [0, 1, 2, 3, 4, 5, 6, 7, 8, 9, 14, 15, 16], [0, 1, 2, 3, 4, 5, 6, 7, 8, 9, 14, 15, 16, 17], [0, 1, 2, 3, 4, 5, 6, 7, 8, 9, 13, 14, 15, 16, 17, 18], [0, 1, 2, 3, 4, 5, 6, 7, 8, 9, 13, 14, 15, 16, 17, 18, 19], [0, 1, 2, 3, 4, 5, 6, 7, 8, 9, 13, 14, 15, 16, 17, 18, 19, 20], [0, 1, 2, 3, 4, 5, 6, 7, 8, 9, 10, 11, 12, 13, 14, 15, 16, 17, 18, 19, 20, 21], [0, 1, 2, 3, 4, 5, 6, 7, 8, 9, 10, 11, 12, 13, 14, 15, 16, 17, 18, 19, 20, 21, 22], [0, 1, 2, 3, 4, 5, 6, 7, 8, 9, 10, 11, 12, 13, 14, 15, 16, 17, 18, 19, 20, 21, 22, 23]] (by simp) (by simp) (by simp [look]) rfl rfl rfl ?_ fun K hK => ?_
                  · refine ⟨?_, ?_, ?_, ?_, ?_, ?_, ?_, ?_, ?_, ?_, ?_, ?_, ?_, ?_, ?_, ?_, ?_, ?_, ?_, ?_, ?_, ?_, trivial⟩
                    all_goals (intro τ hbx hb hd hf K hK; try simp [vsAt] at hd; simp [vsAt] at hf; first | (refine wps_cons rfl fun K' hK' => ?_; simp [hN', hbx, hb, hd, hf, he61a, he61b, he61c, he61d, hb64, hb64s]; exact hK' _ (wps_nil (hK _ (by simp [vsAt, hbx, he61a, he61b, he61c, he61d, hb64, hb64s])))) | (refine wps_call [(.take, .tmp 87), (.take, .const (.int .i64 0)), (.take, .tmp 89)] rfl rfl ent51 (spec_l01In_ok _ _ _ hc63) fun K' hK' => ?_; simp [hN', hbx, hb, hd, hf, he61a, he61b, he61c, he61d, hb64, hb64s]; exact hK' _ (wps_nil (hK _ (by simp [vsAt, hbx, he61a, he61b, he61c, he61d, hb64, hb64s])))) | (refine wps_off fun K' hK' => ?_; simp [hN', hbx, hb, hd, hf, he61a, he61b, he61c, he61d, hb64, hb64s]; exact hK' _ (wps_nil (hK _ (by simp [vsAt, hbx, he61a, he61b, he61c, he61d, hb64, hb64s])))))
                  iterate 2 (refine wps_off fun K hK => ?_; simp [hN', he61a, he61b, he61c, he61d, hb64, hb64s]; refine hK _ ?_; clear hK)
                  refine wps_cons rfl fun K hK => ?_; simp [hN', he61a, he61b, he61c, he61d, hb64, hb64s]; refine hK _ ?_; clear hK
                  refine wps_nil (hK _ ?_); clear hK
                  cases hj59
                  exact hK60 _ () [] trivial (by simp [hN', he61a, he61b, he61c, he61d, hb64, hb64s])
                · have hb65s := hb65
                  try simp at hb65s
                  obtain ⟨e66, he66, hj59⟩ := bind_some hj59
                  obtain ⟨he66a, he66b, he66c, he66d⟩ := getI_some he66
                  refine SWp.drawT rfl (hPB _ rfl) [(83, .ref (.box 5) 3 []), (84, .t (.sl false 1 (List.map vi e15.Kids))), (85, .t (vi i50)), (86, .rop [vi e61] 0), (87, .t (vi e61)), (88, .t (vi k2)), (89, .t (vi (IntKind.wrap .i64 (k2 - 1)))), (90, .t (vb r62)), (91, .t (vb (!r62))), (92, .t (vb (!r62))), (93, .ref (.box 5) 0 []), (94, .t (vi e15.Kind)), (95, .t (vi i50)), (96, .t (.sl false 4 (List.map (GNode.enc false) nodes1))), (97, .ref (.box 5) 3 []), (98, .t (.sl false 1 (List.map vi e15.Kids))), (99, .t (vi i50)), (100, .rop [vi e61] 0), (101, .t (vi e61)), (102, .rop [vi e66.Kind, vi e66.Num, vs e66.Name, .sl false 1 (List.map vi e66.Kids)] 0), (103, .rop [vi e66.Kind, vi e66.Num, vs e66.Name, .sl false 1 (List.map vi e66.Kids)] 0), (104, .t (vi e66.Kind))] [[], [0], [], [0, 1, 2], [0, 1, 2, 3], [], [5], [0, 1, 2, 3, 4, 5, 6], [0, 1, 2, 3, 4, 5, 6, 7], [0, 1, 2, 3, 4, 5, 6, 7, 8], [0, 1, 2, 3, 4, 5, 6, 7, 8, 9], [0, 1, 2, 3, 4, 5, 6, 7, 8, 9, 10], [0, 1, 2, 3, 4, 5, 6, 7, 8, 9], [0, 1, 2, 3, 4, 5, 6, 7, 8, 9], [0, 1, 2, 3, 4, 5, 6, 7, 8, 9], [0, 1, 2, 3, 4, 5, 6, 7, 8, 9, 14], [0, 1, 2, 3, 4, 5, 6, 7, 8, 9], [0, 1, 2, 3, 4, 5, 6, 7, 8, 9, 14, 15, 16], [0, 1, 2, 3, 4, 5, 6, 7, 8, 9, 14, 15, 16, 17], [0, 1, 2, 3, 4, 5, 6, 7, 8, 9, 13, 14, 15, 16, 17, 18], [0, 1, 2, 3, 4, 5, 6, 7, 8, 9, 13, 14, 15, 16, 17, 18, 19], [0, 1, 2, 3, 4, 5, 6, 7, 8, 9, 13, 14, 15, 16, 17, 18, 19, 20], [0, 1, 2, 3, 4, 5, 6, 7, 8, 9, 10, 11, 12, 13, 14, 15, 16, 17, 18, 19, 20, 21], [0, 1, 2, 3, 4, 5, 6, 7, 8, 9, 10, 11, 12, 13, 14, 15, 16, 17, 18, 19, 20, 21, 22], [0, 1, 2, 3, 4, 5, 6, 7, 8, 9, 10, 11, 12, 13, 14, 15, 16, 17, 18, 19, 20, 21, 22, 23]] (by simp) (by simp) (by simp [look]) rfl rfl rfl ?_ fun K hK => ?_
                  · refine ⟨?_, ?_, ?_, ?_, ?_, ?_, ?_, ?_, ?_, ?_, ?_, ?_, ?_, ?_, ?_, ?_, ?_, ?_, ?_, ?_, ?_, ?_, trivial⟩
                    all_goals (intro τ hbx hb hd hf K hK; try simp [vsAt] at hd; simp [vsAt] at hf; first | (refine wps_cons rfl fun K' hK' => ?_; simp [hN', hbx, hb, hd, hf, he61a, he61b, he61c, he61d, hb65, hb65s, he66a, he66b, he66c, he66d]; exact hK' _ (wps_nil (hK _ (by simp [vsAt, hbx, he61a, he61b, he61c, he61d, hb65, hb65s, he66a, he66b, he66c, he66d])))) | (refine wps_call [(.take, .tmp 87), (.take, .const (.int .i64 0)), (.take, .tmp 89)] rfl rfl ent51 (spec_l01In_ok _ _ _ hc63) fun K' hK' => ?_; simp [hN', hbx, hb, hd, hf, he61a, he61b, he61c, he61d, hb65, hb65s, he66a, he66b, he66c, he66d]; exact hK' _ (wps_nil (hK _ (by simp [vsAt, hbx, he61a, he61b, he61c, he61d, hb65, hb65s, he66a, he66b, he66c, he66d])))))
                  obtain ⟨r67, hc68, hj59⟩ := bind_some hj59
                  refine wps_call [(.take, .tmp 94), (.take, .tmp 95), (.take, .tmp 104)] rfl rfl ent105 (spec_l04Fits_ok _ _ _ hc68) fun K hK => ?_; simp [hN', he61a, he61b, he61c, he61d, hb65, hb65s, he66a, he66b, he66c, he66d]; refine hK _ ?_; clear hK
                  iterate 2 (refine wps_cons rfl fun K hK => ?_; simp [hN', he61a, he61b, he61c, he61d, hb65, hb65s, he66a, he66b, he66c, he66d]; refine hK _ ?_; clear hK)
                  refine wps_nil (hK _ ?_); clear hK
                  cases hj59
                  exact hK60 _ () [] trivial (by simp [hN', he61a, he61b, he61c, he61d, hb65, hb65s, he66a, he66b, he66c, he66d])
              rcases ite_or hj56 with ⟨hb70, hj56⟩ | ⟨hb71, hj56⟩
              · refine SWp.condT' (b := v69) (by simp) hb70 ?_
                refine SWp.seqR rfl (hPB _ rfl) fun K hK => ?_
                refine wps_cons rfl fun K hK => ?_; simp [hN']; refine hK _ ?_; clear hK
                refine wps_nil (hK _ ?_); clear hK
                cases hj56
                try dsimp only at h51
                have h72 := congrArg some (ho52 _ (Option.some.inj h51).symm)
                cases h72
                try dsimp only at h
                cases h
                refine SWp.ret ?_
                simp [thenS, inBlockS, res90]
              · refine SWp.condF' (b := v69) (by simp) hb71 ?_
                refine SWp.skip ?_
                show SWp E C _ _ _
                refine SWp.seqR rfl (hPB _ rfl) fun K hK => ?_
                refine wps_cons rfl fun K hK => ?_; simp [hN']; refine hK _ ?_; clear hK
                refine wps_nil (hK _ ?_); clear hK
                refine SWp.block ?_
                refine SWp.loopO [] [0, 1, 5, 8, 9] [5] (fun v : Int => ⟨[(0, .t (.sl false 4 (List.map (GNode.enc false) nodes1))), (1, .t (vi k2)), (5, .ref (.box 5) 0 []), (8, .t (vi i50)), (9, .t (vi v))], [(5, [vi e15.Kind, vi e15.Num, vs e15.Name, .sl false 1 (List.map vi e15.Kids)])]⟩) (spec_NodeOk_l2 e15 i50) _ 0 hj56 (by simp [hN']) ?_
                intro g s76 h74 ho75
                obtain ⟨j73, hg⟩ : ∃ y, y = g := ⟨_, rfl⟩
                subst hg
                simp only [spec_NodeOk_l2] at h74
                try dsimp only
                refine SWp.seq ?_
                refine SWp.seqR rfl (hPB _ rfl) fun K hK => ?_
                iterate 3 (refine wps_cons rfl fun K hK => ?_; simp [hN']; refine hK _ ?_; clear hK)
                refine wps_nil (hK _ ?_); clear hK
                rcases ite_or h74 with ⟨hb77, h74⟩ | ⟨hb78, h74⟩
                · refine SWp.condT' (b := decide (j73 < i50)) (by simp) hb77 ?_
                  refine SWp.skip ?_
                  show SWp E C _ _ _
                  refine SWp.seq ?_
                  refine SWp.block ?_
                  refine SWp.seq ?_
                  obtain ⟨e80, he80, h74⟩ := bind_some h74
                  obtain ⟨he80a, he80b, he80c, he80d⟩ := getI_some he80
                  obtain ⟨e81, he81, h74⟩ := bind_some h74
                  obtain ⟨he81a, he81b, he81c, he81d⟩ := getI_some he81
                  refine SWp.drawT rfl (hPB _ rfl) [(113, .ref (.box 5) 3 []), (114, .t (.sl false 1 (List.map vi e15.Kids))), (115, .t (vi i50)), (116, .rop [vi e80] 0), (117, .t (vi e80)), (118, .ref (.box 5) 3 []), (119, .t (.sl false 1 (List.map vi e15.Kids))), (120, .t (vi j73)), (121, .rop [vi e81] 0), (122, .t (vi e81))] [[], [0], [], [0, 1, 2], [0, 1, 2, 3], [], [5], [], [5, 6, 7], [5, 6, 7, 8], [0, 1, 2, 3, 4, 5, 6, 7, 8, 9]] (by simp) (by simp) (by simp [look]) rfl rfl rfl ?_ fun K hK => ?_
                  · refine ⟨?_, ?_, ?_, ?_, ?_, ?_, ?_, ?_, ?_, ?_, trivial⟩
                    all_goals (intro τ hbx hb hd hf K hK; try simp [vsAt] at hd; simp [vsAt] at hf; first | (refine wps_cons rfl fun K' hK' => ?_; simp [hN', hbx, hb, hd, hf, he80a, he80b, he80c, he80d, he81a, he81b, he81c, he81d]; exact hK' _ (wps_nil (hK _ (by simp [vsAt, hbx, he80a, he80b, he80c, he80d, he81a, he81b, he81c, he81d])))))
                  refine wps_cons rfl fun K hK => ?_; simp [hN', he80a, he80b, he80c, he80d, he81a, he81b, he81c, he81d]; refine hK _ ?_; clear hK
                  refine wps_nil (hK _ ?_); clear hK
                  show SWp E C _ _ _
                  rcases ite_or h74 with ⟨hb82, h74⟩ | ⟨hb83, h74⟩
                  · refine SWp.condT' (b := e80 == e81) (by simp) hb82 ?_
                    refine SWp.seqR rfl (hPB _ rfl) fun K hK => ?_
                    refine wps_cons rfl fun K hK => ?_; simp [hN']; refine hK _ ?_; clear hK
                    refine wps_nil (hK _ ?_); clear hK
                    have h84 := congrArg some (ho75 _ (Option.some.inj h74).symm)
                    cases h84
                    try dsimp only at h51
                    have h85 := congrArg some (ho52 _ (Option.some.inj h51).symm)
                    cases h85
                    try dsimp only at h
                    cases h
                    refine SWp.ret ?_
                    simp [thenS, inBlockS, res90]
                  · refine SWp.condF' (b := e80 == e81) (by simp) hb83 ?_
                    refine SWp.skip ?_
                    show SWp E C _ _ _
                    refine SWp.reg rfl (hPB _ rfl) fun K hK => ?_
                    iterate 3 (refine wps_cons rfl fun K hK => ?_; simp [hN']; refine hK _ ?_; clear hK)
                    refine wps_nil (hK _ ?_); clear hK
                    cases h74
                    exact ⟨_, [], rfl, by simp [hN']⟩
                · refine SWp.condF' (b := decide (j73 < i50)) (by simp) hb78 ?_
                  refine SWp.exit ?_
                  have h86 := congrArg some (ho75 _ (Option.some.inj h74).symm)
                  cases h86
                  exact hK57 _ _ [] rfl (by simp [hN'])
            subst hv
            obtain ⟨⟩ := v
            try dsimp only at h51 ⊢
            refine SWp.reg rfl (hPB _ rfl) fun K hK => ?_
            iterate 3 (refine wps_cons rfl fun K hK => ?_; simp [hN']; refine hK _ ?_; clear hK)
            refine wps_nil (hK _ ?_); clear hK
            cases h51
            exact ⟨_, [], rfl, by simp [hN']⟩
          · refine SWp.condF' (b := decide (i50 < (e15.Kids.length : Int))) (by simp) hb55 ?_
            refine SWp.exit ?_
            have h87 := congrArg some (ho52 _ (Option.some.inj h51).symm)
            cases h87
            exact hK48 _ _ [] rfl (by simp [hN'])
        subst hv
        obtain ⟨⟩ := v
        try dsimp only at h ⊢
        refine SWp.seqR rfl (hPB _ rfl) fun K hK => ?_
        refine wps_cons rfl fun K hK => ?_; simp [hN']; refine hK _ ?_; clear hK
        refine wps_nil (hK _ ?_); clear hK
        cases h
        refine SWp.ret ?_
        simp [thenS, inBlockS, res90]
end Go.Proofs.T
set_option linter.unusedVariables false
set_option linter.unusedSimpArgs false
set_option maxHeartbeats 1000000
namespace Go.Proofs.T
open Go.OM
theorem res63 : Tryz.f63.results.toList = [.tmp 4] := rfl
theorem ent63 : Enters E.P 63 := enters_of Tryz.func63 (by simp [Tryz.f63]) rfl
theorem spec_l04Deeps_ok (nodes1 : List GNode) (k2 : Int) {r0 : List Int} (h : spec_l04Deeps nodes1 k2 = some r0) : Ok E 63 [.val (.sl false 4 (List.map (GNode.enc false) nodes1)), .val (vi k2)] [.sl true 1 (List.map vi r0)] [] := by
  refine ok_of_body (fn := Tryz.f63) Tryz.func63 rfl (by simp [Tryz.f63]) fun C hN hP => ?_
  have hPB : ∀ l, pinK [] l = true → pinB C.pin l = true := pinB_of (by rw [hP]; rfl)
  have hN' : C.N = 84 := hN
  clear hN
  unfold spec_l04Deeps at h
  refine SWp.seqR rfl (hPB _ rfl) fun K hK => ?_
  refine wps_cons rfl fun K hK => ?_; simp [hN']; refine hK _ ?_; clear hK
  refine wps_nil (hK _ ?_); clear hK
  refine SWp.seqR rfl (hPB _ rfl) fun K hK => ?_
  iterate 2 (refine wps_cons rfl fun K hK => ?_; simp [hN']; refine hK _ ?_; clear hK)
  refine wps_nil (hK _ ?_); clear hK
  obtain ⟨out72, hj3, h⟩ := bind_some h
  refine SWp.seqC [5] [] (fun _ : Unit => ⟨[(5, .t (.sl true 1 (List.map vi out72)))], []⟩) (fun _ => True) (fun _ _ => ?_) fun K4 hK4 => ?_
  rotate_left
  · refine SWp.seqR rfl (hPB _ rfl) fun K hK => ?_
    refine wps_cons rfl fun K hK => ?_; simp [hN']; refine hK _ ?_; clear hK
    refine wps_nil (hK _ ?_); clear hK
    refine SWp.block ?_
    refine SWp.loopO [] [0, 1, 5, 6] [] (fun v : (List Int) × Int => ⟨[(0, .t (.sl false 4 (List.map (GNode.enc false) nodes1))), (1, .t (vi k2)), (5, .t (.sl true 1 (List.map vi v.1))), (6, .t (vi v.2))], []⟩) (spec_l04Deeps_l1 nodes1 k2) _ ([], 0) hj3 (by simp [hN']) ?_
    intro g s10 h8 ho9
    obtain ⟨out6, i7⟩ := g
    simp only [spec_l04Deeps_l1] at h8
    try dsimp only
    refine SWp.seq ?_
    obtain ⟨v15, hj11, h8⟩ := bind_some h8
    refine SWp.seqRC rfl (hPB _ rfl) [0, 1, 5, 6, 18] [] (fun _ : Unit => ⟨[(0, .t (.sl false 4 (List.map (GNode.enc false) nodes1))), (1, .t (vi k2)), (5, .t (.sl true 1 (List.map vi out6))), (6, .t (vi i7)), (18, .t (vb v15))], []⟩) (fun _ => True) (fun _ _ => ?_) fun K12 hK12 => ?_
    rotate_left
    · refine wps_cons rfl fun K hK => ?_; simp [hN']; refine hK _ ?_; clear hK
      iterate 3 (refine wps_cons rfl fun K hK => ?_; simp [hN']; refine hK _ ?_; clear hK)
      rcases ite_or hj11 with ⟨hb13, hj11⟩ | ⟨hb14, hj11⟩
      · have hb13s := hb13
        try simp at hb13s
        iterate 5 (refine wps_cons rfl fun K hK => ?_; simp [hN', hb13, hb13s]; refine hK _ ?_; clear hK)
        refine wps_nil ?_
        cases hj11
        exact hK12 _ () [] trivial (by simp [hN', hb13, hb13s])
      · have hb14s := hb14
        try simp at hb14s
        iterate 4 (refine wps_off fun K hK => ?_; simp [hN', hb14, hb14s]; refine hK _ ?_; clear hK)
        refine wps_cons rfl fun K hK => ?_; simp [hN', hb14, hb14s]; refine hK _ ?_; clear hK
        refine wps_nil ?_
        cases hj11
        exact hK12 _ () [] trivial (by simp [hN', hb14, hb14s])
    rcases ite_or h8 with ⟨hb16, h8⟩ | ⟨hb17, h8⟩
    · refine SWp.condT' (b := v15) (by simp) hb16 ?_
      refine SWp.skip ?_
      show SWp E C _ _ _
      obtain ⟨out70, hj18, h8⟩ := bind_some h8
      refine SWp.seqC [0, 1, 5, 6] [] (fun _ : Unit => ⟨[(0, .t (.sl false 4 (List.map (GNode.enc false) nodes1))), (1, .t (vi k2)), (5, .t (.sl true 1 (List.map vi out70))), (6, .t (vi i7))], []⟩) (fun _ => True) (fun _ _ => ?_) fun K19 hK19 => ?_
      rotate_left
      · refine SWp.block ?_
        refine SWp.seqR rfl (hPB _ rfl) fun K hK => ?_
        refine wps_cons rfl fun K hK => ?_; simp [hN']; refine hK _ ?_; clear hK
        refine wps_nil (hK _ ?_); clear hK
        obtain ⟨deep36, hj21, hj18⟩ := bind_some hj18
        refine SWp.seqC [0, 1, 5, 6, 7] [] (fun _ : Unit => ⟨[(0, .t (.sl false 4 (List.map (GNode.enc false) nodes1))), (1, .t (vi k2)), (5, .t (.sl true 1 (List.map vi out6))), (6, .t (vi i7)), (7, .t (vi deep36))], []⟩) (fun _ => True) (fun _ _ => ?_) fun K22 hK22 => ?_
        rotate_left
        · obtain ⟨v33, hj24, hj21⟩ := bind_some hj21
          refine SWp.seqRC rfl (hPB _ rfl) [0, 1, 5, 6, 7, 36] [] (fun _ : Unit => ⟨[(0, .t (.sl false 4 (List.map (GNode.enc false) nodes1))), (1, .t (vi k2)), (5, .t (.sl true 1 (List.map vi out6))), (6, .t (vi i7)), (7, .t (vi 1)), (36, .t (vb v33))], []⟩) (fun _ => True) (fun _ _ => ?_) fun K25 hK25 => ?_
          rotate_left
          · refine wps_cons rfl fun K hK => ?_; simp [hN']; refine hK _ ?_; clear hK
            refine wps_cons rfl fun K hK => ?_; simp [hN']; refine hK _ ?_; clear hK
            obtain ⟨r26, hc27, hj24⟩ := bind_some hj24
            refine wps_call [(.take, .tmp 21), (.take, .tmp 22)] rfl rfl ent90 (spec_NodeOk_ok _ _ hc27) fun K hK => ?_; simp [hN']; refine hK _ ?_; clear hK
            iterate 2 (refine wps_cons rfl fun K hK => ?_; simp [hN']; refine hK _ ?_; clear hK)
            rcases ite_or hj24 with ⟨hb28, hj24⟩ | ⟨hb29, hj24⟩
            · have hb28s := hb28
              try simp at hb28s
              iterate 10 (refine wps_off fun K hK => ?_; simp [hN', hb28, hb28s]; refine hK _ ?_; clear hK)
              refine wps_cons rfl fun K hK => ?_; simp [hN', hb28, hb28s]; refine hK _ ?_; clear hK
              refine wps_nil ?_
              cases hj24
              exact hK25 _ () [] trivial (by simp [hN', hb28, hb28s])
            · have hb29s := hb29
              try simp at hb29s
              iterate 3 (refine wps_cons rfl fun K hK => ?_; simp [hN', hb29, hb29s]; refine hK _ ?_; clear hK)
              rcases ite_or hj24 with ⟨hb30, hj24⟩ | ⟨hb31, hj24⟩
              · have hb30s := hb30
                try simp at hb30s
                iterate 3 (refine wps_cons rfl fun K hK => ?_; simp [hN', hb29, hb29s, hb30, hb30s]; refine hK _ ?_; clear hK)
                obtain ⟨e32, he32, hj24⟩ := bind_some hj24
                obtain ⟨he32a, he32b, he32c, he32d⟩ := getI_some he32
                have he32j := he32b; try simp at he32j
                try simp only [Int.toNat_natCast] at he32c he32d
                iterate 5 (refine wps_cons rfl fun K hK => ?_; simp [hN', hb29, hb29s, hb30, hb30s, he32a, he32b, he32c, he32d, he32j]; refine hK _ ?_; clear hK)
                refine wps_nil ?_
                cases hj24
                exact hK25 _ () [] trivial (by simp [hN', hb29, hb29s, hb30, hb30s, he32a, he32b, he32c, he32d, he32j])
              · have hb31s := hb31
                try simp at hb31s
                iterate 6 (refine wps_off fun K hK => ?_; simp [hN', hb29, hb29s, hb31, hb31s]; refine hK _ ?_; clear hK)
                iterate 2 (refine wps_cons rfl fun K hK => ?_; simp [hN', hb29, hb29s, hb31, hb31s]; refine hK _ ?_; clear hK)
                refine wps_nil ?_
                cases hj24
                exact hK25 _ () [] trivial (by simp [hN', hb29, hb29s, hb31, hb31s])
          rcases ite_or hj21 with ⟨hb34, hj21⟩ | ⟨hb35, hj21⟩
          · refine SWp.condT' (b := v33) (by simp) hb34 ?_
            refine SWp.reg rfl (hPB _ rfl) fun K hK => ?_
            refine wps_cons rfl fun K hK => ?_; simp [hN']; refine hK _ ?_; clear hK
            refine wps_nil (hK _ ?_); clear hK
            cases hj21
            exact hK22 _ () [] trivial (by simp [hN'])
          · refine SWp.condF' (b := v33) (by simp) hb35 ?_
            refine SWp.skip ?_
            cases hj21
            exact hK22 _ () [] trivial (by simp [hN'])
        obtain ⟨deep62, hj37, hj18⟩ := bind_some hj18
        refine SWp.seqC [0, 1, 5, 6, 7] [] (fun _ : Unit => ⟨[(0, .t (.sl false 4 (List.map (GNode.enc false) nodes1))), (1, .t (vi k2)), (5, .t (.sl true 1 (List.map vi out6))), (6, .t (vi i7)), (7, .t (vi deep62))], []⟩) (fun _ => True) (fun _ _ => ?_) fun K38 hK38 => ?_
        rotate_left
        · refine SWp.seqR rfl (hPB _ rfl) fun K hK => ?_
          refine wps_cons rfl fun K hK => ?_; simp [hN']; refine hK _ ?_; clear hK
          refine wps_nil (hK _ ?_); clear hK
          refine SWp.block ?_
          refine SWp.loopO [] [0, 1, 5, 6, 7, 8] [] (fun v : Int × Int => ⟨[(0, .t (.sl false 4 (List.map (GNode.enc false) nodes1))), (1, .t (vi k2)), (5, .t (.sl true 1 (List.map vi out6))), (6, .t (vi i7)), (7, .t (vi v.1)), (8, .t (vi v.2))], []⟩) (spec_l04Deeps_l2 nodes1 out6 i7) _ (deep36, 0) hj37 (by simp [hN']) ?_
          intro g s44 h42 ho43
          obtain ⟨deep40, j41⟩ := g
          simp only [spec_l04Deeps_l2] at h42
          try dsimp only
          refine SWp.seq ?_
          obtain ⟨v50, hj45, h42⟩ := bind_some h42
          refine SWp.seqRC rfl (hPB _ rfl) [0, 1, 5, 6, 7, 8, 48] [] (fun _ : Unit => ⟨[(0, .t (.sl false 4 (List.map (GNode.enc false) nodes1))), (1, .t (vi k2)), (5, .t (.sl true 1 (List.map vi out6))), (6, .t (vi i7)), (7, .t (vi deep40)), (8, .t (vi j41)), (48, .t (vb v50))], []⟩) (fun _ => True) (fun _ _ => ?_) fun K46 hK46 => ?_
          rotate_left
          · refine wps_cons rfl fun K hK => ?_; simp [hN']; refine hK _ ?_; clear hK
            iterate 2 (refine wps_cons rfl fun K hK => ?_; simp [hN']; refine hK _ ?_; clear hK)
            rcases ite_or hj45 with ⟨hb47, hj45⟩ | ⟨hb48, hj45⟩
            · have hb47s := hb47
              try simp at hb47s
              iterate 3 (refine wps_cons rfl fun K hK => ?_; simp [hN', hb47, hb47s]; refine hK _ ?_; clear hK)
              obtain ⟨e49, he49, hj45⟩ := bind_some hj45
              obtain ⟨he49a, he49b, he49c, he49d⟩ := getI_some he49
              iterate 6 (refine wps_cons rfl fun K hK => ?_; simp [hN', hb47, hb47s, he49a, he49b, he49c, he49d]; refine hK _ ?_; clear hK)
              refine wps_nil ?_
              cases hj45
              exact hK46 _ () [] trivial (by simp [hN', hb47, hb47s, he49a, he49b, he49c, he49d])
            · have hb48s := hb48
              try simp at hb48s
              iterate 8 (refine wps_off fun K hK => ?_; simp [hN', hb48, hb48s]; refine hK _ ?_; clear hK)
              refine wps_cons rfl fun K hK => ?_; simp [hN', hb48, hb48s]; refine hK _ ?_; clear hK
              refine wps_nil ?_
              cases hj45
              exact hK46 _ () [] trivial (by simp [hN', hb48, hb48s])
          rcases ite_or h42 with ⟨hb51, h42⟩ | ⟨hb52, h42⟩
          · refine SWp.condT' (b := v50) (by simp) hb51 ?_
            refine SWp.skip ?_
            show SWp E C _ _ _
            refine SWp.seq ?_
            refine SWp.block ?_
            refine SWp.seqR rfl (hPB _ rfl) fun K hK => ?_
            iterate 3 (refine wps_cons rfl fun K hK => ?_; simp [hN']; refine hK _ ?_; clear hK)
            obtain ⟨e53, he53, h42⟩ := bind_some h42
            obtain ⟨he53a, he53b, he53c, he53d⟩ := getI_some he53
            iterate 4 (refine wps_cons rfl fun K hK => ?_; simp [hN', he53a, he53b, he53c, he53d]; refine hK _ ?_; clear hK)
            obtain ⟨e54, he54, h42⟩ := bind_some h42
            obtain ⟨he54a, he54b, he54c, he54d⟩ := getI_some he54
            iterate 2 (refine wps_cons rfl fun K hK => ?_; simp [hN', he53a, he53b, he53c, he53d, he54a, he54b, he54c, he54d]; refine hK _ ?_; clear hK)
            obtain ⟨e55, he55, h42⟩ := bind_some h42
            obtain ⟨he55a, he55b, he55c, he55d⟩ := getI_some he55
            iterate 5 (refine wps_cons rfl fun K hK => ?_; simp [hN', he53a, he53b, he53c, he53d, he54a, he54b, he54c, he54d, he55a, he55b, he55c, he55d]; refine hK _ ?_; clear hK)
            refine wps_nil (hK _ ?_); clear hK
            rcases ite_or h42 with ⟨hb56, h42⟩ | ⟨hb57, h42⟩
            · refine SWp.condT' (b := decide (IntKind.wrap .i64 (e55 + 1) > deep40)) (by simp) hb56 ?_
              refine SWp.reg rfl (hPB _ rfl) fun K hK => ?_
              iterate 3 (refine wps_cons rfl fun K hK => ?_; simp [hN']; refine hK _ ?_; clear hK)
              obtain ⟨e58, he58, h42⟩ := bind_some h42
              obtain ⟨he58a, he58b, he58c, he58d⟩ := getI_some he58
              iterate 4 (refine wps_cons rfl fun K hK => ?_; simp [hN', he58a, he58b, he58c, he58d]; refine hK _ ?_; clear hK)
              obtain ⟨e59, he59, h42⟩ := bind_some h42
              obtain ⟨he59a, he59b, he59c, he59d⟩ := getI_some he59
              iterate 2 (refine wps_cons rfl fun K hK => ?_; simp [hN', he58a, he58b, he58c, he58d, he59a, he59b, he59c, he59d]; refine hK _ ?_; clear hK)
              obtain ⟨e60, he60, h42⟩ := bind_some h42
              obtain ⟨he60a, he60b, he60c, he60d⟩ := getI_some he60
              iterate 4 (refine wps_cons rfl fun K hK => ?_; simp [hN', he58a, he58b, he58c, he58d, he59a, he59b, he59c, he59d, he60a, he60b, he60c, he60d]; refine hK _ ?_; clear hK)
              refine wps_nil (hK _ ?_); clear hK
              show SWp E C _ _ _
              refine SWp.reg rfl (hPB _ rfl) fun K hK => ?_
              iterate 3 (refine wps_cons rfl fun K hK => ?_; simp [hN']; refine hK _ ?_; clear hK)
              refine wps_nil (hK _ ?_); clear hK
              cases h42
              exact ⟨_, [], rfl, by simp [hN']⟩
            · refine SWp.condF' (b := decide (IntKind.wrap .i64 (e55 + 1) > deep40)) (by simp) hb57 ?_
              refine SWp.skip ?_
              show SWp E C _ _ _
              refine SWp.reg rfl (hPB _ rfl) fun K hK => ?_
              iterate 3 (refine wps_cons rfl fun K hK => ?_; simp [hN']; refine hK _ ?_; clear hK)
              refine wps_nil (hK _ ?_); clear hK
              cases h42
              exact ⟨_, [], rfl, by simp [hN']⟩
          · refine SWp.condF' (b := v50) (by simp) hb52 ?_
            refine SWp.exit ?_
            have h61 := congrArg some (ho43 _ (Option.some.inj h42).symm)
            cases h61
            exact hK38 _ () [] trivial (by simp [hN'])
        obtain ⟨deep68, hj63, hj18⟩ := bind_some hj18
        refine SWp.seqC [0, 1, 5, 6, 7] [] (fun _ : Unit => ⟨[(0, .t (.sl false 4 (List.map (GNode.enc false) nodes1))), (1, .t (vi k2)), (5, .t (.sl true 1 (List.map vi out6))), (6, .t (vi i7)), (7, .t (vi deep68))], []⟩) (fun _ => True) (fun _ _ => ?_) fun K64 hK64 => ?_
        rotate_left
        · refine SWp.seqR rfl (hPB _ rfl) fun K hK => ?_
          iterate 2 (refine wps_cons rfl fun K hK => ?_; simp [hN']; refine hK _ ?_; clear hK)
          refine wps_nil (hK _ ?_); clear hK
          rcases ite_or hj63 with ⟨hb66, hj63⟩ | ⟨hb67, hj63⟩
          · refine SWp.condT' (b := decide (deep62 > 10)) (by simp) hb66 ?_
            refine SWp.reg rfl (hPB _ rfl) fun K hK => ?_
            refine wps_cons rfl fun K hK => ?_; simp [hN']; refine hK _ ?_; clear hK
            refine wps_nil (hK _ ?_); clear hK
            cases hj63
            exact hK64 _ () [] trivial (by simp [hN'])
          · refine SWp.condF' (b := decide (deep62 > 10)) (by simp) hb67 ?_
            refine SWp.skip ?_
            cases hj63
            exact hK64 _ () [] trivial (by simp [hN'])
        refine SWp.reg rfl (hPB _ rfl) fun K hK => ?_
        iterate 3 (refine wps_cons rfl fun K hK => ?_; simp [hN']; refine hK _ ?_; clear hK)
        obtain ⟨l69, hl69, hj18⟩ := bind_some hj18
        obtain ⟨hl69a, hl69b, hl69d⟩ := appI_some hl69
        have hl69f : List.map vi out6 ++ List.map vi [deep68] = List.map vi l69 := app_map (f := vi) hl69d
        simp [eSl] at hl69a hl69b hl69f
        iterate 2 (refine wps_cons rfl fun K hK => ?_; simp [hN', hl69a, hl69b, hl69f]; refine hK _ ?_; clear hK)
        refine wps_nil (hK _ ?_); clear hK
        cases hj18
        exact hK19 _ () [] trivial (by simp [hN'])
      refine SWp.reg rfl (hPB _ rfl) fun K hK => ?_
      iterate 3 (refine wps_cons rfl fun K hK => ?_; simp [hN']; refine hK _ ?_; clear hK)
      refine wps_nil (hK _ ?_); clear hK
      cases h8
      exact ⟨_, [], rfl, by simp [hN']⟩
    · refine SWp.condF' (b := v15) (by simp) hb17 ?_
      refine SWp.exit ?_
      have h71 := congrArg some (ho9 _ (Option.some.inj h8).symm)
      cases h71
      exact hK4 _ () [] trivial (by simp [hN'])
  refine SWp.seqR rfl (hPB _ rfl) fun K hK => ?_
  iterate 2 (refine wps_cons rfl fun K hK => ?_; simp [hN']; refine hK _ ?_; clear hK)
  refine wps_nil (hK _ ?_); clear hK
  cases h
  refine SWp.ret ?_
  simp [thenS, inBlockS, res63]
end Go.Proofs.T
set_option linter.unusedVariables false
set_option linter.unusedSimpArgs false
set_option maxHeartbeats 1000000
namespace Go.Proofs.T
open Go.OM
theorem res84 : Tryz.f84.results.toList = [.tmp 4] := rfl
theorem ent84 : Enters E.P 84 := enters_of Tryz.func84 (by simp [Tryz.f84]) rfl
theorem spec_DeepOf_ok (nodes1 : List GNode) (k2 : Int) {r0 : Int} (h : spec_DeepOf nodes1 k2 = some r0) : Ok E 84 [.val (.sl false 4 (List.map (GNode.enc false) nodes1)), .val (vi k2)] [vi r0] [] := by
  refine ok_of_body (fn := Tryz.f84) Tryz.func84 rfl (by simp [Tryz.f84]) fun C hN hP => ?_
  have hPB : ∀ l, pinK [] l = true → pinB C.pin l = true := pinB_of (by rw [hP]; rfl)
  have hN' : C.N = 17 := hN
  clear hN
  unfold spec_DeepOf at h
  refine SWp.seqR rfl (hPB _ rfl) fun K hK => ?_
  refine wps_cons rfl fun K hK => ?_; simp [hN']; refine hK _ ?_; clear hK
  refine wps_nil (hK _ ?_); clear hK
  refine SWp.seq ?_
  refine SWp.seqR rfl (hPB _ rfl) fun K hK => ?_
  iterate 4 (refine wps_cons rfl fun K hK => ?_; simp [hN']; refine hK _ ?_; clear hK)
  obtain ⟨r3, hc4, h⟩ := bind_some h
  refine wps_call [(.take, .tmp 5), (.take, .const (.int .i64 0)), (.take, .tmp 8)] rfl rfl ent51 (spec_l01In_ok _ _ _ hc4) fun K hK => ?_; simp [hN']; refine hK _ ?_; clear hK
  refine wps_cons rfl fun K hK => ?_; simp [hN']; refine hK _ ?_; clear hK
  refine wps_nil (hK _ ?_); clear hK
  rcases ite_or h with ⟨hb5, h⟩ | ⟨hb6, h⟩
  · refine SWp.condT' (b := !r3) (by simp) hb5 ?_
    refine SWp.seqR rfl (hPB _ rfl) fun K hK => ?_
    refine wps_cons rfl fun K hK => ?_; simp [hN']; refine hK _ ?_; clear hK
    refine wps_nil (hK _ ?_); clear hK
    cases h
    refine SWp.ret ?_
    simp [thenS, inBlockS, res84]
  · refine SWp.condF' (b := !r3) (by simp) hb6 ?_
    refine SWp.skip ?_
    show SWp E C _ _ _
    refine SWp.seqR rfl (hPB _ rfl) fun K hK => ?_
    iterate 2 (refine wps_cons rfl fun K hK => ?_; simp [hN']; refine hK _ ?_; clear hK)
    obtain ⟨r7, hc8, h⟩ := bind_some h
    refine wps_call [(.take, .tmp 11), (.take, .tmp 12)] rfl rfl ent63 (spec_l04Deeps_ok _ _ hc8) fun K hK => ?_; simp [hN']; refine hK _ ?_; clear hK
    refine wps_cons rfl fun K hK => ?_; simp [hN']; refine hK _ ?_; clear hK
    obtain ⟨e9, he9, h⟩ := bind_some h
    obtain ⟨he9a, he9b, he9c, he9d⟩ := getI_some he9
    iterate 3 (refine wps_cons rfl fun K hK => ?_; simp [hN', he9a, he9b, he9c, he9d]; refine hK _ ?_; clear hK)
    refine wps_nil (hK _ ?_); clear hK
    cases h
    refine SWp.ret ?_
    simp [thenS, inBlockS, res84]
end Go.Proofs.T
set_option linter.unusedVariables false
set_option linter.unusedSimpArgs false
set_option maxHeartbeats 1000000
namespace Go.Proofs.T
open Go.OM
theorem res85 : Tryz.f85.results.toList = [] := rfl
theorem ent85 : Enters E.P 85 := enters_of Tryz.func85 (by simp [Tryz.f85]) rfl
theorem spec_l04Mark_b_ok (rec_spec_l04Mark : (List GNode) → Int → (List Bool) → Option (List Bool)) (hrec_spec_l04Mark : ∀ (a0 : List GNode) (a1 : Int) (a2 : List Bool) {q2 : List Bool}, rec_spec_l04Mark a0 a1 a2 = some q2 → OkIO E 85 [.val (.sl false 4 (List.map (GNode.enc false) a0)), .val (vi a1), .val (.sl true 1 (List.map vb a2))] [] [] [(2, .sl true 1 (List.map vb q2))]) (nodes1 : List GNode) (k2 : Int) (seen3 : List Bool) {q2 : List Bool} (h : spec_l04Mark_b rec_spec_l04Mark nodes1 k2 seen3 = some q2) : OkIO E 85 [.val (.sl false 4 (List.map (GNode.enc false) nodes1)), .val (vi k2), .val (.sl true 1 (List.map vb seen3))] [] [] [(2, .sl true 1 (List.map vb q2))] := by
  refine okIO_of_body (fn := Tryz.f85) [(2, .sl true 1 (List.map vb q2))] Tryz.func85 rfl (by simp [Tryz.f85]) rfl fun C hN hP => ?_
  have hPB : ∀ l, pinK [2] l = true → pinB C.pin l = true := pinB_of (by rw [hP]; rfl)
  have hN' : C.N = 35 := hN
  clear hN
  unfold spec_l04Mark_b at h
  refine SWp.seq ?_
  refine SWp.seqR rfl (hPB _ rfl) fun K hK => ?_
  iterate 2 (refine wps_cons rfl fun K hK => ?_; simp [hN']; refine hK _ ?_; clear hK)
  obtain ⟨e4, he4, h⟩ := bind_some h
  obtain ⟨he4a, he4b, he4c, he4d⟩ := getI_some he4
  iterate 2 (refine wps_cons rfl fun K hK => ?_; simp [hN', he4a, he4b, he4c, he4d]; refine hK _ ?_; clear hK)
  refine wps_nil (hK _ ?_); clear hK
  rcases ite_or h with ⟨hb5, h⟩ | ⟨hb6, h⟩
  · refine SWp.condT' (b := e4) (by simp) hb5 ?_
    cases h
    refine SWp.ret ?_
    simp [thenS, inBlockS, res85]
  · refine SWp.condF' (b := e4) (by simp) hb6 ?_
    refine SWp.skip ?_
    show SWp E C _ _ _
    refine SWp.seqR rfl (hPB _ rfl) fun K hK => ?_
    iterate 2 (refine wps_cons rfl fun K hK => ?_; simp [hN']; refine hK _ ?_; clear hK)
    obtain ⟨e7, he7, h⟩ := bind_some h
    obtain ⟨he7a, he7b, he7c, he7d⟩ := getI_some he7
    refine wps_cons rfl fun K hK => ?_; simp [hN', he7a, he7b, he7c, he7d]; refine hK _ ?_; clear hK
    obtain ⟨l8, hl8, h⟩ := bindS_some h
    have hl8f : (List.map vb seen3).set k2.toNat (vb true) = List.map vb l8 := set_map (f := vb) hl8
    try simp only [Int.toNat_natCast] at hl8f
    refine wps_cons rfl fun K hK => ?_; simp [hN', he7a, he7b, he7c, he7d, hl8f]; refine hK _ ?_; clear hK
    refine wps_nil (hK _ ?_); clear hK
    refine SWp.seqR rfl (hPB _ rfl) fun K hK => ?_
    refine wps_cons rfl fun K hK => ?_; simp [hN']; refine hK _ ?_; clear hK
    refine wps_nil (hK _ ?_); clear hK
    refine SWp.block ?_
    refine SWp.loopO [] [0, 1, 2, 6] [] (fun v : (List Bool) × Int => ⟨[(0, .t (.sl false 4 (List.map (GNode.enc false) nodes1))), (1, .t (vi k2)), (2, .t (.sl true 1 (List.map vb v.1))), (6, .t (vi v.2))], []⟩) (spec_l04Mark_l1 rec_spec_l04Mark nodes1 k2) _ (l8, 0) h (by simp [hN']) ?_
    intro g s13 h11 ho12
    obtain ⟨seen9, i10⟩ := g
    simp only [spec_l04Mark_l1] at h11
    try dsimp only
    refine SWp.seq ?_
    refine SWp.seqR rfl (hPB _ rfl) fun K hK => ?_
    iterate 3 (refine wps_cons rfl fun K hK => ?_; simp [hN']; refine hK _ ?_; clear hK)
    obtain ⟨e14, he14, h11⟩ := bind_some h11
    obtain ⟨he14a, he14b, he14c, he14d⟩ := getI_some he14
    iterate 5 (refine wps_cons rfl fun K hK => ?_; simp [hN', he14a, he14b, he14c, he14d]; refine hK _ ?_; clear hK)
    refine wps_nil (hK _ ?_); clear hK
    rcases ite_or h11 with ⟨hb15, h11⟩ | ⟨hb16, h11⟩
    · refine SWp.condT' (b := decide (i10 < (e14.Kids.length : Int))) (by simp) hb15 ?_
      refine SWp.skip ?_
      show SWp E C _ _ _
      refine SWp.seq ?_
      refine SWp.block ?_
      refine SWp.reg rfl (hPB _ rfl) fun K hK => ?_
      iterate 3 (refine wps_cons rfl fun K hK => ?_; simp [hN']; refine hK _ ?_; clear hK)
      obtain ⟨e17, he17, h11⟩ := bind_some h11
      obtain ⟨he17a, he17b, he17c, he17d⟩ := getI_some he17
      iterate 4 (refine wps_cons rfl fun K hK => ?_; simp [hN', he17a, he17b, he17c, he17d]; refine hK _ ?_; clear hK)
      obtain ⟨e18, he18, h11⟩ := bind_some h11
      obtain ⟨he18a, he18b, he18c, he18d⟩ := getI_some he18
      iterate 3 (refine wps_cons rfl fun K hK => ?_; simp [hN', he17a, he17b, he17c, he17d, he18a, he18b, he18c, he18d]; refine hK _ ?_; clear hK)
      obtain ⟨q19, hc20, h11⟩ := bind_some h11
      refine wps_callIOj [.tmp 24, .tmp 32] rfl ent85 (hrec_spec_l04Mark _ _ _ hc20) fun K hK => ?_; simp [hN', he17a, he17b, he17c, he17d, he18a, he18b, he18c, he18d]; refine hK _ ?_; clear hK
      refine wps_nil (hK _ ?_); clear hK
      show SWp E C _ _ _
      refine SWp.reg rfl (hPB _ rfl) fun K hK => ?_
      iterate 3 (refine wps_cons rfl fun K hK => ?_; simp [hN']; refine hK _ ?_; clear hK)
      refine wps_nil (hK _ ?_); clear hK
      cases h11
      exact ⟨_, [], rfl, by simp [hN']⟩
    · refine SWp.condF' (b := decide (i10 < (e14.Kids.length : Int))) (by simp) hb16 ?_
      refine SWp.exit ?_
      have h21 := congrArg some (ho12 _ (Option.some.inj h11).symm)
      cases h21
      simp [thenS, inBlockS, res85]
theorem spec_l04Mark_rec_ok : ∀ n : Nat, (∀ (a0 : List GNode) (a1 : Int) (a2 : List Bool) {q2 : List Bool}, (spec_l04Mark_rec n) a0 a1 a2 = some q2 → OkIO E 85 [.val (.sl false 4 (List.map (GNode.enc false) a0)), .val (vi a1), .val (.sl true 1 (List.map vb a2))] [] [] [(2, .sl true 1 (List.map vb q2))])
  | 0 => (by intros; rename_i h; cases h)
  | n + 1 => spec_l04Mark_b_ok (spec_l04Mark_rec n) (spec_l04Mark_rec_ok n)
theorem spec_l04Mark_ok : ∀ (a0 : List GNode) (a1 : Int) (a2 : List Bool) {q2 : List Bool}, spec_l04Mark a0 a1 a2 = some q2 → OkIO E 85 [.val (.sl false 4 (List.map (GNode.enc false) a0)), .val (vi a1), .val (.sl true 1 (List.map vb a2))] [] [] [(2, .sl true 1 (List.map vb q2))] := (spec_l04Mark_rec_ok recFuel)
end Go.Proofs.T
set_option linter.unusedVariables false
set_option linter.unusedSimpArgs false
set_option maxHeartbeats 1000000
namespace Go.Proofs.T
open Go.OM
theorem res56 : Tryz.f56.results.toList = [.tmp 4] := rfl
theorem ent56 : Enters E.P 56 := enters_of Tryz.func56 (by simp [Tryz.f56]) rfl
theorem spec_Under_ok (p1 : GProgram) (k2 : Int) {r0 : List Int} (h : spec_Under p1 k2 = some r0) : Ok E 56 [.val (GProgram.enc false p1), .val (vi k2)] [.sl true 1 (List.map vi r0)] [] := by
  refine ok_of_body (fn := Tryz.f56) Tryz.func56 rfl (by simp [Tryz.f56]) fun C hN hP => ?_
  have hPB : ∀ l, pinK [] l = true → pinB C.pin l = true := pinB_of (by rw [hP]; rfl)
  have hN' : C.N = 39 := hN
  clear hN
  unfold spec_Under at h
  refine SWp.seqR rfl (hPB _ rfl) fun K hK => ?_
  iterate 2 (refine wps_cons rfl fun K hK => ?_; simp [hN']; refine hK _ ?_; clear hK)
  refine wps_nil (hK _ ?_); clear hK
  refine SWp.seqR rfl (hPB _ rfl) fun K hK => ?_
  iterate 2 (refine wps_cons rfl fun K hK => ?_; simp [hN']; refine hK _ ?_; clear hK)
  refine wps_nil (hK _ ?_); clear hK
  refine SWp.seq ?_
  refine SWp.seqR rfl (hPB _ rfl) fun K hK => ?_
  iterate 3 (refine wps_cons rfl fun K hK => ?_; simp [hN']; refine hK _ ?_; clear hK)
  obtain ⟨r3, hc4, h⟩ := bind_some h
  refine wps_call [(.take, .tmp 10), (.take, .tmp 11)] rfl rfl ent84 (spec_DeepOf_ok _ _ hc4) fun K hK => ?_; simp [hN']; refine hK _ ?_; clear hK
  refine wps_cons rfl fun K hK => ?_; simp [hN']; refine hK _ ?_; clear hK
  refine wps_nil (hK _ ?_); clear hK
  rcases ite_or h with ⟨hb5, h⟩ | ⟨hb6, h⟩
  · refine SWp.condT' (b := r3 == 0) (by simp) hb5 ?_
    refine SWp.seqR rfl (hPB _ rfl) fun K hK => ?_
    iterate 2 (refine wps_cons rfl fun K hK => ?_; simp [hN']; refine hK _ ?_; clear hK)
    refine wps_nil (hK _ ?_); clear hK
    cases h
    refine SWp.ret ?_
    simp [thenS, inBlockS, res56]
  · refine SWp.condF' (b := r3 == 0) (by simp) hb6 ?_
    refine SWp.skip ?_
    show SWp E C _ _ _
    refine SWp.seqR rfl (hPB _ rfl) fun K hK => ?_
    iterate 3 (refine wps_cons rfl fun K hK => ?_; simp [hN']; refine hK _ ?_; clear hK)
    obtain ⟨l7, hl7, h⟩ := bind_some h
    obtain ⟨hl7a, hl7b, hl7c, hl7d⟩ := mkI_some hl7
    have hl7f : List.replicate (p1.Nodes.length : Int).toNat (vb false) = List.map vb l7 := rep_map (f := vb) hl7d
    try simp only [Int.toNat_natCast] at hl7f
    iterate 2 (refine wps_cons rfl fun K hK => ?_; simp [hN', hl7a, hl7b, hl7c, hl7f]; refine hK _ ?_; clear hK)
    refine wps_nil (hK _ ?_); clear hK
    refine SWp.seqR rfl (hPB _ rfl) fun K hK => ?_
    iterate 4 (refine wps_cons rfl fun K hK => ?_; simp [hN']; refine hK _ ?_; clear hK)
    obtain ⟨q8, hc9, h⟩ := bind_some h
    refine wps_callIOj [.tmp 20, .tmp 21] rfl ent85 (spec_l04Mark_ok _ _ _ hc9) fun K hK => ?_; simp [hN']; refine hK _ ?_; clear hK
    refine wps_nil (hK _ ?_); clear hK
    obtain ⟨out25, hj10, h⟩ := bind_some h
    refine SWp.seqC [5] [] (fun _ : Unit => ⟨[(5, .t (.sl true 1 (List.map vi out25)))], []⟩) (fun _ => True) (fun _ _ => ?_) fun K11 hK11 => ?_
    rotate_left
    · refine SWp.seqR rfl (hPB _ rfl) fun K hK => ?_
      refine wps_cons rfl fun K hK => ?_; simp [hN']; refine hK _ ?_; clear hK
      refine wps_nil (hK _ ?_); clear hK
      refine SWp.block ?_
      refine SWp.loopO [] [5, 6, 7] [] (fun v : (List Int) × Int => ⟨[(5, .t (.sl true 1 (List.map vi v.1))), (6, .t (.sl true 1 (List.map vb q8))), (7, .t (vi v.2))], []⟩) (spec_Under_l1 q8) _ ([], 0) hj10 (by simp [hN']) ?_
      intro g s17 h15 ho16
      obtain ⟨out13, i14⟩ := g
      simp only [spec_Under_l1] at h15
      try dsimp only
      refine SWp.seq ?_
      refine SWp.seqR rfl (hPB _ rfl) fun K hK => ?_
      iterate 4 (refine wps_cons rfl fun K hK => ?_; simp [hN']; refine hK _ ?_; clear hK)
      refine wps_nil (hK _ ?_); clear hK
      rcases ite_or h15 with ⟨hb18, h15⟩ | ⟨hb19, h15⟩
      · refine SWp.condT' (b := decide (i14 < (q8.length : Int))) (by simp) hb18 ?_
        refine SWp.skip ?_
        show SWp E C _ _ _
        refine SWp.seq ?_
        refine SWp.block ?_
        refine SWp.seqR rfl (hPB _ rfl) fun K hK => ?_
        iterate 2 (refine wps_cons rfl fun K hK => ?_; simp [hN']; refine hK _ ?_; clear hK)
        obtain ⟨e20, he20, h15⟩ := bind_some h15
        obtain ⟨he20a, he20b, he20c, he20d⟩ := getI_some he20
        iterate 2 (refine wps_cons rfl fun K hK => ?_; simp [hN', he20a, he20b, he20c, he20d]; refine hK _ ?_; clear hK)
        refine wps_nil (hK _ ?_); clear hK
        rcases ite_or h15 with ⟨hb21, h15⟩ | ⟨hb22, h15⟩
        · refine SWp.condT' (b := e20) (by simp) hb21 ?_
          refine SWp.reg rfl (hPB _ rfl) fun K hK => ?_
          iterate 3 (refine wps_cons rfl fun K hK => ?_; simp [hN']; refine hK _ ?_; clear hK)
          obtain ⟨l23, hl23, h15⟩ := bind_some h15
          obtain ⟨hl23a, hl23b, hl23d⟩ := appI_some hl23
          have hl23f : List.map vi out13 ++ List.map vi [i14] = List.map vi l23 := app_map (f := vi) hl23d
          simp [eSl] at hl23a hl23b hl23f
          iterate 2 (refine wps_cons rfl fun K hK => ?_; simp [hN', hl23a, hl23b, hl23f]; refine hK _ ?_; clear hK)
          refine wps_nil (hK _ ?_); clear hK
          show SWp E C _ _ _
          refine SWp.reg rfl (hPB _ rfl) fun K hK => ?_
          iterate 3 (refine wps_cons rfl fun K hK => ?_; simp [hN']; refine hK _ ?_; clear hK)
          refine wps_nil (hK _ ?_); clear hK
          cases h15
          exact ⟨_, [], rfl, by simp [hN']⟩
        · refine SWp.condF' (b := e20) (by simp) hb22 ?_
          refine SWp.skip ?_
          show SWp E C _ _ _
          refine SWp.reg rfl (hPB _ rfl) fun K hK => ?_
          iterate 3 (refine wps_cons rfl fun K hK => ?_; simp [hN']; refine hK _ ?_; clear hK)
          refine wps_nil (hK _ ?_); clear hK
          cases h15
          exact ⟨_, [], rfl, by simp [hN']⟩
      · refine SWp.condF' (b := decide (i14 < (q8.length : Int))) (by simp) hb19 ?_
        refine SWp.exit ?_
        have h24 := congrArg some (ho16 _ (Option.some.inj h15).symm)
        cases h24
        exact hK11 _ () [] trivial (by simp [hN'])
    refine SWp.seqR rfl (hPB _ rfl) fun K hK => ?_
    iterate 2 (refine wps_cons rfl fun K hK => ?_; simp [hN']; refine hK _ ?_; clear hK)
    refine wps_nil (hK _ ?_); clear hK
    cases h
    refine SWp.ret ?_
    simp [thenS, inBlockS, res56]
end Go.Proofs.T
set_option linter.unusedVariables false
set_option linter.unusedSimpArgs false
set_option maxHeartbeats 8000000
namespace Go.Proofs.T
open Go.OM
theorem res28 : Tryz.f28.results.toList = [.tmp 4] := rfl
theorem ent28 : Enters E.P 28 := enters_of Tryz.func28 (by simp [Tryz.f28]) rfl
theorem spec_l07All_ok (p1 : GProgram) (fn2 : Int) {r0 : List Int} (h : spec_l07All p1 fn2 = some r0) : Ok E 28 [.val (GProgram.enc false p1), .val (vi fn2)] [.sl true 1 (List.map vi r0)] [] := by
  refine ok_of_body (fn := Tryz.f28) Tryz.func28 rfl (by simp [Tryz.f28]) fun C hN hP => ?_
  have hPB : ∀ l, pinK [] l = true → pinB C.pin l = true := pinB_of (by rw [hP]; rfl)
  have hN' : C.N = 102 := hN
  clear hN
  unfold spec_l07All at h
  refine SWp.seqR rfl (hPB _ rfl) fun K hK => ?_
  iterate 2 (refine wps_cons rfl fun K hK => ?_; simp [hN']; refine hK _ ?_; clear hK)
  refine wps_nil (hK _ ?_); clear hK
  refine SWp.seqR rfl (hPB _ rfl) fun K hK => ?_
  iterate 2 (refine wps_cons rfl fun K hK => ?_; simp [hN']; refine hK _ ?_; clear hK)
  refine wps_nil (hK _ ?_); clear hK
  refine SWp.seq ?_
  refine SWp.seqR rfl (hPB _ rfl) fun K hK => ?_
  iterate 5 (refine wps_cons rfl fun K hK => ?_; simp [hN']; refine hK _ ?_; clear hK)
  obtain ⟨r3, hc4, h⟩ := bind_some h
  refine wps_call [(.take, .tmp 11), (.take, .const (.int .i64 0)), (.take, .tmp 15)] rfl rfl ent51 (spec_l01In_ok _ _ _ hc4) fun K hK => ?_; simp [hN']; refine hK _ ?_; clear hK
  refine wps_cons rfl fun K hK => ?_; simp [hN']; refine hK _ ?_; clear hK
  refine wps_nil (hK _ ?_); clear hK
  rcases ite_or h with ⟨hb5, h⟩ | ⟨hb6, h⟩
  · refine SWp.condT' (b := !r3) (by simp) hb5 ?_
    refine SWp.seqR rfl (hPB _ rfl) fun K hK => ?_
    iterate 2 (refine wps_cons rfl fun K hK => ?_; simp [hN']; refine hK _ ?_; clear hK)
    refine wps_nil (hK _ ?_); clear hK
    cases h
    refine SWp.ret ?_
    simp [thenS, inBlockS, res28]
  · refine SWp.condF' (b := !r3) (by simp) hb6 ?_
    refine SWp.skip ?_
    show SWp E C _ _ _
    refine SWp.seq ?_
    obtain ⟨e8, he8, h⟩ := bind_some h
    obtain ⟨he8a, he8b, he8c, he8d⟩ := getI_some he8
    refine SWp.drawT rfl (hPB _ rfl) [(19, .t (GProgram.enc false p1)), (20, .ref (.box 2) 1 []), (21, .t (.sl false 5 (List.map (GFn.enc false) p1.Fns))), (22, .t (vi fn2)), (23, .rop [vs e8.Name, .sl false 2 (List.map GParam.enc e8.Params), vi e8.Res, vi e8.Body, vi e8.Ret] 0), (24, .rop [vs e8.Name, .sl false 2 (List.map GParam.enc e8.Params), vi e8.Res, vi e8.Body, vi e8.Ret] 3), (25, .t (vi e8.Body))] [[], [], [1], [], [1, 2, 3], [1, 2, 3, 4], [1, 2, 3, 4, 5], [0, 1, 2, 3, 4, 5, 6], [0, 1, 2, 3, 4, 5, 6, 7]] (by simp) (by simp) (by simp [look]) rfl rfl rfl ?_ fun K hK => ?_
    · refine ⟨?_, ?_, ?_, ?_, ?_, ?_, ?_, trivial⟩
      all_goals (intro τ hbx hb hd hf K hK; try simp [vsAt] at hd; simp [vsAt] at hf; first | (refine wps_cons rfl fun K' hK' => ?_; simp [hN', hbx, hb, hd, hf, he8a, he8b, he8c, he8d]; exact hK' _ (wps_nil (hK _ (by simp [vsAt, hbx, he8a, he8b, he8c, he8d])))))
    obtain ⟨r9, hc10, h⟩ := bind_some h
    refine wps_call [(.take, .tmp 19), (.take, .tmp 25)] rfl rfl ent56 (spec_Under_ok _ _ hc10) fun K hK => ?_; simp [hN', he8a, he8b, he8c, he8d]; refine hK _ ?_; clear hK
    refine wps_cons rfl fun K hK => ?_; simp [hN', he8a, he8b, he8c, he8d]; refine hK _ ?_; clear hK
    refine wps_nil (hK _ ?_); clear hK
    show SWp E C _ _ _
    refine SWp.seq ?_
    obtain ⟨e12, he12, h⟩ := bind_some h
    obtain ⟨he12a, he12b, he12c, he12d⟩ := getI_some he12
    refine SWp.drawT rfl (hPB _ rfl) [(27, .t (GProgram.enc false p1)), (28, .ref (.box 2) 1 []), (29, .t (.sl false 5 (List.map (GFn.enc false) p1.Fns))), (30, .t (vi fn2)), (31, .rop [vs e12.Name, .sl false 2 (List.map GParam.enc e12.Params), vi e12.Res, vi e12.Body, vi e12.Ret] 0), (32, .rop [vs e12.Name, .sl false 2 (List.map GParam.enc e12.Params), vi e12.Res, vi e12.Body, vi e12.Ret] 4), (33, .t (vi e12.Ret))] [[], [], [1], [], [1, 2, 3], [1, 2, 3, 4], [1, 2, 3, 4, 5], [0, 1, 2, 3, 4, 5, 6], [0, 1, 2, 3, 4, 5, 6, 7]] (by simp) (by simp) (by simp [look]) rfl rfl rfl ?_ fun K hK => ?_
    · refine ⟨?_, ?_, ?_, ?_, ?_, ?_, ?_, trivial⟩
      all_goals (intro τ hbx hb hd hf K hK; try simp [vsAt] at hd; simp [vsAt] at hf; first | (refine wps_cons rfl fun K' hK' => ?_; simp [hN', hbx, hb, hd, hf, he12a, he12b, he12c, he12d]; exact hK' _ (wps_nil (hK _ (by simp [vsAt, hbx, he12a, he12b, he12c, he12d])))))
    obtain ⟨r13, hc14, h⟩ := bind_some h
    refine wps_call [(.take, .tmp 27), (.take, .tmp 33)] rfl rfl ent56 (spec_Under_ok _ _ hc14) fun K hK => ?_; simp [hN', he12a, he12b, he12c, he12d]; refine hK _ ?_; clear hK
    refine wps_cons rfl fun K hK => ?_; simp [hN', he12a, he12b, he12c, he12d]; refine hK _ ?_; clear hK
    refine wps_nil (hK _ ?_); clear hK
    show SWp E C _ _ _
    refine SWp.seqR rfl (hPB _ rfl) fun K hK => ?_
    refine wps_cons rfl fun K hK => ?_; simp [hN']; refine hK _ ?_; clear hK
    refine wps_nil (hK _ ?_); clear hK
    refine SWp.seqR rfl (hPB _ rfl) fun K hK => ?_
    refine wps_cons rfl fun K hK => ?_; simp [hN']; refine hK _ ?_; clear hK
    refine wps_nil (hK _ ?_); clear hK
    obtain ⟨out60, hj15, h⟩ := bind_some h
    refine SWp.seqC [5] [] (fun _ : Unit => ⟨[(5, .t (.sl true 1 (List.map vi out60)))], []⟩) (fun _ => True) (fun _ _ => ?_) fun K16 hK16 => ?_
    rotate_left
    · refine SWp.block ?_
      refine SWp.loopO [] [5, 6, 7, 8, 9] [] (fun v : (List Int) × Int × Int => ⟨[(5, .t (.sl true 1 (List.map vi v.1))), (6, .t (.sl true 1 (List.map vi r9))), (7, .t (.sl true 1 (List.map vi r13))), (8, .t (vi v.2.1)), (9, .t (vi v.2.2))], []⟩) (spec_l07All_l1 r9 r13) _ ([], 0, 0) hj15 (by simp [hN']) ?_
      intro g s23 h21 ho22
      obtain ⟨out18, i19, k20⟩ := g
      simp only [spec_l07All_l1] at h21
      try dsimp only
      refine SWp.seq ?_
      obtain ⟨v28, hj24, h21⟩ := bind_some h21
      refine SWp.seqRC rfl (hPB _ rfl) [5, 6, 7, 8, 9, 44] [] (fun _ : Unit => ⟨[(5, .t (.sl true 1 (List.map vi out18))), (6, .t (.sl true 1 (List.map vi r9))), (7, .t (.sl true 1 (List.map vi r13))), (8, .t (vi i19)), (9, .t (vi k20)), (44, .t (vb v28))], []⟩) (fun _ => True) (fun _ _ => ?_) fun K25 hK25 => ?_
      rotate_left
      · refine wps_cons rfl fun K hK => ?_; simp [hN']; refine hK _ ?_; clear hK
        iterate 4 (refine wps_cons rfl fun K hK => ?_; simp [hN']; refine hK _ ?_; clear hK)
        rcases ite_or hj24 with ⟨hb26, hj24⟩ | ⟨hb27, hj24⟩
        · have hb26s := hb26
          try simp at hb26s
          iterate 4 (refine wps_off fun K hK => ?_; simp [hN', hb26, hb26s]; refine hK _ ?_; clear hK)
          refine wps_cons rfl fun K hK => ?_; simp [hN', hb26, hb26s]; refine hK _ ?_; clear hK
          refine wps_nil ?_
          cases hj24
          exact hK25 _ () [] trivial (by simp [hN', hb26, hb26s])
        · have hb27s := hb27
          try simp at hb27s
          iterate 5 (refine wps_cons rfl fun K hK => ?_; simp [hN', hb27, hb27s]; refine hK _ ?_; clear hK)
          refine wps_nil ?_
          cases hj24
          exact hK25 _ () [] trivial (by simp [hN', hb27, hb27s])
      rcases ite_or h21 with ⟨hb29, h21⟩ | ⟨hb30, h21⟩
      · refine SWp.condT' (b := v28) (by simp) hb29 ?_
        refine SWp.skip ?_
        show SWp E C _ _ _
        refine SWp.block ?_
        refine SWp.seq ?_
        obtain ⟨v39, hj31, h21⟩ := bind_some h21
        refine SWp.seqC [5, 6, 7, 8, 9, 65] [] (fun _ : Unit => ⟨[(5, .t (.sl true 1 (List.map vi out18))), (6, .t (.sl true 1 (List.map vi r9))), (7, .t (.sl true 1 (List.map vi r13))), (8, .t (vi i19)), (9, .t (vi k20)), (65, .t (vb v39))], []⟩) (fun _ => True) (fun _ _ => ?_) fun K32 hK32 => ?_
        rotate_left
        · rcases ite_or hj31 with ⟨hb33, hj31⟩ | ⟨hb34, hj31⟩
          · have hb33s := hb33
            try simp at hb33s
            refine SWp.drawT rfl (hPB _ rfl) [(45, .t (vi k20)), (46, .al (.slot 7) 0 [] none), (47, .t (vi (r13.length : Int))), (48, .t (vb (decide (k20 ≥ (r13.length : Int))))), (49, .t (vb (decide (k20 ≥ (r13.length : Int))))), (50, .tup []), (51, .tup []), (52, .tup []), (53, .tup []), (54, .tup []), (55, .tup []), (56, .tup []), (57, .tup []), (58, .tup []), (59, .tup []), (60, .tup []), (61, .tup []), (62, .tup [])] [[], [], [1], [0, 1, 2], [0, 1, 2, 3], [0, 1, 2, 3, 4], [0, 1, 2, 3, 4], [0, 1, 2, 3, 4, 6], [0, 1, 2, 3, 4, 5, 6, 7], [0, 1, 2, 3, 4, 5, 6, 7, 8], [0, 1, 2, 3, 4, 5, 6, 7, 8, 9], [0, 1, 2, 3, 4, 5, 6, 7, 8, 9], [0, 1, 2, 3, 4, 5, 6, 7, 8, 9, 10, 11], [0, 1, 2, 3, 4, 5, 6, 7, 8, 9, 10, 11, 12], [0, 1, 2, 3, 4, 5, 6, 7, 8, 9], [0, 1, 2, 3, 4, 5, 6, 7, 8, 9], [0, 1, 2, 3, 4, 5, 6, 7, 8, 9, 14, 15], [0, 1, 2, 3, 4, 5, 6, 7, 8, 9, 14, 15, 16], [0, 1, 2, 3, 4, 5, 6, 7, 8, 9, 10, 11, 12, 13, 14, 15, 16, 17], [0, 1, 2, 3, 4, 5, 6, 7, 8, 9, 10, 11, 12, 13, 14, 15, 16, 17, 18], [0, 1, 2, 3, 4, 5, 6, 7, 8, 9, 10, 11, 12, 13, 14, 15, 16, 17, 18, 19]] (by simp) (by simp) (by simp [look]) rfl rfl rfl ?_ fun K hK => ?_
            · refine ⟨?_, ?_, ?_, ?_, ?_, ?_, ?_, ?_, ?_, ?_, ?_, ?_, ?_, ?_, ?_, ?_, ?_, ?_, trivial⟩
              all_goals (intro τ hbx hb hd hf K hK; try simp [vsAt] at hd; simp [vsAt] at hf; first | (refine wps_cons rfl fun K' hK' => ?_; simp [hN', hbx, hb, hd, hf, hb33, hb33s]; exact hK' _ (wps_nil (hK _ (by simp [vsAt, hbx, hb33, hb33s])))) | (refine wps_off fun K' hK' => ?_; simp [hN', hbx, hb, hd, hf, hb33, hb33s]; exact hK' _ (wps_nil (hK _ (by simp [vsAt, hbx, hb33, hb33s])))))
            iterate 2 (refine wps_off fun K hK => ?_; simp [hN', hb33, hb33s]; refine hK _ ?_; clear hK)
            refine wps_cons rfl fun K hK => ?_; simp [hN', hb33, hb33s]; refine hK _ ?_; clear hK
            refine wps_nil (hK _ ?_); clear hK
            cases hj31
            exact hK32 _ () [] trivial (by simp [hN', hb33, hb33s])
          · have hb34s := hb34
            try simp at hb34s
            rcases ite_or hj31 with ⟨hb35, hj31⟩ | ⟨hb36, hj31⟩
            · have hb35s := hb35
              try simp at hb35s
              obtain ⟨e37, he37, hj31⟩ := bind_some hj31
              obtain ⟨he37a, he37b, he37c, he37d⟩ := getI_some he37
              obtain ⟨e38, he38, hj31⟩ := bind_some hj31
              obtain ⟨he38a, he38b, he38c, he38d⟩ := getI_some he38
              refine SWp.drawT rfl (hPB _ rfl) [(45, .t (vi k20)), (46, .al (.slot 7) 0 [] none), (47, .t (vi (r13.length : Int))), (48, .t (vb (decide (k20 ≥ (r13.length : Int))))), (49, .t (vb (decide (k20 ≥ (r13.length : Int))))), (50, .t (vi i19)), (51, .al (.slot 6) 0 [] none), (52, .t (vi (r9.length : Int))), (53, .t (vb (decide (i19 < (r9.length : Int))))), (54, .t (vb (decide (i19 < (r9.length : Int))))), (55, .al (.slot 6) 0 [] none), (56, .t (vi i19)), (57, .ref (.slot 6) 0 [(i19.toNat, 0)]), (58, .t (vi e37)), (59, .al (.slot 7) 0 [] none), (60, .t (vi k20)), (61, .ref (.slot 7) 0 [(k20.toNat, 0)]), (62, .t (vi e38))] [[], [], [1], [0, 1, 2], [0, 1, 2, 3], [0, 1, 2, 3, 4], [0, 1, 2, 3, 4], [0, 1, 2, 3, 4, 6], [0, 1, 2, 3, 4, 5, 6, 7], [0, 1, 2, 3, 4, 5, 6, 7, 8], [0, 1, 2, 3, 4, 5, 6, 7, 8, 9], [0, 1, 2, 3, 4, 5, 6, 7, 8, 9], [0, 1, 2, 3, 4, 5, 6, 7, 8, 9, 10, 11], [0, 1, 2, 3, 4, 5, 6, 7, 8, 9, 10, 11, 12], [0, 1, 2, 3, 4, 5, 6, 7, 8, 9], [0, 1, 2, 3, 4, 5, 6, 7, 8, 9], [0, 1, 2, 3, 4, 5, 6, 7, 8, 9, 14, 15], [0, 1, 2, 3, 4, 5, 6, 7, 8, 9, 14, 15, 16], [0, 1, 2, 3, 4, 5, 6, 7, 8, 9, 10, 11, 12, 13, 14, 15, 16, 17], [0, 1, 2, 3, 4, 5, 6, 7, 8, 9, 10, 11, 12, 13, 14, 15, 16, 17, 18], [0, 1, 2, 3, 4, 5, 6, 7, 8, 9, 10, 11, 12, 13, 14, 15, 16, 17, 18, 19]] (by simp) (by simp) (by simp [look]) rfl rfl rfl ?_ fun K hK => ?_
              · refine ⟨?_, ?_, ?_, ?_, ?_, ?_, ?_, ?_, ?_, ?_, ?_, ?_, ?_, ?_, ?_, ?_, ?_, ?_, trivial⟩
                all_goals (intro τ hbx hb hd hf K hK; try simp [vsAt] at hd; simp [vsAt] at hf; first | (refine wps_cons rfl fun K' hK' => ?_; simp [hN', hbx, hb, hd, hf, hb34, hb34s, hb35, hb35s, he37a, he37b, he37c, he37d, he38a, he38b, he38c, he38d]; exact hK' _ (wps_nil (hK _ (by simp [vsAt, hbx, hb34, hb34s, hb35, hb35s, he37a, he37b, he37c, he37d, he38a, he38b, he38c, he38d])))))
              iterate 3 (refine wps_cons rfl fun K hK => ?_; simp [hN', hb34, hb34s, hb35, hb35s, he37a, he37b, he37c, he37d, he38a, he38b, he38c, he38d]; refine hK _ ?_; clear hK)
              refine wps_nil (hK _ ?_); clear hK
              cases hj31
              exact hK32 _ () [] trivial (by simp [hN', hb34, hb34s, hb35, hb35s, he37a, he37b, he37c, he37d, he38a, he38b, he38c, he38d])
            · have hb36s := hb36
              try simp at hb36s
              refine SWp.drawT rfl (hPB _ rfl) [(45, .t (vi k20)), (46, .al (.slot 7) 0 [] none), (47, .t (vi (r13.length : Int))), (48, .t (vb (decide (k20 ≥ (r13.length : Int))))), (49, .t (vb (decide (k20 ≥ (r13.length : Int))))), (50, .t (vi i19)), (51, .al (.slot 6) 0 [] none), (52, .t (vi (r9.length : Int))), (53, .t (vb (decide (i19 < (r9.length : Int))))), (54, .t (vb (decide (i19 < (r9.length : Int))))), (55, .tup []), (56, .tup []), (57, .tup []), (58, .tup []), (59, .tup []), (60, .tup []), (61, .tup []), (62, .tup [])] [[], [], [1], [0, 1, 2], [0, 1, 2, 3], [0, 1, 2, 3, 4], [0, 1, 2, 3, 4], [0, 1, 2, 3, 4, 6], [0, 1, 2, 3, 4, 5, 6, 7], [0, 1, 2, 3, 4, 5, 6, 7, 8], [0, 1, 2, 3, 4, 5, 6, 7, 8, 9], [0, 1, 2, 3, 4, 5, 6, 7, 8, 9], [0, 1, 2, 3, 4, 5, 6, 7, 8, 9, 10, 11], [0, 1, 2, 3, 4, 5, 6, 7, 8, 9, 10, 11, 12], [0, 1, 2, 3, 4, 5, 6, 7, 8, 9], [0, 1, 2, 3, 4, 5, 6, 7, 8, 9], [0, 1, 2, 3, 4, 5, 6, 7, 8, 9, 14, 15], [0, 1, 2, 3, 4, 5, 6, 7, 8, 9, 14, 15, 16], [0, 1, 2, 3, 4, 5, 6, 7, 8, 9, 10, 11, 12, 13, 14, 15, 16, 17], [0, 1, 2, 3, 4, 5, 6, 7, 8, 9, 10, 11, 12, 13, 14, 15, 16, 17, 18], [0, 1, 2, 3, 4, 5, 6, 7, 8, 9, 10, 11, 12, 13, 14, 15, 16, 17, 18, 19]] (by simp) (by simp) (by simp [look]) rfl rfl rfl ?_ fun K hK => ?_
              · refine ⟨?_, ?_, ?_, ?_, ?_, ?_, ?_, ?_, ?_, ?_, ?_, ?_, ?_, ?_, ?_, ?_, ?_, ?_, trivial⟩
                all_goals (intro τ hbx hb hd hf K hK; try simp [vsAt] at hd; simp [vsAt] at hf; first | (refine wps_cons rfl fun K' hK' => ?_; simp [hN', hbx, hb, hd, hf, hb34, hb34s, hb36, hb36s]; exact hK' _ (wps_nil (hK _ (by simp [vsAt, hbx, hb34, hb34s, hb36, hb36s])))) | (refine wps_off fun K' hK' => ?_; simp [hN', hbx, hb, hd, hf, hb34, hb34s, hb36, hb36s]; exact hK' _ (wps_nil (hK _ (by simp [vsAt, hbx, hb34, hb34s, hb36, hb36s])))))
              refine wps_off fun K hK => ?_; simp [hN', hb34, hb34s, hb36, hb36s]; refine hK _ ?_; clear hK
              iterate 2 (refine wps_cons rfl fun K hK => ?_; simp [hN', hb34, hb34s, hb36, hb36s]; refine hK _ ?_; clear hK)
              refine wps_nil (hK _ ?_); clear hK
              cases hj31
              exact hK32 _ () [] trivial (by simp [hN', hb34, hb34s, hb36, hb36s])
        rcases ite_or h21 with ⟨hb40, h21⟩ | ⟨hb41, h21⟩
        · refine SWp.condT' (b := v39) (by simp) hb40 ?_
          refine SWp.seqR rfl (hPB _ rfl) fun K hK => ?_
          iterate 3 (refine wps_cons rfl fun K hK => ?_; simp [hN']; refine hK _ ?_; clear hK)
          obtain ⟨e42, he42, h21⟩ := bind_some h21
          obtain ⟨he42a, he42b, he42c, he42d⟩ := getI_some he42
          iterate 3 (refine wps_cons rfl fun K hK => ?_; simp [hN', he42a, he42b, he42c, he42d]; refine hK _ ?_; clear hK)
          obtain ⟨l43, hl43, h21⟩ := bind_some h21
          obtain ⟨hl43a, hl43b, hl43d⟩ := appI_some hl43
          have hl43f : List.map vi out18 ++ List.map vi [e42] = List.map vi l43 := app_map (f := vi) hl43d
          simp [eSl] at hl43a hl43b hl43f
          iterate 2 (refine wps_cons rfl fun K hK => ?_; simp [hN', he42a, he42b, he42c, he42d, hl43a, hl43b, hl43f]; refine hK _ ?_; clear hK)
          refine wps_nil (hK _ ?_); clear hK
          refine SWp.seqR rfl (hPB _ rfl) fun K hK => ?_
          iterate 3 (refine wps_cons rfl fun K hK => ?_; simp [hN']; refine hK _ ?_; clear hK)
          refine wps_nil (hK _ ?_); clear hK
          refine SWp.exit ?_
          cases h21
          exact ⟨_, [], rfl, by simp [hN']⟩
        · refine SWp.condF' (b := v39) (by simp) hb41 ?_
          refine SWp.skip ?_
          show SWp E C _ _ _
          obtain ⟨i56, hj44, h21⟩ := bind_some h21
          refine SWp.seqC [5, 6, 7, 8, 9] [] (fun _ : Unit => ⟨[(5, .t (.sl true 1 (List.map vi out18))), (6, .t (.sl true 1 (List.map vi r9))), (7, .t (.sl true 1 (List.map vi r13))), (8, .t (vi i56)), (9, .t (vi k20))], []⟩) (fun _ => True) (fun _ _ => ?_) fun K45 hK45 => ?_
          rotate_left
          · obtain ⟨v53, hj47, hj44⟩ := bind_some hj44
            refine SWp.seqC [5, 6, 7, 8, 9, 89] [] (fun _ : Unit => ⟨[(5, .t (.sl true 1 (List.map vi out18))), (6, .t (.sl true 1 (List.map vi r9))), (7, .t (.sl true 1 (List.map vi r13))), (8, .t (vi i19)), (9, .t (vi k20)), (89, .t (vb v53))], []⟩) (fun _ => True) (fun _ _ => ?_) fun K48 hK48 => ?_
            rotate_left
            · rcases ite_or hj47 with ⟨hb49, hj47⟩ | ⟨hb50, hj47⟩
              · have hb49s := hb49
                try simp at hb49s
                obtain ⟨e51, he51, hj47⟩ := bind_some hj47
                obtain ⟨he51a, he51b, he51c, he51d⟩ := getI_some he51
                obtain ⟨e52, he52, hj47⟩ := bind_some hj47
                obtain ⟨he52a, he52b, he52c, he52d⟩ := getI_some he52
                refine SWp.drawT rfl (hPB _ rfl) [(75, .t (vi i19)), (76, .al (.slot 6) 0 [] none), (77, .t (vi (r9.length : Int))), (78, .t (vb (decide (i19 < (r9.length : Int))))), (79, .t (vb (decide (i19 < (r9.length : Int))))), (80, .al (.slot 6) 0 [] none), (81, .t (vi i19)), (82, .ref (.slot 6) 0 [(i19.toNat, 0)]), (83, .t (vi e51)), (84, .al (.slot 7) 0 [] none), (85, .t (vi k20)), (86, .ref (.slot 7) 0 [(k20.toNat, 0)]), (87, .t (vi e52))] [[], [], [1], [0, 1, 2], [0, 1, 2, 3], [0, 1, 2, 3, 4], [0, 1, 2, 3, 4], [0, 1, 2, 3, 4, 5, 6], [0, 1, 2, 3, 4, 5, 6, 7], [0, 1, 2, 3, 4], [0, 1, 2, 3, 4], [0, 1, 2, 3, 4, 9, 10], [0, 1, 2, 3, 4, 9, 10, 11], [0, 1, 2, 3, 4, 5, 6, 7, 8, 9, 10, 11, 12], [0, 1, 2, 3, 4, 5, 6, 7, 8, 9, 10, 11, 12, 13]] (by simp) (by simp) (by simp [look]) rfl rfl rfl ?_ fun K hK => ?_
                · refine ⟨?_, ?_, ?_, ?_, ?_, ?_, ?_, ?_, ?_, ?_, ?_, ?_, ?_, trivial⟩
                  all_goals (intro τ hbx hb hd hf K hK; try simp [vsAt] at hd; simp [vsAt] at hf; first | (refine wps_cons rfl fun K' hK' => ?_; simp [hN', hbx, hb, hd, hf, hb49, hb49s, he51a, he51b, he51c, he51d, he52a, he52b, he52c, he52d]; exact hK' _ (wps_nil (hK _ (by simp [vsAt, hbx, hb49, hb49s, he51a, he51b, he51c, he51d, he52a, he52b, he52c, he52d])))))
                iterate 2 (refine wps_cons rfl fun K hK => ?_; simp [hN', hb49, hb49s, he51a, he51b, he51c, he51d, he52a, he52b, he52c, he52d]; refine hK _ ?_; clear hK)
                refine wps_nil (hK _ ?_); clear hK
                cases hj47
                exact hK48 _ () [] trivial (by simp [hN', hb49, hb49s, he51a, he51b, he51c, he51d, he52a, he52b, he52c, he52d])
              · have hb50s := hb50
                try simp at hb50s
                refine SWp.drawT rfl (hPB _ rfl) [(75, .t (vi i19)), (76, .al (.slot 6) 0 [] none), (77, .t (vi (r9.length : Int))), (78, .t (vb (decide (i19 < (r9.length : Int))))), (79, .t (vb (decide (i19 < (r9.length : Int))))), (80, .tup []), (81, .tup []), (82, .tup []), (83, .tup []), (84, .tup []), (85, .tup []), (86, .tup []), (87, .tup [])] [[], [], [1], [0, 1, 2], [0, 1, 2, 3], [0, 1, 2, 3, 4], [0, 1, 2, 3, 4], [0, 1, 2, 3, 4, 5, 6], [0, 1, 2, 3, 4, 5, 6, 7], [0, 1, 2, 3, 4], [0, 1, 2, 3, 4], [0, 1, 2, 3, 4, 9, 10], [0, 1, 2, 3, 4, 9, 10, 11], [0, 1, 2, 3, 4, 5, 6, 7, 8, 9, 10, 11, 12], [0, 1, 2, 3, 4, 5, 6, 7, 8, 9, 10, 11, 12, 13]] (by simp) (by simp) (by simp [look]) rfl rfl rfl ?_ fun K hK => ?_
                · refine ⟨?_, ?_, ?_, ?_, ?_, ?_, ?_, ?_, ?_, ?_, ?_, ?_, ?_, trivial⟩
                  all_goals (intro τ hbx hb hd hf K hK; try simp [vsAt] at hd; simp [vsAt] at hf; first | (refine wps_cons rfl fun K' hK' => ?_; simp [hN', hbx, hb, hd, hf, hb50, hb50s]; exact hK' _ (wps_nil (hK _ (by simp [vsAt, hbx, hb50, hb50s])))) | (refine wps_off fun K' hK' => ?_; simp [hN', hbx, hb, hd, hf, hb50, hb50s]; exact hK' _ (wps_nil (hK _ (by simp [vsAt, hbx, hb50, hb50s])))))
                refine wps_off fun K hK => ?_; simp [hN', hb50, hb50s]; refine hK _ ?_; clear hK
                refine wps_cons rfl fun K hK => ?_; simp [hN', hb50, hb50s]; refine hK _ ?_; clear hK
                refine wps_nil (hK _ ?_); clear hK
                cases hj47
                exact hK48 _ () [] trivial (by simp [hN', hb50, hb50s])
            rcases ite_or hj44 with ⟨hb54, hj44⟩ | ⟨hb55, hj44⟩
            · refine SWp.condT' (b := v53) (by simp) hb54 ?_
              refine SWp.reg rfl (hPB _ rfl) fun K hK => ?_
              iterate 3 (refine wps_cons rfl fun K hK => ?_; simp [hN']; refine hK _ ?_; clear hK)
              refine wps_nil (hK _ ?_); clear hK
              cases hj44
              exact hK45 _ () [] trivial (by simp [hN'])
            · refine SWp.condF' (b := v53) (by simp) hb55 ?_
              refine SWp.skip ?_
              cases hj44
              exact hK45 _ () [] trivial (by simp [hN'])
          refine SWp.seqR rfl (hPB _ rfl) fun K hK => ?_
          iterate 3 (refine wps_cons rfl fun K hK => ?_; simp [hN']; refine hK _ ?_; clear hK)
          obtain ⟨e57, he57, h21⟩ := bind_some h21
          obtain ⟨he57a, he57b, he57c, he57d⟩ := getI_some he57
          iterate 3 (refine wps_cons rfl fun K hK => ?_; simp [hN', he57a, he57b, he57c, he57d]; refine hK _ ?_; clear hK)
          obtain ⟨l58, hl58, h21⟩ := bind_some h21
          obtain ⟨hl58a, hl58b, hl58d⟩ := appI_some hl58
          have hl58f : List.map vi out18 ++ List.map vi [e57] = List.map vi l58 := app_map (f := vi) hl58d
          simp [eSl] at hl58a hl58b hl58f
          iterate 2 (refine wps_cons rfl fun K hK => ?_; simp [hN', he57a, he57b, he57c, he57d, hl58a, hl58b, hl58f]; refine hK _ ?_; clear hK)
          refine wps_nil (hK _ ?_); clear hK
          refine SWp.reg rfl (hPB _ rfl) fun K hK => ?_
          iterate 3 (refine wps_cons rfl fun K hK => ?_; simp [hN']; refine hK _ ?_; clear hK)
          refine wps_nil (hK _ ?_); clear hK
          cases h21
          exact ⟨_, [], rfl, by simp [hN']⟩
      · refine SWp.condF' (b := v28) (by simp) hb30 ?_
        refine SWp.exit ?_
        have h59 := congrArg some (ho22 _ (Option.some.inj h21).symm)
        cases h59
        exact hK16 _ () [] trivial (by simp [hN'])
    refine SWp.seqR rfl (hPB _ rfl) fun K hK => ?_
    iterate 2 (refine wps_cons rfl fun K hK => ?_; simp [hN']; refine hK _ ?_; clear hK)
    refine wps_nil (hK _ ?_); clear hK
    cases h
    refine SWp.ret ?_
    simp [thenS, inBlockS, res28]
end Go.Proofs.T
set_option linter.unusedVariables false
set_option linter.unusedSimpArgs false
set_option maxHeartbeats 1000000
namespace Go.Proofs.T
open Go.OM
theorem res79 : Tryz.f79.results.toList = [.tmp 4] := rfl
theorem ent79 : Enters E.P 79 := enters_of Tryz.func79 (by simp [Tryz.f79]) rfl
theorem spec_FnAt_ok (p1 : GProgram) (name2 : ByteArray) {r0 : Int} (h : spec_FnAt p1 name2 = some r0) : Ok E 79 [.val (GProgram.enc false p1), .val (vs name2)] [vi r0] [] := by
  refine ok_of_body (fn := Tryz.f79) Tryz.func79 rfl (by simp [Tryz.f79]) fun C hN hP => ?_
  have hPB : ∀ l, pinK [] l = true → pinB C.pin l = true := pinB_of (by rw [hP]; rfl)
  have hN' : C.N = 22 := hN
  clear hN
  unfold spec_FnAt at h
  refine SWp.seqR rfl (hPB _ rfl) fun K hK => ?_
  iterate 2 (refine wps_cons rfl fun K hK => ?_; simp [hN']; refine hK _ ?_; clear hK)
  refine wps_nil (hK _ ?_); clear hK
  obtain ⟨j5, hj3, h⟩ := bind_some h
  refine SWp.seqC [] [] (fun v : Unit => ⟨[], []⟩) (fun v => j5 = Sum.inl v) (fun v hv => ?_) fun K4 hK4 => ?_
  rotate_left
  · refine SWp.seqR rfl (hPB _ rfl) fun K hK => ?_
    refine wps_cons rfl fun K hK => ?_; simp [hN']; refine hK _ ?_; clear hK
    refine wps_nil (hK _ ?_); clear hK
    refine SWp.block ?_
    refine SWp.loopO [] [1, 2, 5] [2] (fun v : Int => ⟨[(1, .t (vs name2)), (2, .ref (.box 2) 0 []), (5, .t (vi v))], [(2, [.sl false 4 (List.map (GNode.enc false) p1.Nodes), .sl false 5 (List.map (GFn.enc false) p1.Fns)])]⟩) (spec_FnAt_l1 p1 name2) _ 0 hj3 (by simp [hN']) ?_
    intro g s9 h7 ho8
    obtain ⟨i6, hg⟩ : ∃ y, y = g := ⟨_, rfl⟩
    subst hg
    simp only [spec_FnAt_l1] at h7
    try dsimp only
    refine SWp.seq ?_
    refine SWp.seqR rfl (hPB _ rfl) fun K hK => ?_
    iterate 5 (refine wps_cons rfl fun K hK => ?_; simp [hN']; refine hK _ ?_; clear hK)
    refine wps_nil (hK _ ?_); clear hK
    rcases ite_or h7 with ⟨hb10, h7⟩ | ⟨hb11, h7⟩
    · refine SWp.condT' (b := decide (i6 < (p1.Fns.length : Int))) (by simp) hb10 ?_
      refine SWp.skip ?_
      show SWp E C _ _ _
      refine SWp.seq ?_
      refine SWp.block ?_
      refine SWp.seqR rfl (hPB _ rfl) fun K hK => ?_
      iterate 3 (refine wps_cons rfl fun K hK => ?_; simp [hN']; refine hK _ ?_; clear hK)
      obtain ⟨e12, he12, h7⟩ := bind_some h7
      obtain ⟨he12a, he12b, he12c, he12d⟩ := getI_some he12
      iterate 5 (refine wps_cons rfl fun K hK => ?_; simp [hN', he12a, he12b, he12c, he12d]; refine hK _ ?_; clear hK)
      refine wps_nil (hK _ ?_); clear hK
      rcases ite_or h7 with ⟨hb13, h7⟩ | ⟨hb14, h7⟩
      · refine SWp.condT' (b := sEq e12.Name name2) (by simp) hb13 ?_
        refine SWp.seqR rfl (hPB _ rfl) fun K hK => ?_
        iterate 2 (refine wps_cons rfl fun K hK => ?_; simp [hN']; refine hK _ ?_; clear hK)
        refine wps_nil (hK _ ?_); clear hK
        have h15 := congrArg some (ho8 _ (Option.some.inj h7).symm)
        cases h15
        try dsimp only at h
        cases h
        refine SWp.ret ?_
        simp [thenS, inBlockS, res79]
      · refine SWp.condF' (b := sEq e12.Name name2) (by simp) hb14 ?_
        refine SWp.skip ?_
        show SWp E C _ _ _
        refine SWp.reg rfl (hPB _ rfl) fun K hK => ?_
        iterate 3 (refine wps_cons rfl fun K hK => ?_; simp [hN']; refine hK _ ?_; clear hK)
        refine wps_nil (hK _ ?_); clear hK
        cases h7
        exact ⟨_, [], rfl, by simp [hN']⟩
    · refine SWp.condF' (b := decide (i6 < (p1.Fns.length : Int))) (by simp) hb11 ?_
      refine SWp.exit ?_
      have h16 := congrArg some (ho8 _ (Option.some.inj h7).symm)
      cases h16
      exact hK4 _ _ [] rfl (by simp [hN'])
  subst hv
  obtain ⟨⟩ := v
  try dsimp only at h ⊢
  refine SWp.seqR rfl (hPB _ rfl) fun K hK => ?_
  refine wps_cons rfl fun K hK => ?_; simp [hN']; refine hK _ ?_; clear hK
  refine wps_nil (hK _ ?_); clear hK
  cases h
  refine SWp.ret ?_
  simp [thenS, inBlockS, res79]
end Go.Proofs.T
set_option linter.unusedVariables false
set_option linter.unusedSimpArgs false
set_option maxHeartbeats 1000000
namespace Go.Proofs.T
open Go.OM
theorem res80 : Tryz.f80.results.toList = [.tmp 4] := rfl
theorem ent80 : Enters E.P 80 := enters_of Tryz.func80 (by simp [Tryz.f80]) rfl
theorem spec_l11Add_ok (list1 : List Int) (n2 : Int) {r0 : List Int} (h : spec_l11Add list1 n2 = some r0) : Ok E 80 [.val (.sl true 1 (List.map vi list1)), .val (vi n2)] [.sl true 1 (List.map vi r0)] [] := by
  refine ok_of_body (fn := Tryz.f80) Tryz.func80 rfl (by simp [Tryz.f80]) fun C hN hP => ?_
  have hPB : ∀ l, pinK [] l = true → pinB C.pin l = true := pinB_of (by rw [hP]; rfl)
  have hN' : C.N = 23 := hN
  clear hN
  unfold spec_l11Add at h
  refine SWp.seqR rfl (hPB _ rfl) fun K hK => ?_
  refine wps_cons rfl fun K hK => ?_; simp [hN']; refine hK _ ?_; clear hK
  refine wps_nil (hK _ ?_); clear hK
  obtain ⟨j5, hj3, h⟩ := bind_some h
  refine SWp.seqC [0, 1] [] (fun v : Unit => ⟨[(0, .t (.sl true 1 (List.map vi list1))), (1, .t (vi n2))], []⟩) (fun v => j5 = Sum.inl v) (fun v hv => ?_) fun K4 hK4 => ?_
  rotate_left
  · refine SWp.seqR rfl (hPB _ rfl) fun K hK => ?_
    refine wps_cons rfl fun K hK => ?_; simp [hN']; refine hK _ ?_; clear hK
    refine wps_nil (hK _ ?_); clear hK
    refine SWp.block ?_
    refine SWp.loopO [] [0, 1, 5] [] (fun v : Int => ⟨[(0, .t (.sl true 1 (List.map vi list1))), (1, .t (vi n2)), (5, .t (vi v))], []⟩) (spec_l11Add_l1 list1 n2) _ 0 hj3 (by simp [hN']) ?_
    intro g s9 h7 ho8
    obtain ⟨i6, hg⟩ : ∃ y, y = g := ⟨_, rfl⟩
    subst hg
    simp only [spec_l11Add_l1] at h7
    try dsimp only
    refine SWp.seq ?_
    refine SWp.seqR rfl (hPB _ rfl) fun K hK => ?_
    iterate 4 (refine wps_cons rfl fun K hK => ?_; simp [hN']; refine hK _ ?_; clear hK)
    refine wps_nil (hK _ ?_); clear hK
    rcases ite_or h7 with ⟨hb10, h7⟩ | ⟨hb11, h7⟩
    · refine SWp.condT' (b := decide (i6 < (list1.length : Int))) (by simp) hb10 ?_
      refine SWp.skip ?_
      show SWp E C _ _ _
      refine SWp.seq ?_
      refine SWp.block ?_
      refine SWp.seqR rfl (hPB _ rfl) fun K hK => ?_
      iterate 2 (refine wps_cons rfl fun K hK => ?_; simp [hN']; refine hK _ ?_; clear hK)
      obtain ⟨e12, he12, h7⟩ := bind_some h7
      obtain ⟨he12a, he12b, he12c, he12d⟩ := getI_some he12
      iterate 4 (refine wps_cons rfl fun K hK => ?_; simp [hN', he12a, he12b, he12c, he12d]; refine hK _ ?_; clear hK)
      refine wps_nil (hK _ ?_); clear hK
      rcases ite_or h7 with ⟨hb13, h7⟩ | ⟨hb14, h7⟩
      · refine SWp.condT' (b := e12 == n2) (by simp) hb13 ?_
        refine SWp.seqR rfl (hPB _ rfl) fun K hK => ?_
        iterate 2 (refine wps_cons rfl fun K hK => ?_; simp [hN']; refine hK _ ?_; clear hK)
        refine wps_nil (hK _ ?_); clear hK
        have h15 := congrArg some (ho8 _ (Option.some.inj h7).symm)
        cases h15
        try dsimp only at h
        cases h
        refine SWp.ret ?_
        simp [thenS, inBlockS, res80]
      · refine SWp.condF' (b := e12 == n2) (by simp) hb14 ?_
        refine SWp.skip ?_
        show SWp E C _ _ _
        refine SWp.reg rfl (hPB _ rfl) fun K hK => ?_
        iterate 3 (refine wps_cons rfl fun K hK => ?_; simp [hN']; refine hK _ ?_; clear hK)
        refine wps_nil (hK _ ?_); clear hK
        cases h7
        exact ⟨_, [], rfl, by simp [hN']⟩
    · refine SWp.condF' (b := decide (i6 < (list1.length : Int))) (by simp) hb11 ?_
      refine SWp.exit ?_
      have h16 := congrArg some (ho8 _ (Option.some.inj h7).symm)
      cases h16
      exact hK4 _ _ [] rfl (by simp [hN'])
  subst hv
  obtain ⟨⟩ := v
  try dsimp only at h ⊢
  refine SWp.seqR rfl (hPB _ rfl) fun K hK => ?_
  iterate 3 (refine wps_cons rfl fun K hK => ?_; simp [hN']; refine hK _ ?_; clear hK)
  obtain ⟨l17, hl17, h⟩ := bind_some h
  obtain ⟨hl17a, hl17b, hl17d⟩ := appI_some hl17
  have hl17f : List.map vi list1 ++ List.map vi [n2] = List.map vi l17 := app_map (f := vi) hl17d
  simp [eSl] at hl17a hl17b hl17f
  iterate 2 (refine wps_cons rfl fun K hK => ?_; simp [hN', hl17a, hl17b, hl17f]; refine hK _ ?_; clear hK)
  refine wps_nil (hK _ ?_); clear hK
  cases h
  refine SWp.ret ?_
  simp [thenS, inBlockS, res80]
end Go.Proofs.T
set_option linter.unusedVariables false
set_option linter.unusedSimpArgs false
set_option maxHeartbeats 1000000
namespace Go.Proofs.T
open Go.OM
theorem res48 : Tryz.f48.results.toList = [.tmp 4] := rfl
theorem ent48 : Enters E.P 48 := enters_of Tryz.func48 (by simp [Tryz.f48]) rfl
theorem spec_CallsOf_ok (p1 : GProgram) (fn2 : Int) {r0 : List Int} (h : spec_CallsOf p1 fn2 = some r0) : Ok E 48 [.val (GProgram.enc false p1), .val (vi fn2)] [.sl true 1 (List.map vi r0)] [] := by
  refine ok_of_body (fn := Tryz.f48) Tryz.func48 rfl (by simp [Tryz.f48]) fun C hN hP => ?_
  have hPB : ∀ l, pinK [] l = true → pinB C.pin l = true := pinB_of (by rw [hP]; rfl)
  have hN' : C.N = 46 := hN
  clear hN
  unfold spec_CallsOf at h
  refine SWp.seqR rfl (hPB _ rfl) fun K hK => ?_
  iterate 2 (refine wps_cons rfl fun K hK => ?_; simp [hN']; refine hK _ ?_; clear hK)
  refine wps_nil (hK _ ?_); clear hK
  refine SWp.seqR rfl (hPB _ rfl) fun K hK => ?_
  iterate 2 (refine wps_cons rfl fun K hK => ?_; simp [hN']; refine hK _ ?_; clear hK)
  refine wps_nil (hK _ ?_); clear hK
  refine SWp.seqR rfl (hPB _ rfl) fun K hK => ?_
  iterate 2 (refine wps_cons rfl fun K hK => ?_; simp [hN']; refine hK _ ?_; clear hK)
  obtain ⟨r3, hc4, h⟩ := bind_some h
  refine wps_call [(.take, .tmp 10), (.take, .tmp 11)] rfl rfl ent28 (spec_l07All_ok _ _ hc4) fun K hK => ?_; simp [hN']; refine hK _ ?_; clear hK
  refine wps_cons rfl fun K hK => ?_; simp [hN']; refine hK _ ?_; clear hK
  refine wps_nil (hK _ ?_); clear hK
  obtain ⟨out30, hj5, h⟩ := bind_some h
  refine SWp.seqC [5] [] (fun _ : Unit => ⟨[(5, .t (.sl true 1 (List.map vi out30)))], []⟩) (fun _ => True) (fun _ _ => ?_) fun K6 hK6 => ?_
  rotate_left
  · refine SWp.seqR rfl (hPB _ rfl) fun K hK => ?_
    refine wps_cons rfl fun K hK => ?_; simp [hN']; refine hK _ ?_; clear hK
    refine wps_nil (hK _ ?_); clear hK
    refine SWp.block ?_
    refine SWp.loopO [] [2, 5, 6, 7] [2] (fun v : (List Int) × Int => ⟨[(2, .ref (.box 2) 0 []), (5, .t (.sl true 1 (List.map vi v.1))), (6, .t (.sl true 1 (List.map vi r3))), (7, .t (vi v.2))], [(2, [.sl false 4 (List.map (GNode.enc false) p1.Nodes), .sl false 5 (List.map (GFn.enc false) p1.Fns)])]⟩) (spec_CallsOf_l1 p1 r3) _ ([], 0) hj5 (by simp [hN']) ?_
    intro g s12 h10 ho11
    obtain ⟨out8, i9⟩ := g
    simp only [spec_CallsOf_l1] at h10
    try dsimp only
    refine SWp.seq ?_
    refine SWp.seqR rfl (hPB _ rfl) fun K hK => ?_
    iterate 4 (refine wps_cons rfl fun K hK => ?_; simp [hN']; refine hK _ ?_; clear hK)
    refine wps_nil (hK _ ?_); clear hK
    rcases ite_or h10 with ⟨hb13, h10⟩ | ⟨hb14, h10⟩
    · refine SWp.condT' (b := decide (i9 < (r3.length : Int))) (by simp) hb13 ?_
      refine SWp.skip ?_
      show SWp E C _ _ _
      refine SWp.seq ?_
      refine SWp.block ?_
      refine SWp.seq ?_
      refine SWp.seq ?_
      obtain ⟨e16, he16, h10⟩ := bind_some h10
      obtain ⟨he16a, he16b, he16c, he16d⟩ := getI_some he16
      refine SWp.drawT rfl (hPB _ rfl) [(19, .ref (.box 2) 0 []), (20, .t (.sl false 4 (List.map (GNode.enc false) p1.Nodes))), (21, .al (.slot 6) 0 [] none), (22, .t (vi i9)), (23, .ref (.slot 6) 0 [(i9.toNat, 0)]), (24, .t (vi e16))] [[], [0], [], [], [2, 3], [2, 3, 4], [0, 1, 2, 3, 4, 5], [0, 1, 2, 3, 4, 5, 6], [0, 1, 2, 3, 4, 5, 6, 7], [0, 1, 2, 3, 4, 5, 6, 7, 8]] (by simp) (by simp) (by simp [look]) rfl rfl rfl ?_ fun K hK => ?_
      · refine ⟨?_, ?_, ?_, ?_, ?_, ?_, trivial⟩
        all_goals (intro τ hbx hb hd hf K hK; try simp [vsAt] at hd; simp [vsAt] at hf; first | (refine wps_cons rfl fun K' hK' => ?_; simp [hN', hbx, hb, hd, hf, he16a, he16b, he16c, he16d]; exact hK' _ (wps_nil (hK _ (by simp [vsAt, hbx, he16a, he16b, he16c, he16d])))))
      obtain ⟨e17, he17, h10⟩ := bind_some h10
      obtain ⟨he17a, he17b, he17c, he17d⟩ := getI_some he17
      iterate 4 (refine wps_cons rfl fun K hK => ?_; simp [hN', he16a, he16b, he16c, he16d, he17a, he17b, he17c, he17d]; refine hK _ ?_; clear hK)
      refine wps_nil (hK _ ?_); clear hK
      show SWp E C _ _ _
      rcases ite_or h10 with ⟨hb18, h10⟩ | ⟨hb19, h10⟩
      · refine SWp.condT' (b := e17.Kind != 12) (by simp) hb18 ?_
        refine SWp.exit ?_
        show SWp E C _ _ _
        refine SWp.reg rfl (hPB _ rfl) fun K hK => ?_
        iterate 3 (refine wps_cons rfl fun K hK => ?_; simp [hN']; refine hK _ ?_; clear hK)
        refine wps_nil (hK _ ?_); clear hK
        cases h10
        exact ⟨_, [], rfl, by simp [hN']⟩
      · refine SWp.condF' (b := e17.Kind != 12) (by simp) hb19 ?_
        refine SWp.skip ?_
        show SWp E C _ _ _
        refine SWp.seq ?_
        obtain ⟨e21, he21, h10⟩ := bind_some h10
        obtain ⟨he21a, he21b, he21c, he21d⟩ := getI_some he21
        obtain ⟨e22, he22, h10⟩ := bind_some h10
        obtain ⟨he22a, he22b, he22c, he22d⟩ := getI_some he22
        refine SWp.drawT rfl (hPB _ rfl) [(29, .t (GProgram.enc false p1)), (30, .ref (.box 2) 0 []), (31, .t (.sl false 4 (List.map (GNode.enc false) p1.Nodes))), (32, .al (.slot 6) 0 [] none), (33, .t (vi i9)), (34, .ref (.slot 6) 0 [(i9.toNat, 0)]), (35, .t (vi e21)), (36, .rop [vi e22.Kind, vi e22.Num, vs e22.Name, .sl false 1 (List.map vi e22.Kids)] 0), (37, .rop [vi e22.Kind, vi e22.Num, vs e22.Name, .sl false 1 (List.map vi e22.Kids)] 2), (38, .t (vs e22.Name))] [[], [], [1], [], [], [3, 4], [3, 4, 5], [1, 2, 3, 4, 5, 6], [1, 2, 3, 4, 5, 6, 7], [1, 2, 3, 4, 5, 6, 7, 8], [0, 1, 2, 3, 4, 5, 6, 7, 8, 9], [0, 1, 2, 3, 4, 5, 6, 7, 8, 9, 10]] (by simp) (by simp) (by simp [look]) rfl rfl rfl ?_ fun K hK => ?_
        · refine ⟨?_, ?_, ?_, ?_, ?_, ?_, ?_, ?_, ?_, ?_, trivial⟩
          all_goals (intro τ hbx hb hd hf K hK; try simp [vsAt] at hd; simp [vsAt] at hf; first | (refine wps_cons rfl fun K' hK' => ?_; simp [hN', hbx, hb, hd, hf, he21a, he21b, he21c, he21d, he22a, he22b, he22c, he22d]; exact hK' _ (wps_nil (hK _ (by simp [vsAt, hbx, he21a, he21b, he21c, he21d, he22a, he22b, he22c, he22d])))))
        obtain ⟨r23, hc24, h10⟩ := bind_some h10
        refine wps_call [(.take, .tmp 29), (.take, .tmp 38)] rfl rfl ent79 (spec_FnAt_ok _ _ hc24) fun K hK => ?_; simp [hN', he21a, he21b, he21c, he21d, he22a, he22b, he22c, he22d]; refine hK _ ?_; clear hK
        refine wps_cons rfl fun K hK => ?_; simp [hN', he21a, he21b, he21c, he21d, he22a, he22b, he22c, he22d]; refine hK _ ?_; clear hK
        refine wps_nil (hK _ ?_); clear hK
        show SWp E C _ _ _
        refine SWp.seqR rfl (hPB _ rfl) fun K hK => ?_
        iterate 2 (refine wps_cons rfl fun K hK => ?_; simp [hN']; refine hK _ ?_; clear hK)
        refine wps_nil (hK _ ?_); clear hK
        rcases ite_or h10 with ⟨hb25, h10⟩ | ⟨hb26, h10⟩
        · refine SWp.condT' (b := decide (r23 ≥ 0)) (by simp) hb25 ?_
          refine SWp.reg rfl (hPB _ rfl) fun K hK => ?_
          iterate 2 (refine wps_cons rfl fun K hK => ?_; simp [hN']; refine hK _ ?_; clear hK)
          obtain ⟨r27, hc28, h10⟩ := bind_some h10
          refine wps_call [(.take, .tmp 42), (.take, .tmp 43)] rfl rfl ent80 (spec_l11Add_ok _ _ hc28) fun K hK => ?_; simp [hN']; refine hK _ ?_; clear hK
          refine wps_cons rfl fun K hK => ?_; simp [hN']; refine hK _ ?_; clear hK
          refine wps_nil (hK _ ?_); clear hK
          show SWp E C _ _ _
          refine SWp.reg rfl (hPB _ rfl) fun K hK => ?_
          iterate 3 (refine wps_cons rfl fun K hK => ?_; simp [hN']; refine hK _ ?_; clear hK)
          refine wps_nil (hK _ ?_); clear hK
          cases h10
          exact ⟨_, [], rfl, by simp [hN']⟩
        · refine SWp.condF' (b := decide (r23 ≥ 0)) (by simp) hb26 ?_
          refine SWp.skip ?_
          show SWp E C _ _ _
          refine SWp.reg rfl (hPB _ rfl) fun K hK => ?_
          iterate 3 (refine wps_cons rfl fun K hK => ?_; simp [hN']; refine hK _ ?_; clear hK)
          refine wps_nil (hK _ ?_); clear hK
          cases h10
          exact ⟨_, [], rfl, by simp [hN']⟩
    · refine SWp.condF' (b := decide (i9 < (r3.length : Int))) (by simp) hb14 ?_
      refine SWp.exit ?_
      have h29 := congrArg some (ho11 _ (Option.some.inj h10).symm)
      cases h29
      exact hK6 _ () [] trivial (by simp [hN'])
  refine SWp.seqR rfl (hPB _ rfl) fun K hK => ?_
  iterate 2 (refine wps_cons rfl fun K hK => ?_; simp [hN']; refine hK _ ?_; clear hK)
  refine wps_nil (hK _ ?_); clear hK
  cases h
  refine SWp.ret ?_
  simp [thenS, inBlockS, res48]
end Go.Proofs.T
set_option linter.unusedVariables false
set_option linter.unusedSimpArgs false
set_option maxHeartbeats 1000000
namespace Go.Proofs.T
open Go.OM
theorem res22 : Tryz.f22.results.toList = [.tmp 4] := rfl
theorem ent22 : Enters E.P 22 := enters_of Tryz.func22 (by simp [Tryz.f22]) rfl
theorem spec_ReachedFns_ok (p1 : GProgram) (fn2 : Int) {r0 : List Int} (h : spec_ReachedFns p1 fn2 = some r0) : Ok E 22 [.val (GProgram.enc false p1), .val (vi fn2)] [.sl true 1 (List.map vi r0)] [] := by
  refine ok_of_body (fn := Tryz.f22) Tryz.func22 rfl (by simp [Tryz.f22]) fun C hN hP => ?_
  have hPB : ∀ l, pinK [] l = true → pinB C.pin l = true := pinB_of (by rw [hP]; rfl)
  have hN' : C.N = 84 := hN
  clear hN
  unfold spec_ReachedFns at h
  refine SWp.seqR rfl (hPB _ rfl) fun K hK => ?_
  iterate 2 (refine wps_cons rfl fun K hK => ?_; simp [hN']; refine hK _ ?_; clear hK)
  refine wps_nil (hK _ ?_); clear hK
  refine SWp.seqR rfl (hPB _ rfl) fun K hK => ?_
  iterate 2 (refine wps_cons rfl fun K hK => ?_; simp [hN']; refine hK _ ?_; clear hK)
  refine wps_nil (hK _ ?_); clear hK
  refine SWp.seq ?_
  refine SWp.seqR rfl (hPB _ rfl) fun K hK => ?_
  iterate 5 (refine wps_cons rfl fun K hK => ?_; simp [hN']; refine hK _ ?_; clear hK)
  obtain ⟨r3, hc4, h⟩ := bind_some h
  refine wps_call [(.take, .tmp 13), (.take, .const (.int .i64 0)), (.take, .tmp 17)] rfl rfl ent51 (spec_l01In_ok _ _ _ hc4) fun K hK => ?_; simp [hN']; refine hK _ ?_; clear hK
  refine wps_cons rfl fun K hK => ?_; simp [hN']; refine hK _ ?_; clear hK
  refine wps_nil (hK _ ?_); clear hK
  rcases ite_or h with ⟨hb5, h⟩ | ⟨hb6, h⟩
  · refine SWp.condT' (b := !r3) (by simp) hb5 ?_
    refine SWp.seqR rfl (hPB _ rfl) fun K hK => ?_
    iterate 2 (refine wps_cons rfl fun K hK => ?_; simp [hN']; refine hK _ ?_; clear hK)
    refine wps_nil (hK _ ?_); clear hK
    cases h
    refine SWp.ret ?_
    simp [thenS, inBlockS, res22]
  · refine SWp.condF' (b := !r3) (by simp) hb6 ?_
    refine SWp.skip ?_
    show SWp E C _ _ _
    refine SWp.seqR rfl (hPB _ rfl) fun K hK => ?_
    iterate 3 (refine wps_cons rfl fun K hK => ?_; simp [hN']; refine hK _ ?_; clear hK)
    obtain ⟨l7, hl7, h⟩ := bind_some h
    obtain ⟨hl7a, hl7b, hl7c, hl7d⟩ := mkI_some hl7
    have hl7f : List.replicate (p1.Fns.length : Int).toNat (vb false) = List.map vb l7 := rep_map (f := vb) hl7d
    try simp only [Int.toNat_natCast] at hl7f
    iterate 2 (refine wps_cons rfl fun K hK => ?_; simp [hN', hl7a, hl7b, hl7c, hl7f]; refine hK _ ?_; clear hK)
    refine wps_nil (hK _ ?_); clear hK
    refine SWp.seqR rfl (hPB _ rfl) fun K hK => ?_
    iterate 2 (refine wps_cons rfl fun K hK => ?_; simp [hN']; refine hK _ ?_; clear hK)
    obtain ⟨e8, he8, h⟩ := bind_some h
    obtain ⟨he8a, he8b, he8c, he8d⟩ := getI_some he8
    refine wps_cons rfl fun K hK => ?_; simp [hN', he8a, he8b, he8c, he8d]; refine hK _ ?_; clear hK
    obtain ⟨l9, hl9, h⟩ := bindS_some h
    have hl9f : (List.map vb l7).set fn2.toNat (vb true) = List.map vb l9 := set_map (f := vb) hl9
    try simp only [Int.toNat_natCast] at hl9f
    refine wps_cons rfl fun K hK => ?_; simp [hN', he8a, he8b, he8c, he8d, hl9f]; refine hK _ ?_; clear hK
    refine wps_nil (hK _ ?_); clear hK
    refine SWp.seqR rfl (hPB _ rfl) fun K hK => ?_
    iterate 3 (refine wps_cons rfl fun K hK => ?_; simp [hN']; refine hK _ ?_; clear hK)
    refine wps_nil (hK _ ?_); clear hK
    obtain ⟨has49, hj10, h⟩ := bind_some h
    refine SWp.seqC [5, 6] [] (fun _ : Unit => ⟨[(5, .t (.sl true 1 [])), (6, .t (.sl true 1 (List.map vb has49)))], []⟩) (fun _ => True) (fun _ _ => ?_) fun K11 hK11 => ?_
    rotate_left
    · refine SWp.seqR rfl (hPB _ rfl) fun K hK => ?_
      refine wps_cons rfl fun K hK => ?_; simp [hN']; refine hK _ ?_; clear hK
      refine wps_nil (hK _ ?_); clear hK
      refine SWp.block ?_
      refine SWp.loopO [] [2, 5, 6, 7, 8] [2] (fun v : (List Bool) × (List Int) × Int => ⟨[(2, .ref (.box 2) 0 []), (5, .t (.sl true 1 [])), (6, .t (.sl true 1 (List.map vb v.1))), (7, .t (.sl true 1 (List.map vi v.2.1))), (8, .t (vi v.2.2))], [(2, [.sl false 4 (List.map (GNode.enc false) p1.Nodes), .sl false 5 (List.map (GFn.enc false) p1.Fns)])]⟩) (spec_ReachedFns_l1 p1) _ (l9, [fn2], 0) hj10 (by simp [hN']) ?_
      intro g s18 h16 ho17
      obtain ⟨has13, list14, i15⟩ := g
      simp only [spec_ReachedFns_l1] at h16
      try dsimp only
      refine SWp.seq ?_
      refine SWp.seqR rfl (hPB _ rfl) fun K hK => ?_
      iterate 4 (refine wps_cons rfl fun K hK => ?_; simp [hN']; refine hK _ ?_; clear hK)
      refine wps_nil (hK _ ?_); clear hK
      rcases ite_or h16 with ⟨hb19, h16⟩ | ⟨hb20, h16⟩
      · refine SWp.condT' (b := decide (i15 < (list14.length : Int))) (by simp) hb19 ?_
        refine SWp.skip ?_
        show SWp E C _ _ _
        obtain ⟨⟨has46, list47⟩, hj21, h16⟩ := bind_some h16
        try dsimp only at h16
        refine SWp.seqC [2, 5, 6, 7, 8] [2] (fun _ : Unit => ⟨[(2, .ref (.box 2) 0 []), (5, .t (.sl true 1 [])), (6, .t (.sl true 1 (List.map vb has46))), (7, .t (.sl true 1 (List.map vi list47))), (8, .t (vi i15))], [(2, [.sl false 4 (List.map (GNode.enc false) p1.Nodes), .sl false 5 (List.map (GFn.enc false) p1.Fns)])]⟩) (fun _ => True) (fun _ _ => ?_) fun K22 hK22 => ?_
        rotate_left
        · refine SWp.block ?_
          refine SWp.seq ?_
          obtain ⟨e25, he25, hj21⟩ := bind_some hj21
          obtain ⟨he25a, he25b, he25c, he25d⟩ := getI_some he25
          refine SWp.drawT rfl (hPB _ rfl) [(36, .t (GProgram.enc false p1)), (37, .al (.slot 7) 0 [] none), (38, .t (vi i15)), (39, .ref (.slot 7) 0 [(i15.toNat, 0)]), (40, .t (vi e25))] [[], [], [], [1, 2], [1, 2, 3], [0, 1, 2, 3, 4], [0, 1, 2, 3, 4, 5]] (by simp) (by simp) (by simp [look]) rfl rfl rfl ?_ fun K hK => ?_
          · refine ⟨?_, ?_, ?_, ?_, ?_, trivial⟩
            all_goals (intro τ hbx hb hd hf K hK; try simp [vsAt] at hd; simp [vsAt] at hf; first | (refine wps_cons rfl fun K' hK' => ?_; simp [hN', hbx, hb, hd, hf, he25a, he25b, he25c, he25d]; exact hK' _ (wps_nil (hK _ (by simp [vsAt, hbx, he25a, he25b, he25c, he25d])))))
          obtain ⟨r26, hc27, hj21⟩ := bind_some hj21
          refine wps_call [(.take, .tmp 36), (.take, .tmp 40)] rfl rfl ent48 (spec_CallsOf_ok _ _ hc27) fun K hK => ?_; simp [hN', he25a, he25b, he25c, he25d]; refine hK _ ?_; clear hK
          refine wps_cons rfl fun K hK => ?_; simp [hN', he25a, he25b, he25c, he25d]; refine hK _ ?_; clear hK
          refine wps_nil (hK _ ?_); clear hK
          show SWp E C _ _ _
          refine SWp.seqR rfl (hPB _ rfl) fun K hK => ?_
          refine wps_cons rfl fun K hK => ?_; simp [hN']; refine hK _ ?_; clear hK
          refine wps_nil (hK _ ?_); clear hK
          refine SWp.block ?_
          refine SWp.loopO [] [2, 5, 6, 7, 8, 9, 10] [2] (fun v : (List Bool) × (List Int) × Int => ⟨[(2, .ref (.box 2) 0 []), (5, .t (.sl true 1 [])), (6, .t (.sl true 1 (List.map vb v.1))), (7, .t (.sl true 1 (List.map vi v.2.1))), (8, .t (vi i15)), (9, .t (.sl true 1 (List.map vi r26))), (10, .t (vi v.2.2))], [(2, [.sl false 4 (List.map (GNode.enc false) p1.Nodes), .sl false 5 (List.map (GFn.enc false) p1.Fns)])]⟩) (spec_ReachedFns_l2 r26) _ (has13, list14, 0) hj21 (by simp [hN']) ?_
          intro g s33 h31 ho32
          obtain ⟨has28, list29, k30⟩ := g
          simp only [spec_ReachedFns_l2] at h31
          try dsimp only
          refine SWp.seq ?_
          refine SWp.seqR rfl (hPB _ rfl) fun K hK => ?_
          iterate 4 (refine wps_cons rfl fun K hK => ?_; simp [hN']; refine hK _ ?_; clear hK)
          refine wps_nil (hK _ ?_); clear hK
          rcases ite_or h31 with ⟨hb34, h31⟩ | ⟨hb35, h31⟩
          · refine SWp.condT' (b := decide (k30 < (r26.length : Int))) (by simp) hb34 ?_
            refine SWp.skip ?_
            show SWp E C _ _ _
            refine SWp.seq ?_
            refine SWp.block ?_
            refine SWp.seqR rfl (hPB _ rfl) fun K hK => ?_
            iterate 3 (refine wps_cons rfl fun K hK => ?_; simp [hN']; refine hK _ ?_; clear hK)
            obtain ⟨e36, he36, h31⟩ := bind_some h31
            obtain ⟨he36a, he36b, he36c, he36d⟩ := getI_some he36
            iterate 2 (refine wps_cons rfl fun K hK => ?_; simp [hN', he36a, he36b, he36c, he36d]; refine hK _ ?_; clear hK)
            obtain ⟨e37, he37, h31⟩ := bind_some h31
            obtain ⟨he37a, he37b, he37c, he37d⟩ := getI_some he37
            iterate 3 (refine wps_cons rfl fun K hK => ?_; simp [hN', he36a, he36b, he36c, he36d, he37a, he37b, he37c, he37d]; refine hK _ ?_; clear hK)
            refine wps_nil (hK _ ?_); clear hK
            rcases ite_or h31 with ⟨hb38, h31⟩ | ⟨hb39, h31⟩
            · refine SWp.condT' (b := !e37) (by simp) hb38 ?_
              refine SWp.seqR rfl (hPB _ rfl) fun K hK => ?_
              iterate 3 (refine wps_cons rfl fun K hK => ?_; simp [hN']; refine hK _ ?_; clear hK)
              obtain ⟨e40, he40, h31⟩ := bind_some h31
              obtain ⟨he40a, he40b, he40c, he40d⟩ := getI_some he40
              iterate 2 (refine wps_cons rfl fun K hK => ?_; simp [hN', he40a, he40b, he40c, he40d]; refine hK _ ?_; clear hK)
              obtain ⟨e41, he41, h31⟩ := bind_some h31
              obtain ⟨he41a, he41b, he41c, he41d⟩ := getI_some he41
              refine wps_cons rfl fun K hK => ?_; simp [hN', he40a, he40b, he40c, he40d, he41a, he41b, he41c, he41d]; refine hK _ ?_; clear hK
              obtain ⟨l42, hl42, h31⟩ := bindS_some h31
              have hl42f : (List.map vb has28).set e40.toNat (vb true) = List.map vb l42 := set_map (f := vb) hl42
              try simp only [Int.toNat_natCast] at hl42f
              refine wps_cons rfl fun K hK => ?_; simp [hN', he40a, he40b, he40c, he40d, he41a, he41b, he41c, he41d, hl42f]; refine hK _ ?_; clear hK
              refine wps_nil (hK _ ?_); clear hK
              refine SWp.reg rfl (hPB _ rfl) fun K hK => ?_
              iterate 3 (refine wps_cons rfl fun K hK => ?_; simp [hN']; refine hK _ ?_; clear hK)
              obtain ⟨e43, he43, h31⟩ := bind_some h31
              obtain ⟨he43a, he43b, he43c, he43d⟩ := getI_some he43
              iterate 3 (refine wps_cons rfl fun K hK => ?_; simp [hN', he43a, he43b, he43c, he43d]; refine hK _ ?_; clear hK)
              obtain ⟨l44, hl44, h31⟩ := bind_some h31
              obtain ⟨hl44a, hl44b, hl44d⟩ := appI_some hl44
              have hl44f : List.map vi list29 ++ List.map vi [e43] = List.map vi l44 := app_map (f := vi) hl44d
              simp [eSl] at hl44a hl44b hl44f
              iterate 2 (refine wps_cons rfl fun K hK => ?_; simp [hN', he43a, he43b, he43c, he43d, hl44a, hl44b, hl44f]; refine hK _ ?_; clear hK)
              refine wps_nil (hK _ ?_); clear hK
              show SWp E C _ _ _
              refine SWp.reg rfl (hPB _ rfl) fun K hK => ?_
              iterate 3 (refine wps_cons rfl fun K hK => ?_; simp [hN']; refine hK _ ?_; clear hK)
              refine wps_nil (hK _ ?_); clear hK
              cases h31
              exact ⟨_, [], rfl, by simp [hN']⟩
            · refine SWp.condF' (b := !e37) (by simp) hb39 ?_
              refine SWp.skip ?_
              show SWp E C _ _ _
              refine SWp.reg rfl (hPB _ rfl) fun K hK => ?_
              iterate 3 (refine wps_cons rfl fun K hK => ?_; simp [hN']; refine hK _ ?_; clear hK)
              refine wps_nil (hK _ ?_); clear hK
              cases h31
              exact ⟨_, [], rfl, by simp [hN']⟩
          · refine SWp.condF' (b := decide (k30 < (r26.length : Int))) (by simp) hb35 ?_
            refine SWp.exit ?_
            have h45 := congrArg some (ho32 _ (Option.some.inj h31).symm)
            cases h45
            exact hK22 _ () [] trivial (by simp [hN'])
        refine SWp.reg rfl (hPB _ rfl) fun K hK => ?_
        iterate 3 (refine wps_cons rfl fun K hK => ?_; simp [hN']; refine hK _ ?_; clear hK)
        refine wps_nil (hK _ ?_); clear hK
        cases h16
        exact ⟨_, [], rfl, by simp [hN']⟩
      · refine SWp.condF' (b := decide (i15 < (list14.length : Int))) (by simp) hb20 ?_
        refine SWp.exit ?_
        have h48 := congrArg some (ho17 _ (Option.some.inj h16).symm)
        cases h48
        exact hK11 _ () [] trivial (by simp [hN'])
    obtain ⟨out65, hj50, h⟩ := bind_some h
    refine SWp.seqC [5] [] (fun _ : Unit => ⟨[(5, .t (.sl true 1 (List.map vi out65)))], []⟩) (fun _ => True) (fun _ _ => ?_) fun K51 hK51 => ?_
    rotate_left
    · refine SWp.seqR rfl (hPB _ rfl) fun K hK => ?_
      refine wps_cons rfl fun K hK => ?_; simp [hN']; refine hK _ ?_; clear hK
      refine wps_nil (hK _ ?_); clear hK
      refine SWp.block ?_
      refine SWp.loopO [] [5, 6, 11] [] (fun v : (List Int) × Int => ⟨[(5, .t (.sl true 1 (List.map vi v.1))), (6, .t (.sl true 1 (List.map vb has49))), (11, .t (vi v.2))], []⟩) (spec_ReachedFns_l3 has49) _ ([], 0) hj50 (by simp [hN']) ?_
      intro g s57 h55 ho56
      obtain ⟨out53, i54⟩ := g
      simp only [spec_ReachedFns_l3] at h55
      try dsimp only
      refine SWp.seq ?_
      refine SWp.seqR rfl (hPB _ rfl) fun K hK => ?_
      iterate 4 (refine wps_cons rfl fun K hK => ?_; simp [hN']; refine hK _ ?_; clear hK)
      refine wps_nil (hK _ ?_); clear hK
      rcases ite_or h55 with ⟨hb58, h55⟩ | ⟨hb59, h55⟩
      · refine SWp.condT' (b := decide (i54 < (has49.length : Int))) (by simp) hb58 ?_
        refine SWp.skip ?_
        show SWp E C _ _ _
        refine SWp.seq ?_
        refine SWp.block ?_
        refine SWp.seqR rfl (hPB _ rfl) fun K hK => ?_
        iterate 2 (refine wps_cons rfl fun K hK => ?_; simp [hN']; refine hK _ ?_; clear hK)
        obtain ⟨e60, he60, h55⟩ := bind_some h55
        obtain ⟨he60a, he60b, he60c, he60d⟩ := getI_some he60
        iterate 2 (refine wps_cons rfl fun K hK => ?_; simp [hN', he60a, he60b, he60c, he60d]; refine hK _ ?_; clear hK)
        refine wps_nil (hK _ ?_); clear hK
        rcases ite_or h55 with ⟨hb61, h55⟩ | ⟨hb62, h55⟩
        · refine SWp.condT' (b := e60) (by simp) hb61 ?_
          refine SWp.reg rfl (hPB _ rfl) fun K hK => ?_
          iterate 3 (refine wps_cons rfl fun K hK => ?_; simp [hN']; refine hK _ ?_; clear hK)
          obtain ⟨l63, hl63, h55⟩ := bind_some h55
          obtain ⟨hl63a, hl63b, hl63d⟩ := appI_some hl63
          have hl63f : List.map vi out53 ++ List.map vi [i54] = List.map vi l63 := app_map (f := vi) hl63d
          simp [eSl] at hl63a hl63b hl63f
          iterate 2 (refine wps_cons rfl fun K hK => ?_; simp [hN', hl63a, hl63b, hl63f]; refine hK _ ?_; clear hK)
          refine wps_nil (hK _ ?_); clear hK
          show SWp E C _ _ _
          refine SWp.reg rfl (hPB _ rfl) fun K hK => ?_
          iterate 3 (refine wps_cons rfl fun K hK => ?_; simp [hN']; refine hK _ ?_; clear hK)
          refine wps_nil (hK _ ?_); clear hK
          cases h55
          exact ⟨_, [], rfl, by simp [hN']⟩
        · refine SWp.condF' (b := e60) (by simp) hb62 ?_
          refine SWp.skip ?_
          show SWp E C _ _ _
          refine SWp.reg rfl (hPB _ rfl) fun K hK => ?_
          iterate 3 (refine wps_cons rfl fun K hK => ?_; simp [hN']; refine hK _ ?_; clear hK)
          refine wps_nil (hK _ ?_); clear hK
          cases h55
          exact ⟨_, [], rfl, by simp [hN']⟩
      · refine SWp.condF' (b := decide (i54 < (has49.length : Int))) (by simp) hb59 ?_
        refine SWp.exit ?_
        have h64 := congrArg some (ho56 _ (Option.some.inj h55).symm)
        cases h64
        exact hK51 _ () [] trivial (by simp [hN'])
    refine SWp.seqR rfl (hPB _ rfl) fun K hK => ?_
    iterate 2 (refine wps_cons rfl fun K hK => ?_; simp [hN']; refine hK _ ?_; clear hK)
    refine wps_nil (hK _ ?_); clear hK
    cases h
    refine SWp.ret ?_
    simp [thenS, inBlockS, res22]
end Go.Proofs.T
set_option linter.unusedVariables false
set_option linter.unusedSimpArgs false
set_option maxHeartbeats 1000000
namespace Go.Proofs.T
open Go.OM
theorem res24 : Tryz.f24.results.toList = [.tmp 2] := rfl
theorem ent24 : Enters E.P 24 := enters_of Tryz.func24 (by simp [Tryz.f24]) rfl
theorem spec_DeadFns_ok (p1 : GProgram) {r0 : List Int} (h : spec_DeadFns p1 = some r0) : Ok E 24 [.val (GProgram.enc false p1)] [.sl true 1 (List.map vi r0)] [] := by
  refine ok_of_body (fn := Tryz.f24) Tryz.func24 rfl (by simp [Tryz.f24]) fun C hN hP => ?_
  have hPB : ∀ l, pinK [] l = true → pinB C.pin l = true := pinB_of (by rw [hP]; rfl)
  have hN' : C.N = 40 := hN
  clear hN
  unfold spec_DeadFns at h
  refine SWp.seqR rfl (hPB _ rfl) fun K hK => ?_
  iterate 2 (refine wps_cons rfl fun K hK => ?_; simp [hN']; refine hK _ ?_; clear hK)
  refine wps_nil (hK _ ?_); clear hK
  refine SWp.seqR rfl (hPB _ rfl) fun K hK => ?_
  iterate 2 (refine wps_cons rfl fun K hK => ?_; simp [hN']; refine hK _ ?_; clear hK)
  refine wps_nil (hK _ ?_); clear hK
  refine SWp.seqR rfl (hPB _ rfl) fun K hK => ?_
  iterate 5 (refine wps_cons rfl fun K hK => ?_; simp [hN']; refine hK _ ?_; clear hK)
  obtain ⟨r2, hc3, h⟩ := bind_some h
  refine wps_call [(.take, .tmp 8), (.take, .tmp 12)] rfl rfl ent22 (spec_ReachedFns_ok _ _ hc3) fun K hK => ?_; simp [hN']; refine hK _ ?_; clear hK
  refine wps_cons rfl fun K hK => ?_; simp [hN']; refine hK _ ?_; clear hK
  refine wps_nil (hK _ ?_); clear hK
  refine SWp.seqR rfl (hPB _ rfl) fun K hK => ?_
  refine wps_cons rfl fun K hK => ?_; simp [hN']; refine hK _ ?_; clear hK
  refine wps_nil (hK _ ?_); clear hK
  obtain ⟨out25, hj4, h⟩ := bind_some h
  refine SWp.seqC [3] [] (fun _ : Unit => ⟨[(3, .t (.sl true 1 (List.map vi out25)))], []⟩) (fun _ => True) (fun _ _ => ?_) fun K5 hK5 => ?_
  rotate_left
  · refine SWp.seqR rfl (hPB _ rfl) fun K hK => ?_
    refine wps_cons rfl fun K hK => ?_; simp [hN']; refine hK _ ?_; clear hK
    refine wps_nil (hK _ ?_); clear hK
    refine SWp.block ?_
    refine SWp.loopO [] [1, 3, 4, 5, 6] [1] (fun v : (List Int) × Int × Int => ⟨[(1, .ref (.box 1) 0 []), (3, .t (.sl true 1 (List.map vi v.1))), (4, .t (.sl true 1 (List.map vi r2))), (5, .t (vi v.2.1)), (6, .t (vi v.2.2))], [(1, [.sl false 4 (List.map (GNode.enc false) p1.Nodes), .sl false 5 (List.map (GFn.enc false) p1.Fns)])]⟩) (spec_DeadFns_l1 p1 r2) _ ([], 0, 0) hj4 (by simp [hN']) ?_
    intro g s12 h10 ho11
    obtain ⟨out7, at8, i9⟩ := g
    simp only [spec_DeadFns_l1] at h10
    try dsimp only
    refine SWp.seq ?_
    refine SWp.seqR rfl (hPB _ rfl) fun K hK => ?_
    iterate 5 (refine wps_cons rfl fun K hK => ?_; simp [hN']; refine hK _ ?_; clear hK)
    refine wps_nil (hK _ ?_); clear hK
    rcases ite_or h10 with ⟨hb13, h10⟩ | ⟨hb14, h10⟩
    · refine SWp.condT' (b := decide (i9 < (p1.Fns.length : Int))) (by simp) hb13 ?_
      refine SWp.skip ?_
      show SWp E C _ _ _
      refine SWp.seq ?_
      refine SWp.block ?_
      obtain ⟨v20, hj15, h10⟩ := bind_some h10
      refine SWp.seqRC rfl (hPB _ rfl) [1, 3, 4, 5, 6, 32] [1] (fun _ : Unit => ⟨[(1, .ref (.box 1) 0 []), (3, .t (.sl true 1 (List.map vi out7))), (4, .t (.sl true 1 (List.map vi r2))), (5, .t (vi at8)), (6, .t (vi i9)), (32, .t (vb v20))], [(1, [.sl false 4 (List.map (GNode.enc false) p1.Nodes), .sl false 5 (List.map (GFn.enc false) p1.Fns)])]⟩) (fun _ => True) (fun _ _ => ?_) fun K16 hK16 => ?_
      rotate_left
      · refine wps_cons rfl fun K hK => ?_; simp [hN']; refine hK _ ?_; clear hK
        iterate 4 (refine wps_cons rfl fun K hK => ?_; simp [hN']; refine hK _ ?_; clear hK)
        rcases ite_or hj15 with ⟨hb17, hj15⟩ | ⟨hb18, hj15⟩
        · have hb17s := hb17
          try simp at hb17s
          iterate 2 (refine wps_cons rfl fun K hK => ?_; simp [hN', hb17, hb17s]; refine hK _ ?_; clear hK)
          obtain ⟨e19, he19, hj15⟩ := bind_some hj15
          obtain ⟨he19a, he19b, he19c, he19d⟩ := getI_some he19
          iterate 5 (refine wps_cons rfl fun K hK => ?_; simp [hN', hb17, hb17s, he19a, he19b, he19c, he19d]; refine hK _ ?_; clear hK)
          refine wps_nil ?_
          cases hj15
          exact hK16 _ () [] trivial (by simp [hN', hb17, hb17s, he19a, he19b, he19c, he19d])
        · have hb18s := hb18
          try simp at hb18s
          iterate 6 (refine wps_off fun K hK => ?_; simp [hN', hb18, hb18s]; refine hK _ ?_; clear hK)
          refine wps_cons rfl fun K hK => ?_; simp [hN', hb18, hb18s]; refine hK _ ?_; clear hK
          refine wps_nil ?_
          cases hj15
          exact hK16 _ () [] trivial (by simp [hN', hb18, hb18s])
      rcases ite_or h10 with ⟨hb21, h10⟩ | ⟨hb22, h10⟩
      · refine SWp.condT' (b := v20) (by simp) hb21 ?_
        refine SWp.reg rfl (hPB _ rfl) fun K hK => ?_
        iterate 3 (refine wps_cons rfl fun K hK => ?_; simp [hN']; refine hK _ ?_; clear hK)
        refine wps_nil (hK _ ?_); clear hK
        show SWp E C _ _ _
        refine SWp.reg rfl (hPB _ rfl) fun K hK => ?_
        iterate 3 (refine wps_cons rfl fun K hK => ?_; simp [hN']; refine hK _ ?_; clear hK)
        refine wps_nil (hK _ ?_); clear hK
        cases h10
        exact ⟨_, [], rfl, by simp [hN']⟩
      · refine SWp.condF' (b := v20) (by simp) hb22 ?_
        refine SWp.reg rfl (hPB _ rfl) fun K hK => ?_
        iterate 3 (refine wps_cons rfl fun K hK => ?_; simp [hN']; refine hK _ ?_; clear hK)
        obtain ⟨l23, hl23, h10⟩ := bind_some h10
        obtain ⟨hl23a, hl23b, hl23d⟩ := appI_some hl23
        have hl23f : List.map vi out7 ++ List.map vi [i9] = List.map vi l23 := app_map (f := vi) hl23d
        simp [eSl] at hl23a hl23b hl23f
        iterate 2 (refine wps_cons rfl fun K hK => ?_; simp [hN', hl23a, hl23b, hl23f]; refine hK _ ?_; clear hK)
        refine wps_nil (hK _ ?_); clear hK
        show SWp E C _ _ _
        refine SWp.reg rfl (hPB _ rfl) fun K hK => ?_
        iterate 3 (refine wps_cons rfl fun K hK => ?_; simp [hN']; refine hK _ ?_; clear hK)
        refine wps_nil (hK _ ?_); clear hK
        cases h10
        exact ⟨_, [], rfl, by simp [hN']⟩
    · refine SWp.condF' (b := decide (i9 < (p1.Fns.length : Int))) (by simp) hb14 ?_
      refine SWp.exit ?_
      have h24 := congrArg some (ho11 _ (Option.some.inj h10).symm)
      cases h24
      exact hK5 _ () [] trivial (by simp [hN'])
  refine SWp.seqR rfl (hPB _ rfl) fun K hK => ?_
  iterate 2 (refine wps_cons rfl fun K hK => ?_; simp [hN']; refine hK _ ?_; clear hK)
  refine wps_nil (hK _ ?_); clear hK
  cases h
  refine SWp.ret ?_
  simp [thenS, inBlockS, res24]
end Go.Proofs.T
set_option linter.unusedVariables false
set_option linter.unusedSimpArgs false
set_option maxHeartbeats 1000000
namespace Go.Proofs.T
open Go.OM
theorem res49 : Tryz.f49.results.toList = [.tmp 4] := rfl
theorem ent49 : Enters E.P 49 := enters_of Tryz.func49 (by simp [Tryz.f49]) rfl
theorem impl_hasInt_ok (l1 : List Int) (n2 : Int) {r0 : Bool} (h : impl_hasInt l1 n2 = some r0) : Ok E 49 [.val (.sl false 1 (List.map vi l1)), .val (vi n2)] [vb r0] [] := by
  refine ok_of_body (fn := Tryz.f49) Tryz.func49 rfl (by simp [Tryz.f49]) fun C hN hP => ?_
  have hPB : ∀ l, pinK [] l = true → pinB C.pin l = true := pinB_of (by rw [hP]; rfl)
  have hN' : C.N = 17 := hN
  clear hN
  unfold impl_hasInt at h
  refine SWp.seqR rfl (hPB _ rfl) fun K hK => ?_
  refine wps_cons rfl fun K hK => ?_; simp [hN']; refine hK _ ?_; clear hK
  refine wps_nil (hK _ ?_); clear hK
  obtain ⟨j5, hj3, h⟩ := bind_some h
  refine SWp.seqC [] [] (fun v : Unit => ⟨[], []⟩) (fun v => j5 = Sum.inl v) (fun v hv => ?_) fun K4 hK4 => ?_
  rotate_left
  · refine SWp.seqR rfl (hPB _ rfl) fun K hK => ?_
    iterate 3 (refine wps_cons rfl fun K hK => ?_; simp [hN']; refine hK _ ?_; clear hK)
    refine wps_nil (hK _ ?_); clear hK
    refine SWp.block ?_
    refine SWp.loopO [] [1, 7, 8, 9] [] (fun v : Int => ⟨[(1, .t (vi n2)), (7, .t (.sl false 1 (List.map vi l1))), (8, .t (vi (l1.length : Int))), (9, .t (vi v))], []⟩) (impl_hasInt_l1 l1 n2) _ 0 hj3 (by simp [hN']) ?_
    intro g s9 h7 ho8
    obtain ⟨v6, hg⟩ : ∃ y, y = g := ⟨_, rfl⟩
    subst hg
    simp only [impl_hasInt_l1] at h7
    try dsimp only
    refine SWp.seqR rfl (hPB _ rfl) fun K hK => ?_
    refine wps_cons rfl fun K hK => ?_; simp [hN']; refine hK _ ?_; clear hK
    refine wps_nil (hK _ ?_); clear hK
    refine SWp.seq ?_
    rcases ite_or h7 with ⟨hb10, h7⟩ | ⟨hb11, h7⟩
    · refine SWp.condT' (b := decide (v6 < (l1.length : Int))) (by simp) hb10 ?_
      refine SWp.skip ?_
      show SWp E C _ _ _
      refine SWp.seq ?_
      refine SWp.block ?_
      refine SWp.seqR rfl (hPB _ rfl) fun K hK => ?_
      obtain ⟨e12, he12, h7⟩ := bind_some h7
      obtain ⟨he12a, he12b, he12c, he12d⟩ := getI_some he12
      iterate 3 (refine wps_cons rfl fun K hK => ?_; simp [hN', he12a, he12b, he12c, he12d]; refine hK _ ?_; clear hK)
      refine wps_nil (hK _ ?_); clear hK
      refine SWp.seqR rfl (hPB _ rfl) fun K hK => ?_
      iterate 3 (refine wps_cons rfl fun K hK => ?_; simp [hN']; refine hK _ ?_; clear hK)
      refine wps_nil (hK _ ?_); clear hK
      rcases ite_or h7 with ⟨hb13, h7⟩ | ⟨hb14, h7⟩
      · refine SWp.condT' (b := e12 == n2) (by simp) hb13 ?_
        refine SWp.seqR rfl (hPB _ rfl) fun K hK => ?_
        refine wps_cons rfl fun K hK => ?_; simp [hN']; refine hK _ ?_; clear hK
        refine wps_nil (hK _ ?_); clear hK
        have h15 := congrArg some (ho8 _ (Option.some.inj h7).symm)
        cases h15
        try dsimp only at h
        cases h
        refine SWp.ret ?_
        simp [thenS, inBlockS, res49]
      · refine SWp.condF' (b := e12 == n2) (by simp) hb14 ?_
        refine SWp.skip ?_
        show SWp E C _ _ _
        refine SWp.reg rfl (hPB _ rfl) fun K hK => ?_
        iterate 2 (refine wps_cons rfl fun K hK => ?_; simp [hN']; refine hK _ ?_; clear hK)
        refine wps_nil (hK _ ?_); clear hK
        cases h7
        exact ⟨_, [], rfl, by simp [hN']⟩
    · refine SWp.condF' (b := decide (v6 < (l1.length : Int))) (by simp) hb11 ?_
      refine SWp.exit ?_
      have h16 := congrArg some (ho8 _ (Option.some.inj h7).symm)
      cases h16
      exact hK4 _ _ [] rfl (by simp [hN'])
  subst hv
  obtain ⟨⟩ := v
  try dsimp only at h ⊢
  refine SWp.seqR rfl (hPB _ rfl) fun K hK => ?_
  refine wps_cons rfl fun K hK => ?_; simp [hN']; refine hK _ ?_; clear hK
  refine wps_nil (hK _ ?_); clear hK
  cases h
  refine SWp.ret ?_
  simp [thenS, inBlockS, res49]
end Go.Proofs.T
set_option linter.unusedVariables false
set_option linter.unusedSimpArgs false
set_option maxHeartbeats 1000000
namespace Go.Proofs.T
open Go.OM
theorem res52 : Tryz.f52.results.toList = [.tmp 6] := rfl
theorem ent52 : Enters E.P 52 := enters_of Tryz.func52 (by simp [Tryz.f52]) rfl
theorem impl_in_ok (n1 : Int) (low2 : Int) (high3 : Int) {r0 : Bool} (h : impl_in n1 low2 high3 = some r0) : Ok E 52 [.val (vi n1), .val (vi low2), .val (vi high3)] [vb r0] [] := by
  refine ok_of_body (fn := Tryz.f52) Tryz.func52 rfl (by simp [Tryz.f52]) fun C hN hP => ?_
  have hPB : ∀ l, pinK [] l = true → pinB C.pin l = true := pinB_of (by rw [hP]; rfl)
  have hN' : C.N = 15 := hN
  clear hN
  unfold impl_in at h
  refine SWp.seqR rfl (hPB _ rfl) fun K hK => ?_
  refine wps_cons rfl fun K hK => ?_; simp [hN']; refine hK _ ?_; clear hK
  refine wps_nil (hK _ ?_); clear hK
  obtain ⟨v8, hj4, h⟩ := bind_some h
  refine SWp.seqRC rfl (hPB _ rfl) [6] [] (fun _ : Unit => ⟨[(6, .t (vb v8))], []⟩) (fun _ => True) (fun _ _ => ?_) fun K5 hK5 => ?_
  rotate_left
  · refine wps_cons rfl fun K hK => ?_; simp [hN']; refine hK _ ?_; clear hK
    iterate 3 (refine wps_cons rfl fun K hK => ?_; simp [hN']; refine hK _ ?_; clear hK)
    rcases ite_or hj4 with ⟨hb6, hj4⟩ | ⟨hb7, hj4⟩
    · have hb6s := hb6
      try simp at hb6s
      iterate 5 (refine wps_cons rfl fun K hK => ?_; simp [hN', hb6, hb6s]; refine hK _ ?_; clear hK)
      refine wps_nil ?_
      cases hj4
      exact hK5 _ () [] trivial (by simp [hN', hb6, hb6s])
    · have hb7s := hb7
      try simp at hb7s
      iterate 3 (refine wps_off fun K hK => ?_; simp [hN', hb7, hb7s]; refine hK _ ?_; clear hK)
      iterate 2 (refine wps_cons rfl fun K hK => ?_; simp [hN', hb7, hb7s]; refine hK _ ?_; clear hK)
      refine wps_nil ?_
      cases hj4
      exact hK5 _ () [] trivial (by simp [hN', hb7, hb7s])
  cases h
  refine SWp.ret ?_
  simp [thenS, inBlockS, res52]
end Go.Proofs.T
set_option linter.unusedVariables false
set_option linter.unusedSimpArgs false
set_option maxHeartbeats 1000000
namespace Go.Proofs.T
open Go.OM
theorem res59 : Tryz.f59.results.toList = [.tmp 4] := rfl
theorem ent59 : Enters E.P 59 := enters_of Tryz.func59 (by simp [Tryz.f59]) rfl
theorem impl_roots_ok (p1 : GProgram) (fn2 : Int) {r0 : List Int} (h : impl_roots p1 fn2 = some r0) : Ok E 59 [.val (GProgram.enc false p1), .val (vi fn2)] [.sl true 1 (List.map vi r0)] [] := by
  refine ok_of_body (fn := Tryz.f59) Tryz.func59 rfl (by simp [Tryz.f59]) fun C hN hP => ?_
  have hPB : ∀ l, pinK [] l = true → pinB C.pin l = true := pinB_of (by rw [hP]; rfl)
  have hN' : C.N = 37 := hN
  clear hN
  unfold impl_roots at h
  refine SWp.seqR rfl (hPB _ rfl) fun K hK => ?_
  iterate 2 (refine wps_cons rfl fun K hK => ?_; simp [hN']; refine hK _ ?_; clear hK)
  refine wps_nil (hK _ ?_); clear hK
  refine SWp.seq ?_
  refine SWp.seqR rfl (hPB _ rfl) fun K hK => ?_
  iterate 5 (refine wps_cons rfl fun K hK => ?_; simp [hN']; refine hK _ ?_; clear hK)
  obtain ⟨r3, hc4, h⟩ := bind_some h
  refine wps_call [(.take, .tmp 6), (.take, .const (.int .i64 0)), (.take, .tmp 10)] rfl rfl ent52 (impl_in_ok _ _ _ hc4) fun K hK => ?_; simp [hN']; refine hK _ ?_; clear hK
  refine wps_cons rfl fun K hK => ?_; simp [hN']; refine hK _ ?_; clear hK
  refine wps_nil (hK _ ?_); clear hK
  rcases ite_or h with ⟨hb5, h⟩ | ⟨hb6, h⟩
  · refine SWp.condT' (b := !r3) (by simp) hb5 ?_
    refine SWp.seqR rfl (hPB _ rfl) fun K hK => ?_
    refine wps_cons rfl fun K hK => ?_; simp [hN']; refine hK _ ?_; clear hK
    refine wps_nil (hK _ ?_); clear hK
    cases h
    refine SWp.ret ?_
    simp [thenS, inBlockS, res59]
  · refine SWp.condF' (b := !r3) (by simp) hb6 ?_
    refine SWp.skip ?_
    show SWp E C _ _ _
    refine SWp.seqR rfl (hPB _ rfl) fun K hK => ?_
    iterate 3 (refine wps_cons rfl fun K hK => ?_; simp [hN']; refine hK _ ?_; clear hK)
    obtain ⟨e7, he7, h⟩ := bind_some h
    obtain ⟨he7a, he7b, he7c, he7d⟩ := getI_some he7
    iterate 5 (refine wps_cons rfl fun K hK => ?_; simp [hN', he7a, he7b, he7c, he7d]; refine hK _ ?_; clear hK)
    refine wps_nil (hK _ ?_); clear hK
    refine SWp.seq ?_
    refine SWp.seqR rfl (hPB _ rfl) fun K hK => ?_
    iterate 3 (refine wps_cons rfl fun K hK => ?_; simp [hN']; refine hK _ ?_; clear hK)
    obtain ⟨e8, he8, h⟩ := bind_some h
    obtain ⟨he8a, he8b, he8c, he8d⟩ := getI_some he8
    iterate 4 (refine wps_cons rfl fun K hK => ?_; simp [hN', he8a, he8b, he8c, he8d]; refine hK _ ?_; clear hK)
    refine wps_nil (hK _ ?_); clear hK
    rcases ite_or h with ⟨hb9, h⟩ | ⟨hb10, h⟩
    · refine SWp.condT' (b := e8.Ret != (-1)) (by simp) hb9 ?_
      refine SWp.reg rfl (hPB _ rfl) fun K hK => ?_
      iterate 4 (refine wps_cons rfl fun K hK => ?_; simp [hN']; refine hK _ ?_; clear hK)
      obtain ⟨e11, he11, h⟩ := bind_some h
      obtain ⟨he11a, he11b, he11c, he11d⟩ := getI_some he11
      iterate 4 (refine wps_cons rfl fun K hK => ?_; simp [hN', he11a, he11b, he11c, he11d]; refine hK _ ?_; clear hK)
      obtain ⟨l12, hl12, h⟩ := bind_some h
      obtain ⟨hl12a, hl12b, hl12d⟩ := appI_some hl12
      have hl12f : List.map vi [e7.Body] ++ List.map vi [e11.Ret] = List.map vi l12 := app_map (f := vi) hl12d
      simp [eSl] at hl12a hl12b hl12f
      iterate 2 (refine wps_cons rfl fun K hK => ?_; simp [hN', he11a, he11b, he11c, he11d, hl12a, hl12b, hl12f]; refine hK _ ?_; clear hK)
      refine wps_nil (hK _ ?_); clear hK
      show SWp E C _ _ _
      refine SWp.seqR rfl (hPB _ rfl) fun K hK => ?_
      iterate 2 (refine wps_cons rfl fun K hK => ?_; simp [hN']; refine hK _ ?_; clear hK)
      refine wps_nil (hK _ ?_); clear hK
      cases h
      refine SWp.ret ?_
      simp [thenS, inBlockS, res59]
    · refine SWp.condF' (b := e8.Ret != (-1)) (by simp) hb10 ?_
      refine SWp.skip ?_
      show SWp E C _ _ _
      refine SWp.seqR rfl (hPB _ rfl) fun K hK => ?_
      iterate 2 (refine wps_cons rfl fun K hK => ?_; simp [hN']; refine hK _ ?_; clear hK)
      refine wps_nil (hK _ ?_); clear hK
      cases h
      refine SWp.ret ?_
      simp [thenS, inBlockS, res59]
end Go.Proofs.T
set_option linter.unusedVariables false
set_option linter.unusedSimpArgs false
set_option maxHeartbeats 1000000
namespace Go.Proofs.T
open Go.OM
theorem res110 : Tryz.f110.results.toList = [.tmp 2] := rfl
theorem ent110 : Enters E.P 110 := enters_of Tryz.func110 (by simp [Tryz.f110]) rfl
theorem impl_isLetter_ok (b1 : Int) {r0 : Bool} (h : impl_isLetter b1 = some r0) : Ok E 110 [.val (vk .u8 b1)] [vb r0] [] := by
  refine ok_of_body (fn := Tryz.f110) Tryz.func110 rfl (by simp [Tryz.f110]) fun C hN hP => ?_
  have hPB : ∀ l, pinK [] l = true → pinB C.pin l = true := pinB_of (by rw [hP]; rfl)
  have hN' : C.N = 9 := hN
  clear hN
  unfold impl_isLetter at h
  refine SWp.seqR rfl (hPB _ rfl) fun K hK => ?_
  refine wps_cons rfl fun K hK => ?_; simp [hN']; refine hK _ ?_; clear hK
  refine wps_nil (hK _ ?_); clear hK
  obtain ⟨v6, hj2, h⟩ := bind_some h
  refine SWp.seqRC rfl (hPB _ rfl) [2] [] (fun _ : Unit => ⟨[(2, .t (vb v6))], []⟩) (fun _ => True) (fun _ _ => ?_) fun K3 hK3 => ?_
  rotate_left
  · refine wps_cons rfl fun K hK => ?_; simp [hN']; refine hK _ ?_; clear hK
    iterate 2 (refine wps_cons rfl fun K hK => ?_; simp [hN']; refine hK _ ?_; clear hK)
    rcases ite_or hj2 with ⟨hb4, hj2⟩ | ⟨hb5, hj2⟩
    · have hb4s := hb4
      try simp at hb4s
      iterate 4 (refine wps_cons rfl fun K hK => ?_; simp [hN', hb4, hb4s]; refine hK _ ?_; clear hK)
      refine wps_nil ?_
      cases hj2
      exact hK3 _ () [] trivial (by simp [hN', hb4, hb4s])
    · have hb5s := hb5
      try simp at hb5s
      iterate 2 (refine wps_off fun K hK => ?_; simp [hN', hb5, hb5s]; refine hK _ ?_; clear hK)
      iterate 2 (refine wps_cons rfl fun K hK => ?_; simp [hN', hb5, hb5s]; refine hK _ ?_; clear hK)
      refine wps_nil ?_
      cases hj2
      exact hK3 _ () [] trivial (by simp [hN', hb5, hb5s])
  cases h
  refine SWp.ret ?_
  simp [thenS, inBlockS, res110]
end Go.Proofs.T
set_option linter.unusedVariables false
set_option linter.unusedSimpArgs false
set_option maxHeartbeats 1000000
namespace Go.Proofs.T
open Go.OM
theorem res111 : Tryz.f111.results.toList = [.tmp 2] := rfl
theorem ent111 : Enters E.P 111 := enters_of Tryz.func111 (by simp [Tryz.f111]) rfl
theorem impl_isFigure_ok (b1 : Int) {r0 : Bool} (h : impl_isFigure b1 = some r0) : Ok E 111 [.val (vk .u8 b1)] [vb r0] [] := by
  refine ok_of_body (fn := Tryz.f111) Tryz.func111 rfl (by simp [Tryz.f111]) fun C hN hP => ?_
  have hPB : ∀ l, pinK [] l = true → pinB C.pin l = true := pinB_of (by rw [hP]; rfl)
  have hN' : C.N = 9 := hN
  clear hN
  unfold impl_isFigure at h
  refine SWp.seqR rfl (hPB _ rfl) fun K hK => ?_
  refine wps_cons rfl fun K hK => ?_; simp [hN']; refine hK _ ?_; clear hK
  refine wps_nil (hK _ ?_); clear hK
  obtain ⟨v6, hj2, h⟩ := bind_some h
  refine SWp.seqRC rfl (hPB _ rfl) [2] [] (fun _ : Unit => ⟨[(2, .t (vb v6))], []⟩) (fun _ => True) (fun _ _ => ?_) fun K3 hK3 => ?_
  rotate_left
  · refine wps_cons rfl fun K hK => ?_; simp [hN']; refine hK _ ?_; clear hK
    iterate 2 (refine wps_cons rfl fun K hK => ?_; simp [hN']; refine hK _ ?_; clear hK)
    rcases ite_or hj2 with ⟨hb4, hj2⟩ | ⟨hb5, hj2⟩
    · have hb4s := hb4
      try simp at hb4s
      iterate 4 (refine wps_cons rfl fun K hK => ?_; simp [hN', hb4, hb4s]; refine hK _ ?_; clear hK)
      refine wps_nil ?_
      cases hj2
      exact hK3 _ () [] trivial (by simp [hN', hb4, hb4s])
    · have hb5s := hb5
      try simp at hb5s
      iterate 2 (refine wps_off fun K hK => ?_; simp [hN', hb5, hb5s]; refine hK _ ?_; clear hK)
      iterate 2 (refine wps_cons rfl fun K hK => ?_; simp [hN', hb5, hb5s]; refine hK _ ?_; clear hK)
      refine wps_nil ?_
      cases hj2
      exact hK3 _ () [] trivial (by simp [hN', hb5, hb5s])
  cases h
  refine SWp.ret ?_
  simp [thenS, inBlockS, res111]
end Go.Proofs.T
namespace Go.Proofs
open Go.Shelf
def Tryz.lays191_ren : Go.Shelf.Ren := ⟨fun | 191 => 53 | 189 => 81 | 125 => 99 | 257 => 98 | 128 => 122 | 129 => 123 | 294 => 113 | 295 => 114 | 296 => 115 | 297 => 116 | 298 => 117 | 299 => 118 | 216 => 119 | 300 => 120 | 301 => 121 | 328 => 130 | 329 => 131 | 330 => 132 | 331 => 133 | 332 => 134 | 215 => 135 | 343 => 138 | n => n, fun | 28 => 37 | 0 => 0 | 3 => 3 | 46 => 108 | 51 => 125 | 53 => 127 | 4 => 4 | 183 => 118 | 182 => 117 | 131 => 49 | 5 => 5 | 9 => 9 | 218 => 131 | 222 => 135 | 228 => 138 | 229 => 113 | n => n, fun | n => n⟩
theorem Tryz.lays191 : Go.Proofs.Lays.n191 Tryz.prog Tryz.lays191_ren := {
  mixed := by kernel_rfl
  f125 := Tryz.func99.trans (congrArg some (by kernel_rfl))
  f128 := Tryz.func122.trans (congrArg some (by kernel_rfl))
  f129 := Tryz.func123.trans (congrArg some (by kernel_rfl))
  f189 := Tryz.func81.trans (congrArg some (by kernel_rfl))
  f191 := Tryz.func53.trans (congrArg some (by kernel_rfl))
  f215 := Tryz.func135.trans (congrArg some (by kernel_rfl))
  f216 := Tryz.func119.trans (congrArg some (by kernel_rfl))
  f257 := Tryz.func98.trans (congrArg some (by kernel_rfl))
  f294 := Tryz.func113.trans (congrArg some (by kernel_rfl))
  f295 := Tryz.func114.trans (congrArg some (by kernel_rfl))
  f296 := Tryz.func115.trans (congrArg some (by kernel_rfl))
  f297 := Tryz.func116.trans (congrArg some (by kernel_rfl))
  f298 := Tryz.func117.trans (congrArg some (by kernel_rfl))
  f299 := Tryz.func118.trans (congrArg some (by kernel_rfl))
  f300 := Tryz.func120.trans (congrArg some (by kernel_rfl))
  f301 := Tryz.func121.trans (congrArg some (by kernel_rfl))
  f328 := Tryz.func130.trans (congrArg some (by kernel_rfl))
  f329 := Tryz.func131.trans (congrArg some (by kernel_rfl))
  f330 := Tryz.func132.trans (congrArg some (by kernel_rfl))
  f331 := Tryz.func133.trans (congrArg some (by kernel_rfl))
  f332 := Tryz.func134.trans (congrArg some (by kernel_rfl))
  f343 := Tryz.func138.trans (congrArg some (by kernel_rfl))
  t0 := Tryz.underlying0
  a0 := Tryz.isAgg0
  z0 := Tryz.sizeOf0
  v0 := Tryz.zeroValue0
  t3 := Tryz.underlying3
  a3 := Tryz.isAgg3
  z3 := Tryz.sizeOf3
  v3 := Tryz.zeroValue3
  t4 := Tryz.underlying4
  a4 := Tryz.isAgg4
  z4 := Tryz.sizeOf4
  v4 := Tryz.zeroValue4
  t5 := Tryz.underlying5
  a5 := Tryz.isAgg5
  z5 := Tryz.sizeOf5
  v5 := Tryz.zeroValue5
  t9 := Tryz.underlying9
  a9 := Tryz.isAgg9
  z9 := Tryz.sizeOf9
  v9 := Tryz.zeroValue9
  t28 := Tryz.underlying37
  a28 := Tryz.isAgg37
  z28 := Tryz.sizeOf37
  v28 := Tryz.zeroValue37
  t46 := Tryz.underlying108
  a46 := Tryz.isAgg108
  z46 := Tryz.sizeOf108
  v46 := Tryz.zeroValue108
  t51 := Tryz.underlying125
  a51 := Tryz.isAgg125
  z51 := Tryz.sizeOf125
  v51 := Tryz.zeroValue125
  t53 := Tryz.underlying127
  a53 := Tryz.isAgg127
  z53 := Tryz.sizeOf127
  v53 := Tryz.zeroValue127
  t131 := Tryz.underlying49
  a131 := Tryz.isAgg49
  z131 := Tryz.sizeOf49
  v131 := Tryz.zeroValue49
  t182 := Tryz.underlying117
  a182 := Tryz.isAgg117
  z182 := Tryz.sizeOf117
  v182 := Tryz.zeroValue117
  t183 := Tryz.underlying118
  a183 := Tryz.isAgg118
  z183 := Tryz.sizeOf118
  v183 := Tryz.zeroValue118
  t218 := Tryz.underlying131
  a218 := Tryz.isAgg131
  z218 := Tryz.sizeOf131
  v218 := Tryz.zeroValue131
  t222 := Tryz.underlying135
  a222 := Tryz.isAgg135
  z222 := Tryz.sizeOf135
  v222 := Tryz.zeroValue135
  t228 := Tryz.underlying138
  a228 := Tryz.isAgg138
  z228 := Tryz.sizeOf138
  v228 := Tryz.zeroValue138
  t229 := Tryz.underlying113
  a229 := Tryz.isAgg113
  z229 := Tryz.sizeOf113
  v229 := Tryz.zeroValue113 }
open Go.Sort Go.RowKit in
theorem Tryz.sort_Ints (blk off cap : Nat) (zs : List Int) (w : World) (hH : Holds (Value.int .i64) w blk off zs.toArray) (hblk : blk < w.heap.size) (hsz : zs.length < 4611686018427387904) :
    Calls Tryz.prog 53 #[.slice (some ⟨blk, off, none⟩) zs.length cap] w fun e w' =>
      e = .returned (.tuple #[]) ∧ ∃ n os, w' = grow (putRow (Value.int .i64) (Sort.ahead w n) blk off (zs.mergeSort fun x y => decide (x ≤ y)).toArray) os := Any.sort_Ints Tryz.lays191 blk off cap zs w hH hblk hsz
def Tryz.lays146_ren : Go.Shelf.Ren := ⟨fun | 146 => 137 | 221 => 139 | 268 => 140 | 138 => 141 | 143 => 142 | 195 => 143 | 197 => 144 | 218 => 145 | 219 => 146 | 260 => 147 | 217 => 148 | 225 => 149 | 224 => 150 | 267 => 151 | 266 => 152 | 314 => 153 | n => n, fun | 9 => 9 | 31 => 128 | 3 => 3 | 4 => 4 | 0 => 0 | 105 => 144 | 21 => 21 | 5 => 5 | 46 => 108 | 119 => 148 | 139 => 151 | 138 => 150 | 146 => 152 | 51 => 125 | n => n, fun | 1 => 0 | 3 => 1 | 4 => 2 | n => n⟩
theorem Tryz.lays146 : Go.Proofs.Lays.n146 Tryz.prog Tryz.lays146_ren := {
  mixed := by kernel_rfl
  f138 := Tryz.func141.trans (congrArg some (by kernel_rfl))
  f143 := Tryz.func142.trans (congrArg some (by kernel_rfl))
  f146 := Tryz.func137.trans (congrArg some (by kernel_rfl))
  f195 := Tryz.func143.trans (congrArg some (by kernel_rfl))
  f197 := Tryz.func144.trans (congrArg some (by kernel_rfl))
  f217 := Tryz.func148.trans (congrArg some (by kernel_rfl))
  f218 := Tryz.func145.trans (congrArg some (by kernel_rfl))
  f219 := Tryz.func146.trans (congrArg some (by kernel_rfl))
  f221 := Tryz.func139.trans (congrArg some (by kernel_rfl))
  f224 := Tryz.func150.trans (congrArg some (by kernel_rfl))
  f225 := Tryz.func149.trans (congrArg some (by kernel_rfl))
  f260 := Tryz.func147.trans (congrArg some (by kernel_rfl))
  f266 := Tryz.func152.trans (congrArg some (by kernel_rfl))
  f267 := Tryz.func151.trans (congrArg some (by kernel_rfl))
  f268 := Tryz.func140.trans (congrArg some (by kernel_rfl))
  f314 := Tryz.func153.trans (congrArg some (by kernel_rfl))
  t0 := Tryz.underlying0
  a0 := Tryz.isAgg0
  z0 := Tryz.sizeOf0
  v0 := Tryz.zeroValue0
  t3 := Tryz.underlying3
  a3 := Tryz.isAgg3
  z3 := Tryz.sizeOf3
  v3 := Tryz.zeroValue3
  t4 := Tryz.underlying4
  a4 := Tryz.isAgg4
  z4 := Tryz.sizeOf4
  v4 := Tryz.zeroValue4
  t5 := Tryz.underlying5
  a5 := Tryz.isAgg5
  z5 := Tryz.sizeOf5
  v5 := Tryz.zeroValue5
  t9 := Tryz.underlying9
  a9 := Tryz.isAgg9
  z9 := Tryz.sizeOf9
  v9 := Tryz.zeroValue9
  t21 := Tryz.underlying21
  a21 := Tryz.isAgg21
  z21 := Tryz.sizeOf21
  v21 := Tryz.zeroValue21
  t31 := Tryz.underlying128
  a31 := Tryz.isAgg128
  z31 := Tryz.sizeOf128
  v31 := Tryz.zeroValue128
  t46 := Tryz.underlying108
  a46 := Tryz.isAgg108
  z46 := Tryz.sizeOf108
  v46 := Tryz.zeroValue108
  t51 := Tryz.underlying125
  a51 := Tryz.isAgg125
  z51 := Tryz.sizeOf125
  v51 := Tryz.zeroValue125
  t105 := Tryz.underlying144
  a105 := Tryz.isAgg144
  z105 := Tryz.sizeOf144
  v105 := Tryz.zeroValue144
  t119 := Tryz.underlying148
  a119 := Tryz.isAgg148
  z119 := Tryz.sizeOf148
  t138 := Tryz.underlying150
  a138 := Tryz.isAgg150
  z138 := Tryz.sizeOf150
  v138 := Tryz.zeroValue150
  t139 := Tryz.underlying151
  a139 := Tryz.isAgg151
  z139 := Tryz.sizeOf151
  v139 := Tryz.zeroValue151
  t146 := Tryz.underlying152
  a146 := Tryz.isAgg152
  z146 := Tryz.sizeOf152
  v146 := Tryz.zeroValue152
  g1 := by kernel_rfl
  g3 := by kernel_rfl
  g4 := by kernel_rfl }
open Go.RowKit Go.Lib in
theorem Tryz.strings_Split (s sep : ByteArray) (m : Int) (w : World) (hs : s.size < 4294967281) (hm : w.cell? ⟨0, 0, none⟩ = some (.int .i64 m)) (h1 : 1 ≤ sep.size) :
    Calls Tryz.prog 137 #[.string s, .string sep] w fun e w' =>
      e = .returned (.slice (some ⟨w.heap.size, 0, none⟩) (Lib.countB s sep + 1) (Lib.countB s sep + 1)) ∧ w' = w.alloc (.cells ((Lib.splitB sep 0 (Lib.countB s sep) s).map Value.string).toArray 9) := Any.strings_Split Tryz.lays146 (by kernel_rfl) s sep m w hs hm h1
open Go.RowKit Go.Sort in
theorem Tryz.sort_Ints_none (p : Option Addr) (cap : Nat) (w : World) :
    Calls Tryz.prog 53 #[.slice p 0 cap] w fun e w' => e = .returned (.tuple #[]) ∧ w' = w := Any.sort_Ints_none Tryz.lays191 p cap w
end Go.Proofs
set_option linter.unusedVariables false
set_option linter.unusedSimpArgs false
namespace Go.Proofs.T
open Go.OM
theorem ent137 : Enters E.P 137 := enters_of Tryz.func137 (by simp [Tryz.f137]) rfl
theorem maxLen_cell {w : World} (h : E.Gl w) : ∃ m, w.cell? ⟨0, 0, none⟩ = some (.int .i64 m) := by
  obtain ⟨cs, t, fr, h1, m, h2⟩ := h _ (List.mem_singleton.2 rfl)
  refine ⟨m, ?_⟩
  have h1' : w.heap[0]? = some (.cells cs t fr) := h1
  simp [World.cell?, h1', h2]
theorem strings_Split_ok (s sep : ByteArray) {r0 : List ByteArray} (h : strings_Split s sep = some r0) : Ok E 137 [.val (vs s), .val (vs sep)] [.sl true 1 (List.map vs r0)] [] := by
  unfold strings_Split at h
  split at h
  case isFalse => cases h
  rename_i hr
  injection h with h
  subst h
  have := ok_fresh (E := E) (f := 137) (ty := 9) (xs := [.string s, .string sep]) (es := (Lib.splitB sep 0 (Lib.countB s sep) s).map Value.string) (by simp [TA.OneCell]) fun w hw => by
    obtain ⟨m, hm⟩ := maxLen_cell hw
    have h1 := Tryz.strings_Split s sep m w hr.1 hm hr.2.1
    refine h1.mono fun e w' ⟨h2, h3⟩ => ⟨?_, h3⟩
    rw [h2, List.length_map, hr.2.2]
    try rfl
  rw [List.map_map] at this
  exact this
theorem ent53 : Enters E.P 53 := enters_of Tryz.func53 (by simp [Tryz.f53]) rfl
theorem sort_Ints_ok (l : List Int) {r0 : List Int} (h : sort_Ints l = some r0) : OkIO E 53 [.val (.sl true 1 (List.map vi l))] [] [] [(0, .sl true 1 (List.map vi r0))] := by
  unfold sort_Ints at h
  split at h
  case isFalse => cases h
  rename_i hr
  injection h with h
  subst h
  exact ok_sorts (fun blk off cap zs w h1 h2 h3 => Tryz.sort_Ints blk off cap zs w h1 h2 h3) (fun p cap w => Tryz.sort_Ints_none p cap w) l hr
end Go.Proofs.T
set_option linter.unusedVariables false
set_option linter.unusedSimpArgs false
set_option maxHeartbeats 1000000
namespace Go.Proofs.T
open Go.OM
theorem res129 : Tryz.f129.results.toList = [.tmp 4] := rfl
theorem ent129 : Enters E.P 129 := enters_of Tryz.func129 (by simp [Tryz.f129]) rfl
theorem impl_oneOf_ok (s1 : ByteArray) (words2 : ByteArray) {r0 : Bool} (h : impl_oneOf s1 words2 = some r0) : Ok E 129 [.val (vs s1), .val (vs words2)] [vb r0] [] := by
  refine ok_of_body (fn := Tryz.f129) Tryz.func129 rfl (by simp [Tryz.f129]) fun C hN hP => ?_
  have hPB : ∀ l, pinK [] l = true → pinB C.pin l = true := pinB_of (by rw [hP]; rfl)
  have hN' : C.N = 18 := hN
  clear hN
  unfold impl_oneOf at h
  refine SWp.seqR rfl (hPB _ rfl) fun K hK => ?_
  refine wps_cons rfl fun K hK => ?_; simp [hN']; refine hK _ ?_; clear hK
  refine wps_nil (hK _ ?_); clear hK
  obtain ⟨j5, hj3, h⟩ := bind_some h
  refine SWp.seqC [] [] (fun v : Unit => ⟨[], []⟩) (fun v => j5 = Sum.inl v) (fun v hv => ?_) fun K4 hK4 => ?_
  rotate_left
  · refine SWp.seqR rfl (hPB _ rfl) fun K hK => ?_
    refine wps_cons rfl fun K hK => ?_; simp [hN']; refine hK _ ?_; clear hK
    obtain ⟨r6, hc7, hj3⟩ := bind_some hj3
    refine wps_call [(.take, .tmp 7), (.take, .const (.string (⟨#[32]⟩ : ByteArray)))] rfl rfl ent137 (strings_Split_ok _ _ hc7) fun K hK => ?_; simp [hN']; refine hK _ ?_; clear hK
    iterate 2 (refine wps_cons rfl fun K hK => ?_; simp [hN']; refine hK _ ?_; clear hK)
    refine wps_nil (hK _ ?_); clear hK
    refine SWp.block ?_
    refine SWp.loopO [] [0, 8, 9, 10] [] (fun v : Int => ⟨[(0, .t (vs s1)), (8, .t (.sl true 1 (List.map vs r6))), (9, .t (vi (r6.length : Int))), (10, .t (vi v))], []⟩) (impl_oneOf_l1 s1 r6) _ 0 hj3 (by simp [hN']) ?_
    intro g s11 h9 ho10
    obtain ⟨v8, hg⟩ : ∃ y, y = g := ⟨_, rfl⟩
    subst hg
    simp only [impl_oneOf_l1] at h9
    try dsimp only
    refine SWp.seqR rfl (hPB _ rfl) fun K hK => ?_
    refine wps_cons rfl fun K hK => ?_; simp [hN']; refine hK _ ?_; clear hK
    refine wps_nil (hK _ ?_); clear hK
    refine SWp.seq ?_
    rcases ite_or h9 with ⟨hb12, h9⟩ | ⟨hb13, h9⟩
    · refine SWp.condT' (b := decide (v8 < (r6.length : Int))) (by simp) hb12 ?_
      refine SWp.skip ?_
      show SWp E C _ _ _
      refine SWp.seq ?_
      refine SWp.block ?_
      refine SWp.seqR rfl (hPB _ rfl) fun K hK => ?_
      obtain ⟨e14, he14, h9⟩ := bind_some h9
      obtain ⟨he14a, he14b, he14c, he14d⟩ := getI_some he14
      iterate 3 (refine wps_cons rfl fun K hK => ?_; simp [hN', he14a, he14b, he14c, he14d]; refine hK _ ?_; clear hK)
      refine wps_nil (hK _ ?_); clear hK
      refine SWp.seqR rfl (hPB _ rfl) fun K hK => ?_
      iterate 3 (refine wps_cons rfl fun K hK => ?_; simp [hN']; refine hK _ ?_; clear hK)
      refine wps_nil (hK _ ?_); clear hK
      rcases ite_or h9 with ⟨hb15, h9⟩ | ⟨hb16, h9⟩
      · refine SWp.condT' (b := sEq e14 s1) (by simp) hb15 ?_
        refine SWp.seqR rfl (hPB _ rfl) fun K hK => ?_
        refine wps_cons rfl fun K hK => ?_; simp [hN']; refine hK _ ?_; clear hK
        refine wps_nil (hK _ ?_); clear hK
        have h17 := congrArg some (ho10 _ (Option.some.inj h9).symm)
        cases h17
        try dsimp only at h
        cases h
        refine SWp.ret ?_
        simp [thenS, inBlockS, res129]
      · refine SWp.condF' (b := sEq e14 s1) (by simp) hb16 ?_
        refine SWp.skip ?_
        show SWp E C _ _ _
        refine SWp.reg rfl (hPB _ rfl) fun K hK => ?_
        iterate 2 (refine wps_cons rfl fun K hK => ?_; simp [hN']; refine hK _ ?_; clear hK)
        refine wps_nil (hK _ ?_); clear hK
        cases h9
        exact ⟨_, [], rfl, by simp [hN']⟩
    · refine SWp.condF' (b := decide (v8 < (r6.length : Int))) (by simp) hb13 ?_
      refine SWp.exit ?_
      have h18 := congrArg some (ho10 _ (Option.some.inj h9).symm)
      cases h18
      exact hK4 _ _ [] rfl (by simp [hN'])
  subst hv
  obtain ⟨⟩ := v
  try dsimp only at h ⊢
  refine SWp.seqR rfl (hPB _ rfl) fun K hK => ?_
  refine wps_cons rfl fun K hK => ?_; simp [hN']; refine hK _ ?_; clear hK
  refine wps_nil (hK _ ?_); clear hK
  cases h
  refine SWp.ret ?_
  simp [thenS, inBlockS, res129]
end Go.Proofs.T
set_option linter.unusedVariables false
set_option linter.unusedSimpArgs false
set_option maxHeartbeats 1000000
namespace Go.Proofs.T
open Go.OM
theorem res112 : Tryz.f112.results.toList = [.tmp 2] := rfl
theorem ent112 : Enters E.P 112 := enters_of Tryz.func112 (by simp [Tryz.f112]) rfl
theorem impl_KeyWord_ok (s1 : ByteArray) {r0 : Bool} (h : impl_KeyWord s1 = some r0) : Ok E 112 [.val (vs s1)] [vb r0] [] := by
  refine ok_of_body (fn := Tryz.f112) Tryz.func112 rfl (by simp [Tryz.f112]) fun C hN hP => ?_
  have hPB : ∀ l, pinK [] l = true → pinB C.pin l = true := pinB_of (by rw [hP]; rfl)
  have hN' : C.N = 5 := hN
  clear hN
  unfold impl_KeyWord at h
  refine SWp.seqR rfl (hPB _ rfl) fun K hK => ?_
  refine wps_cons rfl fun K hK => ?_; simp [hN']; refine hK _ ?_; clear hK
  refine wps_nil (hK _ ?_); clear hK
  refine SWp.seqR rfl (hPB _ rfl) fun K hK => ?_
  refine wps_cons rfl fun K hK => ?_; simp [hN']; refine hK _ ?_; clear hK
  obtain ⟨r2, hc3, h⟩ := bind_some h
  refine wps_call [(.take, .tmp 3), (.take, .const (.string (⟨#[102, 110, 32, 108, 101, 116, 32, 105, 102, 32, 101, 108, 115, 101, 32, 119, 104, 105, 108, 101, 32, 112, 114, 105, 110, 116, 32, 100, 111, 32, 110, 101, 119, 32, 99, 108, 111, 110, 101, 32, 109, 117, 116, 32, 105, 110, 112, 117, 116, 32, 105, 110, 116, 32, 98, 111, 120, 32, 114, 101, 116]⟩ : ByteArray)))] rfl rfl ent129 (impl_oneOf_ok _ _ hc3) fun K hK => ?_; simp [hN']; refine hK _ ?_; clear hK
  refine wps_cons rfl fun K hK => ?_; simp [hN']; refine hK _ ?_; clear hK
  refine wps_nil (hK _ ?_); clear hK
  cases h
  refine SWp.ret ?_
  simp [thenS, inBlockS, res112]
end Go.Proofs.T
set_option linter.unusedVariables false
set_option linter.unusedSimpArgs false
set_option maxHeartbeats 1000000
namespace Go.Proofs.T
open Go.OM
theorem res94 : Tryz.f94.results.toList = [.tmp 2] := rfl
theorem ent94 : Enters E.P 94 := enters_of Tryz.func94 (by simp [Tryz.f94]) rfl
theorem impl_NameOk_ok (s1 : ByteArray) {r0 : Bool} (h : impl_NameOk s1 = some r0) : Ok E 94 [.val (vs s1)] [vb r0] [] := by
  refine ok_of_body (fn := Tryz.f94) Tryz.func94 rfl (by simp [Tryz.f94]) fun C hN hP => ?_
  have hPB : ∀ l, pinK [] l = true → pinB C.pin l = true := pinB_of (by rw [hP]; rfl)
  have hN' : C.N = 35 := hN
  clear hN
  unfold impl_NameOk at h
  refine SWp.seqR rfl (hPB _ rfl) fun K hK => ?_
  refine wps_cons rfl fun K hK => ?_; simp [hN']; refine hK _ ?_; clear hK
  refine wps_nil (hK _ ?_); clear hK
  refine SWp.seq ?_
  obtain ⟨v11, hj2, h⟩ := bind_some h
  refine SWp.seqRC rfl (hPB _ rfl) [0, 13] [] (fun _ : Unit => ⟨[(0, .t (vs s1)), (13, .t (vb v11))], []⟩) (fun _ => True) (fun _ _ => ?_) fun K3 hK3 => ?_
  rotate_left
  · refine wps_cons rfl fun K hK => ?_; simp [hN']; refine hK _ ?_; clear hK
    refine wps_cons rfl fun K hK => ?_; simp [hN']; refine hK _ ?_; clear hK
    obtain ⟨r4, hc5, hj2⟩ := bind_some hj2
    refine wps_call [(.take, .tmp 5), (.take, .const (.int .i64 1)), (.take, .const (.int .i64 8))] rfl rfl ent52 (impl_in_ok _ _ _ hc5) fun K hK => ?_; simp [hN']; refine hK _ ?_; clear hK
    iterate 2 (refine wps_cons rfl fun K hK => ?_; simp [hN']; refine hK _ ?_; clear hK)
    rcases ite_or hj2 with ⟨hb6, hj2⟩ | ⟨hb7, hj2⟩
    · have hb6s := hb6
      try simp at hb6s
      iterate 4 (refine wps_off fun K hK => ?_; simp [hN', hb6, hb6s]; refine hK _ ?_; clear hK)
      refine wps_cons rfl fun K hK => ?_; simp [hN', hb6, hb6s]; refine hK _ ?_; clear hK
      refine wps_nil ?_
      cases hj2
      exact hK3 _ () [] trivial (by simp [hN', hb6, hb6s])
    · have hb7s := hb7
      try simp at hb7s
      refine wps_cons rfl fun K hK => ?_; simp [hN', hb7, hb7s]; refine hK _ ?_; clear hK
      obtain ⟨c8, hc8, hj2⟩ := bind_some hj2
      obtain ⟨hc8a, hc8b, hc8c⟩ := sAt_some hc8
      have hc8e : 0 < s1.size := by omega
      refine wps_cons rfl fun K hK => ?_; simp [hN', hb7, hb7s, hc8a, hc8b, hc8c, hc8e]; refine hK _ ?_; clear hK
      obtain ⟨r9, hc10, hj2⟩ := bind_some hj2
      refine wps_call [(.take, .tmp 10)] rfl rfl ent110 (impl_isLetter_ok _ hc10) fun K hK => ?_; simp [hN', hb7, hb7s, hc8a, hc8b, hc8c, hc8e]; refine hK _ ?_; clear hK
      iterate 2 (refine wps_cons rfl fun K hK => ?_; simp [hN', hb7, hb7s, hc8a, hc8b, hc8c, hc8e]; refine hK _ ?_; clear hK)
      refine wps_nil ?_
      cases hj2
      exact hK3 _ () [] trivial (by simp [hN', hb7, hb7s, hc8a, hc8b, hc8c, hc8e])
  rcases ite_or h with ⟨hb12, h⟩ | ⟨hb13, h⟩
  · refine SWp.condT' (b := v11) (by simp) hb12 ?_
    refine SWp.seqR rfl (hPB _ rfl) fun K hK => ?_
    refine wps_cons rfl fun K hK => ?_; simp [hN']; refine hK _ ?_; clear hK
    refine wps_nil (hK _ ?_); clear hK
    cases h
    refine SWp.ret ?_
    simp [thenS, inBlockS, res94]
  · refine SWp.condF' (b := v11) (by simp) hb13 ?_
    refine SWp.skip ?_
    show SWp E C _ _ _
    obtain ⟨j16, hj14, h⟩ := bind_some h
    refine SWp.seqC [0] [] (fun v : Unit => ⟨[(0, .t (vs s1))], []⟩) (fun v => j16 = Sum.inl v) (fun v hv => ?_) fun K15 hK15 => ?_
    rotate_left
    · refine SWp.seqR rfl (hPB _ rfl) fun K hK => ?_
      refine wps_cons rfl fun K hK => ?_; simp [hN']; refine hK _ ?_; clear hK
      refine wps_nil (hK _ ?_); clear hK
      refine SWp.block ?_
      refine SWp.loopO [] [0, 3] [] (fun v : Int => ⟨[(0, .t (vs s1)), (3, .t (vi v))], []⟩) (impl_NameOk_l1 s1) _ 0 hj14 (by simp [hN']) ?_
      intro g s20 h18 ho19
      obtain ⟨i17, hg⟩ : ∃ y, y = g := ⟨_, rfl⟩
      subst hg
      simp only [impl_NameOk_l1] at h18
      try dsimp only
      refine SWp.seq ?_
      refine SWp.seqR rfl (hPB _ rfl) fun K hK => ?_
      iterate 4 (refine wps_cons rfl fun K hK => ?_; simp [hN']; refine hK _ ?_; clear hK)
      refine wps_nil (hK _ ?_); clear hK
      rcases ite_or h18 with ⟨hb21, h18⟩ | ⟨hb22, h18⟩
      · refine SWp.condT' (b := decide (i17 < (s1.size : Int))) (by simp) hb21 ?_
        refine SWp.skip ?_
        show SWp E C _ _ _
        refine SWp.seq ?_
        refine SWp.block ?_
        obtain ⟨v32, hj23, h18⟩ := bind_some h18
        refine SWp.seqRC rfl (hPB _ rfl) [0, 3, 31] [] (fun _ : Unit => ⟨[(0, .t (vs s1)), (3, .t (vi i17)), (31, .t (vb v32))], []⟩) (fun _ => True) (fun _ _ => ?_) fun K24 hK24 => ?_
        rotate_left
        · refine wps_cons rfl fun K hK => ?_; simp [hN']; refine hK _ ?_; clear hK
          refine wps_cons rfl fun K hK => ?_; simp [hN']; refine hK _ ?_; clear hK
          obtain ⟨c25, hc25, hj23⟩ := bind_some hj23
          obtain ⟨hc25a, hc25b, hc25c⟩ := sAt_some hc25
          refine wps_cons rfl fun K hK => ?_; simp [hN', hc25a, hc25b, hc25c]; refine hK _ ?_; clear hK
          obtain ⟨r26, hc27, hj23⟩ := bind_some hj23
          refine wps_call [(.take, .tmp 22)] rfl rfl ent110 (impl_isLetter_ok _ hc27) fun K hK => ?_; simp [hN', hc25a, hc25b, hc25c]; refine hK _ ?_; clear hK
          iterate 2 (refine wps_cons rfl fun K hK => ?_; simp [hN', hc25a, hc25b, hc25c]; refine hK _ ?_; clear hK)
          rcases ite_or hj23 with ⟨hb28, hj23⟩ | ⟨hb29, hj23⟩
          · have hb28s := hb28
            try simp at hb28s
            iterate 3 (refine wps_cons rfl fun K hK => ?_; simp [hN', hc25a, hc25b, hc25c, hb28, hb28s]; refine hK _ ?_; clear hK)
            obtain ⟨r30, hc31, hj23⟩ := bind_some hj23
            refine wps_call [(.take, .tmp 28)] rfl rfl ent111 (impl_isFigure_ok _ hc31) fun K hK => ?_; simp [hN', hc25a, hc25b, hc25c, hb28, hb28s]; refine hK _ ?_; clear hK
            iterate 2 (refine wps_cons rfl fun K hK => ?_; simp [hN', hc25a, hc25b, hc25c, hb28, hb28s]; refine hK _ ?_; clear hK)
            refine wps_nil ?_
            cases hj23
            exact hK24 _ () [] trivial (by simp [hN', hc25a, hc25b, hc25c, hb28, hb28s])
          · have hb29s := hb29
            try simp at hb29s
            iterate 5 (refine wps_off fun K hK => ?_; simp [hN', hc25a, hc25b, hc25c, hb29, hb29s]; refine hK _ ?_; clear hK)
            refine wps_cons rfl fun K hK => ?_; simp [hN', hc25a, hc25b, hc25c, hb29, hb29s]; refine hK _ ?_; clear hK
            refine wps_nil ?_
            cases hj23
            exact hK24 _ () [] trivial (by simp [hN', hc25a, hc25b, hc25c, hb29, hb29s])
        rcases ite_or h18 with ⟨hb33, h18⟩ | ⟨hb34, h18⟩
        · refine SWp.condT' (b := v32) (by simp) hb33 ?_
          refine SWp.seqR rfl (hPB _ rfl) fun K hK => ?_
          refine wps_cons rfl fun K hK => ?_; simp [hN']; refine hK _ ?_; clear hK
          refine wps_nil (hK _ ?_); clear hK
          have h35 := congrArg some (ho19 _ (Option.some.inj h18).symm)
          cases h35
          try dsimp only at h
          cases h
          refine SWp.ret ?_
          simp [thenS, inBlockS, res94]
        · refine SWp.condF' (b := v32) (by simp) hb34 ?_
          refine SWp.skip ?_
          show SWp E C _ _ _
          refine SWp.reg rfl (hPB _ rfl) fun K hK => ?_
          iterate 3 (refine wps_cons rfl fun K hK => ?_; simp [hN']; refine hK _ ?_; clear hK)
          refine wps_nil (hK _ ?_); clear hK
          cases h18
          exact ⟨_, [], rfl, by simp [hN']⟩
      · refine SWp.condF' (b := decide (i17 < (s1.size : Int))) (by simp) hb22 ?_
        refine SWp.exit ?_
        have h36 := congrArg some (ho19 _ (Option.some.inj h18).symm)
        cases h36
        exact hK15 _ _ [] rfl (by simp [hN'])
    subst hv
    obtain ⟨⟩ := v
    try dsimp only at h ⊢
    refine SWp.seqR rfl (hPB _ rfl) fun K hK => ?_
    refine wps_cons rfl fun K hK => ?_; simp [hN']; refine hK _ ?_; clear hK
    obtain ⟨r37, hc38, h⟩ := bind_some h
    refine wps_call [(.take, .tmp 32)] rfl rfl ent112 (impl_KeyWord_ok _ hc38) fun K hK => ?_; simp [hN']; refine hK _ ?_; clear hK
    iterate 2 (refine wps_cons rfl fun K hK => ?_; simp [hN']; refine hK _ ?_; clear hK)
    refine wps_nil (hK _ ?_); clear hK
    cases h
    refine SWp.ret ?_
    simp [thenS, inBlockS, res94]
end Go.Proofs.T
set_option linter.unusedVariables false
set_option linter.unusedSimpArgs false
set_option maxHeartbeats 1000000
namespace Go.Proofs.T
open Go.OM
theorem res126 : Tryz.f126.results.toList = [.tmp 2, .tmp 3] := rfl
theorem ent126 : Enters E.P 126 := enters_of Tryz.func126 (by simp [Tryz.f126]) rfl
theorem impl_shape_ok (kind1 : Int) {r0 : Int} {r1 : Int} (h : impl_shape kind1 = some (r0, r1)) : Ok E 126 [.val (vi kind1)] [vi r0, vi r1] [] := by
  refine ok_of_body (fn := Tryz.f126) Tryz.func126 rfl (by simp [Tryz.f126]) fun C hN hP => ?_
  have hPB : ∀ l, pinK [] l = true → pinB C.pin l = true := pinB_of (by rw [hP]; rfl)
  have hN' : C.N = 23 := hN
  clear hN
  unfold impl_shape at h
  refine SWp.seqR rfl (hPB _ rfl) fun K hK => ?_
  iterate 2 (refine wps_cons rfl fun K hK => ?_; simp [hN']; refine hK _ ?_; clear hK)
  refine wps_nil (hK _ ?_); clear hK
  refine SWp.seq ?_
  refine SWp.seqR rfl (hPB _ rfl) fun K hK => ?_
  refine wps_cons rfl fun K hK => ?_; simp [hN']; refine hK _ ?_; clear hK
  refine wps_nil (hK _ ?_); clear hK
  refine SWp.block ?_
  obtain ⟨v15, hj2, h⟩ := bind_some h
  refine SWp.seqC [4, 5] [] (fun _ : Unit => ⟨[(4, .t (vi kind1)), (5, .t (vb v15))], []⟩) (fun _ => True) (fun _ _ => ?_) fun K3 hK3 => ?_
  rotate_left
  · refine SWp.seqR rfl (hPB _ rfl) fun K hK => ?_
    iterate 2 (refine wps_cons rfl fun K hK => ?_; simp [hN']; refine hK _ ?_; clear hK)
    refine wps_nil (hK _ ?_); clear hK
    rcases ite_or hj2 with ⟨hb5, hj2⟩ | ⟨hb6, hj2⟩
    · refine SWp.condT' (b := kind1 == 8) (by simp) hb5 ?_
      refine SWp.skip ?_
      cases hj2
      exact hK3 _ () [] trivial (by simp [hN'])
    · refine SWp.condF' (b := kind1 == 8) (by simp) hb6 ?_
      refine SWp.seqR rfl (hPB _ rfl) fun K hK => ?_
      iterate 2 (refine wps_cons rfl fun K hK => ?_; simp [hN']; refine hK _ ?_; clear hK)
      refine wps_nil (hK _ ?_); clear hK
      rcases ite_or hj2 with ⟨hb7, hj2⟩ | ⟨hb8, hj2⟩
      · refine SWp.condT' (b := kind1 == 13) (by simp) hb7 ?_
        refine SWp.skip ?_
        cases hj2
        exact hK3 _ () [] trivial (by simp [hN'])
      · refine SWp.condF' (b := kind1 == 13) (by simp) hb8 ?_
        refine SWp.seqR rfl (hPB _ rfl) fun K hK => ?_
        iterate 2 (refine wps_cons rfl fun K hK => ?_; simp [hN']; refine hK _ ?_; clear hK)
        refine wps_nil (hK _ ?_); clear hK
        rcases ite_or hj2 with ⟨hb9, hj2⟩ | ⟨hb10, hj2⟩
        · refine SWp.condT' (b := kind1 == 14) (by simp) hb9 ?_
          refine SWp.skip ?_
          cases hj2
          exact hK3 _ () [] trivial (by simp [hN'])
        · refine SWp.condF' (b := kind1 == 14) (by simp) hb10 ?_
          refine SWp.seqR rfl (hPB _ rfl) fun K hK => ?_
          iterate 2 (refine wps_cons rfl fun K hK => ?_; simp [hN']; refine hK _ ?_; clear hK)
          refine wps_nil (hK _ ?_); clear hK
          rcases ite_or hj2 with ⟨hb11, hj2⟩ | ⟨hb12, hj2⟩
          · refine SWp.condT' (b := kind1 == 15) (by simp) hb11 ?_
            refine SWp.skip ?_
            cases hj2
            exact hK3 _ () [] trivial (by simp [hN'])
          · refine SWp.condF' (b := kind1 == 15) (by simp) hb12 ?_
            refine SWp.seqR rfl (hPB _ rfl) fun K hK => ?_
            iterate 2 (refine wps_cons rfl fun K hK => ?_; simp [hN']; refine hK _ ?_; clear hK)
            refine wps_nil (hK _ ?_); clear hK
            rcases ite_or hj2 with ⟨hb13, hj2⟩ | ⟨hb14, hj2⟩
            · refine SWp.condT' (b := kind1 == 18) (by simp) hb13 ?_
              refine SWp.skip ?_
              cases hj2
              exact hK3 _ () [] trivial (by simp [hN'])
            · refine SWp.condF' (b := kind1 == 18) (by simp) hb14 ?_
              refine SWp.reg rfl (hPB _ rfl) fun K hK => ?_
              iterate 2 (refine wps_cons rfl fun K hK => ?_; simp [hN']; refine hK _ ?_; clear hK)
              refine wps_nil (hK _ ?_); clear hK
              cases hj2
              exact hK3 _ () [] trivial (by simp [hN'])
  rcases ite_or h with ⟨hb16, h⟩ | ⟨hb17, h⟩
  · refine SWp.condT' (b := v15) (by simp) hb16 ?_
    refine SWp.seqR rfl (hPB _ rfl) fun K hK => ?_
    iterate 2 (refine wps_cons rfl fun K hK => ?_; simp [hN']; refine hK _ ?_; clear hK)
    refine wps_nil (hK _ ?_); clear hK
    cases h
    refine SWp.ret ?_
    simp [thenS, inBlockS, res126]
  · refine SWp.condF' (b := v15) (by simp) hb17 ?_
    obtain ⟨v27, hj18, h⟩ := bind_some h
    refine SWp.seqC [4, 12] [] (fun _ : Unit => ⟨[(4, .t (vi kind1)), (12, .t (vb v27))], []⟩) (fun _ => True) (fun _ _ => ?_) fun K19 hK19 => ?_
    rotate_left
    · refine SWp.seqR rfl (hPB _ rfl) fun K hK => ?_
      iterate 2 (refine wps_cons rfl fun K hK => ?_; simp [hN']; refine hK _ ?_; clear hK)
      refine wps_nil (hK _ ?_); clear hK
      rcases ite_or hj18 with ⟨hb21, hj18⟩ | ⟨hb22, hj18⟩
      · refine SWp.condT' (b := kind1 == 9) (by simp) hb21 ?_
        refine SWp.skip ?_
        cases hj18
        exact hK19 _ () [] trivial (by simp [hN'])
      · refine SWp.condF' (b := kind1 == 9) (by simp) hb22 ?_
        refine SWp.seqR rfl (hPB _ rfl) fun K hK => ?_
        iterate 2 (refine wps_cons rfl fun K hK => ?_; simp [hN']; refine hK _ ?_; clear hK)
        refine wps_nil (hK _ ?_); clear hK
        rcases ite_or hj18 with ⟨hb23, hj18⟩ | ⟨hb24, hj18⟩
        · refine SWp.condT' (b := kind1 == 10) (by simp) hb23 ?_
          refine SWp.skip ?_
          cases hj18
          exact hK19 _ () [] trivial (by simp [hN'])
        · refine SWp.condF' (b := kind1 == 10) (by simp) hb24 ?_
          refine SWp.seqR rfl (hPB _ rfl) fun K hK => ?_
          iterate 2 (refine wps_cons rfl fun K hK => ?_; simp [hN']; refine hK _ ?_; clear hK)
          refine wps_nil (hK _ ?_); clear hK
          rcases ite_or hj18 with ⟨hb25, hj18⟩ | ⟨hb26, hj18⟩
          · refine SWp.condT' (b := kind1 == 11) (by simp) hb25 ?_
            refine SWp.skip ?_
            cases hj18
            exact hK19 _ () [] trivial (by simp [hN'])
          · refine SWp.condF' (b := kind1 == 11) (by simp) hb26 ?_
            refine SWp.reg rfl (hPB _ rfl) fun K hK => ?_
            iterate 2 (refine wps_cons rfl fun K hK => ?_; simp [hN']; refine hK _ ?_; clear hK)
            refine wps_nil (hK _ ?_); clear hK
            cases hj18
            exact hK19 _ () [] trivial (by simp [hN'])
    rcases ite_or h with ⟨hb28, h⟩ | ⟨hb29, h⟩
    · refine SWp.condT' (b := v27) (by simp) hb28 ?_
      refine SWp.seqR rfl (hPB _ rfl) fun K hK => ?_
      iterate 2 (refine wps_cons rfl fun K hK => ?_; simp [hN']; refine hK _ ?_; clear hK)
      refine wps_nil (hK _ ?_); clear hK
      cases h
      refine SWp.ret ?_
      simp [thenS, inBlockS, res126]
    · refine SWp.condF' (b := v27) (by simp) hb29 ?_
      refine SWp.seqR rfl (hPB _ rfl) fun K hK => ?_
      iterate 2 (refine wps_cons rfl fun K hK => ?_; simp [hN']; refine hK _ ?_; clear hK)
      refine wps_nil (hK _ ?_); clear hK
      rcases ite_or h with ⟨hb30, h⟩ | ⟨hb31, h⟩
      · refine SWp.condT' (b := kind1 == 16) (by simp) hb30 ?_
        refine SWp.seqR rfl (hPB _ rfl) fun K hK => ?_
        iterate 2 (refine wps_cons rfl fun K hK => ?_; simp [hN']; refine hK _ ?_; clear hK)
        refine wps_nil (hK _ ?_); clear hK
        cases h
        refine SWp.ret ?_
        simp [thenS, inBlockS, res126]
      · refine SWp.condF' (b := kind1 == 16) (by simp) hb31 ?_
        refine SWp.seqR rfl (hPB _ rfl) fun K hK => ?_
        iterate 2 (refine wps_cons rfl fun K hK => ?_; simp [hN']; refine hK _ ?_; clear hK)
        refine wps_nil (hK _ ?_); clear hK
        rcases ite_or h with ⟨hb32, h⟩ | ⟨hb33, h⟩
        · refine SWp.condT' (b := kind1 == 12) (by simp) hb32 ?_
          refine SWp.seqR rfl (hPB _ rfl) fun K hK => ?_
          iterate 2 (refine wps_cons rfl fun K hK => ?_; simp [hN']; refine hK _ ?_; clear hK)
          refine wps_nil (hK _ ?_); clear hK
          cases h
          refine SWp.ret ?_
          simp [thenS, inBlockS, res126]
        · refine SWp.condF' (b := kind1 == 12) (by simp) hb33 ?_
          refine SWp.seqR rfl (hPB _ rfl) fun K hK => ?_
          iterate 2 (refine wps_cons rfl fun K hK => ?_; simp [hN']; refine hK _ ?_; clear hK)
          refine wps_nil (hK _ ?_); clear hK
          rcases ite_or h with ⟨hb34, h⟩ | ⟨hb35, h⟩
          · refine SWp.condT' (b := kind1 == 20) (by simp) hb34 ?_
            refine SWp.seqR rfl (hPB _ rfl) fun K hK => ?_
            iterate 2 (refine wps_cons rfl fun K hK => ?_; simp [hN']; refine hK _ ?_; clear hK)
            refine wps_nil (hK _ ?_); clear hK
            cases h
            refine SWp.ret ?_
            simp [thenS, inBlockS, res126]
          · refine SWp.condF' (b := kind1 == 20) (by simp) hb35 ?_
            refine SWp.skip ?_
            show SWp E C _ _ _
            refine SWp.seqR rfl (hPB _ rfl) fun K hK => ?_
            iterate 2 (refine wps_cons rfl fun K hK => ?_; simp [hN']; refine hK _ ?_; clear hK)
            refine wps_nil (hK _ ?_); clear hK
            cases h
            refine SWp.ret ?_
            simp [thenS, inBlockS, res126]
end Go.Proofs.T
set_option linter.unusedVariables false
set_option linter.unusedSimpArgs false
set_option maxHeartbeats 1000000
namespace Go.Proofs.T
open Go.OM
theorem res95 : Tryz.f95.results.toList = [.tmp 2] := rfl
theorem ent95 : Enters E.P 95 := enters_of Tryz.func95 (by simp [Tryz.f95]) rfl
theorem impl_isValue_ok (kind1 : Int) {r0 : Bool} (h : impl_isValue kind1 = some r0) : Ok E 95 [.val (vi kind1)] [vb r0] [] := by
  refine ok_of_body (fn := Tryz.f95) Tryz.func95 rfl (by simp [Tryz.f95]) fun C hN hP => ?_
  have hPB : ∀ l, pinK [] l = true → pinB C.pin l = true := pinB_of (by rw [hP]; rfl)
  have hN' : C.N = 5 := hN
  clear hN
  unfold impl_isValue at h
  refine SWp.seqR rfl (hPB _ rfl) fun K hK => ?_
  refine wps_cons rfl fun K hK => ?_; simp [hN']; refine hK _ ?_; clear hK
  refine wps_nil (hK _ ?_); clear hK
  refine SWp.seqR rfl (hPB _ rfl) fun K hK => ?_
  refine wps_cons rfl fun K hK => ?_; simp [hN']; refine hK _ ?_; clear hK
  obtain ⟨r2, hc3, h⟩ := bind_some h
  refine wps_call [(.take, .tmp 3), (.take, .const (.int .i64 1)), (.take, .const (.int .i64 12))] rfl rfl ent52 (impl_in_ok _ _ _ hc3) fun K hK => ?_; simp [hN']; refine hK _ ?_; clear hK
  refine wps_cons rfl fun K hK => ?_; simp [hN']; refine hK _ ?_; clear hK
  refine wps_nil (hK _ ?_); clear hK
  cases h
  refine SWp.ret ?_
  simp [thenS, inBlockS, res95]
end Go.Proofs.T
set_option linter.unusedVariables false
set_option linter.unusedSimpArgs false
set_option maxHeartbeats 1000000
namespace Go.Proofs.T
open Go.OM
theorem res136 : Tryz.f136.results.toList = [.tmp 2] := rfl
theorem ent136 : Enters E.P 136 := enters_of Tryz.func136 (by simp [Tryz.f136]) rfl
theorem impl_isStep_ok (kind1 : Int) {r0 : Bool} (h : impl_isStep kind1 = some r0) : Ok E 136 [.val (vi kind1)] [vb r0] [] := by
  refine ok_of_body (fn := Tryz.f136) Tryz.func136 rfl (by simp [Tryz.f136]) fun C hN hP => ?_
  have hPB : ∀ l, pinK [] l = true → pinB C.pin l = true := pinB_of (by rw [hP]; rfl)
  have hN' : C.N = 5 := hN
  clear hN
  unfold impl_isStep at h
  refine SWp.seqR rfl (hPB _ rfl) fun K hK => ?_
  refine wps_cons rfl fun K hK => ?_; simp [hN']; refine hK _ ?_; clear hK
  refine wps_nil (hK _ ?_); clear hK
  refine SWp.seqR rfl (hPB _ rfl) fun K hK => ?_
  refine wps_cons rfl fun K hK => ?_; simp [hN']; refine hK _ ?_; clear hK
  obtain ⟨r2, hc3, h⟩ := bind_some h
  refine wps_call [(.take, .tmp 3), (.take, .const (.int .i64 13)), (.take, .const (.int .i64 19))] rfl rfl ent52 (impl_in_ok _ _ _ hc3) fun K hK => ?_; simp [hN']; refine hK _ ?_; clear hK
  refine wps_cons rfl fun K hK => ?_; simp [hN']; refine hK _ ?_; clear hK
  refine wps_nil (hK _ ?_); clear hK
  cases h
  refine SWp.ret ?_
  simp [thenS, inBlockS, res136]
end Go.Proofs.T
set_option linter.unusedVariables false
set_option linter.unusedSimpArgs false
set_option maxHeartbeats 1000000
namespace Go.Proofs.T
open Go.OM
theorem res127 : Tryz.f127.results.toList = [.tmp 6] := rfl
theorem ent127 : Enters E.P 127 := enters_of Tryz.func127 (by simp [Tryz.f127]) rfl
theorem impl_kidFits_ok (kind1 : Int) (i2 : Int) (kid3 : Int) {r0 : Bool} (h : impl_kidFits kind1 i2 kid3 = some r0) : Ok E 127 [.val (vi kind1), .val (vi i2), .val (vi kid3)] [vb r0] [] := by
  refine ok_of_body (fn := Tryz.f127) Tryz.func127 rfl (by simp [Tryz.f127]) fun C hN hP => ?_
  have hPB : ∀ l, pinK [] l = true → pinB C.pin l = true := pinB_of (by rw [hP]; rfl)
  have hN' : C.N = 32 := hN
  clear hN
  unfold impl_kidFits at h
  refine SWp.seqR rfl (hPB _ rfl) fun K hK => ?_
  refine wps_cons rfl fun K hK => ?_; simp [hN']; refine hK _ ?_; clear hK
  refine wps_nil (hK _ ?_); clear hK
  refine SWp.seq ?_
  refine SWp.block ?_
  refine SWp.seqR rfl (hPB _ rfl) fun K hK => ?_
  iterate 3 (refine wps_cons rfl fun K hK => ?_; simp [hN']; refine hK _ ?_; clear hK)
  refine wps_nil (hK _ ?_); clear hK
  rcases ite_or h with ⟨hb4, h⟩ | ⟨hb5, h⟩
  · refine SWp.condT' (b := kind1 == 20) (by simp) hb4 ?_
    refine SWp.seqR rfl (hPB _ rfl) fun K hK => ?_
    refine wps_cons rfl fun K hK => ?_; simp [hN']; refine hK _ ?_; clear hK
    obtain ⟨r6, hc7, h⟩ := bind_some h
    refine wps_call [(.take, .tmp 10)] rfl rfl ent136 (impl_isStep_ok _ hc7) fun K hK => ?_; simp [hN']; refine hK _ ?_; clear hK
    refine wps_cons rfl fun K hK => ?_; simp [hN']; refine hK _ ?_; clear hK
    refine wps_nil (hK _ ?_); clear hK
    cases h
    refine SWp.ret ?_
    simp [thenS, inBlockS, res127]
  · refine SWp.condF' (b := kind1 == 20) (by simp) hb5 ?_
    obtain ⟨v14, hj8, h⟩ := bind_some h
    refine SWp.seqRC rfl (hPB _ rfl) [0, 2, 12] [] (fun _ : Unit => ⟨[(0, .t (vi kind1)), (2, .t (vi kid3)), (12, .t (vb v14))], []⟩) (fun _ => True) (fun _ _ => ?_) fun K9 hK9 => ?_
    rotate_left
    · refine wps_cons rfl fun K hK => ?_; simp [hN']; refine hK _ ?_; clear hK
      iterate 2 (refine wps_cons rfl fun K hK => ?_; simp [hN']; refine hK _ ?_; clear hK)
      rcases ite_or hj8 with ⟨hb10, hj8⟩ | ⟨hb11, hj8⟩
      · have hb10s := hb10
        try simp at hb10s
        iterate 2 (refine wps_off fun K hK => ?_; simp [hN', hb10, hb10s]; refine hK _ ?_; clear hK)
        iterate 6 (refine wps_cons rfl fun K hK => ?_; simp [hN', hb10, hb10s]; refine hK _ ?_; clear hK)
        refine wps_nil ?_
        cases hj8
        exact hK9 _ () [] trivial (by simp [hN', hb10, hb10s])
      · have hb11s := hb11
        try simp at hb11s
        iterate 4 (refine wps_cons rfl fun K hK => ?_; simp [hN', hb11, hb11s]; refine hK _ ?_; clear hK)
        rcases ite_or hj8 with ⟨hb12, hj8⟩ | ⟨hb13, hj8⟩
        · have hb12s := hb12
          try simp at hb12s
          iterate 4 (refine wps_cons rfl fun K hK => ?_; simp [hN', hb11, hb11s, hb12, hb12s]; refine hK _ ?_; clear hK)
          refine wps_nil ?_
          cases hj8
          exact hK9 _ () [] trivial (by simp [hN', hb11, hb11s, hb12, hb12s])
        · have hb13s := hb13
          try simp at hb13s
          iterate 2 (refine wps_off fun K hK => ?_; simp [hN', hb11, hb11s, hb13, hb13s]; refine hK _ ?_; clear hK)
          iterate 2 (refine wps_cons rfl fun K hK => ?_; simp [hN', hb11, hb11s, hb13, hb13s]; refine hK _ ?_; clear hK)
          refine wps_nil ?_
          cases hj8
          exact hK9 _ () [] trivial (by simp [hN', hb11, hb11s, hb13, hb13s])
    rcases ite_or h with ⟨hb15, h⟩ | ⟨hb16, h⟩
    · refine SWp.condT' (b := v14) (by simp) hb15 ?_
      refine SWp.seqR rfl (hPB _ rfl) fun K hK => ?_
      iterate 3 (refine wps_cons rfl fun K hK => ?_; simp [hN']; refine hK _ ?_; clear hK)
      refine wps_nil (hK _ ?_); clear hK
      cases h
      refine SWp.ret ?_
      simp [thenS, inBlockS, res127]
    · refine SWp.condF' (b := v14) (by simp) hb16 ?_
      refine SWp.seqR rfl (hPB _ rfl) fun K hK => ?_
      iterate 3 (refine wps_cons rfl fun K hK => ?_; simp [hN']; refine hK _ ?_; clear hK)
      refine wps_nil (hK _ ?_); clear hK
      rcases ite_or h with ⟨hb17, h⟩ | ⟨hb18, h⟩
      · refine SWp.condT' (b := kind1 == 19) (by simp) hb17 ?_
        refine SWp.seqR rfl (hPB _ rfl) fun K hK => ?_
        iterate 3 (refine wps_cons rfl fun K hK => ?_; simp [hN']; refine hK _ ?_; clear hK)
        refine wps_nil (hK _ ?_); clear hK
        cases h
        refine SWp.ret ?_
        simp [thenS, inBlockS, res127]
      · refine SWp.condF' (b := kind1 == 19) (by simp) hb18 ?_
        refine SWp.skip ?_
        show SWp E C _ _ _
        refine SWp.seqR rfl (hPB _ rfl) fun K hK => ?_
        refine wps_cons rfl fun K hK => ?_; simp [hN']; refine hK _ ?_; clear hK
        obtain ⟨r19, hc20, h⟩ := bind_some h
        refine wps_call [(.take, .tmp 30)] rfl rfl ent95 (impl_isValue_ok _ hc20) fun K hK => ?_; simp [hN']; refine hK _ ?_; clear hK
        refine wps_cons rfl fun K hK => ?_; simp [hN']; refine hK _ ?_; clear hK
        refine wps_nil (hK _ ?_); clear hK
        cases h
        refine SWp.ret ?_
        simp [thenS, inBlockS, res127]
end Go.Proofs.T
set_option linter.unusedVariables false
set_option linter.unusedSimpArgs false
set_option maxHeartbeats 1000000
namespace Go.Proofs.T
open Go.OM
theorem res128 : Tryz.f128.results.toList = [.tmp 2] := rfl
theorem ent128 : Enters E.P 128 := enters_of Tryz.func128 (by simp [Tryz.f128]) rfl
theorem impl_hasName_ok (kind1 : Int) {r0 : Bool} (h : impl_hasName kind1 = some r0) : Ok E 128 [.val (vi kind1)] [vb r0] [] := by
  refine ok_of_body (fn := Tryz.f128) Tryz.func128 rfl (by simp [Tryz.f128]) fun C hN hP => ?_
  have hPB : ∀ l, pinK [] l = true → pinB C.pin l = true := pinB_of (by rw [hP]; rfl)
  have hN' : C.N = 9 := hN
  clear hN
  unfold impl_hasName at h
  refine SWp.seqR rfl (hPB _ rfl) fun K hK => ?_
  refine wps_cons rfl fun K hK => ?_; simp [hN']; refine hK _ ?_; clear hK
  refine wps_nil (hK _ ?_); clear hK
  obtain ⟨v10, hj2, h⟩ := bind_some h
  refine SWp.seqRC rfl (hPB _ rfl) [2] [] (fun _ : Unit => ⟨[(2, .t (vb v10))], []⟩) (fun _ => True) (fun _ _ => ?_) fun K3 hK3 => ?_
  rotate_left
  · refine wps_cons rfl fun K hK => ?_; simp [hN']; refine hK _ ?_; clear hK
    obtain ⟨r4, hc5, hj2⟩ := bind_some hj2
    refine wps_call [(.take, .tmp 3), (.take, .const (.int .i64 2)), (.take, .const (.int .i64 6))] rfl rfl ent52 (impl_in_ok _ _ _ hc5) fun K hK => ?_; simp [hN']; refine hK _ ?_; clear hK
    refine wps_cons rfl fun K hK => ?_; simp [hN']; refine hK _ ?_; clear hK
    rcases ite_or hj2 with ⟨hb6, hj2⟩ | ⟨hb7, hj2⟩
    · have hb6s := hb6
      try simp at hb6s
      iterate 2 (refine wps_off fun K hK => ?_; simp [hN', hb6, hb6s]; refine hK _ ?_; clear hK)
      iterate 2 (refine wps_cons rfl fun K hK => ?_; simp [hN', hb6, hb6s]; refine hK _ ?_; clear hK)
      refine wps_nil ?_
      cases hj2
      exact hK3 _ () [] trivial (by simp [hN', hb6, hb6s])
    · have hb7s := hb7
      try simp at hb7s
      refine wps_cons rfl fun K hK => ?_; simp [hN', hb7, hb7s]; refine hK _ ?_; clear hK
      obtain ⟨r8, hc9, hj2⟩ := bind_some hj2
      refine wps_call [(.take, .tmp 6), (.take, .const (.int .i64 12)), (.take, .const (.int .i64 15))] rfl rfl ent52 (impl_in_ok _ _ _ hc9) fun K hK => ?_; simp [hN', hb7, hb7s]; refine hK _ ?_; clear hK
      iterate 2 (refine wps_cons rfl fun K hK => ?_; simp [hN', hb7, hb7s]; refine hK _ ?_; clear hK)
      refine wps_nil ?_
      cases hj2
      exact hK3 _ () [] trivial (by simp [hN', hb7, hb7s])
  cases h
  refine SWp.ret ?_
  simp [thenS, inBlockS, res128]
end Go.Proofs.T
set_option linter.unusedVariables false
set_option linter.unusedSimpArgs false
set_option maxHeartbeats 1000000
namespace Go.Proofs.T
open Go.OM
theorem res109 : Tryz.f109.results.toList = [.tmp 4] := rfl
theorem ent109 : Enters E.P 109 := enters_of Tryz.func109 (by simp [Tryz.f109]) rfl
theorem impl_NodeOk_ok (nodes1 : List GNode) (k2 : Int) {r0 : Bool} (h : impl_NodeOk nodes1 k2 = some r0) : Ok E 109 [.val (.sl false 4 (List.map (GNode.enc false) nodes1)), .val (vi k2)] [vb r0] [] := by
  refine ok_of_body (fn := Tryz.f109) Tryz.func109 rfl (by simp [Tryz.f109]) fun C hN hP => ?_
  have hPB : ∀ l, pinK [] l = true → pinB C.pin l = true := pinB_of (by rw [hP]; rfl)
  have hN' : C.N = 101 := hN
  clear hN
  unfold impl_NodeOk at h
  refine SWp.seqR rfl (hPB _ rfl) fun K hK => ?_
  refine wps_cons rfl fun K hK => ?_; simp [hN']; refine hK _ ?_; clear hK
  refine wps_nil (hK _ ?_); clear hK
  refine SWp.seq ?_
  refine SWp.seqR rfl (hPB _ rfl) fun K hK => ?_
  iterate 4 (refine wps_cons rfl fun K hK => ?_; simp [hN']; refine hK _ ?_; clear hK)
  obtain ⟨r3, hc4, h⟩ := bind_some h
  refine wps_call [(.take, .tmp 10), (.take, .const (.int .i64 0)), (.take, .tmp 13)] rfl rfl ent52 (impl_in_ok _ _ _ hc4) fun K hK => ?_; simp [hN']; refine hK _ ?_; clear hK
  refine wps_cons rfl fun K hK => ?_; simp [hN']; refine hK _ ?_; clear hK
  refine wps_nil (hK _ ?_); clear hK
  rcases ite_or h with ⟨hb5, h⟩ | ⟨hb6, h⟩
  · refine SWp.condT' (b := !r3) (by simp) hb5 ?_
    refine SWp.seqR rfl (hPB _ rfl) fun K hK => ?_
    refine wps_cons rfl fun K hK => ?_; simp [hN']; refine hK _ ?_; clear hK
    refine wps_nil (hK _ ?_); clear hK
    cases h
    refine SWp.ret ?_
    simp [thenS, inBlockS, res109]
  · refine SWp.condF' (b := !r3) (by simp) hb6 ?_
    refine SWp.skip ?_
    show SWp E C _ _ _
    refine SWp.seqR rfl (hPB _ rfl) fun K hK => ?_
    iterate 2 (refine wps_cons rfl fun K hK => ?_; simp [hN']; refine hK _ ?_; clear hK)
    obtain ⟨e7, he7, h⟩ := bind_some h
    obtain ⟨he7a, he7b, he7c, he7d⟩ := getI_some he7
    iterate 4 (refine wps_cons rfl fun K hK => ?_; simp [hN', he7a, he7b, he7c, he7d]; refine hK _ ?_; clear hK)
    refine wps_nil (hK _ ?_); clear hK
    refine SWp.seqR rfl (hPB _ rfl) fun K hK => ?_
    iterate 2 (refine wps_cons rfl fun K hK => ?_; simp [hN']; refine hK _ ?_; clear hK)
    obtain ⟨⟨r8, r9⟩, hc10, h⟩ := bind_some h
    try dsimp only at h
    refine wps_call [(.take, .tmp 22)] rfl rfl ent126 (impl_shape_ok _ hc10) fun K hK => ?_; simp [hN']; refine hK _ ?_; clear hK
    iterate 5 (refine wps_cons rfl fun K hK => ?_; simp [hN']; refine hK _ ?_; clear hK)
    refine wps_nil (hK _ ?_); clear hK
    refine SWp.seq ?_
    obtain ⟨v19, hj11, h⟩ := bind_some h
    refine SWp.seqRC rfl (hPB _ rfl) [0, 1, 5, 38] [5] (fun _ : Unit => ⟨[(0, .t (.sl false 4 (List.map (GNode.enc false) nodes1))), (1, .t (vi k2)), (5, .ref (.box 5) 0 []), (38, .t (vb v19))], [(5, [vi e7.Kind, vi e7.Num, vs e7.Name, .sl false 1 (List.map vi e7.Kids)])]⟩) (fun _ => True) (fun _ _ => ?_) fun K12 hK12 => ?_
    rotate_left
    · refine wps_cons rfl fun K hK => ?_; simp [hN']; refine hK _ ?_; clear hK
      refine wps_cons rfl fun K hK => ?_; simp [hN']; refine hK _ ?_; clear hK
      obtain ⟨r13, hc14, hj11⟩ := bind_some hj11
      refine wps_call [(.take, .tmp 27), (.take, .const (.int .i64 1)), (.take, .const (.int .i64 20))] rfl rfl ent52 (impl_in_ok _ _ _ hc14) fun K hK => ?_; simp [hN']; refine hK _ ?_; clear hK
      iterate 2 (refine wps_cons rfl fun K hK => ?_; simp [hN']; refine hK _ ?_; clear hK)
      rcases ite_or hj11 with ⟨hb15, hj11⟩ | ⟨hb16, hj11⟩
      · have hb15s := hb15
        try simp at hb15s
        iterate 7 (refine wps_off fun K hK => ?_; simp [hN', hb15, hb15s]; refine hK _ ?_; clear hK)
        refine wps_cons rfl fun K hK => ?_; simp [hN', hb15, hb15s]; refine hK _ ?_; clear hK
        refine wps_nil ?_
        cases hj11
        exact hK12 _ () [] trivial (by simp [hN', hb15, hb15s])
      · have hb16s := hb16
        try simp at hb16s
        iterate 5 (refine wps_cons rfl fun K hK => ?_; simp [hN', hb16, hb16s]; refine hK _ ?_; clear hK)
        obtain ⟨r17, hc18, hj11⟩ := bind_some hj11
        refine wps_call [(.take, .tmp 33), (.take, .tmp 34), (.take, .tmp 35)] rfl rfl ent52 (impl_in_ok _ _ _ hc18) fun K hK => ?_; simp [hN', hb16, hb16s]; refine hK _ ?_; clear hK
        iterate 2 (refine wps_cons rfl fun K hK => ?_; simp [hN', hb16, hb16s]; refine hK _ ?_; clear hK)
        refine wps_nil ?_
        cases hj11
        exact hK12 _ () [] trivial (by simp [hN', hb16, hb16s])
    rcases ite_or h with ⟨hb20, h⟩ | ⟨hb21, h⟩
    · refine SWp.condT' (b := v19) (by simp) hb20 ?_
      refine SWp.seqR rfl (hPB _ rfl) fun K hK => ?_
      refine wps_cons rfl fun K hK => ?_; simp [hN']; refine hK _ ?_; clear hK
      refine wps_nil (hK _ ?_); clear hK
      cases h
      refine SWp.ret ?_
      simp [thenS, inBlockS, res109]
    · refine SWp.condF' (b := v19) (by simp) hb21 ?_
      refine SWp.skip ?_
      show SWp E C _ _ _
      obtain ⟨j24, hj22, h⟩ := bind_some h
      refine SWp.seqC [5] [5] (fun v : Unit => ⟨[(5, .ref (.box 5) 0 [])], [(5, [vi e7.Kind, vi e7.Num, vs e7.Name, .sl false 1 (List.map vi e7.Kids)])]⟩) (fun v => j24 = Sum.inl v) (fun v hv => ?_) fun K23 hK23 => ?_
      rotate_left
      · refine SWp.seqR rfl (hPB _ rfl) fun K hK => ?_
        iterate 4 (refine wps_cons rfl fun K hK => ?_; simp [hN']; refine hK _ ?_; clear hK)
        refine wps_nil (hK _ ?_); clear hK
        refine SWp.block ?_
        refine SWp.loopO [] [0, 1, 5, 40, 41, 42] [5] (fun v : Int => ⟨[(0, .t (.sl false 4 (List.map (GNode.enc false) nodes1))), (1, .t (vi k2)), (5, .ref (.box 5) 0 []), (40, .t (.sl false 1 (List.map vi e7.Kids))), (41, .t (vi (e7.Kids.length : Int))), (42, .t (vi v))], [(5, [vi e7.Kind, vi e7.Num, vs e7.Name, .sl false 1 (List.map vi e7.Kids)])]⟩) (impl_NodeOk_l1 nodes1 k2 e7) _ 0 hj22 (by simp [hN']) ?_
        intro g s28 h26 ho27
        obtain ⟨v25, hg⟩ : ∃ y, y = g := ⟨_, rfl⟩
        subst hg
        simp only [impl_NodeOk_l1] at h26
        try dsimp only
        refine SWp.seqR rfl (hPB _ rfl) fun K hK => ?_
        refine wps_cons rfl fun K hK => ?_; simp [hN']; refine hK _ ?_; clear hK
        refine wps_nil (hK _ ?_); clear hK
        refine SWp.seq ?_
        rcases ite_or h26 with ⟨hb29, h26⟩ | ⟨hb30, h26⟩
        · refine SWp.condT' (b := decide (v25 < (e7.Kids.length : Int))) (by simp) hb29 ?_
          refine SWp.skip ?_
          show SWp E C _ _ _
          refine SWp.seq ?_
          refine SWp.block ?_
          refine SWp.seqR rfl (hPB _ rfl) fun K hK => ?_
          refine wps_cons rfl fun K hK => ?_; simp [hN']; refine hK _ ?_; clear hK
          obtain ⟨e31, he31, h26⟩ := bind_some h26
          obtain ⟨he31a, he31b, he31c, he31d⟩ := getI_some he31
          iterate 4 (refine wps_cons rfl fun K hK => ?_; simp [hN', he31a, he31b, he31c, he31d]; refine hK _ ?_; clear hK)
          refine wps_nil (hK _ ?_); clear hK
          obtain ⟨v46, hj32, h26⟩ := bind_some h26
          refine SWp.seqC [0, 1, 5, 40, 41, 42, 71] [5] (fun _ : Unit => ⟨[(0, .t (.sl false 4 (List.map (GNode.enc false) nodes1))), (1, .t (vi k2)), (5, .ref (.box 5) 0 []), (40, .t (.sl false 1 (List.map vi e7.Kids))), (41, .t (vi (e7.Kids.length : Int))), (42, .t (vi v25)), (71, .t (vb v46))], [(5, [vi e7.Kind, vi e7.Num, vs e7.Name, .sl false 1 (List.map vi e7.Kids)])]⟩) (fun _ => True) (fun _ _ => ?_) fun K33 hK33 => ?_
          rotate_left
          · obtain ⟨r34, hc35, hj32⟩ := bind_some hj32
            rcases ite_or hj32 with ⟨hb36, hj32⟩ | ⟨hb37, hj32⟩
            · have hb36s := hb36
              try simp at hb36s
              refine SWp.drawT rfl (hPB _ rfl) [(47, .t (vi e31)), (48, .t (vi k2)), (49, .t (vi (IntKind.wrap .i64 (k2 - 1)))), (50, .t (vb r34)), (51, .t (vb (!r34))), (52, .t (vb (!r34))), (53, .tup []), (54, .tup []), (55, .tup []), (56, .tup []), (57, .tup []), (58, .tup []), (59, .t (vb true)), (60, .t (vb true)), (61, .tup []), (62, .tup []), (63, .tup []), (64, .tup []), (65, .tup []), (66, .tup []), (67, .tup []), (68, .tup [])] [[], [], [1], [0, 1, 2], [0, 1, 2, 3], [0, 1, 2, 3, 4], [0, 1, 2, 3, 4, 5], [0, 1, 2, 3, 4, 5, 6], [0, 1, 2, 3, 4, 5], [0, 1, 2, 3, 4, 5, 6, 7, 8], [0, 1, 2, 3, 4, 5], [0, 1, 2, 3, 4, 5, 6, 7, 8, 9, 10], [0, 1, 2, 3, 4, 5, 6, 7, 8, 9, 10, 11], [0, 1, 2, 3, 4, 5, 6, 7, 8, 9, 10, 11, 12], [0, 1, 2, 3, 4, 5, 6, 7, 8, 9, 10, 11, 12, 13], [0, 1, 2, 3, 4, 5, 6, 7, 8, 9, 10, 11, 12, 13, 14], [0, 1, 2, 3, 4, 5, 6, 7, 8, 9, 10, 11, 12, 13], [0, 1, 2, 3, 4, 5, 6, 7, 8, 9, 10, 11, 12, 13], [0, 1, 2, 3, 4, 5, 6, 7, 8, 9, 10, 11, 12, 13], [0, 1, 2, 3, 4, 5, 6, 7, 8, 9, 10, 11, 12, 13, 17, 18], [0, 1, 2, 3, 4, 5, 6, 7, 8, 9, 10, 11, 12, 13, 17, 18, 19], [0, 1, 2, 3, 4, 5, 6, 7, 8, 9, 10, 11, 12, 13, 17, 18, 19, 20], [0, 1, 2, 3, 4, 5, 6, 7, 8, 9, 10, 11, 12, 13, 14, 15, 16, 17, 18, 19, 20, 21], [0, 1, 2, 3, 4, 5, 6, 7, 8, 9, 10, 11, 12, 13, 14, 15, 16, 17, 18, 19, 20, 21, 22], [0, 1, 2, 3, 4, 5, 6, 7, 8, 9, 10, 11, 12, 13, 14, 15, 16, 17, 18, 19, 20, 21, 22, 23]] (by simp) (by simp) (by simp [look]) rfl rfl rfl ?_ fun K hK => ?_
              · refine ⟨?_, ?_, ?_, ?_, ?_, ?_, ?_, ?_, ?_, ?_, ?_, ?_, ?_, ?_, ?_, ?_, ?_, ?_, ?_, ?_, ?_, ?_, trivial⟩
                all_goals (intro τ hbx hb hd hf K hK; try simp [vsAt] at hd; simp [vsAt] at hf; first | (refine wps_cons rfl fun K' hK' => ?_; simp [hN', hbx, hb, hd, hf, hb36, hb36s]; exact hK' _ (wps_nil (hK _ (by simp [vsAt, hbx, hb36, hb36s])))) | (refine wps_call [(.take, .tmp 47), (.take, .const (.int .i64 0)), (.take, .tmp 49)] rfl rfl ent52 (impl_in_ok _ _ _ hc35) fun K' hK' => ?_; simp [hN', hbx, hb, hd, hf, hb36, hb36s]; exact hK' _ (wps_nil (hK _ (by simp [vsAt, hbx, hb36, hb36s])))) | (refine wps_off fun K' hK' => ?_; simp [hN', hbx, hb, hd, hf, hb36, hb36s]; exact hK' _ (wps_nil (hK _ (by simp [vsAt, hbx, hb36, hb36s])))))
              iterate 2 (refine wps_off fun K hK => ?_; simp [hN', hb36, hb36s]; refine hK _ ?_; clear hK)
              refine wps_cons rfl fun K hK => ?_; simp [hN', hb36, hb36s]; refine hK _ ?_; clear hK
              refine wps_nil (hK _ ?_); clear hK
              cases hj32
              exact hK33 _ () [] trivial (by simp [hN', hb36, hb36s])
            · have hb37s := hb37
              try simp at hb37s
              obtain ⟨l38, hl38, hj32⟩ := bind_some hj32
              obtain ⟨hl38a, hl38b, hl38c, hl38d, hl38e, hl38g, hl38i, hl38j⟩ := subI_some hl38
              have hl38f : (List.map vi e7.Kids).take v25.toNat = List.map vi l38 := by subst hl38e; simp
              have hl38m := hl38f; try simp at hl38m
              have hl38k : 0 ≤ e7.Kids.length := by omega
              obtain ⟨r39, hc40, hj32⟩ := bind_some hj32
              rcases ite_or hj32 with ⟨hb41, hj32⟩ | ⟨hb42, hj32⟩
              · have hb41s := hb41
                try simp at hb41s
                refine SWp.drawT rfl (hPB _ rfl) [(47, .t (vi e31)), (48, .t (vi k2)), (49, .t (vi (IntKind.wrap .i64 (k2 - 1)))), (50, .t (vb r34)), (51, .t (vb (!r34))), (52, .t (vb (!r34))), (53, .ref (.box 5) 3 []), (54, .t (.sl false 1 (List.map vi e7.Kids))), (55, .t (vi v25)), (56, .t (.sl false 1 (List.map vi l38))), (57, .t (vi e31)), (58, .t (vb r39)), (59, .t (vb r39)), (60, .t (vb r39)), (61, .tup []), (62, .tup []), (63, .tup []), (64, .tup []), (65, .tup []), (66, .tup []), (67, .tup []), (68, .tup [])] [[], [], [1], [0, 1, 2], [0, 1, 2, 3], [0, 1, 2, 3, 4], [0, 1, 2, 3, 4, 5], [0, 1, 2, 3, 4, 5, 6], [0, 1, 2, 3, 4, 5], [0, 1, 2, 3, 4, 5, 6, 7, 8], [0, 1, 2, 3, 4, 5], [0, 1, 2, 3, 4, 5, 6, 7, 8, 9, 10], [0, 1, 2, 3, 4, 5, 6, 7, 8, 9, 10, 11], [0, 1, 2, 3, 4, 5, 6, 7, 8, 9, 10, 11, 12], [0, 1, 2, 3, 4, 5, 6, 7, 8, 9, 10, 11, 12, 13], [0, 1, 2, 3, 4, 5, 6, 7, 8, 9, 10, 11, 12, 13, 14], [0, 1, 2, 3, 4, 5, 6, 7, 8, 9, 10, 11, 12, 13], [0, 1, 2, 3, 4, 5, 6, 7, 8, 9, 10, 11, 12, 13], [0, 1, 2, 3, 4, 5, 6, 7, 8, 9, 10, 11, 12, 13], [0, 1, 2, 3, 4, 5, 6, 7, 8, 9, 10, 11, 12, 13, 17, 18], [0, 1, 2, 3, 4, 5, 6, 7, 8, 9, 10, 11, 12, 13, 17, 18, 19], [0, 1, 2, 3, 4, 5, 6, 7, 8, 9, 10, 11, 12, 13, 17, 18, 19, 20], [0, 1, 2, 3, 4, 5, 6, 7, 8, 9, 10, 11, 12, 13, 14, 15, 16, 17, 18, 19, 20, 21], [0, 1, 2, 3, 4, 5, 6, 7, 8, 9, 10, 11, 12, 13, 14, 15, 16, 17, 18, 19, 20, 21, 22], [0, 1, 2, 3, 4, 5, 6, 7, 8, 9, 10, 11, 12, 13, 14, 15, 16, 17, 18, 19, 20, 21, 22, 23]] (by simp) (by simp) (by simp [look]) rfl rfl rfl ?_ fun K hK => ?_
                · refine ⟨?_, ?_, ?_, ?_, ?_, ?_, ?_, ?_, ?_, ?_, ?_, ?_, ?_, ?_, ?_, ?_, ?_, ?_, ?_, ?_, ?_, ?_, trivial⟩
                  all_goals (intro τ hbx hb hd hf K hK; try simp [vsAt] at hd; simp [vsAt] at hf; first | (refine wps_cons rfl fun K' hK' => ?_; simp [hN', hbx, hb, hd, hf, hb37, hb37s, hl38a, hl38b, hl38c, hl38d, hl38f, hl38g, hl38i, hl38j, hl38m, hl38k, hb41, hb41s]; exact hK' _ (wps_nil (hK _ (by simp [vsAt, hbx, hb37, hb37s, hl38a, hl38b, hl38c, hl38d, hl38f, hl38g, hl38i, hl38j, hl38m, hl38k, hb41, hb41s])))) | (refine wps_call [(.take, .tmp 47), (.take, .const (.int .i64 0)), (.take, .tmp 49)] rfl rfl ent52 (impl_in_ok _ _ _ hc35) fun K' hK' => ?_; simp [hN', hbx, hb, hd, hf, hb37, hb37s, hl38a, hl38b, hl38c, hl38d, hl38f, hl38g, hl38i, hl38j, hl38m, hl38k, hb41, hb41s]; exact hK' _ (wps_nil (hK _ (by simp [vsAt, hbx, hb37, hb37s, hl38a, hl38b, hl38c, hl38d, hl38f, hl38g, hl38i, hl38j, hl38m, hl38k, hb41, hb41s])))) | (refine wps_call [(.take, .tmp 56), (.take, .tmp 57)] rfl rfl ent49 (impl_hasInt_ok _ _ hc40) fun K' hK' => ?_; simp [hN', hbx, hb, hd, hf, hb37, hb37s, hl38a, hl38b, hl38c, hl38d, hl38f, hl38g, hl38i, hl38j, hl38m, hl38k, hb41, hb41s]; exact hK' _ (wps_nil (hK _ (by simp [vsAt, hbx, hb37, hb37s, hl38a, hl38b, hl38c, hl38d, hl38f, hl38g, hl38i, hl38j, hl38m, hl38k, hb41, hb41s])))) | (refine wps_off fun K' hK' => ?_; simp [hN', hbx, hb, hd, hf, hb37, hb37s, hl38a, hl38b, hl38c, hl38d, hl38f, hl38g, hl38i, hl38j, hl38m, hl38k, hb41, hb41s]; exact hK' _ (wps_nil (hK _ (by simp [vsAt, hbx, hb37, hb37s, hl38a, hl38b, hl38c, hl38d, hl38f, hl38g, hl38i, hl38j, hl38m, hl38k, hb41, hb41s])))))
                iterate 2 (refine wps_off fun K hK => ?_; simp [hN', hb37, hb37s, hl38a, hl38b, hl38c, hl38d, hl38f, hl38g, hl38i, hl38j, hl38m, hl38k, hb41, hb41s]; refine hK _ ?_; clear hK)
                refine wps_cons rfl fun K hK => ?_; simp [hN', hb37, hb37s, hl38a, hl38b, hl38c, hl38d, hl38f, hl38g, hl38i, hl38j, hl38m, hl38k, hb41, hb41s]; refine hK _ ?_; clear hK
                refine wps_nil (hK _ ?_); clear hK
                cases hj32
                exact hK33 _ () [] trivial (by simp [hN', hb37, hb37s, hl38a, hl38b, hl38c, hl38d, hl38f, hl38g, hl38i, hl38j, hl38m, hl38k, hb41, hb41s])
              · have hb42s := hb42
                try simp at hb42s
                obtain ⟨e43, he43, hj32⟩ := bind_some hj32
                obtain ⟨he43a, he43b, he43c, he43d⟩ := getI_some he43
                refine SWp.drawT rfl (hPB _ rfl) [(47, .t (vi e31)), (48, .t (vi k2)), (49, .t (vi (IntKind.wrap .i64 (k2 - 1)))), (50, .t (vb r34)), (51, .t (vb (!r34))), (52, .t (vb (!r34))), (53, .ref (.box 5) 3 []), (54, .t (.sl false 1 (List.map vi e7.Kids))), (55, .t (vi v25)), (56, .t (.sl false 1 (List.map vi l38))), (57, .t (vi e31)), (58, .t (vb r39)), (59, .t (vb r39)), (60, .t (vb r39)), (61, .ref (.box 5) 0 []), (62, .t (vi e7.Kind)), (63, .t (vi v25)), (64, .t (.sl false 4 (List.map (GNode.enc false) nodes1))), (65, .t (vi e31)), (66, .rop [vi e43.Kind, vi e43.Num, vs e43.Name, .sl false 1 (List.map vi e43.Kids)] 0), (67, .rop [vi e43.Kind, vi e43.Num, vs e43.Name, .sl false 1 (List.map vi e43.Kids)] 0), (68, .t (vi e43.Kind))] [[], [], [1], [0, 1, 2], [0, 1, 2, 3], [0, 1, 2, 3, 4], [0, 1, 2, 3, 4, 5], [0, 1, 2, 3, 4, 5, 6], [0, 1, 2, 3, 4, 5], [0, 1, 2, 3, 4, 5, 6, 7, 8], [0, 1, 2, 3, 4, 5], [0, 1, 2, 3, 4, 5, 6, 7, 8, 9, 10], [0, 1, 2, 3, 4, 5, 6, 7, 8, 9, 10, 11], [0, 1, 2, 3, 4, 5, 6, 7, 8, 9, 10, 11, 12], [0, 1, 2, 3, 4, 5, 6, 7, 8, 9, 10, 11, 12, 13], [0, 1, 2, 3, 4, 5, 6, 7, 8, 9, 10, 11, 12, 13, 14], [0, 1, 2, 3, 4, 5, 6, 7, 8, 9, 10, 11, 12, 13], [0, 1, 2, 3, 4, 5, 6, 7, 8, 9, 10, 11, 12, 13], [0, 1, 2, 3, 4, 5, 6, 7, 8, 9, 10, 11, 12, 13], [0, 1, 2, 3, 4, 5, 6, 7, 8, 9, 10, 11, 12, 13, 17, 18], [0, 1, 2, 3, 4, 5, 6, 7, 8, 9, 10, 11, 12, 13, 17, 18, 19], [0, 1, 2, 3, 4, 5, 6, 7, 8, 9, 10, 11, 12, 13, 17, 18, 19, 20], [0, 1, 2, 3, 4, 5, 6, 7, 8, 9, 10, 11, 12, 13, 14, 15, 16, 17, 18, 19, 20, 21], [0, 1, 2, 3, 4, 5, 6, 7, 8, 9, 10, 11, 12, 13, 14, 15, 16, 17, 18, 19, 20, 21, 22], [0, 1, 2, 3, 4, 5, 6, 7, 8, 9, 10, 11, 12, 13, 14, 15, 16, 17, 18, 19, 20, 21, 22, 23]] (by simp) (by simp) (by simp [look]) rfl rfl rfl ?_ fun K hK => ?_
                · refine ⟨?_, ?_, ?_, ?_, ?_, ?_, ?_, ?_, ?_, ?_, ?_, ?_, ?_, ?_, ?_, ?_, ?_, ?_, ?_, ?_, ?_, ?_, trivial⟩
                  all_goals (intro τ hbx hb hd hf K hK; try simp [vsAt] at hd; simp [vsAt] at hf; first | (refine wps_cons rfl fun K' hK' => ?_; simp [hN', hbx, hb, hd, hf, hb37, hb37s, hl38a, hl38b, hl38c, hl38d, hl38f, hl38g, hl38i, hl38j, hl38m, hl38k, hb42, hb42s, he43a, he43b, he43c, he43d]; exact hK' _ (wps_nil (hK _ (by simp [vsAt, hbx, hb37, hb37s, hl38a, hl38b, hl38c, hl38d, hl38f, hl38g, hl38i, hl38j, hl38m, hl38k, hb42, hb42s, he43a, he43b, he43c, he43d])))) | (refine wps_call [(.take, .tmp 47), (.take, .const (.int .i64 0)), (.take, .tmp 49)] rfl rfl ent52 (impl_in_ok _ _ _ hc35) fun K' hK' => ?_; simp [hN', hbx, hb, hd, hf, hb37, hb37s, hl38a, hl38b, hl38c, hl38d, hl38f, hl38g, hl38i, hl38j, hl38m, hl38k, hb42, hb42s, he43a, he43b, he43c, he43d]; exact hK' _ (wps_nil (hK _ (by simp [vsAt, hbx, hb37, hb37s, hl38a, hl38b, hl38c, hl38d, hl38f, hl38g, hl38i, hl38j, hl38m, hl38k, hb42, hb42s, he43a, he43b, he43c, he43d])))) | (refine wps_call [(.take, .tmp 56), (.take, .tmp 57)] rfl rfl ent49 (impl_hasInt_ok _ _ hc40) fun K' hK' => ?_; simp [hN', hbx, hb, hd, hf, hb37, hb37s, hl38a, hl38b, hl38c, hl38d, hl38f, hl38g, hl38i, hl38j, hl38m, hl38k, hb42, hb42s, he43a, he43b, he43c, he43d]; exact hK' _ (wps_nil (hK _ (by simp [vsAt, hbx, hb37, hb37s, hl38a, hl38b, hl38c, hl38d, hl38f, hl38g, hl38i, hl38j, hl38m, hl38k, hb42, hb42s, he43a, he43b, he43c, he43d])))))
                obtain ⟨r44, hc45, hj32⟩ := bind_some hj32
                refine wps_call [(.take, .tmp 62), (.take, .tmp 63), (.take, .tmp 68)] rfl rfl ent127 (impl_kidFits_ok _ _ _ hc45) fun K hK => ?_; simp [hN', hb37, hb37s, hl38a, hl38b, hl38c, hl38d, hl38f, hl38g, hl38i, hl38j, hl38m, hl38k, hb42, hb42s, he43a, he43b, he43c, he43d]; refine hK _ ?_; clear hK
                iterate 2 (refine wps_cons rfl fun K hK => ?_; simp [hN', hb37, hb37s, hl38a, hl38b, hl38c, hl38d, hl38f, hl38g, hl38i, hl38j, hl38m, hl38k, hb42, hb42s, he43a, he43b, he43c, he43d]; refine hK _ ?_; clear hK)
                refine wps_nil (hK _ ?_); clear hK
                cases hj32
                exact hK33 _ () [] trivial (by simp [hN', hb37, hb37s, hl38a, hl38b, hl38c, hl38d, hl38f, hl38g, hl38i, hl38j, hl38m, hl38k, hb42, hb42s, he43a, he43b, he43c, he43d])
          rcases ite_or h26 with ⟨hb47, h26⟩ | ⟨hb48, h26⟩
          · refine SWp.condT' (b := v46) (by simp) hb47 ?_
            refine SWp.seqR rfl (hPB _ rfl) fun K hK => ?_
            refine wps_cons rfl fun K hK => ?_; simp [hN']; refine hK _ ?_; clear hK
            refine wps_nil (hK _ ?_); clear hK
            have h49 := congrArg some (ho27 _ (Option.some.inj h26).symm)
            cases h49
            try dsimp only at h
            cases h
            refine SWp.ret ?_
            simp [thenS, inBlockS, res109]
          · refine SWp.condF' (b := v46) (by simp) hb48 ?_
            refine SWp.skip ?_
            show SWp E C _ _ _
            refine SWp.reg rfl (hPB _ rfl) fun K hK => ?_
            iterate 2 (refine wps_cons rfl fun K hK => ?_; simp [hN']; refine hK _ ?_; clear hK)
            refine wps_nil (hK _ ?_); clear hK
            cases h26
            exact ⟨_, [], rfl, by simp [hN']⟩
        · refine SWp.condF' (b := decide (v25 < (e7.Kids.length : Int))) (by simp) hb30 ?_
          refine SWp.exit ?_
          have h50 := congrArg some (ho27 _ (Option.some.inj h26).symm)
          cases h50
          exact hK23 _ _ [] rfl (by simp [hN'])
      subst hv
      obtain ⟨⟩ := v
      try dsimp only at h ⊢
      refine SWp.seq ?_
      obtain ⟨v61, hj51, h⟩ := bind_some h
      refine SWp.seqRC rfl (hPB _ rfl) [5, 91] [5] (fun _ : Unit => ⟨[(5, .ref (.box 5) 0 []), (91, .t (vb v61))], [(5, [vi e7.Kind, vi e7.Num, vs e7.Name, .sl false 1 (List.map vi e7.Kids)])]⟩) (fun _ => True) (fun _ _ => ?_) fun K52 hK52 => ?_
      rotate_left
      · refine wps_cons rfl fun K hK => ?_; simp [hN']; refine hK _ ?_; clear hK
        iterate 3 (refine wps_cons rfl fun K hK => ?_; simp [hN']; refine hK _ ?_; clear hK)
        rcases ite_or hj51 with ⟨hb53, hj51⟩ | ⟨hb54, hj51⟩
        · have hb53s := hb53
          try simp at hb53s
          iterate 2 (refine wps_cons rfl fun K hK => ?_; simp [hN', hb53, hb53s]; refine hK _ ?_; clear hK)
          obtain ⟨r55, hc56, hj51⟩ := bind_some hj51
          refine wps_call [(.take, .tmp 78), (.take, .const (.int .i64 0)), (.take, .const (.int .i64 1000000000))] rfl rfl ent52 (impl_in_ok _ _ _ hc56) fun K hK => ?_; simp [hN', hb53, hb53s]; refine hK _ ?_; clear hK
          iterate 3 (refine wps_cons rfl fun K hK => ?_; simp [hN', hb53, hb53s]; refine hK _ ?_; clear hK)
          rcases ite_or hj51 with ⟨hb57, hj51⟩ | ⟨hb58, hj51⟩
          · have hb57s := hb57
            try simp at hb57s
            iterate 8 (refine wps_off fun K hK => ?_; simp [hN', hb53, hb53s, hb57, hb57s]; refine hK _ ?_; clear hK)
            refine wps_cons rfl fun K hK => ?_; simp [hN', hb53, hb53s, hb57, hb57s]; refine hK _ ?_; clear hK
            refine wps_nil ?_
            cases hj51
            exact hK52 _ () [] trivial (by simp [hN', hb53, hb53s, hb57, hb57s])
          · have hb58s := hb58
            try simp at hb58s
            iterate 4 (refine wps_cons rfl fun K hK => ?_; simp [hN', hb53, hb53s, hb58, hb58s]; refine hK _ ?_; clear hK)
            have hk59 : (e7.Kind != 1) = false := by simp [hb53, hb53s, hb58, hb58s]
            iterate 3 (refine wps_off fun K hK => ?_; simp [hN', hb53, hb53s, hb58, hb58s, hk59]; refine hK _ ?_; clear hK)
            iterate 2 (refine wps_cons rfl fun K hK => ?_; simp [hN', hb53, hb53s, hb58, hb58s, hk59]; refine hK _ ?_; clear hK)
            refine wps_nil ?_
            cases hj51
            exact hK52 _ () [] trivial (by simp [hN', hb53, hb53s, hb58, hb58s, hk59])
        · have hb54s := hb54
          try simp at hb54s
          iterate 4 (refine wps_off fun K hK => ?_; simp [hN', hb54, hb54s]; refine hK _ ?_; clear hK)
          iterate 6 (refine wps_cons rfl fun K hK => ?_; simp [hN', hb54, hb54s]; refine hK _ ?_; clear hK)
          have hk60 : (e7.Kind != 1) = true := by simp [hb54, hb54s]
          iterate 5 (refine wps_cons rfl fun K hK => ?_; simp [hN', hb54, hb54s, hk60]; refine hK _ ?_; clear hK)
          refine wps_nil ?_
          cases hj51
          exact hK52 _ () [] trivial (by simp [hN', hb54, hb54s, hk60])
      rcases ite_or h with ⟨hb62, h⟩ | ⟨hb63, h⟩
      · refine SWp.condT' (b := v61) (by simp) hb62 ?_
        refine SWp.seqR rfl (hPB _ rfl) fun K hK => ?_
        refine wps_cons rfl fun K hK => ?_; simp [hN']; refine hK _ ?_; clear hK
        refine wps_nil (hK _ ?_); clear hK
        cases h
        refine SWp.ret ?_
        simp [thenS, inBlockS, res109]
      · refine SWp.condF' (b := v61) (by simp) hb63 ?_
        refine SWp.skip ?_
        show SWp E C _ _ _
        refine SWp.seq ?_
        refine SWp.seqR rfl (hPB _ rfl) fun K hK => ?_
        iterate 2 (refine wps_cons rfl fun K hK => ?_; simp [hN']; refine hK _ ?_; clear hK)
        obtain ⟨r64, hc65, h⟩ := bind_some h
        refine wps_call [(.take, .tmp 93)] rfl rfl ent128 (impl_hasName_ok _ hc65) fun K hK => ?_; simp [hN']; refine hK _ ?_; clear hK
        refine wps_nil (hK _ ?_); clear hK
        rcases ite_or h with ⟨hb66, h⟩ | ⟨hb67, h⟩
        · refine SWp.condT' (b := r64) (by simp) hb66 ?_
          refine SWp.seqR rfl (hPB _ rfl) fun K hK => ?_
          iterate 2 (refine wps_cons rfl fun K hK => ?_; simp [hN']; refine hK _ ?_; clear hK)
          obtain ⟨r68, hc69, h⟩ := bind_some h
          refine wps_call [(.take, .tmp 96)] rfl rfl ent94 (impl_NameOk_ok _ hc69) fun K hK => ?_; simp [hN']; refine hK _ ?_; clear hK
          refine wps_cons rfl fun K hK => ?_; simp [hN']; refine hK _ ?_; clear hK
          refine wps_nil (hK _ ?_); clear hK
          cases h
          refine SWp.ret ?_
          simp [thenS, inBlockS, res109]
        · refine SWp.condF' (b := r64) (by simp) hb67 ?_
          refine SWp.skip ?_
          show SWp E C _ _ _
          refine SWp.seqR rfl (hPB _ rfl) fun K hK => ?_
          iterate 4 (refine wps_cons rfl fun K hK => ?_; simp [hN']; refine hK _ ?_; clear hK)
          refine wps_nil (hK _ ?_); clear hK
          cases h
          refine SWp.ret ?_
          simp [thenS, inBlockS, res109]
end Go.Proofs.T
set_option linter.unusedVariables false
set_option linter.unusedSimpArgs false
set_option maxHeartbeats 1000000
namespace Go.Proofs.T
open Go.OM
theorem res93 : Tryz.f93.results.toList = [.tmp 4, .tmp 5] := rfl
theorem ent93 : Enters E.P 93 := enters_of Tryz.func93 (by simp [Tryz.f93]) rfl
theorem impl_depths_ok (nodes1 : List GNode) (k2 : Int) {r0 : List Int} {r1 : Bool} (h : impl_depths nodes1 k2 = some (r0, r1)) : Ok E 93 [.val (.sl false 4 (List.map (GNode.enc false) nodes1)), .val (vi k2)] [.sl true 1 (List.map vi r0), vb r1] [] := by
  refine ok_of_body (fn := Tryz.f93) Tryz.func93 rfl (by simp [Tryz.f93]) fun C hN hP => ?_
  have hPB : ∀ l, pinK [] l = true → pinB C.pin l = true := pinB_of (by rw [hP]; rfl)
  have hN' : C.N = 51 := hN
  clear hN
  unfold impl_depths at h
  refine SWp.seqR rfl (hPB _ rfl) fun K hK => ?_
  iterate 2 (refine wps_cons rfl fun K hK => ?_; simp [hN']; refine hK _ ?_; clear hK)
  refine wps_nil (hK _ ?_); clear hK
  refine SWp.seq ?_
  refine SWp.seqR rfl (hPB _ rfl) fun K hK => ?_
  iterate 4 (refine wps_cons rfl fun K hK => ?_; simp [hN']; refine hK _ ?_; clear hK)
  obtain ⟨r3, hc4, h⟩ := bind_some h
  refine wps_call [(.take, .tmp 11), (.take, .const (.int .i64 0)), (.take, .tmp 14)] rfl rfl ent52 (impl_in_ok _ _ _ hc4) fun K hK => ?_; simp [hN']; refine hK _ ?_; clear hK
  refine wps_cons rfl fun K hK => ?_; simp [hN']; refine hK _ ?_; clear hK
  refine wps_nil (hK _ ?_); clear hK
  rcases ite_or h with ⟨hb5, h⟩ | ⟨hb6, h⟩
  · refine SWp.condT' (b := !r3) (by simp) hb5 ?_
    refine SWp.seqR rfl (hPB _ rfl) fun K hK => ?_
    iterate 2 (refine wps_cons rfl fun K hK => ?_; simp [hN']; refine hK _ ?_; clear hK)
    refine wps_nil (hK _ ?_); clear hK
    cases h
    refine SWp.ret ?_
    simp [thenS, inBlockS, res93]
  · refine SWp.condF' (b := !r3) (by simp) hb6 ?_
    refine SWp.skip ?_
    show SWp E C _ _ _
    refine SWp.seqR rfl (hPB _ rfl) fun K hK => ?_
    refine wps_cons rfl fun K hK => ?_; simp [hN']; refine hK _ ?_; clear hK
    refine wps_nil (hK _ ?_); clear hK
    obtain ⟨j9, hj7, h⟩ := bind_some h
    refine SWp.seqC [6] [] (fun v : List Int => ⟨[(6, .t (.sl true 1 (List.map vi v)))], []⟩) (fun v => j9 = Sum.inl v) (fun v hv => ?_) fun K8 hK8 => ?_
    rotate_left
    · refine SWp.seqR rfl (hPB _ rfl) fun K hK => ?_
      refine wps_cons rfl fun K hK => ?_; simp [hN']; refine hK _ ?_; clear hK
      refine wps_nil (hK _ ?_); clear hK
      refine SWp.block ?_
      refine SWp.loopO [] [0, 1, 6, 7] [] (fun v : (List Int) × Int => ⟨[(0, .t (.sl false 4 (List.map (GNode.enc false) nodes1))), (1, .t (vi k2)), (6, .t (.sl true 1 (List.map vi v.1))), (7, .t (vi v.2))], []⟩) (impl_depths_l1 nodes1 k2) _ ([], 0) hj7 (by simp [hN']) ?_
      intro g s14 h12 ho13
      obtain ⟨out10, i11⟩ := g
      simp only [impl_depths_l1] at h12
      try dsimp only
      refine SWp.seq ?_
      refine SWp.seqR rfl (hPB _ rfl) fun K hK => ?_
      iterate 3 (refine wps_cons rfl fun K hK => ?_; simp [hN']; refine hK _ ?_; clear hK)
      refine wps_nil (hK _ ?_); clear hK
      rcases ite_or h12 with ⟨hb15, h12⟩ | ⟨hb16, h12⟩
      · refine SWp.condT' (b := decide (i11 ≤ k2)) (by simp) hb15 ?_
        refine SWp.skip ?_
        show SWp E C _ _ _
        obtain ⟨j19, hj17, h12⟩ := bind_some h12
        refine SWp.seqC [0, 1, 6, 7] [] (fun v : List Int => ⟨[(0, .t (.sl false 4 (List.map (GNode.enc false) nodes1))), (1, .t (vi k2)), (6, .t (.sl true 1 (List.map vi v))), (7, .t (vi i11))], []⟩) (fun v => j19 = Sum.inl v) (fun v hv => ?_) fun K18 hK18 => ?_
        rotate_left
        · refine SWp.block ?_
          refine SWp.seq ?_
          refine SWp.seqR rfl (hPB _ rfl) fun K hK => ?_
          iterate 2 (refine wps_cons rfl fun K hK => ?_; simp [hN']; refine hK _ ?_; clear hK)
          obtain ⟨r20, hc21, hj17⟩ := bind_some hj17
          refine wps_call [(.take, .tmp 22), (.take, .tmp 23)] rfl rfl ent109 (impl_NodeOk_ok _ _ hc21) fun K hK => ?_; simp [hN']; refine hK _ ?_; clear hK
          refine wps_cons rfl fun K hK => ?_; simp [hN']; refine hK _ ?_; clear hK
          refine wps_nil (hK _ ?_); clear hK
          rcases ite_or hj17 with ⟨hb22, hj17⟩ | ⟨hb23, hj17⟩
          · refine SWp.condT' (b := !r20) (by simp) hb22 ?_
            refine SWp.seqR rfl (hPB _ rfl) fun K hK => ?_
            iterate 2 (refine wps_cons rfl fun K hK => ?_; simp [hN']; refine hK _ ?_; clear hK)
            refine wps_nil (hK _ ?_); clear hK
            cases hj17
            try dsimp only at h12
            have h24 := congrArg some (ho13 _ (Option.some.inj h12).symm)
            cases h24
            try dsimp only at h
            cases h
            refine SWp.ret ?_
            simp [thenS, inBlockS, res93]
          · refine SWp.condF' (b := !r20) (by simp) hb23 ?_
            refine SWp.skip ?_
            show SWp E C _ _ _
            refine SWp.seqR rfl (hPB _ rfl) fun K hK => ?_
            refine wps_cons rfl fun K hK => ?_; simp [hN']; refine hK _ ?_; clear hK
            refine wps_nil (hK _ ?_); clear hK
            obtain ⟨d39, hj25, hj17⟩ := bind_some hj17
            refine SWp.seqC [0, 1, 6, 7, 8] [] (fun _ : Unit => ⟨[(0, .t (.sl false 4 (List.map (GNode.enc false) nodes1))), (1, .t (vi k2)), (6, .t (.sl true 1 (List.map vi out10))), (7, .t (vi i11)), (8, .t (vi d39))], []⟩) (fun _ => True) (fun _ _ => ?_) fun K26 hK26 => ?_
            rotate_left
            · refine SWp.seqR rfl (hPB _ rfl) fun K hK => ?_
              iterate 2 (refine wps_cons rfl fun K hK => ?_; simp [hN']; refine hK _ ?_; clear hK)
              obtain ⟨e28, he28, hj25⟩ := bind_some hj25
              obtain ⟨he28a, he28b, he28c, he28d⟩ := getI_some he28
              iterate 5 (refine wps_cons rfl fun K hK => ?_; simp [hN', he28a, he28b, he28c, he28d]; refine hK _ ?_; clear hK)
              refine wps_nil (hK _ ?_); clear hK
              refine SWp.block ?_
              refine SWp.loopO [] [0, 1, 6, 7, 8, 30, 31, 32] [] (fun v : Int × Int => ⟨[(0, .t (.sl false 4 (List.map (GNode.enc false) nodes1))), (1, .t (vi k2)), (6, .t (.sl true 1 (List.map vi out10))), (7, .t (vi i11)), (8, .t (vi v.1)), (30, .t (.sl false 1 (List.map vi e28.Kids))), (31, .t (vi (e28.Kids.length : Int))), (32, .t (vi v.2))], []⟩) (impl_depths_l2 out10 e28) _ (1, 0) hj25 (by simp [hN']) ?_
              intro g s33 h31 ho32
              obtain ⟨d29, v30⟩ := g
              simp only [impl_depths_l2] at h31
              try dsimp only
              refine SWp.seqR rfl (hPB _ rfl) fun K hK => ?_
              refine wps_cons rfl fun K hK => ?_; simp [hN']; refine hK _ ?_; clear hK
              refine wps_nil (hK _ ?_); clear hK
              refine SWp.seq ?_
              rcases ite_or h31 with ⟨hb34, h31⟩ | ⟨hb35, h31⟩
              · refine SWp.condT' (b := decide (v30 < (e28.Kids.length : Int))) (by simp) hb34 ?_
                refine SWp.skip ?_
                show SWp E C _ _ _
                refine SWp.seq ?_
                refine SWp.block ?_
                refine SWp.seqR rfl (hPB _ rfl) fun K hK => ?_
                obtain ⟨e36, he36, h31⟩ := bind_some h31
                obtain ⟨he36a, he36b, he36c, he36d⟩ := getI_some he36
                iterate 3 (refine wps_cons rfl fun K hK => ?_; simp [hN', he36a, he36b, he36c, he36d]; refine hK _ ?_; clear hK)
                refine wps_nil (hK _ ?_); clear hK
                refine SWp.reg rfl (hPB _ rfl) fun K hK => ?_
                iterate 3 (refine wps_cons rfl fun K hK => ?_; simp [hN']; refine hK _ ?_; clear hK)
                obtain ⟨e37, he37, h31⟩ := bind_some h31
                obtain ⟨he37a, he37b, he37c, he37d⟩ := getI_some he37
                iterate 5 (refine wps_cons rfl fun K hK => ?_; simp [hN', he37a, he37b, he37c, he37d]; refine hK _ ?_; clear hK)
                refine wps_nil (hK _ ?_); clear hK
                show SWp E C _ _ _
                refine SWp.reg rfl (hPB _ rfl) fun K hK => ?_
                iterate 2 (refine wps_cons rfl fun K hK => ?_; simp [hN']; refine hK _ ?_; clear hK)
                refine wps_nil (hK _ ?_); clear hK
                cases h31
                exact ⟨_, [], rfl, by simp [hN']⟩
              · refine SWp.condF' (b := decide (v30 < (e28.Kids.length : Int))) (by simp) hb35 ?_
                refine SWp.exit ?_
                have h38 := congrArg some (ho32 _ (Option.some.inj h31).symm)
                cases h38
                exact hK26 _ () [] trivial (by simp [hN'])
            refine SWp.seq ?_
            refine SWp.seqR rfl (hPB _ rfl) fun K hK => ?_
            iterate 2 (refine wps_cons rfl fun K hK => ?_; simp [hN']; refine hK _ ?_; clear hK)
            refine wps_nil (hK _ ?_); clear hK
            rcases ite_or hj17 with ⟨hb40, hj17⟩ | ⟨hb41, hj17⟩
            · refine SWp.condT' (b := decide (d39 > 10)) (by simp) hb40 ?_
              refine SWp.seqR rfl (hPB _ rfl) fun K hK => ?_
              iterate 2 (refine wps_cons rfl fun K hK => ?_; simp [hN']; refine hK _ ?_; clear hK)
              refine wps_nil (hK _ ?_); clear hK
              cases hj17
              try dsimp only at h12
              have h42 := congrArg some (ho13 _ (Option.some.inj h12).symm)
              cases h42
              try dsimp only at h
              cases h
              refine SWp.ret ?_
              simp [thenS, inBlockS, res93]
            · refine SWp.condF' (b := decide (d39 > 10)) (by simp) hb41 ?_
              refine SWp.skip ?_
              show SWp E C _ _ _
              refine SWp.reg rfl (hPB _ rfl) fun K hK => ?_
              iterate 3 (refine wps_cons rfl fun K hK => ?_; simp [hN']; refine hK _ ?_; clear hK)
              obtain ⟨l43, hl43, hj17⟩ := bind_some hj17
              obtain ⟨hl43a, hl43b, hl43d⟩ := appI_some hl43
              have hl43f : List.map vi out10 ++ List.map vi [d39] = List.map vi l43 := app_map (f := vi) hl43d
              simp [eSl] at hl43a hl43b hl43f
              iterate 2 (refine wps_cons rfl fun K hK => ?_; simp [hN', hl43a, hl43b, hl43f]; refine hK _ ?_; clear hK)
              refine wps_nil (hK _ ?_); clear hK
              cases hj17
              exact hK18 _ _ [] rfl (by simp [hN'])
        subst hv
        obtain ⟨out44, hv⟩ : ∃ y, y = v := ⟨_, rfl⟩
        subst hv
        try dsimp only at h12 ⊢
        refine SWp.reg rfl (hPB _ rfl) fun K hK => ?_
        iterate 3 (refine wps_cons rfl fun K hK => ?_; simp [hN']; refine hK _ ?_; clear hK)
        refine wps_nil (hK _ ?_); clear hK
        cases h12
        exact ⟨_, [], rfl, by simp [hN']⟩
      · refine SWp.condF' (b := decide (i11 ≤ k2)) (by simp) hb16 ?_
        refine SWp.exit ?_
        have h45 := congrArg some (ho13 _ (Option.some.inj h12).symm)
        cases h45
        exact hK8 _ _ [] rfl (by simp [hN'])
    subst hv
    obtain ⟨out46, hv⟩ : ∃ y, y = v := ⟨_, rfl⟩
    subst hv
    try dsimp only at h ⊢
    refine SWp.seqR rfl (hPB _ rfl) fun K hK => ?_
    iterate 3 (refine wps_cons rfl fun K hK => ?_; simp [hN']; refine hK _ ?_; clear hK)
    refine wps_nil (hK _ ?_); clear hK
    cases h
    refine SWp.ret ?_
    simp [thenS, inBlockS, res93]
end Go.Proofs.T
set_option linter.unusedVariables false
set_option linter.unusedSimpArgs false
set_option maxHeartbeats 1000000
namespace Go.Proofs.T
open Go.OM
theorem res68 : Tryz.f68.results.toList = [.tmp 4] := rfl
theorem ent68 : Enters E.P 68 := enters_of Tryz.func68 (by simp [Tryz.f68]) rfl
theorem impl_DeepOf_ok (nodes1 : List GNode) (k2 : Int) {r0 : Int} (h : impl_DeepOf nodes1 k2 = some r0) : Ok E 68 [.val (.sl false 4 (List.map (GNode.enc false) nodes1)), .val (vi k2)] [vi r0] [] := by
  refine ok_of_body (fn := Tryz.f68) Tryz.func68 rfl (by simp [Tryz.f68]) fun C hN hP => ?_
  have hPB : ∀ l, pinK [] l = true → pinB C.pin l = true := pinB_of (by rw [hP]; rfl)
  have hN' : C.N = 19 := hN
  clear hN
  unfold impl_DeepOf at h
  refine SWp.seqR rfl (hPB _ rfl) fun K hK => ?_
  refine wps_cons rfl fun K hK => ?_; simp [hN']; refine hK _ ?_; clear hK
  refine wps_nil (hK _ ?_); clear hK
  refine SWp.seqR rfl (hPB _ rfl) fun K hK => ?_
  iterate 2 (refine wps_cons rfl fun K hK => ?_; simp [hN']; refine hK _ ?_; clear hK)
  obtain ⟨⟨r3, r4⟩, hc5, h⟩ := bind_some h
  try dsimp only at h
  refine wps_call [(.take, .tmp 8), (.take, .tmp 9)] rfl rfl ent93 (impl_depths_ok _ _ hc5) fun K hK => ?_; simp [hN']; refine hK _ ?_; clear hK
  iterate 5 (refine wps_cons rfl fun K hK => ?_; simp [hN']; refine hK _ ?_; clear hK)
  refine wps_nil (hK _ ?_); clear hK
  refine SWp.seq ?_
  refine SWp.seqR rfl (hPB _ rfl) fun K hK => ?_
  iterate 2 (refine wps_cons rfl fun K hK => ?_; simp [hN']; refine hK _ ?_; clear hK)
  refine wps_nil (hK _ ?_); clear hK
  rcases ite_or h with ⟨hb6, h⟩ | ⟨hb7, h⟩
  · refine SWp.condT' (b := !r4) (by simp) hb6 ?_
    refine SWp.seqR rfl (hPB _ rfl) fun K hK => ?_
    refine wps_cons rfl fun K hK => ?_; simp [hN']; refine hK _ ?_; clear hK
    refine wps_nil (hK _ ?_); clear hK
    cases h
    refine SWp.ret ?_
    simp [thenS, inBlockS, res68]
  · refine SWp.condF' (b := !r4) (by simp) hb7 ?_
    refine SWp.skip ?_
    show SWp E C _ _ _
    refine SWp.seqR rfl (hPB _ rfl) fun K hK => ?_
    iterate 2 (refine wps_cons rfl fun K hK => ?_; simp [hN']; refine hK _ ?_; clear hK)
    obtain ⟨e8, he8, h⟩ := bind_some h
    obtain ⟨he8a, he8b, he8c, he8d⟩ := getI_some he8
    iterate 3 (refine wps_cons rfl fun K hK => ?_; simp [hN', he8a, he8b, he8c, he8d]; refine hK _ ?_; clear hK)
    refine wps_nil (hK _ ?_); clear hK
    cases h
    refine SWp.ret ?_
    simp [thenS, inBlockS, res68]
end Go.Proofs.T
set_option linter.unusedVariables false
set_option linter.unusedSimpArgs false
set_option maxHeartbeats 1000000
namespace Go.Proofs.T
open Go.OM
theorem res88 : Tryz.f88.results.toList = [.tmp 4] := rfl
theorem ent88 : Enters E.P 88 := enters_of Tryz.func88 (by simp [Tryz.f88]) rfl
theorem impl_under_ok (nodes1 : List GNode) (k2 : Int) {r0 : List Int} (h : impl_under nodes1 k2 = some r0) : Ok E 88 [.val (.sl false 4 (List.map (GNode.enc false) nodes1)), .val (vi k2)] [.sl true 1 (List.map vi r0)] [] := by
  refine ok_of_body (fn := Tryz.f88) Tryz.func88 rfl (by simp [Tryz.f88]) fun C hN hP => ?_
  have hPB : ∀ l, pinK [] l = true → pinB C.pin l = true := pinB_of (by rw [hP]; rfl)
  have hN' : C.N = 42 := hN
  clear hN
  unfold impl_under at h
  refine SWp.seqR rfl (hPB _ rfl) fun K hK => ?_
  refine wps_cons rfl fun K hK => ?_; simp [hN']; refine hK _ ?_; clear hK
  refine wps_nil (hK _ ?_); clear hK
  refine SWp.seqR rfl (hPB _ rfl) fun K hK => ?_
  iterate 3 (refine wps_cons rfl fun K hK => ?_; simp [hN']; refine hK _ ?_; clear hK)
  refine wps_nil (hK _ ?_); clear hK
  obtain ⟨out34, hj3, h⟩ := bind_some h
  refine SWp.seqC [5] [] (fun _ : Unit => ⟨[(5, .t (.sl true 1 (List.map vi out34)))], []⟩) (fun _ => True) (fun _ _ => ?_) fun K4 hK4 => ?_
  rotate_left
  · refine SWp.seqR rfl (hPB _ rfl) fun K hK => ?_
    refine wps_cons rfl fun K hK => ?_; simp [hN']; refine hK _ ?_; clear hK
    refine wps_nil (hK _ ?_); clear hK
    refine SWp.block ?_
    refine SWp.loopO [] [0, 5, 6] [] (fun v : (List Int) × Int => ⟨[(0, .t (.sl false 4 (List.map (GNode.enc false) nodes1))), (5, .t (.sl true 1 (List.map vi v.1))), (6, .t (vi v.2))], []⟩) (impl_under_l1 nodes1) _ ([k2], 0) hj3 (by simp [hN']) ?_
    intro g s10 h8 ho9
    obtain ⟨out6, i7⟩ := g
    simp only [impl_under_l1] at h8
    try dsimp only
    refine SWp.seq ?_
    refine SWp.seqR rfl (hPB _ rfl) fun K hK => ?_
    iterate 4 (refine wps_cons rfl fun K hK => ?_; simp [hN']; refine hK _ ?_; clear hK)
    refine wps_nil (hK _ ?_); clear hK
    rcases ite_or h8 with ⟨hb11, h8⟩ | ⟨hb12, h8⟩
    · refine SWp.condT' (b := decide (i7 < (out6.length : Int))) (by simp) hb11 ?_
      refine SWp.skip ?_
      show SWp E C _ _ _
      obtain ⟨out32, hj13, h8⟩ := bind_some h8
      refine SWp.seqC [0, 5, 6] [] (fun _ : Unit => ⟨[(0, .t (.sl false 4 (List.map (GNode.enc false) nodes1))), (5, .t (.sl true 1 (List.map vi out32))), (6, .t (vi i7))], []⟩) (fun _ => True) (fun _ _ => ?_) fun K14 hK14 => ?_
      rotate_left
      · refine SWp.block ?_
        refine SWp.seqR rfl (hPB _ rfl) fun K hK => ?_
        iterate 3 (refine wps_cons rfl fun K hK => ?_; simp [hN']; refine hK _ ?_; clear hK)
        obtain ⟨e16, he16, hj13⟩ := bind_some hj13
        obtain ⟨he16a, he16b, he16c, he16d⟩ := getI_some he16
        iterate 2 (refine wps_cons rfl fun K hK => ?_; simp [hN', he16a, he16b, he16c, he16d]; refine hK _ ?_; clear hK)
        obtain ⟨e17, he17, hj13⟩ := bind_some hj13
        obtain ⟨he17a, he17b, he17c, he17d⟩ := getI_some he17
        iterate 5 (refine wps_cons rfl fun K hK => ?_; simp [hN', he16a, he16b, he16c, he16d, he17a, he17b, he17c, he17d]; refine hK _ ?_; clear hK)
        refine wps_nil (hK _ ?_); clear hK
        refine SWp.block ?_
        refine SWp.loopO [] [0, 5, 6, 24, 25, 26] [] (fun v : (List Int) × Int => ⟨[(0, .t (.sl false 4 (List.map (GNode.enc false) nodes1))), (5, .t (.sl true 1 (List.map vi v.1))), (6, .t (vi i7)), (24, .t (.sl false 1 (List.map vi e17.Kids))), (25, .t (vi (e17.Kids.length : Int))), (26, .t (vi v.2))], []⟩) (impl_under_l2 e17) _ (out6, 0) hj13 (by simp [hN']) ?_
        intro g s22 h20 ho21
        obtain ⟨out18, v19⟩ := g
        simp only [impl_under_l2] at h20
        try dsimp only
        refine SWp.seqR rfl (hPB _ rfl) fun K hK => ?_
        refine wps_cons rfl fun K hK => ?_; simp [hN']; refine hK _ ?_; clear hK
        refine wps_nil (hK _ ?_); clear hK
        refine SWp.seq ?_
        rcases ite_or h20 with ⟨hb23, h20⟩ | ⟨hb24, h20⟩
        · refine SWp.condT' (b := decide (v19 < (e17.Kids.length : Int))) (by simp) hb23 ?_
          refine SWp.skip ?_
          show SWp E C _ _ _
          refine SWp.seq ?_
          refine SWp.block ?_
          refine SWp.seqR rfl (hPB _ rfl) fun K hK => ?_
          obtain ⟨e25, he25, h20⟩ := bind_some h20
          obtain ⟨he25a, he25b, he25c, he25d⟩ := getI_some he25
          iterate 3 (refine wps_cons rfl fun K hK => ?_; simp [hN', he25a, he25b, he25c, he25d]; refine hK _ ?_; clear hK)
          refine wps_nil (hK _ ?_); clear hK
          refine SWp.seqR rfl (hPB _ rfl) fun K hK => ?_
          iterate 2 (refine wps_cons rfl fun K hK => ?_; simp [hN']; refine hK _ ?_; clear hK)
          obtain ⟨r26, hc27, h20⟩ := bind_some h20
          refine wps_call [(.bor, .tmp 30), (.take, .tmp 31)] rfl rfl ent49 (impl_hasInt_ok _ _ hc27) fun K hK => ?_; simp [hN']; refine hK _ ?_; clear hK
          refine wps_cons rfl fun K hK => ?_; simp [hN']; refine hK _ ?_; clear hK
          refine wps_nil (hK _ ?_); clear hK
          rcases ite_or h20 with ⟨hb28, h20⟩ | ⟨hb29, h20⟩
          · refine SWp.condT' (b := !r26) (by simp) hb28 ?_
            refine SWp.reg rfl (hPB _ rfl) fun K hK => ?_
            iterate 3 (refine wps_cons rfl fun K hK => ?_; simp [hN']; refine hK _ ?_; clear hK)
            obtain ⟨l30, hl30, h20⟩ := bind_some h20
            obtain ⟨hl30a, hl30b, hl30d⟩ := appI_some hl30
            have hl30f : List.map vi out18 ++ List.map vi [e25] = List.map vi l30 := app_map (f := vi) hl30d
            simp [eSl] at hl30a hl30b hl30f
            iterate 2 (refine wps_cons rfl fun K hK => ?_; simp [hN', hl30a, hl30b, hl30f]; refine hK _ ?_; clear hK)
            refine wps_nil (hK _ ?_); clear hK
            show SWp E C _ _ _
            refine SWp.reg rfl (hPB _ rfl) fun K hK => ?_
            iterate 2 (refine wps_cons rfl fun K hK => ?_; simp [hN']; refine hK _ ?_; clear hK)
            refine wps_nil (hK _ ?_); clear hK
            cases h20
            exact ⟨_, [], rfl, by simp [hN']⟩
          · refine SWp.condF' (b := !r26) (by simp) hb29 ?_
            refine SWp.skip ?_
            show SWp E C _ _ _
            refine SWp.reg rfl (hPB _ rfl) fun K hK => ?_
            iterate 2 (refine wps_cons rfl fun K hK => ?_; simp [hN']; refine hK _ ?_; clear hK)
            refine wps_nil (hK _ ?_); clear hK
            cases h20
            exact ⟨_, [], rfl, by simp [hN']⟩
        · refine SWp.condF' (b := decide (v19 < (e17.Kids.length : Int))) (by simp) hb24 ?_
          refine SWp.exit ?_
          have h31 := congrArg some (ho21 _ (Option.some.inj h20).symm)
          cases h31
          exact hK14 _ () [] trivial (by simp [hN'])
      refine SWp.reg rfl (hPB _ rfl) fun K hK => ?_
      iterate 3 (refine wps_cons rfl fun K hK => ?_; simp [hN']; refine hK _ ?_; clear hK)
      refine wps_nil (hK _ ?_); clear hK
      cases h8
      exact ⟨_, [], rfl, by simp [hN']⟩
    · refine SWp.condF' (b := decide (i7 < (out6.length : Int))) (by simp) hb12 ?_
      refine SWp.exit ?_
      have h33 := congrArg some (ho9 _ (Option.some.inj h8).symm)
      cases h33
      exact hK4 _ () [] trivial (by simp [hN'])
  refine SWp.seqR rfl (hPB _ rfl) fun K hK => ?_
  refine wps_cons rfl fun K hK => ?_; simp [hN']; refine hK _ ?_; clear hK
  obtain ⟨q35, hc36, h⟩ := bind_some h
  refine wps_callIO rfl ent53 (sort_Ints_ok _ hc36) fun K hK => ?_; simp [hN']; refine hK _ ?_; clear hK
  refine wps_nil (hK _ ?_); clear hK
  refine SWp.seqR rfl (hPB _ rfl) fun K hK => ?_
  iterate 2 (refine wps_cons rfl fun K hK => ?_; simp [hN']; refine hK _ ?_; clear hK)
  refine wps_nil (hK _ ?_); clear hK
  cases h
  refine SWp.ret ?_
  simp [thenS, inBlockS, res88]
end Go.Proofs.T
set_option linter.unusedVariables false
set_option linter.unusedSimpArgs false
set_option maxHeartbeats 1000000
namespace Go.Proofs.T
open Go.OM
theorem res60 : Tryz.f60.results.toList = [.tmp 4] := rfl
theorem ent60 : Enters E.P 60 := enters_of Tryz.func60 (by simp [Tryz.f60]) rfl
theorem impl_Under_ok (p1 : GProgram) (k2 : Int) {r0 : List Int} (h : impl_Under p1 k2 = some r0) : Ok E 60 [.val (GProgram.enc false p1), .val (vi k2)] [.sl true 1 (List.map vi r0)] [] := by
  refine ok_of_body (fn := Tryz.f60) Tryz.func60 rfl (by simp [Tryz.f60]) fun C hN hP => ?_
  have hPB : ∀ l, pinK [] l = true → pinB C.pin l = true := pinB_of (by rw [hP]; rfl)
  have hN' : C.N = 14 := hN
  clear hN
  unfold impl_Under at h
  refine SWp.seqR rfl (hPB _ rfl) fun K hK => ?_
  iterate 2 (refine wps_cons rfl fun K hK => ?_; simp [hN']; refine hK _ ?_; clear hK)
  refine wps_nil (hK _ ?_); clear hK
  refine SWp.seq ?_
  refine SWp.seqR rfl (hPB _ rfl) fun K hK => ?_
  iterate 3 (refine wps_cons rfl fun K hK => ?_; simp [hN']; refine hK _ ?_; clear hK)
  obtain ⟨r3, hc4, h⟩ := bind_some h
  refine wps_call [(.take, .tmp 6), (.take, .tmp 7)] rfl rfl ent68 (impl_DeepOf_ok _ _ hc4) fun K hK => ?_; simp [hN']; refine hK _ ?_; clear hK
  refine wps_cons rfl fun K hK => ?_; simp [hN']; refine hK _ ?_; clear hK
  refine wps_nil (hK _ ?_); clear hK
  rcases ite_or h with ⟨hb5, h⟩ | ⟨hb6, h⟩
  · refine SWp.condT' (b := r3 == 0) (by simp) hb5 ?_
    refine SWp.seqR rfl (hPB _ rfl) fun K hK => ?_
    refine wps_cons rfl fun K hK => ?_; simp [hN']; refine hK _ ?_; clear hK
    refine wps_nil (hK _ ?_); clear hK
    cases h
    refine SWp.ret ?_
    simp [thenS, inBlockS, res60]
  · refine SWp.condF' (b := r3 == 0) (by simp) hb6 ?_
    refine SWp.skip ?_
    show SWp E C _ _ _
    refine SWp.seqR rfl (hPB _ rfl) fun K hK => ?_
    iterate 3 (refine wps_cons rfl fun K hK => ?_; simp [hN']; refine hK _ ?_; clear hK)
    obtain ⟨r7, hc8, h⟩ := bind_some h
    refine wps_call [(.take, .tmp 11), (.take, .tmp 12)] rfl rfl ent88 (impl_under_ok _ _ hc8) fun K hK => ?_; simp [hN']; refine hK _ ?_; clear hK
    refine wps_cons rfl fun K hK => ?_; simp [hN']; refine hK _ ?_; clear hK
    refine wps_nil (hK _ ?_); clear hK
    cases h
    refine SWp.ret ?_
    simp [thenS, inBlockS, res60]
end Go.Proofs.T
set_option linter.unusedVariables false
set_option linter.unusedSimpArgs false
set_option maxHeartbeats 1000000
namespace Go.Proofs.T
open Go.OM
theorem res31 : Tryz.f31.results.toList = [.tmp 4] := rfl
theorem ent31 : Enters E.P 31 := enters_of Tryz.func31 (by simp [Tryz.f31]) rfl
theorem impl_fnNodes_ok (p1 : GProgram) (fn2 : Int) {r0 : List Int} (h : impl_fnNodes p1 fn2 = some r0) : Ok E 31 [.val (GProgram.enc false p1), .val (vi fn2)] [.sl true 1 (List.map vi r0)] [] := by
  refine ok_of_body (fn := Tryz.f31) Tryz.func31 rfl (by simp [Tryz.f31]) fun C hN hP => ?_
  have hPB : ∀ l, pinK [] l = true → pinB C.pin l = true := pinB_of (by rw [hP]; rfl)
  have hN' : C.N = 39 := hN
  clear hN
  unfold impl_fnNodes at h
  refine SWp.seqR rfl (hPB _ rfl) fun K hK => ?_
  iterate 2 (refine wps_cons rfl fun K hK => ?_; simp [hN']; refine hK _ ?_; clear hK)
  refine wps_nil (hK _ ?_); clear hK
  refine SWp.seqR rfl (hPB _ rfl) fun K hK => ?_
  refine wps_cons rfl fun K hK => ?_; simp [hN']; refine hK _ ?_; clear hK
  refine wps_nil (hK _ ?_); clear hK
  obtain ⟨out37, hj3, h⟩ := bind_some h
  refine SWp.seqC [5] [] (fun _ : Unit => ⟨[(5, .t (.sl true 1 (List.map vi out37)))], []⟩) (fun _ => True) (fun _ _ => ?_) fun K4 hK4 => ?_
  rotate_left
  · refine SWp.seqR rfl (hPB _ rfl) fun K hK => ?_
    iterate 2 (refine wps_cons rfl fun K hK => ?_; simp [hN']; refine hK _ ?_; clear hK)
    obtain ⟨r6, hc7, hj3⟩ := bind_some hj3
    refine wps_call [(.take, .tmp 10), (.take, .tmp 11)] rfl rfl ent59 (impl_roots_ok _ _ hc7) fun K hK => ?_; simp [hN']; refine hK _ ?_; clear hK
    iterate 2 (refine wps_cons rfl fun K hK => ?_; simp [hN']; refine hK _ ?_; clear hK)
    refine wps_nil (hK _ ?_); clear hK
    refine SWp.block ?_
    refine SWp.loopO [] [2, 5, 12, 13, 14] [2] (fun v : (List Int) × Int => ⟨[(2, .ref (.box 2) 0 []), (5, .t (.sl true 1 (List.map vi v.1))), (12, .t (.sl true 1 (List.map vi r6))), (13, .t (vi (r6.length : Int))), (14, .t (vi v.2))], [(2, [.sl false 4 (List.map (GNode.enc false) p1.Nodes), .sl false 5 (List.map (GFn.enc false) p1.Fns)])]⟩) (impl_fnNodes_l1 p1 r6) _ ([], 0) hj3 (by simp [hN']) ?_
    intro g s12 h10 ho11
    obtain ⟨out8, v9⟩ := g
    simp only [impl_fnNodes_l1] at h10
    try dsimp only
    refine SWp.seqR rfl (hPB _ rfl) fun K hK => ?_
    refine wps_cons rfl fun K hK => ?_; simp [hN']; refine hK _ ?_; clear hK
    refine wps_nil (hK _ ?_); clear hK
    refine SWp.seq ?_
    rcases ite_or h10 with ⟨hb13, h10⟩ | ⟨hb14, h10⟩
    · refine SWp.condT' (b := decide (v9 < (r6.length : Int))) (by simp) hb13 ?_
      refine SWp.skip ?_
      show SWp E C _ _ _
      obtain ⟨out35, hj15, h10⟩ := bind_some h10
      refine SWp.seqC [2, 5, 12, 13, 14] [2] (fun _ : Unit => ⟨[(2, .ref (.box 2) 0 []), (5, .t (.sl true 1 (List.map vi out35))), (12, .t (.sl true 1 (List.map vi r6))), (13, .t (vi (r6.length : Int))), (14, .t (vi v9))], [(2, [.sl false 4 (List.map (GNode.enc false) p1.Nodes), .sl false 5 (List.map (GFn.enc false) p1.Fns)])]⟩) (fun _ => True) (fun _ _ => ?_) fun K16 hK16 => ?_
      rotate_left
      · refine SWp.block ?_
        refine SWp.seqR rfl (hPB _ rfl) fun K hK => ?_
        obtain ⟨e18, he18, hj15⟩ := bind_some hj15
        obtain ⟨he18a, he18b, he18c, he18d⟩ := getI_some he18
        iterate 3 (refine wps_cons rfl fun K hK => ?_; simp [hN', he18a, he18b, he18c, he18d]; refine hK _ ?_; clear hK)
        refine wps_nil (hK _ ?_); clear hK
        refine SWp.seqR rfl (hPB _ rfl) fun K hK => ?_
        iterate 2 (refine wps_cons rfl fun K hK => ?_; simp [hN']; refine hK _ ?_; clear hK)
        obtain ⟨r19, hc20, hj15⟩ := bind_some hj15
        refine wps_call [(.take, .tmp 18), (.take, .tmp 19)] rfl rfl ent60 (impl_Under_ok _ _ hc20) fun K hK => ?_; simp [hN']; refine hK _ ?_; clear hK
        iterate 2 (refine wps_cons rfl fun K hK => ?_; simp [hN']; refine hK _ ?_; clear hK)
        refine wps_nil (hK _ ?_); clear hK
        refine SWp.block ?_
        refine SWp.loopO [] [2, 5, 12, 13, 14, 20, 21, 22] [2] (fun v : (List Int) × Int => ⟨[(2, .ref (.box 2) 0 []), (5, .t (.sl true 1 (List.map vi v.1))), (12, .t (.sl true 1 (List.map vi r6))), (13, .t (vi (r6.length : Int))), (14, .t (vi v9)), (20, .t (.sl true 1 (List.map vi r19))), (21, .t (vi (r19.length : Int))), (22, .t (vi v.2))], [(2, [.sl false 4 (List.map (GNode.enc false) p1.Nodes), .sl false 5 (List.map (GFn.enc false) p1.Fns)])]⟩) (impl_fnNodes_l2 r19) _ (out8, 0) hj15 (by simp [hN']) ?_
        intro g s25 h23 ho24
        obtain ⟨out21, v22⟩ := g
        simp only [impl_fnNodes_l2] at h23
        try dsimp only
        refine SWp.seqR rfl (hPB _ rfl) fun K hK => ?_
        refine wps_cons rfl fun K hK => ?_; simp [hN']; refine hK _ ?_; clear hK
        refine wps_nil (hK _ ?_); clear hK
        refine SWp.seq ?_
        rcases ite_or h23 with ⟨hb26, h23⟩ | ⟨hb27, h23⟩
        · refine SWp.condT' (b := decide (v22 < (r19.length : Int))) (by simp) hb26 ?_
          refine SWp.skip ?_
          show SWp E C _ _ _
          refine SWp.seq ?_
          refine SWp.block ?_
          refine SWp.seqR rfl (hPB _ rfl) fun K hK => ?_
          obtain ⟨e28, he28, h23⟩ := bind_some h23
          obtain ⟨he28a, he28b, he28c, he28d⟩ := getI_some he28
          iterate 3 (refine wps_cons rfl fun K hK => ?_; simp [hN', he28a, he28b, he28c, he28d]; refine hK _ ?_; clear hK)
          refine wps_nil (hK _ ?_); clear hK
          refine SWp.seqR rfl (hPB _ rfl) fun K hK => ?_
          iterate 2 (refine wps_cons rfl fun K hK => ?_; simp [hN']; refine hK _ ?_; clear hK)
          obtain ⟨r29, hc30, h23⟩ := bind_some h23
          refine wps_call [(.bor, .tmp 26), (.take, .tmp 27)] rfl rfl ent49 (impl_hasInt_ok _ _ hc30) fun K hK => ?_; simp [hN']; refine hK _ ?_; clear hK
          refine wps_cons rfl fun K hK => ?_; simp [hN']; refine hK _ ?_; clear hK
          refine wps_nil (hK _ ?_); clear hK
          rcases ite_or h23 with ⟨hb31, h23⟩ | ⟨hb32, h23⟩
          · refine SWp.condT' (b := !r29) (by simp) hb31 ?_
            refine SWp.reg rfl (hPB _ rfl) fun K hK => ?_
            iterate 3 (refine wps_cons rfl fun K hK => ?_; simp [hN']; refine hK _ ?_; clear hK)
            obtain ⟨l33, hl33, h23⟩ := bind_some h23
            obtain ⟨hl33a, hl33b, hl33d⟩ := appI_some hl33
            have hl33f : List.map vi out21 ++ List.map vi [e28] = List.map vi l33 := app_map (f := vi) hl33d
            simp [eSl] at hl33a hl33b hl33f
            iterate 2 (refine wps_cons rfl fun K hK => ?_; simp [hN', hl33a, hl33b, hl33f]; refine hK _ ?_; clear hK)
            refine wps_nil (hK _ ?_); clear hK
            show SWp E C _ _ _
            refine SWp.reg rfl (hPB _ rfl) fun K hK => ?_
            iterate 2 (refine wps_cons rfl fun K hK => ?_; simp [hN']; refine hK _ ?_; clear hK)
            refine wps_nil (hK _ ?_); clear hK
            cases h23
            exact ⟨_, [], rfl, by simp [hN']⟩
          · refine SWp.condF' (b := !r29) (by simp) hb32 ?_
            refine SWp.skip ?_
            show SWp E C _ _ _
            refine SWp.reg rfl (hPB _ rfl) fun K hK => ?_
            iterate 2 (refine wps_cons rfl fun K hK => ?_; simp [hN']; refine hK _ ?_; clear hK)
            refine wps_nil (hK _ ?_); clear hK
            cases h23
            exact ⟨_, [], rfl, by simp [hN']⟩
        · refine SWp.condF' (b := decide (v22 < (r19.length : Int))) (by simp) hb27 ?_
          refine SWp.exit ?_
          have h34 := congrArg some (ho24 _ (Option.some.inj h23).symm)
          cases h34
          exact hK16 _ () [] trivial (by simp [hN'])
      refine SWp.reg rfl (hPB _ rfl) fun K hK => ?_
      iterate 2 (refine wps_cons rfl fun K hK => ?_; simp [hN']; refine hK _ ?_; clear hK)
      refine wps_nil (hK _ ?_); clear hK
      cases h10
      exact ⟨_, [], rfl, by simp [hN']⟩
    · refine SWp.condF' (b := decide (v9 < (r6.length : Int))) (by simp) hb14 ?_
      refine SWp.exit ?_
      have h36 := congrArg some (ho11 _ (Option.some.inj h10).symm)
      cases h36
      exact hK4 _ () [] trivial (by simp [hN'])
  refine SWp.seqR rfl (hPB _ rfl) fun K hK => ?_
  refine wps_cons rfl fun K hK => ?_; simp [hN']; refine hK _ ?_; clear hK
  obtain ⟨q38, hc39, h⟩ := bind_some h
  refine wps_callIO rfl ent53 (sort_Ints_ok _ hc39) fun K hK => ?_; simp [hN']; refine hK _ ?_; clear hK
  refine wps_nil (hK _ ?_); clear hK
  refine SWp.seqR rfl (hPB _ rfl) fun K hK => ?_
  iterate 2 (refine wps_cons rfl fun K hK => ?_; simp [hN']; refine hK _ ?_; clear hK)
  refine wps_nil (hK _ ?_); clear hK
  cases h
  refine SWp.ret ?_
  simp [thenS, inBlockS, res31]
end Go.Proofs.T
set_option linter.unusedVariables false
set_option linter.unusedSimpArgs false
set_option maxHeartbeats 1000000
namespace Go.Proofs.T
open Go.OM
theorem res70 : Tryz.f70.results.toList = [.tmp 4] := rfl
theorem ent70 : Enters E.P 70 := enters_of Tryz.func70 (by simp [Tryz.f70]) rfl
theorem impl_FnAt_ok (p1 : GProgram) (name2 : ByteArray) {r0 : Int} (h : impl_FnAt p1 name2 = some r0) : Ok E 70 [.val (GProgram.enc false p1), .val (vs name2)] [vi r0] [] := by
  refine ok_of_body (fn := Tryz.f70) Tryz.func70 rfl (by simp [Tryz.f70]) fun C hN hP => ?_
  have hPB : ∀ l, pinK [] l = true → pinB C.pin l = true := pinB_of (by rw [hP]; rfl)
  have hN' : C.N = 21 := hN
  clear hN
  unfold impl_FnAt at h
  refine SWp.seqR rfl (hPB _ rfl) fun K hK => ?_
  iterate 2 (refine wps_cons rfl fun K hK => ?_; simp [hN']; refine hK _ ?_; clear hK)
  refine wps_nil (hK _ ?_); clear hK
  obtain ⟨j5, hj3, h⟩ := bind_some h
  refine SWp.seqC [] [] (fun v : Unit => ⟨[], []⟩) (fun v => j5 = Sum.inl v) (fun v hv => ?_) fun K4 hK4 => ?_
  rotate_left
  · refine SWp.seqR rfl (hPB _ rfl) fun K hK => ?_
    iterate 4 (refine wps_cons rfl fun K hK => ?_; simp [hN']; refine hK _ ?_; clear hK)
    refine wps_nil (hK _ ?_); clear hK
    refine SWp.block ?_
    refine SWp.loopO [] [1, 8, 9, 10] [] (fun v : Int => ⟨[(1, .t (vs name2)), (8, .t (.sl false 5 (List.map (GFn.enc false) p1.Fns))), (9, .t (vi (p1.Fns.length : Int))), (10, .t (vi v))], []⟩) (impl_FnAt_l1 p1 name2) _ 0 hj3 (by simp [hN']) ?_
    intro g s9 h7 ho8
    obtain ⟨v6, hg⟩ : ∃ y, y = g := ⟨_, rfl⟩
    subst hg
    simp only [impl_FnAt_l1] at h7
    try dsimp only
    refine SWp.seqR rfl (hPB _ rfl) fun K hK => ?_
    refine wps_cons rfl fun K hK => ?_; simp [hN']; refine hK _ ?_; clear hK
    refine wps_nil (hK _ ?_); clear hK
    refine SWp.seq ?_
    rcases ite_or h7 with ⟨hb10, h7⟩ | ⟨hb11, h7⟩
    · refine SWp.condT' (b := decide (v6 < (p1.Fns.length : Int))) (by simp) hb10 ?_
      refine SWp.skip ?_
      show SWp E C _ _ _
      refine SWp.seq ?_
      refine SWp.block ?_
      refine SWp.seqR rfl (hPB _ rfl) fun K hK => ?_
      refine wps_cons rfl fun K hK => ?_; simp [hN']; refine hK _ ?_; clear hK
      obtain ⟨e12, he12, h7⟩ := bind_some h7
      obtain ⟨he12a, he12b, he12c, he12d⟩ := getI_some he12
      iterate 5 (refine wps_cons rfl fun K hK => ?_; simp [hN', he12a, he12b, he12c, he12d]; refine hK _ ?_; clear hK)
      refine wps_nil (hK _ ?_); clear hK
      refine SWp.seqR rfl (hPB _ rfl) fun K hK => ?_
      iterate 4 (refine wps_cons rfl fun K hK => ?_; simp [hN']; refine hK _ ?_; clear hK)
      refine wps_nil (hK _ ?_); clear hK
      rcases ite_or h7 with ⟨hb13, h7⟩ | ⟨hb14, h7⟩
      · refine SWp.condT' (b := sEq e12.Name name2) (by simp) hb13 ?_
        refine SWp.seqR rfl (hPB _ rfl) fun K hK => ?_
        iterate 2 (refine wps_cons rfl fun K hK => ?_; simp [hN']; refine hK _ ?_; clear hK)
        refine wps_nil (hK _ ?_); clear hK
        have h15 := congrArg some (ho8 _ (Option.some.inj h7).symm)
        cases h15
        try dsimp only at h
        cases h
        refine SWp.ret ?_
        simp [thenS, inBlockS, res70]
      · refine SWp.condF' (b := sEq e12.Name name2) (by simp) hb14 ?_
        refine SWp.skip ?_
        show SWp E C _ _ _
        refine SWp.reg rfl (hPB _ rfl) fun K hK => ?_
        iterate 2 (refine wps_cons rfl fun K hK => ?_; simp [hN']; refine hK _ ?_; clear hK)
        refine wps_nil (hK _ ?_); clear hK
        cases h7
        exact ⟨_, [], rfl, by simp [hN']⟩
    · refine SWp.condF' (b := decide (v6 < (p1.Fns.length : Int))) (by simp) hb11 ?_
      refine SWp.exit ?_
      have h16 := congrArg some (ho8 _ (Option.some.inj h7).symm)
      cases h16
      exact hK4 _ _ [] rfl (by simp [hN'])
  subst hv
  obtain ⟨⟩ := v
  try dsimp only at h ⊢
  refine SWp.seqR rfl (hPB _ rfl) fun K hK => ?_
  refine wps_cons rfl fun K hK => ?_; simp [hN']; refine hK _ ?_; clear hK
  refine wps_nil (hK _ ?_); clear hK
  cases h
  refine SWp.ret ?_
  simp [thenS, inBlockS, res70]
end Go.Proofs.T
set_option linter.unusedVariables false
set_option linter.unusedSimpArgs false
set_option maxHeartbeats 1000000
namespace Go.Proofs.T
open Go.OM
theorem res50 : Tryz.f50.results.toList = [.tmp 4] := rfl
theorem ent50 : Enters E.P 50 := enters_of Tryz.func50 (by simp [Tryz.f50]) rfl
theorem impl_CallsOf_ok (p1 : GProgram) (fn2 : Int) {r0 : List Int} (h : impl_CallsOf p1 fn2 = some r0) : Ok E 50 [.val (GProgram.enc false p1), .val (vi fn2)] [.sl true 1 (List.map vi r0)] [] := by
  refine ok_of_body (fn := Tryz.f50) Tryz.func50 rfl (by simp [Tryz.f50]) fun C hN hP => ?_
  have hPB : ∀ l, pinK [] l = true → pinB C.pin l = true := pinB_of (by rw [hP]; rfl)
  have hN' : C.N = 44 := hN
  clear hN
  unfold impl_CallsOf at h
  refine SWp.seqR rfl (hPB _ rfl) fun K hK => ?_
  iterate 2 (refine wps_cons rfl fun K hK => ?_; simp [hN']; refine hK _ ?_; clear hK)
  refine wps_nil (hK _ ?_); clear hK
  refine SWp.seqR rfl (hPB _ rfl) fun K hK => ?_
  refine wps_cons rfl fun K hK => ?_; simp [hN']; refine hK _ ?_; clear hK
  refine wps_nil (hK _ ?_); clear hK
  obtain ⟨out32, hj3, h⟩ := bind_some h
  refine SWp.seqC [5] [] (fun _ : Unit => ⟨[(5, .t (.sl true 1 (List.map vi out32)))], []⟩) (fun _ => True) (fun _ _ => ?_) fun K4 hK4 => ?_
  rotate_left
  · refine SWp.seqR rfl (hPB _ rfl) fun K hK => ?_
    iterate 2 (refine wps_cons rfl fun K hK => ?_; simp [hN']; refine hK _ ?_; clear hK)
    obtain ⟨r6, hc7, hj3⟩ := bind_some hj3
    refine wps_call [(.take, .tmp 10), (.take, .tmp 11)] rfl rfl ent31 (impl_fnNodes_ok _ _ hc7) fun K hK => ?_; simp [hN']; refine hK _ ?_; clear hK
    iterate 2 (refine wps_cons rfl fun K hK => ?_; simp [hN']; refine hK _ ?_; clear hK)
    refine wps_nil (hK _ ?_); clear hK
    refine SWp.block ?_
    refine SWp.loopO [] [2, 5, 12, 13, 14] [2] (fun v : (List Int) × Int => ⟨[(2, .ref (.box 2) 0 []), (5, .t (.sl true 1 (List.map vi v.1))), (12, .t (.sl true 1 (List.map vi r6))), (13, .t (vi (r6.length : Int))), (14, .t (vi v.2))], [(2, [.sl false 4 (List.map (GNode.enc false) p1.Nodes), .sl false 5 (List.map (GFn.enc false) p1.Fns)])]⟩) (impl_CallsOf_l1 p1 r6) _ ([], 0) hj3 (by simp [hN']) ?_
    intro g s12 h10 ho11
    obtain ⟨out8, v9⟩ := g
    simp only [impl_CallsOf_l1] at h10
    try dsimp only
    refine SWp.seqR rfl (hPB _ rfl) fun K hK => ?_
    refine wps_cons rfl fun K hK => ?_; simp [hN']; refine hK _ ?_; clear hK
    refine wps_nil (hK _ ?_); clear hK
    refine SWp.seq ?_
    rcases ite_or h10 with ⟨hb13, h10⟩ | ⟨hb14, h10⟩
    · refine SWp.condT' (b := decide (v9 < (r6.length : Int))) (by simp) hb13 ?_
      refine SWp.skip ?_
      show SWp E C _ _ _
      refine SWp.seq ?_
      refine SWp.block ?_
      refine SWp.seqR rfl (hPB _ rfl) fun K hK => ?_
      obtain ⟨e15, he15, h10⟩ := bind_some h10
      obtain ⟨he15a, he15b, he15c, he15d⟩ := getI_some he15
      iterate 3 (refine wps_cons rfl fun K hK => ?_; simp [hN', he15a, he15b, he15c, he15d]; refine hK _ ?_; clear hK)
      refine wps_nil (hK _ ?_); clear hK
      refine SWp.seqR rfl (hPB _ rfl) fun K hK => ?_
      iterate 3 (refine wps_cons rfl fun K hK => ?_; simp [hN']; refine hK _ ?_; clear hK)
      obtain ⟨e16, he16, h10⟩ := bind_some h10
      obtain ⟨he16a, he16b, he16c, he16d⟩ := getI_some he16
      iterate 4 (refine wps_cons rfl fun K hK => ?_; simp [hN', he16a, he16b, he16c, he16d]; refine hK _ ?_; clear hK)
      refine wps_nil (hK _ ?_); clear hK
      refine SWp.seqR rfl (hPB _ rfl) fun K hK => ?_
      iterate 3 (refine wps_cons rfl fun K hK => ?_; simp [hN']; refine hK _ ?_; clear hK)
      refine wps_nil (hK _ ?_); clear hK
      rcases ite_or h10 with ⟨hb17, h10⟩ | ⟨hb18, h10⟩
      · refine SWp.condT' (b := e16.Kind == 12) (by simp) hb17 ?_
        refine SWp.seqR rfl (hPB _ rfl) fun K hK => ?_
        iterate 3 (refine wps_cons rfl fun K hK => ?_; simp [hN']; refine hK _ ?_; clear hK)
        obtain ⟨r19, hc20, h10⟩ := bind_some h10
        refine wps_call [(.take, .tmp 26), (.take, .tmp 28)] rfl rfl ent70 (impl_FnAt_ok _ _ hc20) fun K hK => ?_; simp [hN']; refine hK _ ?_; clear hK
        refine wps_cons rfl fun K hK => ?_; simp [hN']; refine hK _ ?_; clear hK
        refine wps_nil (hK _ ?_); clear hK
        obtain ⟨v27, hj21, h10⟩ := bind_some h10
        refine SWp.seqRC rfl (hPB _ rfl) [2, 5, 9, 12, 13, 14, 37] [2] (fun _ : Unit => ⟨[(2, .ref (.box 2) 0 []), (5, .t (.sl true 1 (List.map vi out8))), (9, .t (vi r19)), (12, .t (.sl true 1 (List.map vi r6))), (13, .t (vi (r6.length : Int))), (14, .t (vi v9)), (37, .t (vb v27))], [(2, [.sl false 4 (List.map (GNode.enc false) p1.Nodes), .sl false 5 (List.map (GFn.enc false) p1.Fns)])]⟩) (fun _ => True) (fun _ _ => ?_) fun K22 hK22 => ?_
        rotate_left
        · refine wps_cons rfl fun K hK => ?_; simp [hN']; refine hK _ ?_; clear hK
          iterate 2 (refine wps_cons rfl fun K hK => ?_; simp [hN']; refine hK _ ?_; clear hK)
          rcases ite_or hj21 with ⟨hb23, hj21⟩ | ⟨hb24, hj21⟩
          · have hb23s := hb23
            try simp at hb23s
            iterate 2 (refine wps_cons rfl fun K hK => ?_; simp [hN', hb23, hb23s]; refine hK _ ?_; clear hK)
            obtain ⟨r25, hc26, hj21⟩ := bind_some hj21
            refine wps_call [(.bor, .tmp 33), (.take, .tmp 34)] rfl rfl ent49 (impl_hasInt_ok _ _ hc26) fun K hK => ?_; simp [hN', hb23, hb23s]; refine hK _ ?_; clear hK
            iterate 2 (refine wps_cons rfl fun K hK => ?_; simp [hN', hb23, hb23s]; refine hK _ ?_; clear hK)
            refine wps_nil ?_
            cases hj21
            exact hK22 _ () [] trivial (by simp [hN', hb23, hb23s])
          · have hb24s := hb24
            try simp at hb24s
            iterate 4 (refine wps_off fun K hK => ?_; simp [hN', hb24, hb24s]; refine hK _ ?_; clear hK)
            refine wps_cons rfl fun K hK => ?_; simp [hN', hb24, hb24s]; refine hK _ ?_; clear hK
            refine wps_nil ?_
            cases hj21
            exact hK22 _ () [] trivial (by simp [hN', hb24, hb24s])
        rcases ite_or h10 with ⟨hb28, h10⟩ | ⟨hb29, h10⟩
        · refine SWp.condT' (b := v27) (by simp) hb28 ?_
          refine SWp.reg rfl (hPB _ rfl) fun K hK => ?_
          iterate 3 (refine wps_cons rfl fun K hK => ?_; simp [hN']; refine hK _ ?_; clear hK)
          obtain ⟨l30, hl30, h10⟩ := bind_some h10
          obtain ⟨hl30a, hl30b, hl30d⟩ := appI_some hl30
          have hl30f : List.map vi out8 ++ List.map vi [r19] = List.map vi l30 := app_map (f := vi) hl30d
          simp [eSl] at hl30a hl30b hl30f
          iterate 2 (refine wps_cons rfl fun K hK => ?_; simp [hN', hl30a, hl30b, hl30f]; refine hK _ ?_; clear hK)
          refine wps_nil (hK _ ?_); clear hK
          show SWp E C _ _ _
          refine SWp.reg rfl (hPB _ rfl) fun K hK => ?_
          iterate 2 (refine wps_cons rfl fun K hK => ?_; simp [hN']; refine hK _ ?_; clear hK)
          refine wps_nil (hK _ ?_); clear hK
          cases h10
          exact ⟨_, [], rfl, by simp [hN']⟩
        · refine SWp.condF' (b := v27) (by simp) hb29 ?_
          refine SWp.skip ?_
          show SWp E C _ _ _
          refine SWp.reg rfl (hPB _ rfl) fun K hK => ?_
          iterate 2 (refine wps_cons rfl fun K hK => ?_; simp [hN']; refine hK _ ?_; clear hK)
          refine wps_nil (hK _ ?_); clear hK
          cases h10
          exact ⟨_, [], rfl, by simp [hN']⟩
      · refine SWp.condF' (b := e16.Kind == 12) (by simp) hb18 ?_
        refine SWp.skip ?_
        show SWp E C _ _ _
        refine SWp.reg rfl (hPB _ rfl) fun K hK => ?_
        iterate 2 (refine wps_cons rfl fun K hK => ?_; simp [hN']; refine hK _ ?_; clear hK)
        refine wps_nil (hK _ ?_); clear hK
        cases h10
        exact ⟨_, [], rfl, by simp [hN']⟩
    · refine SWp.condF' (b := decide (v9 < (r6.length : Int))) (by simp) hb14 ?_
      refine SWp.exit ?_
      have h31 := congrArg some (ho11 _ (Option.some.inj h10).symm)
      cases h31
      exact hK4 _ () [] trivial (by simp [hN'])
  refine SWp.seqR rfl (hPB _ rfl) fun K hK => ?_
  iterate 2 (refine wps_cons rfl fun K hK => ?_; simp [hN']; refine hK _ ?_; clear hK)
  refine wps_nil (hK _ ?_); clear hK
  cases h
  refine SWp.ret ?_
  simp [thenS, inBlockS, res50]
end Go.Proofs.T
