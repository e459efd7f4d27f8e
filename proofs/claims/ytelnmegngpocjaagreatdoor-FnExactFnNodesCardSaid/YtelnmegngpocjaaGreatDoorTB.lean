import Derived.Test.YtelnmegngpocjaaGreatDoorTA
import Derived.Shelf.Small.Bits
import Derived.Shelf.Small.Wraps
import Derived.Shelf.Utf8.RuneCount
import Derived.Shelf.Strconv.Itoa0
import Derived.Shelf.Strings.Search1
import Derived.Shelf.Strings.Search2
import Derived.Shelf.Strings.Search3
import Derived.Shelf.Strings.Count
import Derived.Shelf.LaysM
import Derived.Shelf.Strings.Shaped
import Derived.Shelf.Sort.Plain
import Derived.Shelf.Strings.Split
import Derived.Shelf.Strings.SplitShaped
import Derived.Shelf.Unicode.Decode
import Derived.Shelf.Strings.RuneCount
import Derived.Shelf.Strings.Explode
import Derived.Shelf.Unicode.DecodeSlow
import Derived.Shelf.Unicode.DecodeAny
import Derived.Ground.Names2Prog
import Derived.Shelf.Slices.SearchI
import Derived.Shelf.Slices.In.SortNone
import Derived.Shelf.Slices.In.SortNone2
import Derived.Test.YtelnmegngpocjaaGreatDoorProg
import Derived.KernelRfl
set_option linter.unusedVariables false
set_option linter.unusedSimpArgs false
set_option maxHeartbeats 1000000
namespace Go.Proofs.T
open Go.OM
theorem res10 : Tryz.f10.results.toList = [.cell 2 31] := rfl
theorem ent10 : Enters E.P 10 := enters_of Tryz.func10 (by simp [Tryz.f10]) rfl
theorem laws_toProgram_ok (a1 : GProgram) {r0 : GProgram} (h : laws_toProgram a1 = some r0) : Ok E 10 [.val (GProgram.enc false a1)] [GProgram.enc true r0] [] := by
  refine ok_of_body (fn := Tryz.f10) Tryz.func10 rfl (by simp [Tryz.f10]) fun C hN hP => ?_
  have hPB : ∀ l, pinK [] l = true → pinB C.pin l = true := pinB_of (by rw [hP]; rfl)
  have hN' : C.N = 13 := hN
  clear hN
  unfold laws_toProgram at h
  refine SWp.seqR rfl (hPB _ rfl) fun K hK => ?_
  iterate 2 (refine wps_cons rfl fun K hK => ?_; simp [hN']; refine hK _ ?_; clear hK)
  refine wps_nil (hK _ ?_); clear hK
  refine SWp.seqR rfl (hPB _ rfl) fun K hK => ?_
  refine wps_cons rfl fun K hK => ?_; simp [hN']; refine hK _ ?_; clear hK
  refine wps_nil (hK _ ?_); clear hK
  refine SWp.seqR rfl (hPB _ rfl) fun K hK => ?_
  iterate 2 (refine wps_cons rfl fun K hK => ?_; simp [hN']; refine hK _ ?_; clear hK)
  obtain ⟨r2, hc3, h⟩ := bind_some h
  refine wps_call [(.take, .tmp 5)] rfl rfl ent29 (laws_toNodeS_ok _ hc3) fun K hK => ?_; simp [hN']; refine hK _ ?_; clear hK
  iterate 2 (refine wps_cons rfl fun K hK => ?_; simp [hN']; refine hK _ ?_; clear hK)
  refine wps_nil (hK _ ?_); clear hK
  refine SWp.seqR rfl (hPB _ rfl) fun K hK => ?_
  iterate 2 (refine wps_cons rfl fun K hK => ?_; simp [hN']; refine hK _ ?_; clear hK)
  obtain ⟨r4, hc5, h⟩ := bind_some h
  refine wps_call [(.take, .tmp 9)] rfl rfl ent30 (laws_toFnS_ok _ hc5) fun K hK => ?_; simp [hN']; refine hK _ ?_; clear hK
  iterate 2 (refine wps_cons rfl fun K hK => ?_; simp [hN']; refine hK _ ?_; clear hK)
  refine wps_nil (hK _ ?_); clear hK
  refine SWp.seqR rfl (hPB _ rfl) fun K hK => ?_
  iterate 2 (refine wps_cons rfl fun K hK => ?_; simp [hN']; refine hK _ ?_; clear hK)
  refine wps_nil (hK _ ?_); clear hK
  cases h
  refine SWp.ret ?_
  simp [thenS, inBlockS, res10]
end Go.Proofs.T
set_option linter.unusedVariables false
set_option linter.unusedSimpArgs false
set_option maxHeartbeats 1000000
namespace Go.Proofs.T
open Go.OM
theorem res49 : Tryz.f49.results.toList = [.tmp 4] := rfl
theorem ent49 : Enters E.P 49 := enters_of Tryz.func49 (by simp [Tryz.f49]) rfl
theorem impl_hasInt_ok (l1 : List Int) (n2 : Int) {r0 : Bool} (h : impl_hasInt l1 n2 = some r0) : Ok E 49 [.val (.sl false 1 (List.map vi l1)), .val (vi n2)] [vb r0] [] := by
  refine ok_of_body (fn := Tryz.f49) Tryz.func49 rfl (by simp [Tryz.f49]) fun C hN hP => ?_
  have hPB : ∀ l, pinK [] l = true → pinB C.pin l = true := pinB_of (by rw [hP]; rfl)
  have hN' : C.N = 17 := hN
  clear hN
  unfold impl_hasInt at h
  refine SWp.seqR rfl (hPB _ rfl) fun K hK => ?_
  refine wps_cons rfl fun K hK => ?_; simp [hN']; refine hK _ ?_; clear hK
  refine wps_nil (hK _ ?_); clear hK
  obtain ⟨j5, hj3, h⟩ := bind_some h
  refine SWp.seqC [] [] (fun v : Unit => ⟨[], []⟩) (fun v => j5 = Sum.inl v) (fun v hv => ?_) fun K4 hK4 => ?_
  rotate_left
  · refine SWp.seqR rfl (hPB _ rfl) fun K hK => ?_
    iterate 3 (refine wps_cons rfl fun K hK => ?_; simp [hN']; refine hK _ ?_; clear hK)
    refine wps_nil (hK _ ?_); clear hK
    refine SWp.block ?_
    refine SWp.loopO [] [1, 7, 8, 9] [] (fun v : Int => ⟨[(1, .t (vi n2)), (7, .t (.sl false 1 (List.map vi l1))), (8, .t (vi (l1.length : Int))), (9, .t (vi v))], []⟩) (impl_hasInt_l1 l1 n2) _ 0 hj3 (by simp [hN']) ?_
    intro g s9 h7 ho8
    obtain ⟨v6, hg⟩ : ∃ y, y = g := ⟨_, rfl⟩
    subst hg
    simp only [impl_hasInt_l1] at h7
    try dsimp only
    refine SWp.seqR rfl (hPB _ rfl) fun K hK => ?_
    refine wps_cons rfl fun K hK => ?_; simp [hN']; refine hK _ ?_; clear hK
    refine wps_nil (hK _ ?_); clear hK
    refine SWp.seq ?_
    rcases ite_or h7 with ⟨hb10, h7⟩ | ⟨hb11, h7⟩
    · refine SWp.condT' (b := decide (v6 < (l1.length : Int))) (by simp) hb10 ?_
      refine SWp.skip ?_
      show SWp E C _ _ _
      refine SWp.seq ?_
      refine SWp.block ?_
      refine SWp.seqR rfl (hPB _ rfl) fun K hK => ?_
      obtain ⟨e12, he12, h7⟩ := bind_some h7
      obtain ⟨he12a, he12b, he12c, he12d⟩ := getI_some he12
      iterate 3 (refine wps_cons rfl fun K hK => ?_; simp [hN', he12a, he12b, he12c, he12d]; refine hK _ ?_; clear hK)
      refine wps_nil (hK _ ?_); clear hK
      refine SWp.seqR rfl (hPB _ rfl) fun K hK => ?_
      iterate 3 (refine wps_cons rfl fun K hK => ?_; simp [hN']; refine hK _ ?_; clear hK)
      refine wps_nil (hK _ ?_); clear hK
      rcases ite_or h7 with ⟨hb13, h7⟩ | ⟨hb14, h7⟩
      · refine SWp.condT' (b := e12 == n2) (by simp) hb13 ?_
        refine SWp.seqR rfl (hPB _ rfl) fun K hK => ?_
        refine wps_cons rfl fun K hK => ?_; simp [hN']; refine hK _ ?_; clear hK
        refine wps_nil (hK _ ?_); clear hK
        have h15 := congrArg some (ho8 _ (Option.some.inj h7).symm)
        cases h15
        try dsimp only at h
        cases h
        refine SWp.ret ?_
        simp [thenS, inBlockS, res49]
      · refine SWp.condF' (b := e12 == n2) (by simp) hb14 ?_
        refine SWp.skip ?_
        show SWp E C _ _ _
        refine SWp.reg rfl (hPB _ rfl) fun K hK => ?_
        iterate 2 (refine wps_cons rfl fun K hK => ?_; simp [hN']; refine hK _ ?_; clear hK)
        refine wps_nil (hK _ ?_); clear hK
        cases h7
        exact ⟨_, [], rfl, by simp [hN']⟩
    · refine SWp.condF' (b := decide (v6 < (l1.length : Int))) (by simp) hb11 ?_
      refine SWp.exit ?_
      have h16 := congrArg some (ho8 _ (Option.some.inj h7).symm)
      cases h16
      exact hK4 _ _ [] rfl (by simp [hN'])
  subst hv
  obtain ⟨⟩ := v
  try dsimp only at h ⊢
  refine SWp.seqR rfl (hPB _ rfl) fun K hK => ?_
  refine wps_cons rfl fun K hK => ?_; simp [hN']; refine hK _ ?_; clear hK
  refine wps_nil (hK _ ?_); clear hK
  cases h
  refine SWp.ret ?_
  simp [thenS, inBlockS, res49]
end Go.Proofs.T
set_option linter.unusedVariables false
set_option linter.unusedSimpArgs false
set_option maxHeartbeats 1000000
namespace Go.Proofs.T
open Go.OM
theorem res52 : Tryz.f52.results.toList = [.tmp 6] := rfl
theorem ent52 : Enters E.P 52 := enters_of Tryz.func52 (by simp [Tryz.f52]) rfl
theorem impl_in_ok (n1 : Int) (low2 : Int) (high3 : Int) {r0 : Bool} (h : impl_in n1 low2 high3 = some r0) : Ok E 52 [.val (vi n1), .val (vi low2), .val (vi high3)] [vb r0] [] := by
  refine ok_of_body (fn := Tryz.f52) Tryz.func52 rfl (by simp [Tryz.f52]) fun C hN hP => ?_
  have hPB : ∀ l, pinK [] l = true → pinB C.pin l = true := pinB_of (by rw [hP]; rfl)
  have hN' : C.N = 15 := hN
  clear hN
  unfold impl_in at h
  refine SWp.seqR rfl (hPB _ rfl) fun K hK => ?_
  refine wps_cons rfl fun K hK => ?_; simp [hN']; refine hK _ ?_; clear hK
  refine wps_nil (hK _ ?_); clear hK
  obtain ⟨v8, hj4, h⟩ := bind_some h
  refine SWp.seqRC rfl (hPB _ rfl) [6] [] (fun _ : Unit => ⟨[(6, .t (vb v8))], []⟩) (fun _ => True) (fun _ _ => ?_) fun K5 hK5 => ?_
  rotate_left
  · refine wps_cons rfl fun K hK => ?_; simp [hN']; refine hK _ ?_; clear hK
    iterate 3 (refine wps_cons rfl fun K hK => ?_; simp [hN']; refine hK _ ?_; clear hK)
    rcases ite_or hj4 with ⟨hb6, hj4⟩ | ⟨hb7, hj4⟩
    · have hb6s := hb6
      try simp at hb6s
      iterate 5 (refine wps_cons rfl fun K hK => ?_; simp [hN', hb6, hb6s]; refine hK _ ?_; clear hK)
      refine wps_nil ?_
      cases hj4
      exact hK5 _ () [] trivial (by simp [hN', hb6, hb6s])
    · have hb7s := hb7
      try simp at hb7s
      iterate 3 (refine wps_off fun K hK => ?_; simp [hN', hb7, hb7s]; refine hK _ ?_; clear hK)
      iterate 2 (refine wps_cons rfl fun K hK => ?_; simp [hN', hb7, hb7s]; refine hK _ ?_; clear hK)
      refine wps_nil ?_
      cases hj4
      exact hK5 _ () [] trivial (by simp [hN', hb7, hb7s])
  cases h
  refine SWp.ret ?_
  simp [thenS, inBlockS, res52]
end Go.Proofs.T
set_option linter.unusedVariables false
set_option linter.unusedSimpArgs false
set_option maxHeartbeats 1000000
namespace Go.Proofs.T
open Go.OM
theorem res59 : Tryz.f59.results.toList = [.tmp 4] := rfl
theorem ent59 : Enters E.P 59 := enters_of Tryz.func59 (by simp [Tryz.f59]) rfl
theorem impl_roots_ok (p1 : GProgram) (fn2 : Int) {r0 : List Int} (h : impl_roots p1 fn2 = some r0) : Ok E 59 [.val (GProgram.enc false p1), .val (vi fn2)] [.sl true 1 (List.map vi r0)] [] := by
  refine ok_of_body (fn := Tryz.f59) Tryz.func59 rfl (by simp [Tryz.f59]) fun C hN hP => ?_
  have hPB : ∀ l, pinK [] l = true → pinB C.pin l = true := pinB_of (by rw [hP]; rfl)
  have hN' : C.N = 37 := hN
  clear hN
  unfold impl_roots at h
  refine SWp.seqR rfl (hPB _ rfl) fun K hK => ?_
  iterate 2 (refine wps_cons rfl fun K hK => ?_; simp [hN']; refine hK _ ?_; clear hK)
  refine wps_nil (hK _ ?_); clear hK
  refine SWp.seq ?_
  refine SWp.seqR rfl (hPB _ rfl) fun K hK => ?_
  iterate 5 (refine wps_cons rfl fun K hK => ?_; simp [hN']; refine hK _ ?_; clear hK)
  obtain ⟨r3, hc4, h⟩ := bind_some h
  refine wps_call [(.take, .tmp 6), (.take, .const (.int .i64 0)), (.take, .tmp 10)] rfl rfl ent52 (impl_in_ok _ _ _ hc4) fun K hK => ?_; simp [hN']; refine hK _ ?_; clear hK
  refine wps_cons rfl fun K hK => ?_; simp [hN']; refine hK _ ?_; clear hK
  refine wps_nil (hK _ ?_); clear hK
  rcases ite_or h with ⟨hb5, h⟩ | ⟨hb6, h⟩
  · refine SWp.condT' (b := !r3) (by simp) hb5 ?_
    refine SWp.seqR rfl (hPB _ rfl) fun K hK => ?_
    refine wps_cons rfl fun K hK => ?_; simp [hN']; refine hK _ ?_; clear hK
    refine wps_nil (hK _ ?_); clear hK
    cases h
    refine SWp.ret ?_
    simp [thenS, inBlockS, res59]
  · refine SWp.condF' (b := !r3) (by simp) hb6 ?_
    refine SWp.skip ?_
    show SWp E C _ _ _
    refine SWp.seqR rfl (hPB _ rfl) fun K hK => ?_
    iterate 3 (refine wps_cons rfl fun K hK => ?_; simp [hN']; refine hK _ ?_; clear hK)
    obtain ⟨e7, he7, h⟩ := bind_some h
    obtain ⟨he7a, he7b, he7c, he7d⟩ := getI_some he7
    iterate 5 (refine wps_cons rfl fun K hK => ?_; simp [hN', he7a, he7b, he7c, he7d]; refine hK _ ?_; clear hK)
    refine wps_nil (hK _ ?_); clear hK
    refine SWp.seq ?_
    refine SWp.seqR rfl (hPB _ rfl) fun K hK => ?_
    iterate 3 (refine wps_cons rfl fun K hK => ?_; simp [hN']; refine hK _ ?_; clear hK)
    obtain ⟨e8, he8, h⟩ := bind_some h
    obtain ⟨he8a, he8b, he8c, he8d⟩ := getI_some he8
    iterate 4 (refine wps_cons rfl fun K hK => ?_; simp [hN', he8a, he8b, he8c, he8d]; refine hK _ ?_; clear hK)
    refine wps_nil (hK _ ?_); clear hK
    rcases ite_or h with ⟨hb9, h⟩ | ⟨hb10, h⟩
    · refine SWp.condT' (b := e8.Ret != (-1)) (by simp) hb9 ?_
      refine SWp.reg rfl (hPB _ rfl) fun K hK => ?_
      iterate 4 (refine wps_cons rfl fun K hK => ?_; simp [hN']; refine hK _ ?_; clear hK)
      obtain ⟨e11, he11, h⟩ := bind_some h
      obtain ⟨he11a, he11b, he11c, he11d⟩ := getI_some he11
      iterate 4 (refine wps_cons rfl fun K hK => ?_; simp [hN', he11a, he11b, he11c, he11d]; refine hK _ ?_; clear hK)
      obtain ⟨l12, hl12, h⟩ := bind_some h
      obtain ⟨hl12a, hl12b, hl12d⟩ := appI_some hl12
      have hl12f : List.map vi [e7.Body] ++ List.map vi [e11.Ret] = List.map vi l12 := app_map (f := vi) hl12d
      simp [eSl] at hl12a hl12b hl12f
      iterate 2 (refine wps_cons rfl fun K hK => ?_; simp [hN', he11a, he11b, he11c, he11d, hl12a, hl12b, hl12f]; refine hK _ ?_; clear hK)
      refine wps_nil (hK _ ?_); clear hK
      show SWp E C _ _ _
      refine SWp.seqR rfl (hPB _ rfl) fun K hK => ?_
      iterate 2 (refine wps_cons rfl fun K hK => ?_; simp [hN']; refine hK _ ?_; clear hK)
      refine wps_nil (hK _ ?_); clear hK
      cases h
      refine SWp.ret ?_
      simp [thenS, inBlockS, res59]
    · refine SWp.condF' (b := e8.Ret != (-1)) (by simp) hb10 ?_
      refine SWp.skip ?_
      show SWp E C _ _ _
      refine SWp.seqR rfl (hPB _ rfl) fun K hK => ?_
      iterate 2 (refine wps_cons rfl fun K hK => ?_; simp [hN']; refine hK _ ?_; clear hK)
      refine wps_nil (hK _ ?_); clear hK
      cases h
      refine SWp.ret ?_
      simp [thenS, inBlockS, res59]
end Go.Proofs.T
set_option linter.unusedVariables false
set_option linter.unusedSimpArgs false
set_option maxHeartbeats 1000000
namespace Go.Proofs.T
open Go.OM
theorem res110 : Tryz.f110.results.toList = [.tmp 2] := rfl
theorem ent110 : Enters E.P 110 := enters_of Tryz.func110 (by simp [Tryz.f110]) rfl
theorem impl_isLetter_ok (b1 : Int) {r0 : Bool} (h : impl_isLetter b1 = some r0) : Ok E 110 [.val (vk .u8 b1)] [vb r0] [] := by
  refine ok_of_body (fn := Tryz.f110) Tryz.func110 rfl (by simp [Tryz.f110]) fun C hN hP => ?_
  have hPB : ∀ l, pinK [] l = true → pinB C.pin l = true := pinB_of (by rw [hP]; rfl)
  have hN' : C.N = 9 := hN
  clear hN
  unfold impl_isLetter at h
  refine SWp.seqR rfl (hPB _ rfl) fun K hK => ?_
  refine wps_cons rfl fun K hK => ?_; simp [hN']; refine hK _ ?_; clear hK
  refine wps_nil (hK _ ?_); clear hK
  obtain ⟨v6, hj2, h⟩ := bind_some h
  refine SWp.seqRC rfl (hPB _ rfl) [2] [] (fun _ : Unit => ⟨[(2, .t (vb v6))], []⟩) (fun _ => True) (fun _ _ => ?_) fun K3 hK3 => ?_
  rotate_left
  · refine wps_cons rfl fun K hK => ?_; simp [hN']; refine hK _ ?_; clear hK
    iterate 2 (refine wps_cons rfl fun K hK => ?_; simp [hN']; refine hK _ ?_; clear hK)
    rcases ite_or hj2 with ⟨hb4, hj2⟩ | ⟨hb5, hj2⟩
    · have hb4s := hb4
      try simp at hb4s
      iterate 4 (refine wps_cons rfl fun K hK => ?_; simp [hN', hb4, hb4s]; refine hK _ ?_; clear hK)
      refine wps_nil ?_
      cases hj2
      exact hK3 _ () [] trivial (by simp [hN', hb4, hb4s])
    · have hb5s := hb5
      try simp at hb5s
      iterate 2 (refine wps_off fun K hK => ?_; simp [hN', hb5, hb5s]; refine hK _ ?_; clear hK)
      iterate 2 (refine wps_cons rfl fun K hK => ?_; simp [hN', hb5, hb5s]; refine hK _ ?_; clear hK)
      refine wps_nil ?_
      cases hj2
      exact hK3 _ () [] trivial (by simp [hN', hb5, hb5s])
  cases h
  refine SWp.ret ?_
  simp [thenS, inBlockS, res110]
end Go.Proofs.T
set_option linter.unusedVariables false
set_option linter.unusedSimpArgs false
set_option maxHeartbeats 1000000
namespace Go.Proofs.T
open Go.OM
theorem res111 : Tryz.f111.results.toList = [.tmp 2] := rfl
theorem ent111 : Enters E.P 111 := enters_of Tryz.func111 (by simp [Tryz.f111]) rfl
theorem impl_isFigure_ok (b1 : Int) {r0 : Bool} (h : impl_isFigure b1 = some r0) : Ok E 111 [.val (vk .u8 b1)] [vb r0] [] := by
  refine ok_of_body (fn := Tryz.f111) Tryz.func111 rfl (by simp [Tryz.f111]) fun C hN hP => ?_
  have hPB : ∀ l, pinK [] l = true → pinB C.pin l = true := pinB_of (by rw [hP]; rfl)
  have hN' : C.N = 9 := hN
  clear hN
  unfold impl_isFigure at h
  refine SWp.seqR rfl (hPB _ rfl) fun K hK => ?_
  refine wps_cons rfl fun K hK => ?_; simp [hN']; refine hK _ ?_; clear hK
  refine wps_nil (hK _ ?_); clear hK
  obtain ⟨v6, hj2, h⟩ := bind_some h
  refine SWp.seqRC rfl (hPB _ rfl) [2] [] (fun _ : Unit => ⟨[(2, .t (vb v6))], []⟩) (fun _ => True) (fun _ _ => ?_) fun K3 hK3 => ?_
  rotate_left
  · refine wps_cons rfl fun K hK => ?_; simp [hN']; refine hK _ ?_; clear hK
    iterate 2 (refine wps_cons rfl fun K hK => ?_; simp [hN']; refine hK _ ?_; clear hK)
    rcases ite_or hj2 with ⟨hb4, hj2⟩ | ⟨hb5, hj2⟩
    · have hb4s := hb4
      try simp at hb4s
      iterate 4 (refine wps_cons rfl fun K hK => ?_; simp [hN', hb4, hb4s]; refine hK _ ?_; clear hK)
      refine wps_nil ?_
      cases hj2
      exact hK3 _ () [] trivial (by simp [hN', hb4, hb4s])
    · have hb5s := hb5
      try simp at hb5s
      iterate 2 (refine wps_off fun K hK => ?_; simp [hN', hb5, hb5s]; refine hK _ ?_; clear hK)
      iterate 2 (refine wps_cons rfl fun K hK => ?_; simp [hN', hb5, hb5s]; refine hK _ ?_; clear hK)
      refine wps_nil ?_
      cases hj2
      exact hK3 _ () [] trivial (by simp [hN', hb5, hb5s])
  cases h
  refine SWp.ret ?_
  simp [thenS, inBlockS, res111]
end Go.Proofs.T
namespace Go.Proofs
open Go.Shelf
def Tryz.lays191_ren : Go.Shelf.Ren := ⟨fun | 191 => 53 | 189 => 81 | 125 => 99 | 257 => 98 | 128 => 122 | 129 => 123 | 294 => 113 | 295 => 114 | 296 => 115 | 297 => 116 | 298 => 117 | 299 => 118 | 216 => 119 | 300 => 120 | 301 => 121 | 328 => 130 | 329 => 131 | 330 => 132 | 331 => 133 | 332 => 134 | 215 => 135 | 343 => 138 | n => n, fun | 28 => 37 | 0 => 0 | 3 => 3 | 46 => 108 | 51 => 125 | 53 => 127 | 4 => 4 | 183 => 118 | 182 => 117 | 131 => 49 | 5 => 5 | 9 => 9 | 218 => 131 | 222 => 135 | 228 => 138 | 229 => 113 | n => n, fun | n => n⟩
theorem Tryz.lays191 : Go.Proofs.Lays.n191 Tryz.prog Tryz.lays191_ren := {
  mixed := by kernel_rfl
  f125 := Tryz.func99.trans (congrArg some (by kernel_rfl))
  f128 := Tryz.func122.trans (congrArg some (by kernel_rfl))
  f129 := Tryz.func123.trans (congrArg some (by kernel_rfl))
  f189 := Tryz.func81.trans (congrArg some (by kernel_rfl))
  f191 := Tryz.func53.trans (congrArg some (by kernel_rfl))
  f215 := Tryz.func135.trans (congrArg some (by kernel_rfl))
  f216 := Tryz.func119.trans (congrArg some (by kernel_rfl))
  f257 := Tryz.func98.trans (congrArg some (by kernel_rfl))
  f294 := Tryz.func113.trans (congrArg some (by kernel_rfl))
  f295 := Tryz.func114.trans (congrArg some (by kernel_rfl))
  f296 := Tryz.func115.trans (congrArg some (by kernel_rfl))
  f297 := Tryz.func116.trans (congrArg some (by kernel_rfl))
  f298 := Tryz.func117.trans (congrArg some (by kernel_rfl))
  f299 := Tryz.func118.trans (congrArg some (by kernel_rfl))
  f300 := Tryz.func120.trans (congrArg some (by kernel_rfl))
  f301 := Tryz.func121.trans (congrArg some (by kernel_rfl))
  f328 := Tryz.func130.trans (congrArg some (by kernel_rfl))
  f329 := Tryz.func131.trans (congrArg some (by kernel_rfl))
  f330 := Tryz.func132.trans (congrArg some (by kernel_rfl))
  f331 := Tryz.func133.trans (congrArg some (by kernel_rfl))
  f332 := Tryz.func134.trans (congrArg some (by kernel_rfl))
  f343 := Tryz.func138.trans (congrArg some (by kernel_rfl))
  t0 := Tryz.underlying0
  a0 := Tryz.isAgg0
  z0 := Tryz.sizeOf0
  v0 := Tryz.zeroValue0
  t3 := Tryz.underlying3
  a3 := Tryz.isAgg3
  z3 := Tryz.sizeOf3
  v3 := Tryz.zeroValue3
  t4 := Tryz.underlying4
  a4 := Tryz.isAgg4
  z4 := Tryz.sizeOf4
  v4 := Tryz.zeroValue4
  t5 := Tryz.underlying5
  a5 := Tryz.isAgg5
  z5 := Tryz.sizeOf5
  v5 := Tryz.zeroValue5
  t9 := Tryz.underlying9
  a9 := Tryz.isAgg9
  z9 := Tryz.sizeOf9
  v9 := Tryz.zeroValue9
  t28 := Tryz.underlying37
  a28 := Tryz.isAgg37
  z28 := Tryz.sizeOf37
  v28 := Tryz.zeroValue37
  t46 := Tryz.underlying108
  a46 := Tryz.isAgg108
  z46 := Tryz.sizeOf108
  v46 := Tryz.zeroValue108
  t51 := Tryz.underlying125
  a51 := Tryz.isAgg125
  z51 := Tryz.sizeOf125
  v51 := Tryz.zeroValue125
  t53 := Tryz.underlying127
  a53 := Tryz.isAgg127
  z53 := Tryz.sizeOf127
  v53 := Tryz.zeroValue127
  t131 := Tryz.underlying49
  a131 := Tryz.isAgg49
  z131 := Tryz.sizeOf49
  v131 := Tryz.zeroValue49
  t182 := Tryz.underlying117
  a182 := Tryz.isAgg117
  z182 := Tryz.sizeOf117
  v182 := Tryz.zeroValue117
  t183 := Tryz.underlying118
  a183 := Tryz.isAgg118
  z183 := Tryz.sizeOf118
  v183 := Tryz.zeroValue118
  t218 := Tryz.underlying131
  a218 := Tryz.isAgg131
  z218 := Tryz.sizeOf131
  v218 := Tryz.zeroValue131
  t222 := Tryz.underlying135
  a222 := Tryz.isAgg135
  z222 := Tryz.sizeOf135
  v222 := Tryz.zeroValue135
  t228 := Tryz.underlying138
  a228 := Tryz.isAgg138
  z228 := Tryz.sizeOf138
  v228 := Tryz.zeroValue138
  t229 := Tryz.underlying113
  a229 := Tryz.isAgg113
  z229 := Tryz.sizeOf113
  v229 := Tryz.zeroValue113 }
open Go.Sort Go.RowKit in
theorem Tryz.sort_Ints (blk off cap : Nat) (zs : List Int) (w : World) (hH : Holds (Value.int .i64) w blk off zs.toArray) (hblk : blk < w.heap.size) (hsz : zs.length < 4611686018427387904) :
    Calls Tryz.prog 53 #[.slice (some ⟨blk, off, none⟩) zs.length cap] w fun e w' =>
      e = .returned (.tuple #[]) ∧ ∃ n os, w' = grow (putRow (Value.int .i64) (Sort.ahead w n) blk off (zs.mergeSort fun x y => decide (x ≤ y)).toArray) os := Any.sort_Ints Tryz.lays191 blk off cap zs w hH hblk hsz
def Tryz.lays146_ren : Go.Shelf.Ren := ⟨fun | 146 => 137 | 221 => 139 | 268 => 140 | 138 => 141 | 143 => 142 | 195 => 143 | 197 => 144 | 218 => 145 | 219 => 146 | 260 => 147 | 217 => 148 | 225 => 149 | 224 => 150 | 267 => 151 | 266 => 152 | 314 => 153 | n => n, fun | 9 => 9 | 31 => 128 | 3 => 3 | 4 => 4 | 0 => 0 | 105 => 144 | 21 => 21 | 5 => 5 | 46 => 108 | 119 => 148 | 139 => 151 | 138 => 150 | 146 => 152 | 51 => 125 | n => n, fun | 1 => 0 | 3 => 1 | 4 => 2 | n => n⟩
theorem Tryz.lays146 : Go.Proofs.Lays.n146 Tryz.prog Tryz.lays146_ren := {
  mixed := by kernel_rfl
  f138 := Tryz.func141.trans (congrArg some (by kernel_rfl))
  f143 := Tryz.func142.trans (congrArg some (by kernel_rfl))
  f146 := Tryz.func137.trans (congrArg some (by kernel_rfl))
  f195 := Tryz.func143.trans (congrArg some (by kernel_rfl))
  f197 := Tryz.func144.trans (congrArg some (by kernel_rfl))
  f217 := Tryz.func148.trans (congrArg some (by kernel_rfl))
  f218 := Tryz.func145.trans (congrArg some (by kernel_rfl))
  f219 := Tryz.func146.trans (congrArg some (by kernel_rfl))
  f221 := Tryz.func139.trans (congrArg some (by kernel_rfl))
  f224 := Tryz.func150.trans (congrArg some (by kernel_rfl))
  f225 := Tryz.func149.trans (congrArg some (by kernel_rfl))
  f260 := Tryz.func147.trans (congrArg some (by kernel_rfl))
  f266 := Tryz.func152.trans (congrArg some (by kernel_rfl))
  f267 := Tryz.func151.trans (congrArg some (by kernel_rfl))
  f268 := Tryz.func140.trans (congrArg some (by kernel_rfl))
  f314 := Tryz.func153.trans (congrArg some (by kernel_rfl))
  t0 := Tryz.underlying0
  a0 := Tryz.isAgg0
  z0 := Tryz.sizeOf0
  v0 := Tryz.zeroValue0
  t3 := Tryz.underlying3
  a3 := Tryz.isAgg3
  z3 := Tryz.sizeOf3
  v3 := Tryz.zeroValue3
  t4 := Tryz.underlying4
  a4 := Tryz.isAgg4
  z4 := Tryz.sizeOf4
  v4 := Tryz.zeroValue4
  t5 := Tryz.underlying5
  a5 := Tryz.isAgg5
  z5 := Tryz.sizeOf5
  v5 := Tryz.zeroValue5
  t9 := Tryz.underlying9
  a9 := Tryz.isAgg9
  z9 := Tryz.sizeOf9
  v9 := Tryz.zeroValue9
  t21 := Tryz.underlying21
  a21 := Tryz.isAgg21
  z21 := Tryz.sizeOf21
  v21 := Tryz.zeroValue21
  t31 := Tryz.underlying128
  a31 := Tryz.isAgg128
  z31 := Tryz.sizeOf128
  v31 := Tryz.zeroValue128
  t46 := Tryz.underlying108
  a46 := Tryz.isAgg108
  z46 := Tryz.sizeOf108
  v46 := Tryz.zeroValue108
  t51 := Tryz.underlying125
  a51 := Tryz.isAgg125
  z51 := Tryz.sizeOf125
  v51 := Tryz.zeroValue125
  t105 := Tryz.underlying144
  a105 := Tryz.isAgg144
  z105 := Tryz.sizeOf144
  v105 := Tryz.zeroValue144
  t119 := Tryz.underlying148
  a119 := Tryz.isAgg148
  z119 := Tryz.sizeOf148
  t138 := Tryz.underlying150
  a138 := Tryz.isAgg150
  z138 := Tryz.sizeOf150
  v138 := Tryz.zeroValue150
  t139 := Tryz.underlying151
  a139 := Tryz.isAgg151
  z139 := Tryz.sizeOf151
  v139 := Tryz.zeroValue151
  t146 := Tryz.underlying152
  a146 := Tryz.isAgg152
  z146 := Tryz.sizeOf152
  v146 := Tryz.zeroValue152
  g1 := by kernel_rfl
  g3 := by kernel_rfl
  g4 := by kernel_rfl }
open Go.RowKit Go.Lib in
theorem Tryz.strings_Split (s sep : ByteArray) (m : Int) (w : World) (hs : s.size < 4294967281) (hm : w.cell? ⟨0, 0, none⟩ = some (.int .i64 m)) (h1 : 1 ≤ sep.size) :
    Calls Tryz.prog 137 #[.string s, .string sep] w fun e w' =>
      e = .returned (.slice (some ⟨w.heap.size, 0, none⟩) (Lib.countB s sep + 1) (Lib.countB s sep + 1)) ∧ w' = w.alloc (.cells ((Lib.splitB sep 0 (Lib.countB s sep) s).map Value.string).toArray 9) := Any.strings_Split Tryz.lays146 (by kernel_rfl) s sep m w hs hm h1
open Go.RowKit Go.Sort in
theorem Tryz.sort_Ints_none (p : Option Addr) (cap : Nat) (w : World) :
    Calls Tryz.prog 53 #[.slice p 0 cap] w fun e w' => e = .returned (.tuple #[]) ∧ w' = w := Any.sort_Ints_none Tryz.lays191 p cap w
end Go.Proofs
set_option linter.unusedVariables false
set_option linter.unusedSimpArgs false
namespace Go.Proofs.T
open Go.OM
theorem ent137 : Enters E.P 137 := enters_of Tryz.func137 (by simp [Tryz.f137]) rfl
theorem maxLen_cell {w : World} (h : E.Gl w) : ∃ m, w.cell? ⟨0, 0, none⟩ = some (.int .i64 m) := by
  obtain ⟨cs, t, fr, h1, m, h2⟩ := h _ (List.mem_singleton.2 rfl)
  refine ⟨m, ?_⟩
  have h1' : w.heap[0]? = some (.cells cs t fr) := h1
  simp [World.cell?, h1', h2]
theorem strings_Split_ok (s sep : ByteArray) {r0 : List ByteArray} (h : strings_Split s sep = some r0) : Ok E 137 [.val (vs s), .val (vs sep)] [.sl true 1 (List.map vs r0)] [] := by
  unfold strings_Split at h
  split at h
  case isFalse => cases h
  rename_i hr
  injection h with h
  subst h
  have := ok_fresh (E := E) (f := 137) (ty := 9) (xs := [.string s, .string sep]) (es := (Lib.splitB sep 0 (Lib.countB s sep) s).map Value.string) (by simp [TA.OneCell]) fun w hw => by
    obtain ⟨m, hm⟩ := maxLen_cell hw
    have h1 := Tryz.strings_Split s sep m w hr.1 hm hr.2.1
    refine h1.mono fun e w' ⟨h2, h3⟩ => ⟨?_, h3⟩
    rw [h2, List.length_map, hr.2.2]
    try rfl
  rw [List.map_map] at this
  exact this
theorem ent53 : Enters E.P 53 := enters_of Tryz.func53 (by simp [Tryz.f53]) rfl
theorem sort_Ints_ok (l : List Int) {r0 : List Int} (h : sort_Ints l = some r0) : OkIO E 53 [.val (.sl true 1 (List.map vi l))] [] [] [(0, .sl true 1 (List.map vi r0))] := by
  unfold sort_Ints at h
  split at h
  case isFalse => cases h
  rename_i hr
  injection h with h
  subst h
  exact ok_sorts (fun blk off cap zs w h1 h2 h3 => Tryz.sort_Ints blk off cap zs w h1 h2 h3) (fun p cap w => Tryz.sort_Ints_none p cap w) l hr
end Go.Proofs.T
set_option linter.unusedVariables false
set_option linter.unusedSimpArgs false
set_option maxHeartbeats 1000000
namespace Go.Proofs.T
open Go.OM
theorem res129 : Tryz.f129.results.toList = [.tmp 4] := rfl
theorem ent129 : Enters E.P 129 := enters_of Tryz.func129 (by simp [Tryz.f129]) rfl
theorem impl_oneOf_ok (s1 : ByteArray) (words2 : ByteArray) {r0 : Bool} (h : impl_oneOf s1 words2 = some r0) : Ok E 129 [.val (vs s1), .val (vs words2)] [vb r0] [] := by
  refine ok_of_body (fn := Tryz.f129) Tryz.func129 rfl (by simp [Tryz.f129]) fun C hN hP => ?_
  have hPB : ∀ l, pinK [] l = true → pinB C.pin l = true := pinB_of (by rw [hP]; rfl)
  have hN' : C.N = 18 := hN
  clear hN
  unfold impl_oneOf at h
  refine SWp.seqR rfl (hPB _ rfl) fun K hK => ?_
  refine wps_cons rfl fun K hK => ?_; simp [hN']; refine hK _ ?_; clear hK
  refine wps_nil (hK _ ?_); clear hK
  obtain ⟨j5, hj3, h⟩ := bind_some h
  refine SWp.seqC [] [] (fun v : Unit => ⟨[], []⟩) (fun v => j5 = Sum.inl v) (fun v hv => ?_) fun K4 hK4 => ?_
  rotate_left
  · refine SWp.seqR rfl (hPB _ rfl) fun K hK => ?_
    refine wps_cons rfl fun K hK => ?_; simp [hN']; refine hK _ ?_; clear hK
    obtain ⟨r6, hc7, hj3⟩ := bind_some hj3
    refine wps_call [(.take, .tmp 7), (.take, .const (.string (⟨#[32]⟩ : ByteArray)))] rfl rfl ent137 (strings_Split_ok _ _ hc7) fun K hK => ?_; simp [hN']; refine hK _ ?_; clear hK
    iterate 2 (refine wps_cons rfl fun K hK => ?_; simp [hN']; refine hK _ ?_; clear hK)
    refine wps_nil (hK _ ?_); clear hK
    refine SWp.block ?_
    refine SWp.loopO [] [0, 8, 9, 10] [] (fun v : Int => ⟨[(0, .t (vs s1)), (8, .t (.sl true 1 (List.map vs r6))), (9, .t (vi (r6.length : Int))), (10, .t (vi v))], []⟩) (impl_oneOf_l1 s1 r6) _ 0 hj3 (by simp [hN']) ?_
    intro g s11 h9 ho10
    obtain ⟨v8, hg⟩ : ∃ y, y = g := ⟨_, rfl⟩
    subst hg
    simp only [impl_oneOf_l1] at h9
    try dsimp only
    refine SWp.seqR rfl (hPB _ rfl) fun K hK => ?_
    refine wps_cons rfl fun K hK => ?_; simp [hN']; refine hK _ ?_; clear hK
    refine wps_nil (hK _ ?_); clear hK
    refine SWp.seq ?_
    rcases ite_or h9 with ⟨hb12, h9⟩ | ⟨hb13, h9⟩
    · refine SWp.condT' (b := decide (v8 < (r6.length : Int))) (by simp) hb12 ?_
      refine SWp.skip ?_
      show SWp E C _ _ _
      refine SWp.seq ?_
      refine SWp.block ?_
      refine SWp.seqR rfl (hPB _ rfl) fun K hK => ?_
      obtain ⟨e14, he14, h9⟩ := bind_some h9
      obtain ⟨he14a, he14b, he14c, he14d⟩ := getI_some he14
      iterate 3 (refine wps_cons rfl fun K hK => ?_; simp [hN', he14a, he14b, he14c, he14d]; refine hK _ ?_; clear hK)
      refine wps_nil (hK _ ?_); clear hK
      refine SWp.seqR rfl (hPB _ rfl) fun K hK => ?_
      iterate 3 (refine wps_cons rfl fun K hK => ?_; simp [hN']; refine hK _ ?_; clear hK)
      refine wps_nil (hK _ ?_); clear hK
      rcases ite_or h9 with ⟨hb15, h9⟩ | ⟨hb16, h9⟩
      · refine SWp.condT' (b := sEq e14 s1) (by simp) hb15 ?_
        refine SWp.seqR rfl (hPB _ rfl) fun K hK => ?_
        refine wps_cons rfl fun K hK => ?_; simp [hN']; refine hK _ ?_; clear hK
        refine wps_nil (hK _ ?_); clear hK
        have h17 := congrArg some (ho10 _ (Option.some.inj h9).symm)
        cases h17
        try dsimp only at h
        cases h
        refine SWp.ret ?_
        simp [thenS, inBlockS, res129]
      · refine SWp.condF' (b := sEq e14 s1) (by simp) hb16 ?_
        refine SWp.skip ?_
        show SWp E C _ _ _
        refine SWp.reg rfl (hPB _ rfl) fun K hK => ?_
        iterate 2 (refine wps_cons rfl fun K hK => ?_; simp [hN']; refine hK _ ?_; clear hK)
        refine wps_nil (hK _ ?_); clear hK
        cases h9
        exact ⟨_, [], rfl, by simp [hN']⟩
    · refine SWp.condF' (b := decide (v8 < (r6.length : Int))) (by simp) hb13 ?_
      refine SWp.exit ?_
      have h18 := congrArg some (ho10 _ (Option.some.inj h9).symm)
      cases h18
      exact hK4 _ _ [] rfl (by simp [hN'])
  subst hv
  obtain ⟨⟩ := v
  try dsimp only at h ⊢
  refine SWp.seqR rfl (hPB _ rfl) fun K hK => ?_
  refine wps_cons rfl fun K hK => ?_; simp [hN']; refine hK _ ?_; clear hK
  refine wps_nil (hK _ ?_); clear hK
  cases h
  refine SWp.ret ?_
  simp [thenS, inBlockS, res129]
end Go.Proofs.T
set_option linter.unusedVariables false
set_option linter.unusedSimpArgs false
set_option maxHeartbeats 1000000
namespace Go.Proofs.T
open Go.OM
theorem res112 : Tryz.f112.results.toList = [.tmp 2] := rfl
theorem ent112 : Enters E.P 112 := enters_of Tryz.func112 (by simp [Tryz.f112]) rfl
theorem impl_KeyWord_ok (s1 : ByteArray) {r0 : Bool} (h : impl_KeyWord s1 = some r0) : Ok E 112 [.val (vs s1)] [vb r0] [] := by
  refine ok_of_body (fn := Tryz.f112) Tryz.func112 rfl (by simp [Tryz.f112]) fun C hN hP => ?_
  have hPB : ∀ l, pinK [] l = true → pinB C.pin l = true := pinB_of (by rw [hP]; rfl)
  have hN' : C.N = 5 := hN
  clear hN
  unfold impl_KeyWord at h
  refine SWp.seqR rfl (hPB _ rfl) fun K hK => ?_
  refine wps_cons rfl fun K hK => ?_; simp [hN']; refine hK _ ?_; clear hK
  refine wps_nil (hK _ ?_); clear hK
  refine SWp.seqR rfl (hPB _ rfl) fun K hK => ?_
  refine wps_cons rfl fun K hK => ?_; simp [hN']; refine hK _ ?_; clear hK
  obtain ⟨r2, hc3, h⟩ := bind_some h
  refine wps_call [(.take, .tmp 3), (.take, .const (.string (⟨#[102, 110, 32, 108, 101, 116, 32, 105, 102, 32, 101, 108, 115, 101, 32, 119, 104, 105, 108, 101, 32, 112, 114, 105, 110, 116, 32, 100, 111, 32, 110, 101, 119, 32, 99, 108, 111, 110, 101, 32, 109, 117, 116, 32, 105, 110, 112, 117, 116, 32, 105, 110, 116, 32, 98, 111, 120, 32, 114, 101, 116]⟩ : ByteArray)))] rfl rfl ent129 (impl_oneOf_ok _ _ hc3) fun K hK => ?_; simp [hN']; refine hK _ ?_; clear hK
  refine wps_cons rfl fun K hK => ?_; simp [hN']; refine hK _ ?_; clear hK
  refine wps_nil (hK _ ?_); clear hK
  cases h
  refine SWp.ret ?_
  simp [thenS, inBlockS, res112]
end Go.Proofs.T
set_option linter.unusedVariables false
set_option linter.unusedSimpArgs false
set_option maxHeartbeats 1000000
namespace Go.Proofs.T
open Go.OM
theorem res94 : Tryz.f94.results.toList = [.tmp 2] := rfl
theorem ent94 : Enters E.P 94 := enters_of Tryz.func94 (by simp [Tryz.f94]) rfl
theorem impl_NameOk_ok (s1 : ByteArray) {r0 : Bool} (h : impl_NameOk s1 = some r0) : Ok E 94 [.val (vs s1)] [vb r0] [] := by
  refine ok_of_body (fn := Tryz.f94) Tryz.func94 rfl (by simp [Tryz.f94]) fun C hN hP => ?_
  have hPB : ∀ l, pinK [] l = true → pinB C.pin l = true := pinB_of (by rw [hP]; rfl)
  have hN' : C.N = 35 := hN
  clear hN
  unfold impl_NameOk at h
  refine SWp.seqR rfl (hPB _ rfl) fun K hK => ?_
  refine wps_cons rfl fun K hK => ?_; simp [hN']; refine hK _ ?_; clear hK
  refine wps_nil (hK _ ?_); clear hK
  refine SWp.seq ?_
  obtain ⟨v11, hj2, h⟩ := bind_some h
  refine SWp.seqRC rfl (hPB _ rfl) [0, 13] [] (fun _ : Unit => ⟨[(0, .t (vs s1)), (13, .t (vb v11))], []⟩) (fun _ => True) (fun _ _ => ?_) fun K3 hK3 => ?_
  rotate_left
  · refine wps_cons rfl fun K hK => ?_; simp [hN']; refine hK _ ?_; clear hK
    refine wps_cons rfl fun K hK => ?_; simp [hN']; refine hK _ ?_; clear hK
    obtain ⟨r4, hc5, hj2⟩ := bind_some hj2
    refine wps_call [(.take, .tmp 5), (.take, .const (.int .i64 1)), (.take, .const (.int .i64 8))] rfl rfl ent52 (impl_in_ok _ _ _ hc5) fun K hK => ?_; simp [hN']; refine hK _ ?_; clear hK
    iterate 2 (refine wps_cons rfl fun K hK => ?_; simp [hN']; refine hK _ ?_; clear hK)
    rcases ite_or hj2 with ⟨hb6, hj2⟩ | ⟨hb7, hj2⟩
    · have hb6s := hb6
      try simp at hb6s
      iterate 4 (refine wps_off fun K hK => ?_; simp [hN', hb6, hb6s]; refine hK _ ?_; clear hK)
      refine wps_cons rfl fun K hK => ?_; simp [hN', hb6, hb6s]; refine hK _ ?_; clear hK
      refine wps_nil ?_
      cases hj2
      exact hK3 _ () [] trivial (by simp [hN', hb6, hb6s])
    · have hb7s := hb7
      try simp at hb7s
      refine wps_cons rfl fun K hK => ?_; simp [hN', hb7, hb7s]; refine hK _ ?_; clear hK
      obtain ⟨c8, hc8, hj2⟩ := bind_some hj2
      obtain ⟨hc8a, hc8b, hc8c⟩ := sAt_some hc8
      have hc8e : 0 < s1.size := by omega
      refine wps_cons rfl fun K hK => ?_; simp [hN', hb7, hb7s, hc8a, hc8b, hc8c, hc8e]; refine hK _ ?_; clear hK
      obtain ⟨r9, hc10, hj2⟩ := bind_some hj2
      refine wps_call [(.take, .tmp 10)] rfl rfl ent110 (impl_isLetter_ok _ hc10) fun K hK => ?_; simp [hN', hb7, hb7s, hc8a, hc8b, hc8c, hc8e]; refine hK _ ?_; clear hK
      iterate 2 (refine wps_cons rfl fun K hK => ?_; simp [hN', hb7, hb7s, hc8a, hc8b, hc8c, hc8e]; refine hK _ ?_; clear hK)
      refine wps_nil ?_
      cases hj2
      exact hK3 _ () [] trivial (by simp [hN', hb7, hb7s, hc8a, hc8b, hc8c, hc8e])
  rcases ite_or h with ⟨hb12, h⟩ | ⟨hb13, h⟩
  · refine SWp.condT' (b := v11) (by simp) hb12 ?_
    refine SWp.seqR rfl (hPB _ rfl) fun K hK => ?_
    refine wps_cons rfl fun K hK => ?_; simp [hN']; refine hK _ ?_; clear hK
    refine wps_nil (hK _ ?_); clear hK
    cases h
    refine SWp.ret ?_
    simp [thenS, inBlockS, res94]
  · refine SWp.condF' (b := v11) (by simp) hb13 ?_
    refine SWp.skip ?_
    show SWp E C _ _ _
    obtain ⟨j16, hj14, h⟩ := bind_some h
    refine SWp.seqC [0] [] (fun v : Unit => ⟨[(0, .t (vs s1))], []⟩) (fun v => j16 = Sum.inl v) (fun v hv => ?_) fun K15 hK15 => ?_
    rotate_left
    · refine SWp.seqR rfl (hPB _ rfl) fun K hK => ?_
      refine wps_cons rfl fun K hK => ?_; simp [hN']; refine hK _ ?_; clear hK
      refine wps_nil (hK _ ?_); clear hK
      refine SWp.block ?_
      refine SWp.loopO [] [0, 3] [] (fun v : Int => ⟨[(0, .t (vs s1)), (3, .t (vi v))], []⟩) (impl_NameOk_l1 s1) _ 0 hj14 (by simp [hN']) ?_
      intro g s20 h18 ho19
      obtain ⟨i17, hg⟩ : ∃ y, y = g := ⟨_, rfl⟩
      subst hg
      simp only [impl_NameOk_l1] at h18
      try dsimp only
      refine SWp.seq ?_
      refine SWp.seqR rfl (hPB _ rfl) fun K hK => ?_
      iterate 4 (refine wps_cons rfl fun K hK => ?_; simp [hN']; refine hK _ ?_; clear hK)
      refine wps_nil (hK _ ?_); clear hK
      rcases ite_or h18 with ⟨hb21, h18⟩ | ⟨hb22, h18⟩
      · refine SWp.condT' (b := decide (i17 < (s1.size : Int))) (by simp) hb21 ?_
        refine SWp.skip ?_
        show SWp E C _ _ _
        refine SWp.seq ?_
        refine SWp.block ?_
        obtain ⟨v32, hj23, h18⟩ := bind_some h18
        refine SWp.seqRC rfl (hPB _ rfl) [0, 3, 31] [] (fun _ : Unit => ⟨[(0, .t (vs s1)), (3, .t (vi i17)), (31, .t (vb v32))], []⟩) (fun _ => True) (fun _ _ => ?_) fun K24 hK24 => ?_
        rotate_left
        · refine wps_cons rfl fun K hK => ?_; simp [hN']; refine hK _ ?_; clear hK
          refine wps_cons rfl fun K hK => ?_; simp [hN']; refine hK _ ?_; clear hK
          obtain ⟨c25, hc25, hj23⟩ := bind_some hj23
          obtain ⟨hc25a, hc25b, hc25c⟩ := sAt_some hc25
          refine wps_cons rfl fun K hK => ?_; simp [hN', hc25a, hc25b, hc25c]; refine hK _ ?_; clear hK
          obtain ⟨r26, hc27, hj23⟩ := bind_some hj23
          refine wps_call [(.take, .tmp 22)] rfl rfl ent110 (impl_isLetter_ok _ hc27) fun K hK => ?_; simp [hN', hc25a, hc25b, hc25c]; refine hK _ ?_; clear hK
          iterate 2 (refine wps_cons rfl fun K hK => ?_; simp [hN', hc25a, hc25b, hc25c]; refine hK _ ?_; clear hK)
          rcases ite_or hj23 with ⟨hb28, hj23⟩ | ⟨hb29, hj23⟩
          · have hb28s := hb28
            try simp at hb28s
            iterate 3 (refine wps_cons rfl fun K hK => ?_; simp [hN', hc25a, hc25b, hc25c, hb28, hb28s]; refine hK _ ?_; clear hK)
            obtain ⟨r30, hc31, hj23⟩ := bind_some hj23
            refine wps_call [(.take, .tmp 28)] rfl rfl ent111 (impl_isFigure_ok _ hc31) fun K hK => ?_; simp [hN', hc25a, hc25b, hc25c, hb28, hb28s]; refine hK _ ?_; clear hK
            iterate 2 (refine wps_cons rfl fun K hK => ?_; simp [hN', hc25a, hc25b, hc25c, hb28, hb28s]; refine hK _ ?_; clear hK)
            refine wps_nil ?_
            cases hj23
            exact hK24 _ () [] trivial (by simp [hN', hc25a, hc25b, hc25c, hb28, hb28s])
          · have hb29s := hb29
            try simp at hb29s
            iterate 5 (refine wps_off fun K hK => ?_; simp [hN', hc25a, hc25b, hc25c, hb29, hb29s]; refine hK _ ?_; clear hK)
            refine wps_cons rfl fun K hK => ?_; simp [hN', hc25a, hc25b, hc25c, hb29, hb29s]; refine hK _ ?_; clear hK
            refine wps_nil ?_
            cases hj23
            exact hK24 _ () [] trivial (by simp [hN', hc25a, hc25b, hc25c, hb29, hb29s])
        rcases ite_or h18 with ⟨hb33, h18⟩ | ⟨hb34, h18⟩
        · refine SWp.condT' (b := v32) (by simp) hb33 ?_
          refine SWp.seqR rfl (hPB _ rfl) fun K hK => ?_
          refine wps_cons rfl fun K hK => ?_; simp [hN']; refine hK _ ?_; clear hK
          refine wps_nil (hK _ ?_); clear hK
          have h35 := congrArg some (ho19 _ (Option.some.inj h18).symm)
          cases h35
          try dsimp only at h
          cases h
          refine SWp.ret ?_
          simp [thenS, inBlockS, res94]
        · refine SWp.condF' (b := v32) (by simp) hb34 ?_
          refine SWp.skip ?_
          show SWp E C _ _ _
          refine SWp.reg rfl (hPB _ rfl) fun K hK => ?_
          iterate 3 (refine wps_cons rfl fun K hK => ?_; simp [hN']; refine hK _ ?_; clear hK)
          refine wps_nil (hK _ ?_); clear hK
          cases h18
          exact ⟨_, [], rfl, by simp [hN']⟩
      · refine SWp.condF' (b := decide (i17 < (s1.size : Int))) (by simp) hb22 ?_
        refine SWp.exit ?_
        have h36 := congrArg some (ho19 _ (Option.some.inj h18).symm)
        cases h36
        exact hK15 _ _ [] rfl (by simp [hN'])
    subst hv
    obtain ⟨⟩ := v
    try dsimp only at h ⊢
    refine SWp.seqR rfl (hPB _ rfl) fun K hK => ?_
    refine wps_cons rfl fun K hK => ?_; simp [hN']; refine hK _ ?_; clear hK
    obtain ⟨r37, hc38, h⟩ := bind_some h
    refine wps_call [(.take, .tmp 32)] rfl rfl ent112 (impl_KeyWord_ok _ hc38) fun K hK => ?_; simp [hN']; refine hK _ ?_; clear hK
    iterate 2 (refine wps_cons rfl fun K hK => ?_; simp [hN']; refine hK _ ?_; clear hK)
    refine wps_nil (hK _ ?_); clear hK
    cases h
    refine SWp.ret ?_
    simp [thenS, inBlockS, res94]
end Go.Proofs.T
set_option linter.unusedVariables false
set_option linter.unusedSimpArgs false
set_option maxHeartbeats 1000000
namespace Go.Proofs.T
open Go.OM
theorem res126 : Tryz.f126.results.toList = [.tmp 2, .tmp 3] := rfl
theorem ent126 : Enters E.P 126 := enters_of Tryz.func126 (by simp [Tryz.f126]) rfl
theorem impl_shape_ok (kind1 : Int) {r0 : Int} {r1 : Int} (h : impl_shape kind1 = some (r0, r1)) : Ok E 126 [.val (vi kind1)] [vi r0, vi r1] [] := by
  refine ok_of_body (fn := Tryz.f126) Tryz.func126 rfl (by simp [Tryz.f126]) fun C hN hP => ?_
  have hPB : ∀ l, pinK [] l = true → pinB C.pin l = true := pinB_of (by rw [hP]; rfl)
  have hN' : C.N = 23 := hN
  clear hN
  unfold impl_shape at h
  refine SWp.seqR rfl (hPB _ rfl) fun K hK => ?_
  iterate 2 (refine wps_cons rfl fun K hK => ?_; simp [hN']; refine hK _ ?_; clear hK)
  refine wps_nil (hK _ ?_); clear hK
  refine SWp.seq ?_
  refine SWp.seqR rfl (hPB _ rfl) fun K hK => ?_
  refine wps_cons rfl fun K hK => ?_; simp [hN']; refine hK _ ?_; clear hK
  refine wps_nil (hK _ ?_); clear hK
  refine SWp.block ?_
  obtain ⟨v15, hj2, h⟩ := bind_some h
  refine SWp.seqC [4, 5] [] (fun _ : Unit => ⟨[(4, .t (vi kind1)), (5, .t (vb v15))], []⟩) (fun _ => True) (fun _ _ => ?_) fun K3 hK3 => ?_
  rotate_left
  · refine SWp.seqR rfl (hPB _ rfl) fun K hK => ?_
    iterate 2 (refine wps_cons rfl fun K hK => ?_; simp [hN']; refine hK _ ?_; clear hK)
    refine wps_nil (hK _ ?_); clear hK
    rcases ite_or hj2 with ⟨hb5, hj2⟩ | ⟨hb6, hj2⟩
    · refine SWp.condT' (b := kind1 == 8) (by simp) hb5 ?_
      refine SWp.skip ?_
      cases hj2
      exact hK3 _ () [] trivial (by simp [hN'])
    · refine SWp.condF' (b := kind1 == 8) (by simp) hb6 ?_
      refine SWp.seqR rfl (hPB _ rfl) fun K hK => ?_
      iterate 2 (refine wps_cons rfl fun K hK => ?_; simp [hN']; refine hK _ ?_; clear hK)
      refine wps_nil (hK _ ?_); clear hK
      rcases ite_or hj2 with ⟨hb7, hj2⟩ | ⟨hb8, hj2⟩
      · refine SWp.condT' (b := kind1 == 13) (by simp) hb7 ?_
        refine SWp.skip ?_
        cases hj2
        exact hK3 _ () [] trivial (by simp [hN'])
      · refine SWp.condF' (b := kind1 == 13) (by simp) hb8 ?_
        refine SWp.seqR rfl (hPB _ rfl) fun K hK => ?_
        iterate 2 (refine wps_cons rfl fun K hK => ?_; simp [hN']; refine hK _ ?_; clear hK)
        refine wps_nil (hK _ ?_); clear hK
        rcases ite_or hj2 with ⟨hb9, hj2⟩ | ⟨hb10, hj2⟩
        · refine SWp.condT' (b := kind1 == 14) (by simp) hb9 ?_
          refine SWp.skip ?_
          cases hj2
          exact hK3 _ () [] trivial (by simp [hN'])
        · refine SWp.condF' (b := kind1 == 14) (by simp) hb10 ?_
          refine SWp.seqR rfl (hPB _ rfl) fun K hK => ?_
          iterate 2 (refine wps_cons rfl fun K hK => ?_; simp [hN']; refine hK _ ?_; clear hK)
          refine wps_nil (hK _ ?_); clear hK
          rcases ite_or hj2 with ⟨hb11, hj2⟩ | ⟨hb12, hj2⟩
          · refine SWp.condT' (b := kind1 == 15) (by simp) hb11 ?_
            refine SWp.skip ?_
            cases hj2
            exact hK3 _ () [] trivial (by simp [hN'])
          · refine SWp.condF' (b := kind1 == 15) (by simp) hb12 ?_
            refine SWp.seqR rfl (hPB _ rfl) fun K hK => ?_
            iterate 2 (refine wps_cons rfl fun K hK => ?_; simp [hN']; refine hK _ ?_; clear hK)
            refine wps_nil (hK _ ?_); clear hK
            rcases ite_or hj2 with ⟨hb13, hj2⟩ | ⟨hb14, hj2⟩
            · refine SWp.condT' (b := kind1 == 18) (by simp) hb13 ?_
              refine SWp.skip ?_
              cases hj2
              exact hK3 _ () [] trivial (by simp [hN'])
            · refine SWp.condF' (b := kind1 == 18) (by simp) hb14 ?_
              refine SWp.reg rfl (hPB _ rfl) fun K hK => ?_
              iterate 2 (refine wps_cons rfl fun K hK => ?_; simp [hN']; refine hK _ ?_; clear hK)
              refine wps_nil (hK _ ?_); clear hK
              cases hj2
              exact hK3 _ () [] trivial (by simp [hN'])
  rcases ite_or h with ⟨hb16, h⟩ | ⟨hb17, h⟩
  · refine SWp.condT' (b := v15) (by simp) hb16 ?_
    refine SWp.seqR rfl (hPB _ rfl) fun K hK => ?_
    iterate 2 (refine wps_cons rfl fun K hK => ?_; simp [hN']; refine hK _ ?_; clear hK)
    refine wps_nil (hK _ ?_); clear hK
    cases h
    refine SWp.ret ?_
    simp [thenS, inBlockS, res126]
  · refine SWp.condF' (b := v15) (by simp) hb17 ?_
    obtain ⟨v27, hj18, h⟩ := bind_some h
    refine SWp.seqC [4, 12] [] (fun _ : Unit => ⟨[(4, .t (vi kind1)), (12, .t (vb v27))], []⟩) (fun _ => True) (fun _ _ => ?_) fun K19 hK19 => ?_
    rotate_left
    · refine SWp.seqR rfl (hPB _ rfl) fun K hK => ?_
      iterate 2 (refine wps_cons rfl fun K hK => ?_; simp [hN']; refine hK _ ?_; clear hK)
      refine wps_nil (hK _ ?_); clear hK
      rcases ite_or hj18 with ⟨hb21, hj18⟩ | ⟨hb22, hj18⟩
      · refine SWp.condT' (b := kind1 == 9) (by simp) hb21 ?_
        refine SWp.skip ?_
        cases hj18
        exact hK19 _ () [] trivial (by simp [hN'])
      · refine SWp.condF' (b := kind1 == 9) (by simp) hb22 ?_
        refine SWp.seqR rfl (hPB _ rfl) fun K hK => ?_
        iterate 2 (refine wps_cons rfl fun K hK => ?_; simp [hN']; refine hK _ ?_; clear hK)
        refine wps_nil (hK _ ?_); clear hK
        rcases ite_or hj18 with ⟨hb23, hj18⟩ | ⟨hb24, hj18⟩
        · refine SWp.condT' (b := kind1 == 10) (by simp) hb23 ?_
          refine SWp.skip ?_
          cases hj18
          exact hK19 _ () [] trivial (by simp [hN'])
        · refine SWp.condF' (b := kind1 == 10) (by simp) hb24 ?_
          refine SWp.seqR rfl (hPB _ rfl) fun K hK => ?_
          iterate 2 (refine wps_cons rfl fun K hK => ?_; simp [hN']; refine hK _ ?_; clear hK)
          refine wps_nil (hK _ ?_); clear hK
          rcases ite_or hj18 with ⟨hb25, hj18⟩ | ⟨hb26, hj18⟩
          · refine SWp.condT' (b := kind1 == 11) (by simp) hb25 ?_
            refine SWp.skip ?_
            cases hj18
            exact hK19 _ () [] trivial (by simp [hN'])
          · refine SWp.condF' (b := kind1 == 11) (by simp) hb26 ?_
            refine SWp.reg rfl (hPB _ rfl) fun K hK => ?_
            iterate 2 (refine wps_cons rfl fun K hK => ?_; simp [hN']; refine hK _ ?_; clear hK)
            refine wps_nil (hK _ ?_); clear hK
            cases hj18
            exact hK19 _ () [] trivial (by simp [hN'])
    rcases ite_or h with ⟨hb28, h⟩ | ⟨hb29, h⟩
    · refine SWp.condT' (b := v27) (by simp) hb28 ?_
      refine SWp.seqR rfl (hPB _ rfl) fun K hK => ?_
      iterate 2 (refine wps_cons rfl fun K hK => ?_; simp [hN']; refine hK _ ?_; clear hK)
      refine wps_nil (hK _ ?_); clear hK
      cases h
      refine SWp.ret ?_
      simp [thenS, inBlockS, res126]
    · refine SWp.condF' (b := v27) (by simp) hb29 ?_
      refine SWp.seqR rfl (hPB _ rfl) fun K hK => ?_
      iterate 2 (refine wps_cons rfl fun K hK => ?_; simp [hN']; refine hK _ ?_; clear hK)
      refine wps_nil (hK _ ?_); clear hK
      rcases ite_or h with ⟨hb30, h⟩ | ⟨hb31, h⟩
      · refine SWp.condT' (b := kind1 == 16) (by simp) hb30 ?_
        refine SWp.seqR rfl (hPB _ rfl) fun K hK => ?_
        iterate 2 (refine wps_cons rfl fun K hK => ?_; simp [hN']; refine hK _ ?_; clear hK)
        refine wps_nil (hK _ ?_); clear hK
        cases h
        refine SWp.ret ?_
        simp [thenS, inBlockS, res126]
      · refine SWp.condF' (b := kind1 == 16) (by simp) hb31 ?_
        refine SWp.seqR rfl (hPB _ rfl) fun K hK => ?_
        iterate 2 (refine wps_cons rfl fun K hK => ?_; simp [hN']; refine hK _ ?_; clear hK)
        refine wps_nil (hK _ ?_); clear hK
        rcases ite_or h with ⟨hb32, h⟩ | ⟨hb33, h⟩
        · refine SWp.condT' (b := kind1 == 12) (by simp) hb32 ?_
          refine SWp.seqR rfl (hPB _ rfl) fun K hK => ?_
          iterate 2 (refine wps_cons rfl fun K hK => ?_; simp [hN']; refine hK _ ?_; clear hK)
          refine wps_nil (hK _ ?_); clear hK
          cases h
          refine SWp.ret ?_
          simp [thenS, inBlockS, res126]
        · refine SWp.condF' (b := kind1 == 12) (by simp) hb33 ?_
          refine SWp.seqR rfl (hPB _ rfl) fun K hK => ?_
          iterate 2 (refine wps_cons rfl fun K hK => ?_; simp [hN']; refine hK _ ?_; clear hK)
          refine wps_nil (hK _ ?_); clear hK
          rcases ite_or h with ⟨hb34, h⟩ | ⟨hb35, h⟩
          · refine SWp.condT' (b := kind1 == 20) (by simp) hb34 ?_
            refine SWp.seqR rfl (hPB _ rfl) fun K hK => ?_
            iterate 2 (refine wps_cons rfl fun K hK => ?_; simp [hN']; refine hK _ ?_; clear hK)
            refine wps_nil (hK _ ?_); clear hK
            cases h
            refine SWp.ret ?_
            simp [thenS, inBlockS, res126]
          · refine SWp.condF' (b := kind1 == 20) (by simp) hb35 ?_
            refine SWp.skip ?_
            show SWp E C _ _ _
            refine SWp.seqR rfl (hPB _ rfl) fun K hK => ?_
            iterate 2 (refine wps_cons rfl fun K hK => ?_; simp [hN']; refine hK _ ?_; clear hK)
            refine wps_nil (hK _ ?_); clear hK
            cases h
            refine SWp.ret ?_
            simp [thenS, inBlockS, res126]
end Go.Proofs.T
set_option linter.unusedVariables false
set_option linter.unusedSimpArgs false
set_option maxHeartbeats 1000000
namespace Go.Proofs.T
open Go.OM
theorem res95 : Tryz.f95.results.toList = [.tmp 2] := rfl
theorem ent95 : Enters E.P 95 := enters_of Tryz.func95 (by simp [Tryz.f95]) rfl
theorem impl_isValue_ok (kind1 : Int) {r0 : Bool} (h : impl_isValue kind1 = some r0) : Ok E 95 [.val (vi kind1)] [vb r0] [] := by
  refine ok_of_body (fn := Tryz.f95) Tryz.func95 rfl (by simp [Tryz.f95]) fun C hN hP => ?_
  have hPB : ∀ l, pinK [] l = true → pinB C.pin l = true := pinB_of (by rw [hP]; rfl)
  have hN' : C.N = 5 := hN
  clear hN
  unfold impl_isValue at h
  refine SWp.seqR rfl (hPB _ rfl) fun K hK => ?_
  refine wps_cons rfl fun K hK => ?_; simp [hN']; refine hK _ ?_; clear hK
  refine wps_nil (hK _ ?_); clear hK
  refine SWp.seqR rfl (hPB _ rfl) fun K hK => ?_
  refine wps_cons rfl fun K hK => ?_; simp [hN']; refine hK _ ?_; clear hK
  obtain ⟨r2, hc3, h⟩ := bind_some h
  refine wps_call [(.take, .tmp 3), (.take, .const (.int .i64 1)), (.take, .const (.int .i64 12))] rfl rfl ent52 (impl_in_ok _ _ _ hc3) fun K hK => ?_; simp [hN']; refine hK _ ?_; clear hK
  refine wps_cons rfl fun K hK => ?_; simp [hN']; refine hK _ ?_; clear hK
  refine wps_nil (hK _ ?_); clear hK
  cases h
  refine SWp.ret ?_
  simp [thenS, inBlockS, res95]
end Go.Proofs.T
set_option linter.unusedVariables false
set_option linter.unusedSimpArgs false
set_option maxHeartbeats 1000000
namespace Go.Proofs.T
open Go.OM
theorem res136 : Tryz.f136.results.toList = [.tmp 2] := rfl
theorem ent136 : Enters E.P 136 := enters_of Tryz.func136 (by simp [Tryz.f136]) rfl
theorem impl_isStep_ok (kind1 : Int) {r0 : Bool} (h : impl_isStep kind1 = some r0) : Ok E 136 [.val (vi kind1)] [vb r0] [] := by
  refine ok_of_body (fn := Tryz.f136) Tryz.func136 rfl (by simp [Tryz.f136]) fun C hN hP => ?_
  have hPB : ∀ l, pinK [] l = true → pinB C.pin l = true := pinB_of (by rw [hP]; rfl)
  have hN' : C.N = 5 := hN
  clear hN
  unfold impl_isStep at h
  refine SWp.seqR rfl (hPB _ rfl) fun K hK => ?_
  refine wps_cons rfl fun K hK => ?_; simp [hN']; refine hK _ ?_; clear hK
  refine wps_nil (hK _ ?_); clear hK
  refine SWp.seqR rfl (hPB _ rfl) fun K hK => ?_
  refine wps_cons rfl fun K hK => ?_; simp [hN']; refine hK _ ?_; clear hK
  obtain ⟨r2, hc3, h⟩ := bind_some h
  refine wps_call [(.take, .tmp 3), (.take, .const (.int .i64 13)), (.take, .const (.int .i64 19))] rfl rfl ent52 (impl_in_ok _ _ _ hc3) fun K hK => ?_; simp [hN']; refine hK _ ?_; clear hK
  refine wps_cons rfl fun K hK => ?_; simp [hN']; refine hK _ ?_; clear hK
  refine wps_nil (hK _ ?_); clear hK
  cases h
  refine SWp.ret ?_
  simp [thenS, inBlockS, res136]
end Go.Proofs.T
set_option linter.unusedVariables false
set_option linter.unusedSimpArgs false
set_option maxHeartbeats 1000000
namespace Go.Proofs.T
open Go.OM
theorem res127 : Tryz.f127.results.toList = [.tmp 6] := rfl
theorem ent127 : Enters E.P 127 := enters_of Tryz.func127 (by simp [Tryz.f127]) rfl
theorem impl_kidFits_ok (kind1 : Int) (i2 : Int) (kid3 : Int) {r0 : Bool} (h : impl_kidFits kind1 i2 kid3 = some r0) : Ok E 127 [.val (vi kind1), .val (vi i2), .val (vi kid3)] [vb r0] [] := by
  refine ok_of_body (fn := Tryz.f127) Tryz.func127 rfl (by simp [Tryz.f127]) fun C hN hP => ?_
  have hPB : ∀ l, pinK [] l = true → pinB C.pin l = true := pinB_of (by rw [hP]; rfl)
  have hN' : C.N = 32 := hN
  clear hN
  unfold impl_kidFits at h
  refine SWp.seqR rfl (hPB _ rfl) fun K hK => ?_
  refine wps_cons rfl fun K hK => ?_; simp [hN']; refine hK _ ?_; clear hK
  refine wps_nil (hK _ ?_); clear hK
  refine SWp.seq ?_
  refine SWp.block ?_
  refine SWp.seqR rfl (hPB _ rfl) fun K hK => ?_
  iterate 3 (refine wps_cons rfl fun K hK => ?_; simp [hN']; refine hK _ ?_; clear hK)
  refine wps_nil (hK _ ?_); clear hK
  rcases ite_or h with ⟨hb4, h⟩ | ⟨hb5, h⟩
  · refine SWp.condT' (b := kind1 == 20) (by simp) hb4 ?_
    refine SWp.seqR rfl (hPB _ rfl) fun K hK => ?_
    refine wps_cons rfl fun K hK => ?_; simp [hN']; refine hK _ ?_; clear hK
    obtain ⟨r6, hc7, h⟩ := bind_some h
    refine wps_call [(.take, .tmp 10)] rfl rfl ent136 (impl_isStep_ok _ hc7) fun K hK => ?_; simp [hN']; refine hK _ ?_; clear hK
    refine wps_cons rfl fun K hK => ?_; simp [hN']; refine hK _ ?_; clear hK
    refine wps_nil (hK _ ?_); clear hK
    cases h
    refine SWp.ret ?_
    simp [thenS, inBlockS, res127]
  · refine SWp.condF' (b := kind1 == 20) (by simp) hb5 ?_
    obtain ⟨v14, hj8, h⟩ := bind_some h
    refine SWp.seqRC rfl (hPB _ rfl) [0, 2, 12] [] (fun _ : Unit => ⟨[(0, .t (vi kind1)), (2, .t (vi kid3)), (12, .t (vb v14))], []⟩) (fun _ => True) (fun _ _ => ?_) fun K9 hK9 => ?_
    rotate_left
    · refine wps_cons rfl fun K hK => ?_; simp [hN']; refine hK _ ?_; clear hK
      iterate 2 (refine wps_cons rfl fun K hK => ?_; simp [hN']; refine hK _ ?_; clear hK)
      rcases ite_or hj8 with ⟨hb10, hj8⟩ | ⟨hb11, hj8⟩
      · have hb10s := hb10
        try simp at hb10s
        iterate 2 (refine wps_off fun K hK => ?_; simp [hN', hb10, hb10s]; refine hK _ ?_; clear hK)
        iterate 6 (refine wps_cons rfl fun K hK => ?_; simp [hN', hb10, hb10s]; refine hK _ ?_; clear hK)
        refine wps_nil ?_
        cases hj8
        exact hK9 _ () [] trivial (by simp [hN', hb10, hb10s])
      · have hb11s := hb11
        try simp at hb11s
        iterate 4 (refine wps_cons rfl fun K hK => ?_; simp [hN', hb11, hb11s]; refine hK _ ?_; clear hK)
        rcases ite_or hj8 with ⟨hb12, hj8⟩ | ⟨hb13, hj8⟩
        · have hb12s := hb12
          try simp at hb12s
          iterate 4 (refine wps_cons rfl fun K hK => ?_; simp [hN', hb11, hb11s, hb12, hb12s]; refine hK _ ?_; clear hK)
          refine wps_nil ?_
          cases hj8
          exact hK9 _ () [] trivial (by simp [hN', hb11, hb11s, hb12, hb12s])
        · have hb13s := hb13
          try simp at hb13s
          iterate 2 (refine wps_off fun K hK => ?_; simp [hN', hb11, hb11s, hb13, hb13s]; refine hK _ ?_; clear hK)
          iterate 2 (refine wps_cons rfl fun K hK => ?_; simp [hN', hb11, hb11s, hb13, hb13s]; refine hK _ ?_; clear hK)
          refine wps_nil ?_
          cases hj8
          exact hK9 _ () [] trivial (by simp [hN', hb11, hb11s, hb13, hb13s])
    rcases ite_or h with ⟨hb15, h⟩ | ⟨hb16, h⟩
    · refine SWp.condT' (b := v14) (by simp) hb15 ?_
      refine SWp.seqR rfl (hPB _ rfl) fun K hK => ?_
      iterate 3 (refine wps_cons rfl fun K hK => ?_; simp [hN']; refine hK _ ?_; clear hK)
      refine wps_nil (hK _ ?_); clear hK
      cases h
      refine SWp.ret ?_
      simp [thenS, inBlockS, res127]
    · refine SWp.condF' (b := v14) (by simp) hb16 ?_
      refine SWp.seqR rfl (hPB _ rfl) fun K hK => ?_
      iterate 3 (refine wps_cons rfl fun K hK => ?_; simp [hN']; refine hK _ ?_; clear hK)
      refine wps_nil (hK _ ?_); clear hK
      rcases ite_or h with ⟨hb17, h⟩ | ⟨hb18, h⟩
      · refine SWp.condT' (b := kind1 == 19) (by simp) hb17 ?_
        refine SWp.seqR rfl (hPB _ rfl) fun K hK => ?_
        iterate 3 (refine wps_cons rfl fun K hK => ?_; simp [hN']; refine hK _ ?_; clear hK)
        refine wps_nil (hK _ ?_); clear hK
        cases h
        refine SWp.ret ?_
        simp [thenS, inBlockS, res127]
      · refine SWp.condF' (b := kind1 == 19) (by simp) hb18 ?_
        refine SWp.skip ?_
        show SWp E C _ _ _
        refine SWp.seqR rfl (hPB _ rfl) fun K hK => ?_
        refine wps_cons rfl fun K hK => ?_; simp [hN']; refine hK _ ?_; clear hK
        obtain ⟨r19, hc20, h⟩ := bind_some h
        refine wps_call [(.take, .tmp 30)] rfl rfl ent95 (impl_isValue_ok _ hc20) fun K hK => ?_; simp [hN']; refine hK _ ?_; clear hK
        refine wps_cons rfl fun K hK => ?_; simp [hN']; refine hK _ ?_; clear hK
        refine wps_nil (hK _ ?_); clear hK
        cases h
        refine SWp.ret ?_
        simp [thenS, inBlockS, res127]
end Go.Proofs.T
set_option linter.unusedVariables false
set_option linter.unusedSimpArgs false
set_option maxHeartbeats 1000000
namespace Go.Proofs.T
open Go.OM
theorem res128 : Tryz.f128.results.toList = [.tmp 2] := rfl
theorem ent128 : Enters E.P 128 := enters_of Tryz.func128 (by simp [Tryz.f128]) rfl
theorem impl_hasName_ok (kind1 : Int) {r0 : Bool} (h : impl_hasName kind1 = some r0) : Ok E 128 [.val (vi kind1)] [vb r0] [] := by
  refine ok_of_body (fn := Tryz.f128) Tryz.func128 rfl (by simp [Tryz.f128]) fun C hN hP => ?_
  have hPB : ∀ l, pinK [] l = true → pinB C.pin l = true := pinB_of (by rw [hP]; rfl)
  have hN' : C.N = 9 := hN
  clear hN
  unfold impl_hasName at h
  refine SWp.seqR rfl (hPB _ rfl) fun K hK => ?_
  refine wps_cons rfl fun K hK => ?_; simp [hN']; refine hK _ ?_; clear hK
  refine wps_nil (hK _ ?_); clear hK
  obtain ⟨v10, hj2, h⟩ := bind_some h
  refine SWp.seqRC rfl (hPB _ rfl) [2] [] (fun _ : Unit => ⟨[(2, .t (vb v10))], []⟩) (fun _ => True) (fun _ _ => ?_) fun K3 hK3 => ?_
  rotate_left
  · refine wps_cons rfl fun K hK => ?_; simp [hN']; refine hK _ ?_; clear hK
    obtain ⟨r4, hc5, hj2⟩ := bind_some hj2
    refine wps_call [(.take, .tmp 3), (.take, .const (.int .i64 2)), (.take, .const (.int .i64 6))] rfl rfl ent52 (impl_in_ok _ _ _ hc5) fun K hK => ?_; simp [hN']; refine hK _ ?_; clear hK
    refine wps_cons rfl fun K hK => ?_; simp [hN']; refine hK _ ?_; clear hK
    rcases ite_or hj2 with ⟨hb6, hj2⟩ | ⟨hb7, hj2⟩
    · have hb6s := hb6
      try simp at hb6s
      iterate 2 (refine wps_off fun K hK => ?_; simp [hN', hb6, hb6s]; refine hK _ ?_; clear hK)
      iterate 2 (refine wps_cons rfl fun K hK => ?_; simp [hN', hb6, hb6s]; refine hK _ ?_; clear hK)
      refine wps_nil ?_
      cases hj2
      exact hK3 _ () [] trivial (by simp [hN', hb6, hb6s])
    · have hb7s := hb7
      try simp at hb7s
      refine wps_cons rfl fun K hK => ?_; simp [hN', hb7, hb7s]; refine hK _ ?_; clear hK
      obtain ⟨r8, hc9, hj2⟩ := bind_some hj2
      refine wps_call [(.take, .tmp 6), (.take, .const (.int .i64 12)), (.take, .const (.int .i64 15))] rfl rfl ent52 (impl_in_ok _ _ _ hc9) fun K hK => ?_; simp [hN', hb7, hb7s]; refine hK _ ?_; clear hK
      iterate 2 (refine wps_cons rfl fun K hK => ?_; simp [hN', hb7, hb7s]; refine hK _ ?_; clear hK)
      refine wps_nil ?_
      cases hj2
      exact hK3 _ () [] trivial (by simp [hN', hb7, hb7s])
  cases h
  refine SWp.ret ?_
  simp [thenS, inBlockS, res128]
end Go.Proofs.T
set_option linter.unusedVariables false
set_option linter.unusedSimpArgs false
set_option maxHeartbeats 1000000
namespace Go.Proofs.T
open Go.OM
theorem res109 : Tryz.f109.results.toList = [.tmp 4] := rfl
theorem ent109 : Enters E.P 109 := enters_of Tryz.func109 (by simp [Tryz.f109]) rfl
theorem impl_NodeOk_ok (nodes1 : List GNode) (k2 : Int) {r0 : Bool} (h : impl_NodeOk nodes1 k2 = some r0) : Ok E 109 [.val (.sl false 4 (List.map (GNode.enc false) nodes1)), .val (vi k2)] [vb r0] [] := by
  refine ok_of_body (fn := Tryz.f109) Tryz.func109 rfl (by simp [Tryz.f109]) fun C hN hP => ?_
  have hPB : ∀ l, pinK [] l = true → pinB C.pin l = true := pinB_of (by rw [hP]; rfl)
  have hN' : C.N = 101 := hN
  clear hN
  unfold impl_NodeOk at h
  refine SWp.seqR rfl (hPB _ rfl) fun K hK => ?_
  refine wps_cons rfl fun K hK => ?_; simp [hN']; refine hK _ ?_; clear hK
  refine wps_nil (hK _ ?_); clear hK
  refine SWp.seq ?_
  refine SWp.seqR rfl (hPB _ rfl) fun K hK => ?_
  iterate 4 (refine wps_cons rfl fun K hK => ?_; simp [hN']; refine hK _ ?_; clear hK)
  obtain ⟨r3, hc4, h⟩ := bind_some h
  refine wps_call [(.take, .tmp 10), (.take, .const (.int .i64 0)), (.take, .tmp 13)] rfl rfl ent52 (impl_in_ok _ _ _ hc4) fun K hK => ?_; simp [hN']; refine hK _ ?_; clear hK
  refine wps_cons rfl fun K hK => ?_; simp [hN']; refine hK _ ?_; clear hK
  refine wps_nil (hK _ ?_); clear hK
  rcases ite_or h with ⟨hb5, h⟩ | ⟨hb6, h⟩
  · refine SWp.condT' (b := !r3) (by simp) hb5 ?_
    refine SWp.seqR rfl (hPB _ rfl) fun K hK => ?_
    refine wps_cons rfl fun K hK => ?_; simp [hN']; refine hK _ ?_; clear hK
    refine wps_nil (hK _ ?_); clear hK
    cases h
    refine SWp.ret ?_
    simp [thenS, inBlockS, res109]
  · refine SWp.condF' (b := !r3) (by simp) hb6 ?_
    refine SWp.skip ?_
    show SWp E C _ _ _
    refine SWp.seqR rfl (hPB _ rfl) fun K hK => ?_
    iterate 2 (refine wps_cons rfl fun K hK => ?_; simp [hN']; refine hK _ ?_; clear hK)
    obtain ⟨e7, he7, h⟩ := bind_some h
    obtain ⟨he7a, he7b, he7c, he7d⟩ := getI_some he7
    iterate 4 (refine wps_cons rfl fun K hK => ?_; simp [hN', he7a, he7b, he7c, he7d]; refine hK _ ?_; clear hK)
    refine wps_nil (hK _ ?_); clear hK
    refine SWp.seqR rfl (hPB _ rfl) fun K hK => ?_
    iterate 2 (refine wps_cons rfl fun K hK => ?_; simp [hN']; refine hK _ ?_; clear hK)
    obtain ⟨⟨r8, r9⟩, hc10, h⟩ := bind_some h
    try dsimp only at h
    refine wps_call [(.take, .tmp 22)] rfl rfl ent126 (impl_shape_ok _ hc10) fun K hK => ?_; simp [hN']; refine hK _ ?_; clear hK
    iterate 5 (refine wps_cons rfl fun K hK => ?_; simp [hN']; refine hK _ ?_; clear hK)
    refine wps_nil (hK _ ?_); clear hK
    refine SWp.seq ?_
    obtain ⟨v19, hj11, h⟩ := bind_some h
    refine SWp.seqRC rfl (hPB _ rfl) [0, 1, 5, 38] [5] (fun _ : Unit => ⟨[(0, .t (.sl false 4 (List.map (GNode.enc false) nodes1))), (1, .t (vi k2)), (5, .ref (.box 5) 0 []), (38, .t (vb v19))], [(5, [vi e7.Kind, vi e7.Num, vs e7.Name, .sl false 1 (List.map vi e7.Kids)])]⟩) (fun _ => True) (fun _ _ => ?_) fun K12 hK12 => ?_
    rotate_left
    · refine wps_cons rfl fun K hK => ?_; simp [hN']; refine hK _ ?_; clear hK
      refine wps_cons rfl fun K hK => ?_; simp [hN']; refine hK _ ?_; clear hK
      obtain ⟨r13, hc14, hj11⟩ := bind_some hj11
      refine wps_call [(.take, .tmp 27), (.take, .const (.int .i64 1)), (.take, .const (.int .i64 20))] rfl rfl ent52 (impl_in_ok _ _ _ hc14) fun K hK => ?_; simp [hN']; refine hK _ ?_; clear hK
      iterate 2 (refine wps_cons rfl fun K hK => ?_; simp [hN']; refine hK _ ?_; clear hK)
      rcases ite_or hj11 with ⟨hb15, hj11⟩ | ⟨hb16, hj11⟩
      · have hb15s := hb15
        try simp at hb15s
        iterate 7 (refine wps_off fun K hK => ?_; simp [hN', hb15, hb15s]; refine hK _ ?_; clear hK)
        refine wps_cons rfl fun K hK => ?_; simp [hN', hb15, hb15s]; refine hK _ ?_; clear hK
        refine wps_nil ?_
        cases hj11
        exact hK12 _ () [] trivial (by simp [hN', hb15, hb15s])
      · have hb16s := hb16
        try simp at hb16s
        iterate 5 (refine wps_cons rfl fun K hK => ?_; simp [hN', hb16, hb16s]; refine hK _ ?_; clear hK)
        obtain ⟨r17, hc18, hj11⟩ := bind_some hj11
        refine wps_call [(.take, .tmp 33), (.take, .tmp 34), (.take, .tmp 35)] rfl rfl ent52 (impl_in_ok _ _ _ hc18) fun K hK => ?_; simp [hN', hb16, hb16s]; refine hK _ ?_; clear hK
        iterate 2 (refine wps_cons rfl fun K hK => ?_; simp [hN', hb16, hb16s]; refine hK _ ?_; clear hK)
        refine wps_nil ?_
        cases hj11
        exact hK12 _ () [] trivial (by simp [hN', hb16, hb16s])
    rcases ite_or h with ⟨hb20, h⟩ | ⟨hb21, h⟩
    · refine SWp.condT' (b := v19) (by simp) hb20 ?_
      refine SWp.seqR rfl (hPB _ rfl) fun K hK => ?_
      refine wps_cons rfl fun K hK => ?_; simp [hN']; refine hK _ ?_; clear hK
      refine wps_nil (hK _ ?_); clear hK
      cases h
      refine SWp.ret ?_
      simp [thenS, inBlockS, res109]
    · refine SWp.condF' (b := v19) (by simp) hb21 ?_
      refine SWp.skip ?_
      show SWp E C _ _ _
      obtain ⟨j24, hj22, h⟩ := bind_some h
      refine SWp.seqC [5] [5] (fun v : Unit => ⟨[(5, .ref (.box 5) 0 [])], [(5, [vi e7.Kind, vi e7.Num, vs e7.Name, .sl false 1 (List.map vi e7.Kids)])]⟩) (fun v => j24 = Sum.inl v) (fun v hv => ?_) fun K23 hK23 => ?_
      rotate_left
      · refine SWp.seqR rfl (hPB _ rfl) fun K hK => ?_
        iterate 4 (refine wps_cons rfl fun K hK => ?_; simp [hN']; refine hK _ ?_; clear hK)
        refine wps_nil (hK _ ?_); clear hK
        refine SWp.block ?_
        refine SWp.loopO [] [0, 1, 5, 40, 41, 42] [5] (fun v : Int => ⟨[(0, .t (.sl false 4 (List.map (GNode.enc false) nodes1))), (1, .t (vi k2)), (5, .ref (.box 5) 0 []), (40, .t (.sl false 1 (List.map vi e7.Kids))), (41, .t (vi (e7.Kids.length : Int))), (42, .t (vi v))], [(5, [vi e7.Kind, vi e7.Num, vs e7.Name, .sl false 1 (List.map vi e7.Kids)])]⟩) (impl_NodeOk_l1 nodes1 k2 e7) _ 0 hj22 (by simp [hN']) ?_
        intro g s28 h26 ho27
        obtain ⟨v25, hg⟩ : ∃ y, y = g := ⟨_, rfl⟩
        subst hg
        simp only [impl_NodeOk_l1] at h26
        try dsimp only
        refine SWp.seqR rfl (hPB _ rfl) fun K hK => ?_
        refine wps_cons rfl fun K hK => ?_; simp [hN']; refine hK _ ?_; clear hK
        refine wps_nil (hK _ ?_); clear hK
        refine SWp.seq ?_
        rcases ite_or h26 with ⟨hb29, h26⟩ | ⟨hb30, h26⟩
        · refine SWp.condT' (b := decide (v25 < (e7.Kids.length : Int))) (by simp) hb29 ?_
          refine SWp.skip ?_
          show SWp E C _ _ _
          refine SWp.seq ?_
          refine SWp.block ?_
          refine SWp.seqR rfl (hPB _ rfl) fun K hK => ?_
          refine wps_cons rfl fun K hK => ?_; simp [hN']; refine hK _ ?_; clear hK
          obtain ⟨e31, he31, h26⟩ := bind_some h26
          obtain ⟨he31a, he31b, he31c, he31d⟩ := getI_some he31
          iterate 4 (refine wps_cons rfl fun K hK => ?_; simp [hN', he31a, he31b, he31c, he31d]; refine hK _ ?_; clear hK)
          refine wps_nil (hK _ ?_); clear hK
          obtain ⟨v46, hj32, h26⟩ := bind_some h26
          refine SWp.seqC [0, 1, 5, 40, 41, 42, 71] [5] (fun _ : Unit => ⟨[(0, .t (.sl false 4 (List.map (GNode.enc false) nodes1))), (1, .t (vi k2)), (5, .ref (.box 5) 0 []), (40, .t (.sl false 1 (List.map vi e7.Kids))), (41, .t (vi (e7.Kids.length : Int))), (42, .t (vi v25)), (71, .t (vb v46))], [(5, [vi e7.Kind, vi e7.Num, vs e7.Name, .sl false 1 (List.map vi e7.Kids)])]⟩) (fun _ => True) (fun _ _ => ?_) fun K33 hK33 => ?_
          rotate_left
          · obtain ⟨r34, hc35, hj32⟩ := bind_some hj32
            rcases ite_or hj32 with ⟨hb36, hj32⟩ | ⟨hb37, hj32⟩
            · have hb36s := hb36
              try simp at hb36s
              refine SWp.drawT rfl (hPB _ rfl) [(47, .t (vi e31)), (48, .t (vi k2)), (49, .t (vi (IntKind.wrap .i64 (k2 - 1)))), (50, .t (vb r34)), (51, .t (vb (!r34))), (52, .t (vb (!r34))), (53, .tup []), (54, .tup []), (55, .tup []), (56, .tup []), (57, .tup []), (58, .tup []), (59, .t (vb true)), (60, .t (vb true)), (61, .tup []), (62, .tup []), (63, .tup []), (64, .tup []), (65, .tup []), (66, .tup []), (67, .tup []), (68, .tup [])] [[], [], [1], [0, 1, 2], [0, 1, 2, 3], [0, 1, 2, 3, 4], [0, 1, 2, 3, 4, 5], [0, 1, 2, 3, 4, 5, 6], [0, 1, 2, 3, 4, 5], [0, 1, 2, 3, 4, 5, 6, 7, 8], [0, 1, 2, 3, 4, 5], [0, 1, 2, 3, 4, 5, 6, 7, 8, 9, 10], [0, 1, 2, 3, 4, 5, 6, 7, 8, 9, 10, 11], [0, 1, 2, 3, 4, 5, 6, 7, 8, 9, 10, 11, 12], [0, 1, 2, 3, 4, 5, 6, 7, 8, 9, 10, 11, 12, 13], [0, 1, 2, 3, 4, 5, 6, 7, 8, 9, 10, 11, 12, 13, 14], [0, 1, 2, 3, 4, 5, 6, 7, 8, 9, 10, 11, 12, 13], [0, 1, 2, 3, 4, 5, 6, 7, 8, 9, 10, 11, 12, 13], [0, 1, 2, 3, 4, 5, 6, 7, 8, 9, 10, 11, 12, 13], [0, 1, 2, 3, 4, 5, 6, 7, 8, 9, 10, 11, 12, 13, 17, 18], [0, 1, 2, 3, 4, 5, 6, 7, 8, 9, 10, 11, 12, 13, 17, 18, 19], [0, 1, 2, 3, 4, 5, 6, 7, 8, 9, 10, 11, 12, 13, 17, 18, 19, 20], [0, 1, 2, 3, 4, 5, 6, 7, 8, 9, 10, 11, 12, 13, 14, 15, 16, 17, 18, 19, 20, 21], [0, 1, 2, 3, 4, 5, 6, 7, 8, 9, 10, 11, 12, 13, 14, 15, 16, 17, 18, 19, 20, 21, 22], [0, 1, 2, 3, 4, 5, 6, 7, 8, 9, 10, 11, 12, 13, 14, 15, 16, 17, 18, 19, 20, 21, 22, 23]] (by simp) (by simp) (by simp [look]) rfl rfl rfl ?_ fun K hK => ?_
              · refine ⟨?_, ?_, ?_, ?_, ?_, ?_, ?_, ?_, ?_, ?_, ?_, ?_, ?_, ?_, ?_, ?_, ?_, ?_, ?_, ?_, ?_, ?_, trivial⟩
                all_goals (intro τ hbx hb hd hf K hK; try simp [vsAt] at hd; simp [vsAt] at hf; first | (refine wps_cons rfl fun K' hK' => ?_; simp [hN', hbx, hb, hd, hf, hb36, hb36s]; exact hK' _ (wps_nil (hK _ (by simp [vsAt, hbx, hb36, hb36s])))) | (refine wps_call [(.take, .tmp 47), (.take, .const (.int .i64 0)), (.take, .tmp 49)] rfl rfl ent52 (impl_in_ok _ _ _ hc35) fun K' hK' => ?_; simp [hN', hbx, hb, hd, hf, hb36, hb36s]; exact hK' _ (wps_nil (hK _ (by simp [vsAt, hbx, hb36, hb36s])))) | (refine wps_off fun K' hK' => ?_; simp [hN', hbx, hb, hd, hf, hb36, hb36s]; exact hK' _ (wps_nil (hK _ (by simp [vsAt, hbx, hb36, hb36s])))))
              iterate 2 (refine wps_off fun K hK => ?_; simp [hN', hb36, hb36s]; refine hK _ ?_; clear hK)
              refine wps_cons rfl fun K hK => ?_; simp [hN', hb36, hb36s]; refine hK _ ?_; clear hK
              refine wps_nil (hK _ ?_); clear hK
              cases hj32
              exact hK33 _ () [] trivial (by simp [hN', hb36, hb36s])
            · have hb37s := hb37
              try simp at hb37s
              obtain ⟨l38, hl38, hj32⟩ := bind_some hj32
              obtain ⟨hl38a, hl38b, hl38c, hl38d, hl38e, hl38g, hl38i, hl38j⟩ := subI_some hl38
              have hl38f : (List.map vi e7.Kids).take v25.toNat = List.map vi l38 := by subst hl38e; simp
              have hl38m := hl38f; try simp at hl38m
              have hl38k : 0 ≤ e7.Kids.length := by omega
              obtain ⟨r39, hc40, hj32⟩ := bind_some hj32
              rcases ite_or hj32 with ⟨hb41, hj32⟩ | ⟨hb42, hj32⟩
              · have hb41s := hb41
                try simp at hb41s
                refine SWp.drawT rfl (hPB _ rfl) [(47, .t (vi e31)), (48, .t (vi k2)), (49, .t (vi (IntKind.wrap .i64 (k2 - 1)))), (50, .t (vb r34)), (51, .t (vb (!r34))), (52, .t (vb (!r34))), (53, .ref (.box 5) 3 []), (54, .t (.sl false 1 (List.map vi e7.Kids))), (55, .t (vi v25)), (56, .t (.sl false 1 (List.map vi l38))), (57, .t (vi e31)), (58, .t (vb r39)), (59, .t (vb r39)), (60, .t (vb r39)), (61, .tup []), (62, .tup []), (63, .tup []), (64, .tup []), (65, .tup []), (66, .tup []), (67, .tup []), (68, .tup [])] [[], [], [1], [0, 1, 2], [0, 1, 2, 3], [0, 1, 2, 3, 4], [0, 1, 2, 3, 4, 5], [0, 1, 2, 3, 4, 5, 6], [0, 1, 2, 3, 4, 5], [0, 1, 2, 3, 4, 5, 6, 7, 8], [0, 1, 2, 3, 4, 5], [0, 1, 2, 3, 4, 5, 6, 7, 8, 9, 10], [0, 1, 2, 3, 4, 5, 6, 7, 8, 9, 10, 11], [0, 1, 2, 3, 4, 5, 6, 7, 8, 9, 10, 11, 12], [0, 1, 2, 3, 4, 5, 6, 7, 8, 9, 10, 11, 12, 13], [0, 1, 2, 3, 4, 5, 6, 7, 8, 9, 10, 11, 12, 13, 14], [0, 1, 2, 3, 4, 5, 6, 7, 8, 9, 10, 11, 12, 13], [0, 1, 2, 3, 4, 5, 6, 7, 8, 9, 10, 11, 12, 13], [0, 1, 2, 3, 4, 5, 6, 7, 8, 9, 10, 11, 12, 13], [0, 1, 2, 3, 4, 5, 6, 7, 8, 9, 10, 11, 12, 13, 17, 18], [0, 1, 2, 3, 4, 5, 6, 7, 8, 9, 10, 11, 12, 13, 17, 18, 19], [0, 1, 2, 3, 4, 5, 6, 7, 8, 9, 10, 11, 12, 13, 17, 18, 19, 20], [0, 1, 2, 3, 4, 5, 6, 7, 8, 9, 10, 11, 12, 13, 14, 15, 16, 17, 18, 19, 20, 21], [0, 1, 2, 3, 4, 5, 6, 7, 8, 9, 10, 11, 12, 13, 14, 15, 16, 17, 18, 19, 20, 21, 22], [0, 1, 2, 3, 4, 5, 6, 7, 8, 9, 10, 11, 12, 13, 14, 15, 16, 17, 18, 19, 20, 21, 22, 23]] (by simp) (by simp) (by simp [look]) rfl rfl rfl ?_ fun K hK => ?_
                · refine ⟨?_, ?_, ?_, ?_, ?_, ?_, ?_, ?_, ?_, ?_, ?_, ?_, ?_, ?_, ?_, ?_, ?_, ?_, ?_, ?_, ?_, ?_, trivial⟩
                  all_goals (intro τ hbx hb hd hf K hK; try simp [vsAt] at hd; simp [vsAt] at hf; first | (refine wps_cons rfl fun K' hK' => ?_; simp [hN', hbx, hb, hd, hf, hb37, hb37s, hl38a, hl38b, hl38c, hl38d, hl38f, hl38g, hl38i, hl38j, hl38m, hl38k, hb41, hb41s]; exact hK' _ (wps_nil (hK _ (by simp [vsAt, hbx, hb37, hb37s, hl38a, hl38b, hl38c, hl38d, hl38f, hl38g, hl38i, hl38j, hl38m, hl38k, hb41, hb41s])))) | (refine wps_call [(.take, .tmp 47), (.take, .const (.int .i64 0)), (.take, .tmp 49)] rfl rfl ent52 (impl_in_ok _ _ _ hc35) fun K' hK' => ?_; simp [hN', hbx, hb, hd, hf, hb37, hb37s, hl38a, hl38b, hl38c, hl38d, hl38f, hl38g, hl38i, hl38j, hl38m, hl38k, hb41, hb41s]; exact hK' _ (wps_nil (hK _ (by simp [vsAt, hbx, hb37, hb37s, hl38a, hl38b, hl38c, hl38d, hl38f, hl38g, hl38i, hl38j, hl38m, hl38k, hb41, hb41s])))) | (refine wps_call [(.take, .tmp 56), (.take, .tmp 57)] rfl rfl ent49 (impl_hasInt_ok _ _ hc40) fun K' hK' => ?_; simp [hN', hbx, hb, hd, hf, hb37, hb37s, hl38a, hl38b, hl38c, hl38d, hl38f, hl38g, hl38i, hl38j, hl38m, hl38k, hb41, hb41s]; exact hK' _ (wps_nil (hK _ (by simp [vsAt, hbx, hb37, hb37s, hl38a, hl38b, hl38c, hl38d, hl38f, hl38g, hl38i, hl38j, hl38m, hl38k, hb41, hb41s])))) | (refine wps_off fun K' hK' => ?_; simp [hN', hbx, hb, hd, hf, hb37, hb37s, hl38a, hl38b, hl38c, hl38d, hl38f, hl38g, hl38i, hl38j, hl38m, hl38k, hb41, hb41s]; exact hK' _ (wps_nil (hK _ (by simp [vsAt, hbx, hb37, hb37s, hl38a, hl38b, hl38c, hl38d, hl38f, hl38g, hl38i, hl38j, hl38m, hl38k, hb41, hb41s])))))
                iterate 2 (refine wps_off fun K hK => ?_; simp [hN', hb37, hb37s, hl38a, hl38b, hl38c, hl38d, hl38f, hl38g, hl38i, hl38j, hl38m, hl38k, hb41, hb41s]; refine hK _ ?_; clear hK)
                refine wps_cons rfl fun K hK => ?_; simp [hN', hb37, hb37s, hl38a, hl38b, hl38c, hl38d, hl38f, hl38g, hl38i, hl38j, hl38m, hl38k, hb41, hb41s]; refine hK _ ?_; clear hK
                refine wps_nil (hK _ ?_); clear hK
                cases hj32
                exact hK33 _ () [] trivial (by simp [hN', hb37, hb37s, hl38a, hl38b, hl38c, hl38d, hl38f, hl38g, hl38i, hl38j, hl38m, hl38k, hb41, hb41s])
              · have hb42s := hb42
                try simp at hb42s
                obtain ⟨e43, he43, hj32⟩ := bind_some hj32
                obtain ⟨he43a, he43b, he43c, he43d⟩ := getI_some he43
                refine SWp.drawT rfl (hPB _ rfl) [(47, .t (vi e31)), (48, .t (vi k2)), (49, .t (vi (IntKind.wrap .i64 (k2 - 1)))), (50, .t (vb r34)), (51, .t (vb (!r34))), (52, .t (vb (!r34))), (53, .ref (.box 5) 3 []), (54, .t (.sl false 1 (List.map vi e7.Kids))), (55, .t (vi v25)), (56, .t (.sl false 1 (List.map vi l38))), (57, .t (vi e31)), (58, .t (vb r39)), (59, .t (vb r39)), (60, .t (vb r39)), (61, .ref (.box 5) 0 []), (62, .t (vi e7.Kind)), (63, .t (vi v25)), (64, .t (.sl false 4 (List.map (GNode.enc false) nodes1))), (65, .t (vi e31)), (66, .rop [vi e43.Kind, vi e43.Num, vs e43.Name, .sl false 1 (List.map vi e43.Kids)] 0), (67, .rop [vi e43.Kind, vi e43.Num, vs e43.Name, .sl false 1 (List.map vi e43.Kids)] 0), (68, .t (vi e43.Kind))] [[], [], [1], [0, 1, 2], [0, 1, 2, 3], [0, 1, 2, 3, 4], [0, 1, 2, 3, 4, 5], [0, 1, 2, 3, 4, 5, 6], [0, 1, 2, 3, 4, 5], [0, 1, 2, 3, 4, 5, 6, 7, 8], [0, 1, 2, 3, 4, 5], [0, 1, 2, 3, 4, 5, 6, 7, 8, 9, 10], [0, 1, 2, 3, 4, 5, 6, 7, 8, 9, 10, 11], [0, 1, 2, 3, 4, 5, 6, 7, 8, 9, 10, 11, 12], [0, 1, 2, 3, 4, 5, 6, 7, 8, 9, 10, 11, 12, 13], [0, 1, 2, 3, 4, 5, 6, 7, 8, 9, 10, 11, 12, 13, 14], [0, 1, 2, 3, 4, 5, 6, 7, 8, 9, 10, 11, 12, 13], [0, 1, 2, 3, 4, 5, 6, 7, 8, 9, 10, 11, 12, 13], [0, 1, 2, 3, 4, 5, 6, 7, 8, 9, 10, 11, 12, 13], [0, 1, 2, 3, 4, 5, 6, 7, 8, 9, 10, 11, 12, 13, 17, 18], [0, 1, 2, 3, 4, 5, 6, 7, 8, 9, 10, 11, 12, 13, 17, 18, 19], [0, 1, 2, 3, 4, 5, 6, 7, 8, 9, 10, 11, 12, 13, 17, 18, 19, 20], [0, 1, 2, 3, 4, 5, 6, 7, 8, 9, 10, 11, 12, 13, 14, 15, 16, 17, 18, 19, 20, 21], [0, 1, 2, 3, 4, 5, 6, 7, 8, 9, 10, 11, 12, 13, 14, 15, 16, 17, 18, 19, 20, 21, 22], [0, 1, 2, 3, 4, 5, 6, 7, 8, 9, 10, 11, 12, 13, 14, 15, 16, 17, 18, 19, 20, 21, 22, 23]] (by simp) (by simp) (by simp [look]) rfl rfl rfl ?_ fun K hK => ?_
                · refine ⟨?_, ?_, ?_, ?_, ?_, ?_, ?_, ?_, ?_, ?_, ?_, ?_, ?_, ?_, ?_, ?_, ?_, ?_, ?_, ?_, ?_, ?_, trivial⟩
                  all_goals (intro τ hbx hb hd hf K hK; try simp [vsAt] at hd; simp [vsAt] at hf; first | (refine wps_cons rfl fun K' hK' => ?_; simp [hN', hbx, hb, hd, hf, hb37, hb37s, hl38a, hl38b, hl38c, hl38d, hl38f, hl38g, hl38i, hl38j, hl38m, hl38k, hb42, hb42s, he43a, he43b, he43c, he43d]; exact hK' _ (wps_nil (hK _ (by simp [vsAt, hbx, hb37, hb37s, hl38a, hl38b, hl38c, hl38d, hl38f, hl38g, hl38i, hl38j, hl38m, hl38k, hb42, hb42s, he43a, he43b, he43c, he43d])))) | (refine wps_call [(.take, .tmp 47), (.take, .const (.int .i64 0)), (.take, .tmp 49)] rfl rfl ent52 (impl_in_ok _ _ _ hc35) fun K' hK' => ?_; simp [hN', hbx, hb, hd, hf, hb37, hb37s, hl38a, hl38b, hl38c, hl38d, hl38f, hl38g, hl38i, hl38j, hl38m, hl38k, hb42, hb42s, he43a, he43b, he43c, he43d]; exact hK' _ (wps_nil (hK _ (by simp [vsAt, hbx, hb37, hb37s, hl38a, hl38b, hl38c, hl38d, hl38f, hl38g, hl38i, hl38j, hl38m, hl38k, hb42, hb42s, he43a, he43b, he43c, he43d])))) | (refine wps_call [(.take, .tmp 56), (.take, .tmp 57)] rfl rfl ent49 (impl_hasInt_ok _ _ hc40) fun K' hK' => ?_; simp [hN', hbx, hb, hd, hf, hb37, hb37s, hl38a, hl38b, hl38c, hl38d, hl38f, hl38g, hl38i, hl38j, hl38m, hl38k, hb42, hb42s, he43a, he43b, he43c, he43d]; exact hK' _ (wps_nil (hK _ (by simp [vsAt, hbx, hb37, hb37s, hl38a, hl38b, hl38c, hl38d, hl38f, hl38g, hl38i, hl38j, hl38m, hl38k, hb42, hb42s, he43a, he43b, he43c, he43d])))))
                obtain ⟨r44, hc45, hj32⟩ := bind_some hj32
                refine wps_call [(.take, .tmp 62), (.take, .tmp 63), (.take, .tmp 68)] rfl rfl ent127 (impl_kidFits_ok _ _ _ hc45) fun K hK => ?_; simp [hN', hb37, hb37s, hl38a, hl38b, hl38c, hl38d, hl38f, hl38g, hl38i, hl38j, hl38m, hl38k, hb42, hb42s, he43a, he43b, he43c, he43d]; refine hK _ ?_; clear hK
                iterate 2 (refine wps_cons rfl fun K hK => ?_; simp [hN', hb37, hb37s, hl38a, hl38b, hl38c, hl38d, hl38f, hl38g, hl38i, hl38j, hl38m, hl38k, hb42, hb42s, he43a, he43b, he43c, he43d]; refine hK _ ?_; clear hK)
                refine wps_nil (hK _ ?_); clear hK
                cases hj32
                exact hK33 _ () [] trivial (by simp [hN', hb37, hb37s, hl38a, hl38b, hl38c, hl38d, hl38f, hl38g, hl38i, hl38j, hl38m, hl38k, hb42, hb42s, he43a, he43b, he43c, he43d])
          rcases ite_or h26 with ⟨hb47, h26⟩ | ⟨hb48, h26⟩
          · refine SWp.condT' (b := v46) (by simp) hb47 ?_
            refine SWp.seqR rfl (hPB _ rfl) fun K hK => ?_
            refine wps_cons rfl fun K hK => ?_; simp [hN']; refine hK _ ?_; clear hK
            refine wps_nil (hK _ ?_); clear hK
            have h49 := congrArg some (ho27 _ (Option.some.inj h26).symm)
            cases h49
            try dsimp only at h
            cases h
            refine SWp.ret ?_
            simp [thenS, inBlockS, res109]
          · refine SWp.condF' (b := v46) (by simp) hb48 ?_
            refine SWp.skip ?_
            show SWp E C _ _ _
            refine SWp.reg rfl (hPB _ rfl) fun K hK => ?_
            iterate 2 (refine wps_cons rfl fun K hK => ?_; simp [hN']; refine hK _ ?_; clear hK)
            refine wps_nil (hK _ ?_); clear hK
            cases h26
            exact ⟨_, [], rfl, by simp [hN']⟩
        · refine SWp.condF' (b := decide (v25 < (e7.Kids.length : Int))) (by simp) hb30 ?_
          refine SWp.exit ?_
          have h50 := congrArg some (ho27 _ (Option.some.inj h26).symm)
          cases h50
          exact hK23 _ _ [] rfl (by simp [hN'])
      subst hv
      obtain ⟨⟩ := v
      try dsimp only at h ⊢
      refine SWp.seq ?_
      obtain ⟨v61, hj51, h⟩ := bind_some h
      refine SWp.seqRC rfl (hPB _ rfl) [5, 91] [5] (fun _ : Unit => ⟨[(5, .ref (.box 5) 0 []), (91, .t (vb v61))], [(5, [vi e7.Kind, vi e7.Num, vs e7.Name, .sl false 1 (List.map vi e7.Kids)])]⟩) (fun _ => True) (fun _ _ => ?_) fun K52 hK52 => ?_
      rotate_left
      · refine wps_cons rfl fun K hK => ?_; simp [hN']; refine hK _ ?_; clear hK
        iterate 3 (refine wps_cons rfl fun K hK => ?_; simp [hN']; refine hK _ ?_; clear hK)
        rcases ite_or hj51 with ⟨hb53, hj51⟩ | ⟨hb54, hj51⟩
        · have hb53s := hb53
          try simp at hb53s
          iterate 2 (refine wps_cons rfl fun K hK => ?_; simp [hN', hb53, hb53s]; refine hK _ ?_; clear hK)
          obtain ⟨r55, hc56, hj51⟩ := bind_some hj51
          refine wps_call [(.take, .tmp 78), (.take, .const (.int .i64 0)), (.take, .const (.int .i64 1000000000))] rfl rfl ent52 (impl_in_ok _ _ _ hc56) fun K hK => ?_; simp [hN', hb53, hb53s]; refine hK _ ?_; clear hK
          iterate 3 (refine wps_cons rfl fun K hK => ?_; simp [hN', hb53, hb53s]; refine hK _ ?_; clear hK)
          rcases ite_or hj51 with ⟨hb57, hj51⟩ | ⟨hb58, hj51⟩
          · have hb57s := hb57
            try simp at hb57s
            iterate 8 (refine wps_off fun K hK => ?_; simp [hN', hb53, hb53s, hb57, hb57s]; refine hK _ ?_; clear hK)
            refine wps_cons rfl fun K hK => ?_; simp [hN', hb53, hb53s, hb57, hb57s]; refine hK _ ?_; clear hK
            refine wps_nil ?_
            cases hj51
            exact hK52 _ () [] trivial (by simp [hN', hb53, hb53s, hb57, hb57s])
          · have hb58s := hb58
            try simp at hb58s
            iterate 4 (refine wps_cons rfl fun K hK => ?_; simp [hN', hb53, hb53s, hb58, hb58s]; refine hK _ ?_; clear hK)
            have hk59 : (e7.Kind != 1) = false := by simp [hb53, hb53s, hb58, hb58s]
            iterate 3 (refine wps_off fun K hK => ?_; simp [hN', hb53, hb53s, hb58, hb58s, hk59]; refine hK _ ?_; clear hK)
            iterate 2 (refine wps_cons rfl fun K hK => ?_; simp [hN', hb53, hb53s, hb58, hb58s, hk59]; refine hK _ ?_; clear hK)
            refine wps_nil ?_
            cases hj51
            exact hK52 _ () [] trivial (by simp [hN', hb53, hb53s, hb58, hb58s, hk59])
        · have hb54s := hb54
          try simp at hb54s
          iterate 4 (refine wps_off fun K hK => ?_; simp [hN', hb54, hb54s]; refine hK _ ?_; clear hK)
          iterate 6 (refine wps_cons rfl fun K hK => ?_; simp [hN', hb54, hb54s]; refine hK _ ?_; clear hK)
          have hk60 : (e7.Kind != 1) = true := by simp [hb54, hb54s]
          iterate 5 (refine wps_cons rfl fun K hK => ?_; simp [hN', hb54, hb54s, hk60]; refine hK _ ?_; clear hK)
          refine wps_nil ?_
          cases hj51
          exact hK52 _ () [] trivial (by simp [hN', hb54, hb54s, hk60])
      rcases ite_or h with ⟨hb62, h⟩ | ⟨hb63, h⟩
      · refine SWp.condT' (b := v61) (by simp) hb62 ?_
        refine SWp.seqR rfl (hPB _ rfl) fun K hK => ?_
        refine wps_cons rfl fun K hK => ?_; simp [hN']; refine hK _ ?_; clear hK
        refine wps_nil (hK _ ?_); clear hK
        cases h
        refine SWp.ret ?_
        simp [thenS, inBlockS, res109]
      · refine SWp.condF' (b := v61) (by simp) hb63 ?_
        refine SWp.skip ?_
        show SWp E C _ _ _
        refine SWp.seq ?_
        refine SWp.seqR rfl (hPB _ rfl) fun K hK => ?_
        iterate 2 (refine wps_cons rfl fun K hK => ?_; simp [hN']; refine hK _ ?_; clear hK)
        obtain ⟨r64, hc65, h⟩ := bind_some h
        refine wps_call [(.take, .tmp 93)] rfl rfl ent128 (impl_hasName_ok _ hc65) fun K hK => ?_; simp [hN']; refine hK _ ?_; clear hK
        refine wps_nil (hK _ ?_); clear hK
        rcases ite_or h with ⟨hb66, h⟩ | ⟨hb67, h⟩
        · refine SWp.condT' (b := r64) (by simp) hb66 ?_
          refine SWp.seqR rfl (hPB _ rfl) fun K hK => ?_
          iterate 2 (refine wps_cons rfl fun K hK => ?_; simp [hN']; refine hK _ ?_; clear hK)
          obtain ⟨r68, hc69, h⟩ := bind_some h
          refine wps_call [(.take, .tmp 96)] rfl rfl ent94 (impl_NameOk_ok _ hc69) fun K hK => ?_; simp [hN']; refine hK _ ?_; clear hK
          refine wps_cons rfl fun K hK => ?_; simp [hN']; refine hK _ ?_; clear hK
          refine wps_nil (hK _ ?_); clear hK
          cases h
          refine SWp.ret ?_
          simp [thenS, inBlockS, res109]
        · refine SWp.condF' (b := r64) (by simp) hb67 ?_
          refine SWp.skip ?_
          show SWp E C _ _ _
          refine SWp.seqR rfl (hPB _ rfl) fun K hK => ?_
          iterate 4 (refine wps_cons rfl fun K hK => ?_; simp [hN']; refine hK _ ?_; clear hK)
          refine wps_nil (hK _ ?_); clear hK
          cases h
          refine SWp.ret ?_
          simp [thenS, inBlockS, res109]
end Go.Proofs.T
set_option linter.unusedVariables false
set_option linter.unusedSimpArgs false
set_option maxHeartbeats 1000000
namespace Go.Proofs.T
open Go.OM
theorem res93 : Tryz.f93.results.toList = [.tmp 4, .tmp 5] := rfl
theorem ent93 : Enters E.P 93 := enters_of Tryz.func93 (by simp [Tryz.f93]) rfl
theorem impl_depths_ok (nodes1 : List GNode) (k2 : Int) {r0 : List Int} {r1 : Bool} (h : impl_depths nodes1 k2 = some (r0, r1)) : Ok E 93 [.val (.sl false 4 (List.map (GNode.enc false) nodes1)), .val (vi k2)] [.sl true 1 (List.map vi r0), vb r1] [] := by
  refine ok_of_body (fn := Tryz.f93) Tryz.func93 rfl (by simp [Tryz.f93]) fun C hN hP => ?_
  have hPB : ∀ l, pinK [] l = true → pinB C.pin l = true := pinB_of (by rw [hP]; rfl)
  have hN' : C.N = 51 := hN
  clear hN
  unfold impl_depths at h
  refine SWp.seqR rfl (hPB _ rfl) fun K hK => ?_
  iterate 2 (refine wps_cons rfl fun K hK => ?_; simp [hN']; refine hK _ ?_; clear hK)
  refine wps_nil (hK _ ?_); clear hK
  refine SWp.seq ?_
  refine SWp.seqR rfl (hPB _ rfl) fun K hK => ?_
  iterate 4 (refine wps_cons rfl fun K hK => ?_; simp [hN']; refine hK _ ?_; clear hK)
  obtain ⟨r3, hc4, h⟩ := bind_some h
  refine wps_call [(.take, .tmp 11), (.take, .const (.int .i64 0)), (.take, .tmp 14)] rfl rfl ent52 (impl_in_ok _ _ _ hc4) fun K hK => ?_; simp [hN']; refine hK _ ?_; clear hK
  refine wps_cons rfl fun K hK => ?_; simp [hN']; refine hK _ ?_; clear hK
  refine wps_nil (hK _ ?_); clear hK
  rcases ite_or h with ⟨hb5, h⟩ | ⟨hb6, h⟩
  · refine SWp.condT' (b := !r3) (by simp) hb5 ?_
    refine SWp.seqR rfl (hPB _ rfl) fun K hK => ?_
    iterate 2 (refine wps_cons rfl fun K hK => ?_; simp [hN']; refine hK _ ?_; clear hK)
    refine wps_nil (hK _ ?_); clear hK
    cases h
    refine SWp.ret ?_
    simp [thenS, inBlockS, res93]
  · refine SWp.condF' (b := !r3) (by simp) hb6 ?_
    refine SWp.skip ?_
    show SWp E C _ _ _
    refine SWp.seqR rfl (hPB _ rfl) fun K hK => ?_
    refine wps_cons rfl fun K hK => ?_; simp [hN']; refine hK _ ?_; clear hK
    refine wps_nil (hK _ ?_); clear hK
    obtain ⟨j9, hj7, h⟩ := bind_some h
    refine SWp.seqC [6] [] (fun v : List Int => ⟨[(6, .t (.sl true 1 (List.map vi v)))], []⟩) (fun v => j9 = Sum.inl v) (fun v hv => ?_) fun K8 hK8 => ?_
    rotate_left
    · refine SWp.seqR rfl (hPB _ rfl) fun K hK => ?_
      refine wps_cons rfl fun K hK => ?_; simp [hN']; refine hK _ ?_; clear hK
      refine wps_nil (hK _ ?_); clear hK
      refine SWp.block ?_
      refine SWp.loopO [] [0, 1, 6, 7] [] (fun v : (List Int) × Int => ⟨[(0, .t (.sl false 4 (List.map (GNode.enc false) nodes1))), (1, .t (vi k2)), (6, .t (.sl true 1 (List.map vi v.1))), (7, .t (vi v.2))], []⟩) (impl_depths_l1 nodes1 k2) _ ([], 0) hj7 (by simp [hN']) ?_
      intro g s14 h12 ho13
      obtain ⟨out10, i11⟩ := g
      simp only [impl_depths_l1] at h12
      try dsimp only
      refine SWp.seq ?_
      refine SWp.seqR rfl (hPB _ rfl) fun K hK => ?_
      iterate 3 (refine wps_cons rfl fun K hK => ?_; simp [hN']; refine hK _ ?_; clear hK)
      refine wps_nil (hK _ ?_); clear hK
      rcases ite_or h12 with ⟨hb15, h12⟩ | ⟨hb16, h12⟩
      · refine SWp.condT' (b := decide (i11 ≤ k2)) (by simp) hb15 ?_
        refine SWp.skip ?_
        show SWp E C _ _ _
        obtain ⟨j19, hj17, h12⟩ := bind_some h12
        refine SWp.seqC [0, 1, 6, 7] [] (fun v : List Int => ⟨[(0, .t (.sl false 4 (List.map (GNode.enc false) nodes1))), (1, .t (vi k2)), (6, .t (.sl true 1 (List.map vi v))), (7, .t (vi i11))], []⟩) (fun v => j19 = Sum.inl v) (fun v hv => ?_) fun K18 hK18 => ?_
        rotate_left
        · refine SWp.block ?_
          refine SWp.seq ?_
          refine SWp.seqR rfl (hPB _ rfl) fun K hK => ?_
          iterate 2 (refine wps_cons rfl fun K hK => ?_; simp [hN']; refine hK _ ?_; clear hK)
          obtain ⟨r20, hc21, hj17⟩ := bind_some hj17
          refine wps_call [(.take, .tmp 22), (.take, .tmp 23)] rfl rfl ent109 (impl_NodeOk_ok _ _ hc21) fun K hK => ?_; simp [hN']; refine hK _ ?_; clear hK
          refine wps_cons rfl fun K hK => ?_; simp [hN']; refine hK _ ?_; clear hK
          refine wps_nil (hK _ ?_); clear hK
          rcases ite_or hj17 with ⟨hb22, hj17⟩ | ⟨hb23, hj17⟩
          · refine SWp.condT' (b := !r20) (by simp) hb22 ?_
            refine SWp.seqR rfl (hPB _ rfl) fun K hK => ?_
            iterate 2 (refine wps_cons rfl fun K hK => ?_; simp [hN']; refine hK _ ?_; clear hK)
            refine wps_nil (hK _ ?_); clear hK
            cases hj17
            try dsimp only at h12
            have h24 := congrArg some (ho13 _ (Option.some.inj h12).symm)
            cases h24
            try dsimp only at h
            cases h
            refine SWp.ret ?_
            simp [thenS, inBlockS, res93]
          · refine SWp.condF' (b := !r20) (by simp) hb23 ?_
            refine SWp.skip ?_
            show SWp E C _ _ _
            refine SWp.seqR rfl (hPB _ rfl) fun K hK => ?_
            refine wps_cons rfl fun K hK => ?_; simp [hN']; refine hK _ ?_; clear hK
            refine wps_nil (hK _ ?_); clear hK
            obtain ⟨d39, hj25, hj17⟩ := bind_some hj17
            refine SWp.seqC [0, 1, 6, 7, 8] [] (fun _ : Unit => ⟨[(0, .t (.sl false 4 (List.map (GNode.enc false) nodes1))), (1, .t (vi k2)), (6, .t (.sl true 1 (List.map vi out10))), (7, .t (vi i11)), (8, .t (vi d39))], []⟩) (fun _ => True) (fun _ _ => ?_) fun K26 hK26 => ?_
            rotate_left
            · refine SWp.seqR rfl (hPB _ rfl) fun K hK => ?_
              iterate 2 (refine wps_cons rfl fun K hK => ?_; simp [hN']; refine hK _ ?_; clear hK)
              obtain ⟨e28, he28, hj25⟩ := bind_some hj25
              obtain ⟨he28a, he28b, he28c, he28d⟩ := getI_some he28
              iterate 5 (refine wps_cons rfl fun K hK => ?_; simp [hN', he28a, he28b, he28c, he28d]; refine hK _ ?_; clear hK)
              refine wps_nil (hK _ ?_); clear hK
              refine SWp.block ?_
              refine SWp.loopO [] [0, 1, 6, 7, 8, 30, 31, 32] [] (fun v : Int × Int => ⟨[(0, .t (.sl false 4 (List.map (GNode.enc false) nodes1))), (1, .t (vi k2)), (6, .t (.sl true 1 (List.map vi out10))), (7, .t (vi i11)), (8, .t (vi v.1)), (30, .t (.sl false 1 (List.map vi e28.Kids))), (31, .t (vi (e28.Kids.length : Int))), (32, .t (vi v.2))], []⟩) (impl_depths_l2 out10 e28) _ (1, 0) hj25 (by simp [hN']) ?_
              intro g s33 h31 ho32
              obtain ⟨d29, v30⟩ := g
              simp only [impl_depths_l2] at h31
              try dsimp only
              refine SWp.seqR rfl (hPB _ rfl) fun K hK => ?_
              refine wps_cons rfl fun K hK => ?_; simp [hN']; refine hK _ ?_; clear hK
              refine wps_nil (hK _ ?_); clear hK
              refine SWp.seq ?_
              rcases ite_or h31 with ⟨hb34, h31⟩ | ⟨hb35, h31⟩
              · refine SWp.condT' (b := decide (v30 < (e28.Kids.length : Int))) (by simp) hb34 ?_
                refine SWp.skip ?_
                show SWp E C _ _ _
                refine SWp.seq ?_
                refine SWp.block ?_
                refine SWp.seqR rfl (hPB _ rfl) fun K hK => ?_
                obtain ⟨e36, he36, h31⟩ := bind_some h31
                obtain ⟨he36a, he36b, he36c, he36d⟩ := getI_some he36
                iterate 3 (refine wps_cons rfl fun K hK => ?_; simp [hN', he36a, he36b, he36c, he36d]; refine hK _ ?_; clear hK)
                refine wps_nil (hK _ ?_); clear hK
                refine SWp.reg rfl (hPB _ rfl) fun K hK => ?_
                iterate 3 (refine wps_cons rfl fun K hK => ?_; simp [hN']; refine hK _ ?_; clear hK)
                obtain ⟨e37, he37, h31⟩ := bind_some h31
                obtain ⟨he37a, he37b, he37c, he37d⟩ := getI_some he37
                iterate 5 (refine wps_cons rfl fun K hK => ?_; simp [hN', he37a, he37b, he37c, he37d]; refine hK _ ?_; clear hK)
                refine wps_nil (hK _ ?_); clear hK
                show SWp E C _ _ _
                refine SWp.reg rfl (hPB _ rfl) fun K hK => ?_
                iterate 2 (refine wps_cons rfl fun K hK => ?_; simp [hN']; refine hK _ ?_; clear hK)
                refine wps_nil (hK _ ?_); clear hK
                cases h31
                exact ⟨_, [], rfl, by simp [hN']⟩
              · refine SWp.condF' (b := decide (v30 < (e28.Kids.length : Int))) (by simp) hb35 ?_
                refine SWp.exit ?_
                have h38 := congrArg some (ho32 _ (Option.some.inj h31).symm)
                cases h38
                exact hK26 _ () [] trivial (by simp [hN'])
            refine SWp.seq ?_
            refine SWp.seqR rfl (hPB _ rfl) fun K hK => ?_
            iterate 2 (refine wps_cons rfl fun K hK => ?_; simp [hN']; refine hK _ ?_; clear hK)
            refine wps_nil (hK _ ?_); clear hK
            rcases ite_or hj17 with ⟨hb40, hj17⟩ | ⟨hb41, hj17⟩
            · refine SWp.condT' (b := decide (d39 > 10)) (by simp) hb40 ?_
              refine SWp.seqR rfl (hPB _ rfl) fun K hK => ?_
              iterate 2 (refine wps_cons rfl fun K hK => ?_; simp [hN']; refine hK _ ?_; clear hK)
              refine wps_nil (hK _ ?_); clear hK
              cases hj17
              try dsimp only at h12
              have h42 := congrArg some (ho13 _ (Option.some.inj h12).symm)
              cases h42
              try dsimp only at h
              cases h
              refine SWp.ret ?_
              simp [thenS, inBlockS, res93]
            · refine SWp.condF' (b := decide (d39 > 10)) (by simp) hb41 ?_
              refine SWp.skip ?_
              show SWp E C _ _ _
              refine SWp.reg rfl (hPB _ rfl) fun K hK => ?_
              iterate 3 (refine wps_cons rfl fun K hK => ?_; simp [hN']; refine hK _ ?_; clear hK)
              obtain ⟨l43, hl43, hj17⟩ := bind_some hj17
              obtain ⟨hl43a, hl43b, hl43d⟩ := appI_some hl43
              have hl43f : List.map vi out10 ++ List.map vi [d39] = List.map vi l43 := app_map (f := vi) hl43d
              simp [eSl] at hl43a hl43b hl43f
              iterate 2 (refine wps_cons rfl fun K hK => ?_; simp [hN', hl43a, hl43b, hl43f]; refine hK _ ?_; clear hK)
              refine wps_nil (hK _ ?_); clear hK
              cases hj17
              exact hK18 _ _ [] rfl (by simp [hN'])
        subst hv
        obtain ⟨out44, hv⟩ : ∃ y, y = v := ⟨_, rfl⟩
        subst hv
        try dsimp only at h12 ⊢
        refine SWp.reg rfl (hPB _ rfl) fun K hK => ?_
        iterate 3 (refine wps_cons rfl fun K hK => ?_; simp [hN']; refine hK _ ?_; clear hK)
        refine wps_nil (hK _ ?_); clear hK
        cases h12
        exact ⟨_, [], rfl, by simp [hN']⟩
      · refine SWp.condF' (b := decide (i11 ≤ k2)) (by simp) hb16 ?_
        refine SWp.exit ?_
        have h45 := congrArg some (ho13 _ (Option.some.inj h12).symm)
        cases h45
        exact hK8 _ _ [] rfl (by simp [hN'])
    subst hv
    obtain ⟨out46, hv⟩ : ∃ y, y = v := ⟨_, rfl⟩
    subst hv
    try dsimp only at h ⊢
    refine SWp.seqR rfl (hPB _ rfl) fun K hK => ?_
    iterate 3 (refine wps_cons rfl fun K hK => ?_; simp [hN']; refine hK _ ?_; clear hK)
    refine wps_nil (hK _ ?_); clear hK
    cases h
    refine SWp.ret ?_
    simp [thenS, inBlockS, res93]
end Go.Proofs.T
set_option linter.unusedVariables false
set_option linter.unusedSimpArgs false
set_option maxHeartbeats 1000000
namespace Go.Proofs.T
open Go.OM
theorem res68 : Tryz.f68.results.toList = [.tmp 4] := rfl
theorem ent68 : Enters E.P 68 := enters_of Tryz.func68 (by simp [Tryz.f68]) rfl
theorem impl_DeepOf_ok (nodes1 : List GNode) (k2 : Int) {r0 : Int} (h : impl_DeepOf nodes1 k2 = some r0) : Ok E 68 [.val (.sl false 4 (List.map (GNode.enc false) nodes1)), .val (vi k2)] [vi r0] [] := by
  refine ok_of_body (fn := Tryz.f68) Tryz.func68 rfl (by simp [Tryz.f68]) fun C hN hP => ?_
  have hPB : ∀ l, pinK [] l = true → pinB C.pin l = true := pinB_of (by rw [hP]; rfl)
  have hN' : C.N = 19 := hN
  clear hN
  unfold impl_DeepOf at h
  refine SWp.seqR rfl (hPB _ rfl) fun K hK => ?_
  refine wps_cons rfl fun K hK => ?_; simp [hN']; refine hK _ ?_; clear hK
  refine wps_nil (hK _ ?_); clear hK
  refine SWp.seqR rfl (hPB _ rfl) fun K hK => ?_
  iterate 2 (refine wps_cons rfl fun K hK => ?_; simp [hN']; refine hK _ ?_; clear hK)
  obtain ⟨⟨r3, r4⟩, hc5, h⟩ := bind_some h
  try dsimp only at h
  refine wps_call [(.take, .tmp 8), (.take, .tmp 9)] rfl rfl ent93 (impl_depths_ok _ _ hc5) fun K hK => ?_; simp [hN']; refine hK _ ?_; clear hK
  iterate 5 (refine wps_cons rfl fun K hK => ?_; simp [hN']; refine hK _ ?_; clear hK)
  refine wps_nil (hK _ ?_); clear hK
  refine SWp.seq ?_
  refine SWp.seqR rfl (hPB _ rfl) fun K hK => ?_
  iterate 2 (refine wps_cons rfl fun K hK => ?_; simp [hN']; refine hK _ ?_; clear hK)
  refine wps_nil (hK _ ?_); clear hK
  rcases ite_or h with ⟨hb6, h⟩ | ⟨hb7, h⟩
  · refine SWp.condT' (b := !r4) (by simp) hb6 ?_
    refine SWp.seqR rfl (hPB _ rfl) fun K hK => ?_
    refine wps_cons rfl fun K hK => ?_; simp [hN']; refine hK _ ?_; clear hK
    refine wps_nil (hK _ ?_); clear hK
    cases h
    refine SWp.ret ?_
    simp [thenS, inBlockS, res68]
  · refine SWp.condF' (b := !r4) (by simp) hb7 ?_
    refine SWp.skip ?_
    show SWp E C _ _ _
    refine SWp.seqR rfl (hPB _ rfl) fun K hK => ?_
    iterate 2 (refine wps_cons rfl fun K hK => ?_; simp [hN']; refine hK _ ?_; clear hK)
    obtain ⟨e8, he8, h⟩ := bind_some h
    obtain ⟨he8a, he8b, he8c, he8d⟩ := getI_some he8
    iterate 3 (refine wps_cons rfl fun K hK => ?_; simp [hN', he8a, he8b, he8c, he8d]; refine hK _ ?_; clear hK)
    refine wps_nil (hK _ ?_); clear hK
    cases h
    refine SWp.ret ?_
    simp [thenS, inBlockS, res68]
end Go.Proofs.T
set_option linter.unusedVariables false
set_option linter.unusedSimpArgs false
set_option maxHeartbeats 1000000
namespace Go.Proofs.T
open Go.OM
theorem res88 : Tryz.f88.results.toList = [.tmp 4] := rfl
theorem ent88 : Enters E.P 88 := enters_of Tryz.func88 (by simp [Tryz.f88]) rfl
theorem impl_under_ok (nodes1 : List GNode) (k2 : Int) {r0 : List Int} (h : impl_under nodes1 k2 = some r0) : Ok E 88 [.val (.sl false 4 (List.map (GNode.enc false) nodes1)), .val (vi k2)] [.sl true 1 (List.map vi r0)] [] := by
  refine ok_of_body (fn := Tryz.f88) Tryz.func88 rfl (by simp [Tryz.f88]) fun C hN hP => ?_
  have hPB : ∀ l, pinK [] l = true → pinB C.pin l = true := pinB_of (by rw [hP]; rfl)
  have hN' : C.N = 42 := hN
  clear hN
  unfold impl_under at h
  refine SWp.seqR rfl (hPB _ rfl) fun K hK => ?_
  refine wps_cons rfl fun K hK => ?_; simp [hN']; refine hK _ ?_; clear hK
  refine wps_nil (hK _ ?_); clear hK
  refine SWp.seqR rfl (hPB _ rfl) fun K hK => ?_
  iterate 3 (refine wps_cons rfl fun K hK => ?_; simp [hN']; refine hK _ ?_; clear hK)
  refine wps_nil (hK _ ?_); clear hK
  obtain ⟨out34, hj3, h⟩ := bind_some h
  refine SWp.seqC [5] [] (fun _ : Unit => ⟨[(5, .t (.sl true 1 (List.map vi out34)))], []⟩) (fun _ => True) (fun _ _ => ?_) fun K4 hK4 => ?_
  rotate_left
  · refine SWp.seqR rfl (hPB _ rfl) fun K hK => ?_
    refine wps_cons rfl fun K hK => ?_; simp [hN']; refine hK _ ?_; clear hK
    refine wps_nil (hK _ ?_); clear hK
    refine SWp.block ?_
    refine SWp.loopO [] [0, 5, 6] [] (fun v : (List Int) × Int => ⟨[(0, .t (.sl false 4 (List.map (GNode.enc false) nodes1))), (5, .t (.sl true 1 (List.map vi v.1))), (6, .t (vi v.2))], []⟩) (impl_under_l1 nodes1) _ ([k2], 0) hj3 (by simp [hN']) ?_
    intro g s10 h8 ho9
    obtain ⟨out6, i7⟩ := g
    simp only [impl_under_l1] at h8
    try dsimp only
    refine SWp.seq ?_
    refine SWp.seqR rfl (hPB _ rfl) fun K hK => ?_
    iterate 4 (refine wps_cons rfl fun K hK => ?_; simp [hN']; refine hK _ ?_; clear hK)
    refine wps_nil (hK _ ?_); clear hK
    rcases ite_or h8 with ⟨hb11, h8⟩ | ⟨hb12, h8⟩
    · refine SWp.condT' (b := decide (i7 < (out6.length : Int))) (by simp) hb11 ?_
      refine SWp.skip ?_
      show SWp E C _ _ _
      obtain ⟨out32, hj13, h8⟩ := bind_some h8
      refine SWp.seqC [0, 5, 6] [] (fun _ : Unit => ⟨[(0, .t (.sl false 4 (List.map (GNode.enc false) nodes1))), (5, .t (.sl true 1 (List.map vi out32))), (6, .t (vi i7))], []⟩) (fun _ => True) (fun _ _ => ?_) fun K14 hK14 => ?_
      rotate_left
      · refine SWp.block ?_
        refine SWp.seqR rfl (hPB _ rfl) fun K hK => ?_
        iterate 3 (refine wps_cons rfl fun K hK => ?_; simp [hN']; refine hK _ ?_; clear hK)
        obtain ⟨e16, he16, hj13⟩ := bind_some hj13
        obtain ⟨he16a, he16b, he16c, he16d⟩ := getI_some he16
        iterate 2 (refine wps_cons rfl fun K hK => ?_; simp [hN', he16a, he16b, he16c, he16d]; refine hK _ ?_; clear hK)
        obtain ⟨e17, he17, hj13⟩ := bind_some hj13
        obtain ⟨he17a, he17b, he17c, he17d⟩ := getI_some he17
        iterate 5 (refine wps_cons rfl fun K hK => ?_; simp [hN', he16a, he16b, he16c, he16d, he17a, he17b, he17c, he17d]; refine hK _ ?_; clear hK)
        refine wps_nil (hK _ ?_); clear hK
        refine SWp.block ?_
        refine SWp.loopO [] [0, 5, 6, 24, 25, 26] [] (fun v : (List Int) × Int => ⟨[(0, .t (.sl false 4 (List.map (GNode.enc false) nodes1))), (5, .t (.sl true 1 (List.map vi v.1))), (6, .t (vi i7)), (24, .t (.sl false 1 (List.map vi e17.Kids))), (25, .t (vi (e17.Kids.length : Int))), (26, .t (vi v.2))], []⟩) (impl_under_l2 e17) _ (out6, 0) hj13 (by simp [hN']) ?_
        intro g s22 h20 ho21
        obtain ⟨out18, v19⟩ := g
        simp only [impl_under_l2] at h20
        try dsimp only
        refine SWp.seqR rfl (hPB _ rfl) fun K hK => ?_
        refine wps_cons rfl fun K hK => ?_; simp [hN']; refine hK _ ?_; clear hK
        refine wps_nil (hK _ ?_); clear hK
        refine SWp.seq ?_
        rcases ite_or h20 with ⟨hb23, h20⟩ | ⟨hb24, h20⟩
        · refine SWp.condT' (b := decide (v19 < (e17.Kids.length : Int))) (by simp) hb23 ?_
          refine SWp.skip ?_
          show SWp E C _ _ _
          refine SWp.seq ?_
          refine SWp.block ?_
          refine SWp.seqR rfl (hPB _ rfl) fun K hK => ?_
          obtain ⟨e25, he25, h20⟩ := bind_some h20
          obtain ⟨he25a, he25b, he25c, he25d⟩ := getI_some he25
          iterate 3 (refine wps_cons rfl fun K hK => ?_; simp [hN', he25a, he25b, he25c, he25d]; refine hK _ ?_; clear hK)
          refine wps_nil (hK _ ?_); clear hK
          refine SWp.seqR rfl (hPB _ rfl) fun K hK => ?_
          iterate 2 (refine wps_cons rfl fun K hK => ?_; simp [hN']; refine hK _ ?_; clear hK)
          obtain ⟨r26, hc27, h20⟩ := bind_some h20
          refine wps_call [(.bor, .tmp 30), (.take, .tmp 31)] rfl rfl ent49 (impl_hasInt_ok _ _ hc27) fun K hK => ?_; simp [hN']; refine hK _ ?_; clear hK
          refine wps_cons rfl fun K hK => ?_; simp [hN']; refine hK _ ?_; clear hK
          refine wps_nil (hK _ ?_); clear hK
          rcases ite_or h20 with ⟨hb28, h20⟩ | ⟨hb29, h20⟩
          · refine SWp.condT' (b := !r26) (by simp) hb28 ?_
            refine SWp.reg rfl (hPB _ rfl) fun K hK => ?_
            iterate 3 (refine wps_cons rfl fun K hK => ?_; simp [hN']; refine hK _ ?_; clear hK)
            obtain ⟨l30, hl30, h20⟩ := bind_some h20
            obtain ⟨hl30a, hl30b, hl30d⟩ := appI_some hl30
            have hl30f : List.map vi out18 ++ List.map vi [e25] = List.map vi l30 := app_map (f := vi) hl30d
            simp [eSl] at hl30a hl30b hl30f
            iterate 2 (refine wps_cons rfl fun K hK => ?_; simp [hN', hl30a, hl30b, hl30f]; refine hK _ ?_; clear hK)
            refine wps_nil (hK _ ?_); clear hK
            show SWp E C _ _ _
            refine SWp.reg rfl (hPB _ rfl) fun K hK => ?_
            iterate 2 (refine wps_cons rfl fun K hK => ?_; simp [hN']; refine hK _ ?_; clear hK)
            refine wps_nil (hK _ ?_); clear hK
            cases h20
            exact ⟨_, [], rfl, by simp [hN']⟩
          · refine SWp.condF' (b := !r26) (by simp) hb29 ?_
            refine SWp.skip ?_
            show SWp E C _ _ _
            refine SWp.reg rfl (hPB _ rfl) fun K hK => ?_
            iterate 2 (refine wps_cons rfl fun K hK => ?_; simp [hN']; refine hK _ ?_; clear hK)
            refine wps_nil (hK _ ?_); clear hK
            cases h20
            exact ⟨_, [], rfl, by simp [hN']⟩
        · refine SWp.condF' (b := decide (v19 < (e17.Kids.length : Int))) (by simp) hb24 ?_
          refine SWp.exit ?_
          have h31 := congrArg some (ho21 _ (Option.some.inj h20).symm)
          cases h31
          exact hK14 _ () [] trivial (by simp [hN'])
      refine SWp.reg rfl (hPB _ rfl) fun K hK => ?_
      iterate 3 (refine wps_cons rfl fun K hK => ?_; simp [hN']; refine hK _ ?_; clear hK)
      refine wps_nil (hK _ ?_); clear hK
      cases h8
      exact ⟨_, [], rfl, by simp [hN']⟩
    · refine SWp.condF' (b := decide (i7 < (out6.length : Int))) (by simp) hb12 ?_
      refine SWp.exit ?_
      have h33 := congrArg some (ho9 _ (Option.some.inj h8).symm)
      cases h33
      exact hK4 _ () [] trivial (by simp [hN'])
  refine SWp.seqR rfl (hPB _ rfl) fun K hK => ?_
  refine wps_cons rfl fun K hK => ?_; simp [hN']; refine hK _ ?_; clear hK
  obtain ⟨q35, hc36, h⟩ := bind_some h
  refine wps_callIO rfl ent53 (sort_Ints_ok _ hc36) fun K hK => ?_; simp [hN']; refine hK _ ?_; clear hK
  refine wps_nil (hK _ ?_); clear hK
  refine SWp.seqR rfl (hPB _ rfl) fun K hK => ?_
  iterate 2 (refine wps_cons rfl fun K hK => ?_; simp [hN']; refine hK _ ?_; clear hK)
  refine wps_nil (hK _ ?_); clear hK
  cases h
  refine SWp.ret ?_
  simp [thenS, inBlockS, res88]
end Go.Proofs.T
set_option linter.unusedVariables false
set_option linter.unusedSimpArgs false
set_option maxHeartbeats 1000000
namespace Go.Proofs.T
open Go.OM
theorem res60 : Tryz.f60.results.toList = [.tmp 4] := rfl
theorem ent60 : Enters E.P 60 := enters_of Tryz.func60 (by simp [Tryz.f60]) rfl
theorem impl_Under_ok (p1 : GProgram) (k2 : Int) {r0 : List Int} (h : impl_Under p1 k2 = some r0) : Ok E 60 [.val (GProgram.enc false p1), .val (vi k2)] [.sl true 1 (List.map vi r0)] [] := by
  refine ok_of_body (fn := Tryz.f60) Tryz.func60 rfl (by simp [Tryz.f60]) fun C hN hP => ?_
  have hPB : ∀ l, pinK [] l = true → pinB C.pin l = true := pinB_of (by rw [hP]; rfl)
  have hN' : C.N = 14 := hN
  clear hN
  unfold impl_Under at h
  refine SWp.seqR rfl (hPB _ rfl) fun K hK => ?_
  iterate 2 (refine wps_cons rfl fun K hK => ?_; simp [hN']; refine hK _ ?_; clear hK)
  refine wps_nil (hK _ ?_); clear hK
  refine SWp.seq ?_
  refine SWp.seqR rfl (hPB _ rfl) fun K hK => ?_
  iterate 3 (refine wps_cons rfl fun K hK => ?_; simp [hN']; refine hK _ ?_; clear hK)
  obtain ⟨r3, hc4, h⟩ := bind_some h
  refine wps_call [(.take, .tmp 6), (.take, .tmp 7)] rfl rfl ent68 (impl_DeepOf_ok _ _ hc4) fun K hK => ?_; simp [hN']; refine hK _ ?_; clear hK
  refine wps_cons rfl fun K hK => ?_; simp [hN']; refine hK _ ?_; clear hK
  refine wps_nil (hK _ ?_); clear hK
  rcases ite_or h with ⟨hb5, h⟩ | ⟨hb6, h⟩
  · refine SWp.condT' (b := r3 == 0) (by simp) hb5 ?_
    refine SWp.seqR rfl (hPB _ rfl) fun K hK => ?_
    refine wps_cons rfl fun K hK => ?_; simp [hN']; refine hK _ ?_; clear hK
    refine wps_nil (hK _ ?_); clear hK
    cases h
    refine SWp.ret ?_
    simp [thenS, inBlockS, res60]
  · refine SWp.condF' (b := r3 == 0) (by simp) hb6 ?_
    refine SWp.skip ?_
    show SWp E C _ _ _
    refine SWp.seqR rfl (hPB _ rfl) fun K hK => ?_
    iterate 3 (refine wps_cons rfl fun K hK => ?_; simp [hN']; refine hK _ ?_; clear hK)
    obtain ⟨r7, hc8, h⟩ := bind_some h
    refine wps_call [(.take, .tmp 11), (.take, .tmp 12)] rfl rfl ent88 (impl_under_ok _ _ hc8) fun K hK => ?_; simp [hN']; refine hK _ ?_; clear hK
    refine wps_cons rfl fun K hK => ?_; simp [hN']; refine hK _ ?_; clear hK
    refine wps_nil (hK _ ?_); clear hK
    cases h
    refine SWp.ret ?_
    simp [thenS, inBlockS, res60]
end Go.Proofs.T
set_option linter.unusedVariables false
set_option linter.unusedSimpArgs false
set_option maxHeartbeats 1000000
namespace Go.Proofs.T
open Go.OM
theorem res31 : Tryz.f31.results.toList = [.tmp 4] := rfl
theorem ent31 : Enters E.P 31 := enters_of Tryz.func31 (by simp [Tryz.f31]) rfl
theorem impl_fnNodes_ok (p1 : GProgram) (fn2 : Int) {r0 : List Int} (h : impl_fnNodes p1 fn2 = some r0) : Ok E 31 [.val (GProgram.enc false p1), .val (vi fn2)] [.sl true 1 (List.map vi r0)] [] := by
  refine ok_of_body (fn := Tryz.f31) Tryz.func31 rfl (by simp [Tryz.f31]) fun C hN hP => ?_
  have hPB : ∀ l, pinK [] l = true → pinB C.pin l = true := pinB_of (by rw [hP]; rfl)
  have hN' : C.N = 39 := hN
  clear hN
  unfold impl_fnNodes at h
  refine SWp.seqR rfl (hPB _ rfl) fun K hK => ?_
  iterate 2 (refine wps_cons rfl fun K hK => ?_; simp [hN']; refine hK _ ?_; clear hK)
  refine wps_nil (hK _ ?_); clear hK
  refine SWp.seqR rfl (hPB _ rfl) fun K hK => ?_
  refine wps_cons rfl fun K hK => ?_; simp [hN']; refine hK _ ?_; clear hK
  refine wps_nil (hK _ ?_); clear hK
  obtain ⟨out37, hj3, h⟩ := bind_some h
  refine SWp.seqC [5] [] (fun _ : Unit => ⟨[(5, .t (.sl true 1 (List.map vi out37)))], []⟩) (fun _ => True) (fun _ _ => ?_) fun K4 hK4 => ?_
  rotate_left
  · refine SWp.seqR rfl (hPB _ rfl) fun K hK => ?_
    iterate 2 (refine wps_cons rfl fun K hK => ?_; simp [hN']; refine hK _ ?_; clear hK)
    obtain ⟨r6, hc7, hj3⟩ := bind_some hj3
    refine wps_call [(.take, .tmp 10), (.take, .tmp 11)] rfl rfl ent59 (impl_roots_ok _ _ hc7) fun K hK => ?_; simp [hN']; refine hK _ ?_; clear hK
    iterate 2 (refine wps_cons rfl fun K hK => ?_; simp [hN']; refine hK _ ?_; clear hK)
    refine wps_nil (hK _ ?_); clear hK
    refine SWp.block ?_
    refine SWp.loopO [] [2, 5, 12, 13, 14] [2] (fun v : (List Int) × Int => ⟨[(2, .ref (.box 2) 0 []), (5, .t (.sl true 1 (List.map vi v.1))), (12, .t (.sl true 1 (List.map vi r6))), (13, .t (vi (r6.length : Int))), (14, .t (vi v.2))], [(2, [.sl false 4 (List.map (GNode.enc false) p1.Nodes), .sl false 5 (List.map (GFn.enc false) p1.Fns)])]⟩) (impl_fnNodes_l1 p1 r6) _ ([], 0) hj3 (by simp [hN']) ?_
    intro g s12 h10 ho11
    obtain ⟨out8, v9⟩ := g
    simp only [impl_fnNodes_l1] at h10
    try dsimp only
    refine SWp.seqR rfl (hPB _ rfl) fun K hK => ?_
    refine wps_cons rfl fun K hK => ?_; simp [hN']; refine hK _ ?_; clear hK
    refine wps_nil (hK _ ?_); clear hK
    refine SWp.seq ?_
    rcases ite_or h10 with ⟨hb13, h10⟩ | ⟨hb14, h10⟩
    · refine SWp.condT' (b := decide (v9 < (r6.length : Int))) (by simp) hb13 ?_
      refine SWp.skip ?_
      show SWp E C _ _ _
      obtain ⟨out35, hj15, h10⟩ := bind_some h10
      refine SWp.seqC [2, 5, 12, 13, 14] [2] (fun _ : Unit => ⟨[(2, .ref (.box 2) 0 []), (5, .t (.sl true 1 (List.map vi out35))), (12, .t (.sl true 1 (List.map vi r6))), (13, .t (vi (r6.length : Int))), (14, .t (vi v9))], [(2, [.sl false 4 (List.map (GNode.enc false) p1.Nodes), .sl false 5 (List.map (GFn.enc false) p1.Fns)])]⟩) (fun _ => True) (fun _ _ => ?_) fun K16 hK16 => ?_
      rotate_left
      · refine SWp.block ?_
        refine SWp.seqR rfl (hPB _ rfl) fun K hK => ?_
        obtain ⟨e18, he18, hj15⟩ := bind_some hj15
        obtain ⟨he18a, he18b, he18c, he18d⟩ := getI_some he18
        iterate 3 (refine wps_cons rfl fun K hK => ?_; simp [hN', he18a, he18b, he18c, he18d]; refine hK _ ?_; clear hK)
        refine wps_nil (hK _ ?_); clear hK
        refine SWp.seqR rfl (hPB _ rfl) fun K hK => ?_
        iterate 2 (refine wps_cons rfl fun K hK => ?_; simp [hN']; refine hK _ ?_; clear hK)
        obtain ⟨r19, hc20, hj15⟩ := bind_some hj15
        refine wps_call [(.take, .tmp 18), (.take, .tmp 19)] rfl rfl ent60 (impl_Under_ok _ _ hc20) fun K hK => ?_; simp [hN']; refine hK _ ?_; clear hK
        iterate 2 (refine wps_cons rfl fun K hK => ?_; simp [hN']; refine hK _ ?_; clear hK)
        refine wps_nil (hK _ ?_); clear hK
        refine SWp.block ?_
        refine SWp.loopO [] [2, 5, 12, 13, 14, 20, 21, 22] [2] (fun v : (List Int) × Int => ⟨[(2, .ref (.box 2) 0 []), (5, .t (.sl true 1 (List.map vi v.1))), (12, .t (.sl true 1 (List.map vi r6))), (13, .t (vi (r6.length : Int))), (14, .t (vi v9)), (20, .t (.sl true 1 (List.map vi r19))), (21, .t (vi (r19.length : Int))), (22, .t (vi v.2))], [(2, [.sl false 4 (List.map (GNode.enc false) p1.Nodes), .sl false 5 (List.map (GFn.enc false) p1.Fns)])]⟩) (impl_fnNodes_l2 r19) _ (out8, 0) hj15 (by simp [hN']) ?_
        intro g s25 h23 ho24
        obtain ⟨out21, v22⟩ := g
        simp only [impl_fnNodes_l2] at h23
        try dsimp only
        refine SWp.seqR rfl (hPB _ rfl) fun K hK => ?_
        refine wps_cons rfl fun K hK => ?_; simp [hN']; refine hK _ ?_; clear hK
        refine wps_nil (hK _ ?_); clear hK
        refine SWp.seq ?_
        rcases ite_or h23 with ⟨hb26, h23⟩ | ⟨hb27, h23⟩
        · refine SWp.condT' (b := decide (v22 < (r19.length : Int))) (by simp) hb26 ?_
          refine SWp.skip ?_
          show SWp E C _ _ _
          refine SWp.seq ?_
          refine SWp.block ?_
          refine SWp.seqR rfl (hPB _ rfl) fun K hK => ?_
          obtain ⟨e28, he28, h23⟩ := bind_some h23
          obtain ⟨he28a, he28b, he28c, he28d⟩ := getI_some he28
          iterate 3 (refine wps_cons rfl fun K hK => ?_; simp [hN', he28a, he28b, he28c, he28d]; refine hK _ ?_; clear hK)
          refine wps_nil (hK _ ?_); clear hK
          refine SWp.seqR rfl (hPB _ rfl) fun K hK => ?_
          iterate 2 (refine wps_cons rfl fun K hK => ?_; simp [hN']; refine hK _ ?_; clear hK)
          obtain ⟨r29, hc30, h23⟩ := bind_some h23
          refine wps_call [(.bor, .tmp 26), (.take, .tmp 27)] rfl rfl ent49 (impl_hasInt_ok _ _ hc30) fun K hK => ?_; simp [hN']; refine hK _ ?_; clear hK
          refine wps_cons rfl fun K hK => ?_; simp [hN']; refine hK _ ?_; clear hK
          refine wps_nil (hK _ ?_); clear hK
          rcases ite_or h23 with ⟨hb31, h23⟩ | ⟨hb32, h23⟩
          · refine SWp.condT' (b := !r29) (by simp) hb31 ?_
            refine SWp.reg rfl (hPB _ rfl) fun K hK => ?_
            iterate 3 (refine wps_cons rfl fun K hK => ?_; simp [hN']; refine hK _ ?_; clear hK)
            obtain ⟨l33, hl33, h23⟩ := bind_some h23
            obtain ⟨hl33a, hl33b, hl33d⟩ := appI_some hl33
            have hl33f : List.map vi out21 ++ List.map vi [e28] = List.map vi l33 := app_map (f := vi) hl33d
            simp [eSl] at hl33a hl33b hl33f
            iterate 2 (refine wps_cons rfl fun K hK => ?_; simp [hN', hl33a, hl33b, hl33f]; refine hK _ ?_; clear hK)
            refine wps_nil (hK _ ?_); clear hK
            show SWp E C _ _ _
            refine SWp.reg rfl (hPB _ rfl) fun K hK => ?_
            iterate 2 (refine wps_cons rfl fun K hK => ?_; simp [hN']; refine hK _ ?_; clear hK)
            refine wps_nil (hK _ ?_); clear hK
            cases h23
            exact ⟨_, [], rfl, by simp [hN']⟩
          · refine SWp.condF' (b := !r29) (by simp) hb32 ?_
            refine SWp.skip ?_
            show SWp E C _ _ _
            refine SWp.reg rfl (hPB _ rfl) fun K hK => ?_
            iterate 2 (refine wps_cons rfl fun K hK => ?_; simp [hN']; refine hK _ ?_; clear hK)
            refine wps_nil (hK _ ?_); clear hK
            cases h23
            exact ⟨_, [], rfl, by simp [hN']⟩
        · refine SWp.condF' (b := decide (v22 < (r19.length : Int))) (by simp) hb27 ?_
          refine SWp.exit ?_
          have h34 := congrArg some (ho24 _ (Option.some.inj h23).symm)
          cases h34
          exact hK16 _ () [] trivial (by simp [hN'])
      refine SWp.reg rfl (hPB _ rfl) fun K hK => ?_
      iterate 2 (refine wps_cons rfl fun K hK => ?_; simp [hN']; refine hK _ ?_; clear hK)
      refine wps_nil (hK _ ?_); clear hK
      cases h10
      exact ⟨_, [], rfl, by simp [hN']⟩
    · refine SWp.condF' (b := decide (v9 < (r6.length : Int))) (by simp) hb14 ?_
      refine SWp.exit ?_
      have h36 := congrArg some (ho11 _ (Option.some.inj h10).symm)
      cases h36
      exact hK4 _ () [] trivial (by simp [hN'])
  refine SWp.seqR rfl (hPB _ rfl) fun K hK => ?_
  refine wps_cons rfl fun K hK => ?_; simp [hN']; refine hK _ ?_; clear hK
  obtain ⟨q38, hc39, h⟩ := bind_some h
  refine wps_callIO rfl ent53 (sort_Ints_ok _ hc39) fun K hK => ?_; simp [hN']; refine hK _ ?_; clear hK
  refine wps_nil (hK _ ?_); clear hK
  refine SWp.seqR rfl (hPB _ rfl) fun K hK => ?_
  iterate 2 (refine wps_cons rfl fun K hK => ?_; simp [hN']; refine hK _ ?_; clear hK)
  refine wps_nil (hK _ ?_); clear hK
  cases h
  refine SWp.ret ?_
  simp [thenS, inBlockS, res31]
end Go.Proofs.T
set_option linter.unusedVariables false
set_option linter.unusedSimpArgs false
set_option maxHeartbeats 1000000
namespace Go.Proofs.T
open Go.OM
theorem res11 : Tryz.f11.results.toList = [.tmp 4] := rfl
theorem ent11 : Enters E.P 11 := enters_of Tryz.func11 (by simp [Tryz.f11]) rfl
theorem impl_FnNodes_ok (p1 : GProgram) (fn2 : Int) {r0 : Int} (h : impl_FnNodes p1 fn2 = some r0) : Ok E 11 [.val (GProgram.enc false p1), .val (vi fn2)] [vi r0] [] := by
  refine ok_of_body (fn := Tryz.f11) Tryz.func11 rfl (by simp [Tryz.f11]) fun C hN hP => ?_
  have hPB : ∀ l, pinK [] l = true → pinB C.pin l = true := pinB_of (by rw [hP]; rfl)
  have hN' : C.N = 9 := hN
  clear hN
  unfold impl_FnNodes at h
  refine SWp.seqR rfl (hPB _ rfl) fun K hK => ?_
  iterate 2 (refine wps_cons rfl fun K hK => ?_; simp [hN']; refine hK _ ?_; clear hK)
  refine wps_nil (hK _ ?_); clear hK
  refine SWp.seqR rfl (hPB _ rfl) fun K hK => ?_
  iterate 2 (refine wps_cons rfl fun K hK => ?_; simp [hN']; refine hK _ ?_; clear hK)
  obtain ⟨r3, hc4, h⟩ := bind_some h
  refine wps_call [(.take, .tmp 5), (.take, .tmp 6)] rfl rfl ent31 (impl_fnNodes_ok _ _ hc4) fun K hK => ?_; simp [hN']; refine hK _ ?_; clear hK
  iterate 2 (refine wps_cons rfl fun K hK => ?_; simp [hN']; refine hK _ ?_; clear hK)
  refine wps_nil (hK _ ?_); clear hK
  cases h
  refine SWp.ret ?_
  simp [thenS, inBlockS, res11]
end Go.Proofs.T
set_option linter.unusedVariables false
set_option linter.unusedSimpArgs false
set_option maxHeartbeats 1000000
namespace Go.Proofs.T
open Go.OM
theorem res19 : Tryz.f19.results.toList = [.tmp 4] := rfl
theorem ent19 : Enters E.P 19 := enters_of Tryz.func19 (by simp [Tryz.f19]) rfl
theorem laws_eqIntS_ok (a1 : List Int) (b2 : List Int) {r0 : Bool} (h : laws_eqIntS a1 b2 = some r0) : Ok E 19 [.val (.sl false 1 (List.map vi a1)), .val (.sl false 1 (List.map vi b2))] [vb r0] [] := by
  refine ok_of_body (fn := Tryz.f19) Tryz.func19 rfl (by simp [Tryz.f19]) fun C hN hP => ?_
  have hPB : ∀ l, pinK [] l = true → pinB C.pin l = true := pinB_of (by rw [hP]; rfl)
  have hN' : C.N = 26 := hN
  clear hN
  unfold laws_eqIntS at h
  refine SWp.seqR rfl (hPB _ rfl) fun K hK => ?_
  refine wps_cons rfl fun K hK => ?_; simp [hN']; refine hK _ ?_; clear hK
  refine wps_nil (hK _ ?_); clear hK
  refine SWp.seq ?_
  refine SWp.seqR rfl (hPB _ rfl) fun K hK => ?_
  iterate 5 (refine wps_cons rfl fun K hK => ?_; simp [hN']; refine hK _ ?_; clear hK)
  refine wps_nil (hK _ ?_); clear hK
  rcases ite_or h with ⟨hb3, h⟩ | ⟨hb4, h⟩
  · refine SWp.condT' (b := (a1.length : Int) != (b2.length : Int)) (by simp) hb3 ?_
    refine SWp.seqR rfl (hPB _ rfl) fun K hK => ?_
    refine wps_cons rfl fun K hK => ?_; simp [hN']; refine hK _ ?_; clear hK
    refine wps_nil (hK _ ?_); clear hK
    cases h
    refine SWp.ret ?_
    simp [thenS, inBlockS, res19]
  · refine SWp.condF' (b := (a1.length : Int) != (b2.length : Int)) (by simp) hb4 ?_
    refine SWp.skip ?_
    show SWp E C _ _ _
    obtain ⟨j7, hj5, h⟩ := bind_some h
    refine SWp.seqC [] [] (fun v : Unit => ⟨[], []⟩) (fun v => j7 = Sum.inl v) (fun v hv => ?_) fun K6 hK6 => ?_
    rotate_left
    · refine SWp.seqR rfl (hPB _ rfl) fun K hK => ?_
      refine wps_cons rfl fun K hK => ?_; simp [hN']; refine hK _ ?_; clear hK
      refine wps_nil (hK _ ?_); clear hK
      refine SWp.block ?_
      refine SWp.loopO [] [0, 1, 5] [] (fun v : Int => ⟨[(0, .t (.sl false 1 (List.map vi a1))), (1, .t (.sl false 1 (List.map vi b2))), (5, .t (vi v))], []⟩) (laws_eqIntS_l1 a1 b2) _ 0 hj5 (by simp [hN']) ?_
      intro g s11 h9 ho10
      obtain ⟨i8, hg⟩ : ∃ y, y = g := ⟨_, rfl⟩
      subst hg
      simp only [laws_eqIntS_l1] at h9
      try dsimp only
      refine SWp.seq ?_
      refine SWp.seqR rfl (hPB _ rfl) fun K hK => ?_
      iterate 4 (refine wps_cons rfl fun K hK => ?_; simp [hN']; refine hK _ ?_; clear hK)
      refine wps_nil (hK _ ?_); clear hK
      rcases ite_or h9 with ⟨hb12, h9⟩ | ⟨hb13, h9⟩
      · refine SWp.condT' (b := decide (i8 < (a1.length : Int))) (by simp) hb12 ?_
        refine SWp.skip ?_
        show SWp E C _ _ _
        refine SWp.seq ?_
        refine SWp.block ?_
        refine SWp.seq ?_
        obtain ⟨e15, he15, h9⟩ := bind_some h9
        obtain ⟨he15a, he15b, he15c, he15d⟩ := getI_some he15
        obtain ⟨e16, he16, h9⟩ := bind_some h9
        obtain ⟨he16a, he16b, he16c, he16d⟩ := getI_some he16
        refine SWp.drawT rfl (hPB _ rfl) [(17, .t (.sl false 1 (List.map vi a1))), (18, .t (vi i8)), (19, .rop [vi e15] 0), (20, .t (vi e15)), (21, .t (.sl false 1 (List.map vi b2))), (22, .t (vi i8)), (23, .rop [vi e16] 0), (24, .t (vi e16))] [[], [], [0, 1], [0, 1, 2], [], [], [4, 5], [4, 5, 6], [0, 1, 2, 3, 4, 5, 6, 7]] (by simp) (by simp) (by simp [look]) rfl rfl rfl ?_ fun K hK => ?_
        · refine ⟨?_, ?_, ?_, ?_, ?_, ?_, ?_, ?_, trivial⟩
          all_goals (intro τ hbx hb hd hf K hK; try simp [vsAt] at hd; simp [vsAt] at hf; first | (refine wps_cons rfl fun K' hK' => ?_; simp [hN', hbx, hb, hd, hf, he15a, he15b, he15c, he15d, he16a, he16b, he16c, he16d]; exact hK' _ (wps_nil (hK _ (by simp [vsAt, hbx, he15a, he15b, he15c, he15d, he16a, he16b, he16c, he16d])))))
        refine wps_cons rfl fun K hK => ?_; simp [hN', he15a, he15b, he15c, he15d, he16a, he16b, he16c, he16d]; refine hK _ ?_; clear hK
        refine wps_nil (hK _ ?_); clear hK
        show SWp E C _ _ _
        rcases ite_or h9 with ⟨hb17, h9⟩ | ⟨hb18, h9⟩
        · refine SWp.condT' (b := e15 != e16) (by simp) hb17 ?_
          refine SWp.seqR rfl (hPB _ rfl) fun K hK => ?_
          refine wps_cons rfl fun K hK => ?_; simp [hN']; refine hK _ ?_; clear hK
          refine wps_nil (hK _ ?_); clear hK
          have h19 := congrArg some (ho10 _ (Option.some.inj h9).symm)
          cases h19
          try dsimp only at h
          cases h
          refine SWp.ret ?_
          simp [thenS, inBlockS, res19]
        · refine SWp.condF' (b := e15 != e16) (by simp) hb18 ?_
          refine SWp.skip ?_
          show SWp E C _ _ _
          refine SWp.reg rfl (hPB _ rfl) fun K hK => ?_
          iterate 3 (refine wps_cons rfl fun K hK => ?_; simp [hN']; refine hK _ ?_; clear hK)
          refine wps_nil (hK _ ?_); clear hK
          cases h9
          exact ⟨_, [], rfl, by simp [hN']⟩
      · refine SWp.condF' (b := decide (i8 < (a1.length : Int))) (by simp) hb13 ?_
        refine SWp.exit ?_
        have h20 := congrArg some (ho10 _ (Option.some.inj h9).symm)
        cases h20
        exact hK6 _ _ [] rfl (by simp [hN'])
    subst hv
    obtain ⟨⟩ := v
    try dsimp only at h ⊢
    refine SWp.seqR rfl (hPB _ rfl) fun K hK => ?_
    refine wps_cons rfl fun K hK => ?_; simp [hN']; refine hK _ ?_; clear hK
    refine wps_nil (hK _ ?_); clear hK
    cases h
    refine SWp.ret ?_
    simp [thenS, inBlockS, res19]
end Go.Proofs.T
set_option linter.unusedVariables false
set_option linter.unusedSimpArgs false
set_option maxHeartbeats 1000000
namespace Go.Proofs.T
open Go.OM
theorem res61 : Tryz.f61.results.toList = [.tmp 4] := rfl
theorem ent61 : Enters E.P 61 := enters_of Tryz.func61 (by simp [Tryz.f61]) rfl
theorem laws_eqNode_ok (a1 : GNode) (b2 : GNode) {r0 : Bool} (h : laws_eqNode a1 b2 = some r0) : Ok E 61 [.val (GNode.enc false a1), .val (GNode.enc false b2)] [vb r0] [] := by
  refine ok_of_body (fn := Tryz.f61) Tryz.func61 rfl (by simp [Tryz.f61]) fun C hN hP => ?_
  have hPB : ∀ l, pinK [] l = true → pinB C.pin l = true := pinB_of (by rw [hP]; rfl)
  have hN' : C.N = 26 := hN
  clear hN
  unfold laws_eqNode at h
  refine SWp.seqR rfl (hPB _ rfl) fun K hK => ?_
  iterate 3 (refine wps_cons rfl fun K hK => ?_; simp [hN']; refine hK _ ?_; clear hK)
  refine wps_nil (hK _ ?_); clear hK
  refine SWp.seq ?_
  refine SWp.seqR rfl (hPB _ rfl) fun K hK => ?_
  iterate 5 (refine wps_cons rfl fun K hK => ?_; simp [hN']; refine hK _ ?_; clear hK)
  refine wps_nil (hK _ ?_); clear hK
  rcases ite_or h with ⟨hb3, h⟩ | ⟨hb4, h⟩
  · refine SWp.condT' (b := a1.Kind != b2.Kind) (by simp) hb3 ?_
    refine SWp.seqR rfl (hPB _ rfl) fun K hK => ?_
    refine wps_cons rfl fun K hK => ?_; simp [hN']; refine hK _ ?_; clear hK
    refine wps_nil (hK _ ?_); clear hK
    cases h
    refine SWp.ret ?_
    simp [thenS, inBlockS, res61]
  · refine SWp.condF' (b := a1.Kind != b2.Kind) (by simp) hb4 ?_
    refine SWp.skip ?_
    show SWp E C _ _ _
    refine SWp.seq ?_
    refine SWp.seqR rfl (hPB _ rfl) fun K hK => ?_
    iterate 5 (refine wps_cons rfl fun K hK => ?_; simp [hN']; refine hK _ ?_; clear hK)
    refine wps_nil (hK _ ?_); clear hK
    rcases ite_or h with ⟨hb5, h⟩ | ⟨hb6, h⟩
    · refine SWp.condT' (b := a1.Num != b2.Num) (by simp) hb5 ?_
      refine SWp.seqR rfl (hPB _ rfl) fun K hK => ?_
      refine wps_cons rfl fun K hK => ?_; simp [hN']; refine hK _ ?_; clear hK
      refine wps_nil (hK _ ?_); clear hK
      cases h
      refine SWp.ret ?_
      simp [thenS, inBlockS, res61]
    · refine SWp.condF' (b := a1.Num != b2.Num) (by simp) hb6 ?_
      refine SWp.skip ?_
      show SWp E C _ _ _
      refine SWp.seq ?_
      refine SWp.seqR rfl (hPB _ rfl) fun K hK => ?_
      iterate 5 (refine wps_cons rfl fun K hK => ?_; simp [hN']; refine hK _ ?_; clear hK)
      refine wps_nil (hK _ ?_); clear hK
      rcases ite_or h with ⟨hb7, h⟩ | ⟨hb8, h⟩
      · refine SWp.condT' (b := !(sEq a1.Name b2.Name)) (by simp) hb7 ?_
        refine SWp.seqR rfl (hPB _ rfl) fun K hK => ?_
        refine wps_cons rfl fun K hK => ?_; simp [hN']; refine hK _ ?_; clear hK
        refine wps_nil (hK _ ?_); clear hK
        cases h
        refine SWp.ret ?_
        simp [thenS, inBlockS, res61]
      · refine SWp.condF' (b := !(sEq a1.Name b2.Name)) (by simp) hb8 ?_
        refine SWp.skip ?_
        show SWp E C _ _ _
        refine SWp.seq ?_
        refine SWp.seqR rfl (hPB _ rfl) fun K hK => ?_
        iterate 4 (refine wps_cons rfl fun K hK => ?_; simp [hN']; refine hK _ ?_; clear hK)
        obtain ⟨r9, hc10, h⟩ := bind_some h
        refine wps_call [(.take, .tmp 21), (.take, .tmp 23)] rfl rfl ent19 (laws_eqIntS_ok _ _ hc10) fun K hK => ?_; simp [hN']; refine hK _ ?_; clear hK
        refine wps_cons rfl fun K hK => ?_; simp [hN']; refine hK _ ?_; clear hK
        refine wps_nil (hK _ ?_); clear hK
        rcases ite_or h with ⟨hb11, h⟩ | ⟨hb12, h⟩
        · refine SWp.condT' (b := !r9) (by simp) hb11 ?_
          refine SWp.seqR rfl (hPB _ rfl) fun K hK => ?_
          refine wps_cons rfl fun K hK => ?_; simp [hN']; refine hK _ ?_; clear hK
          refine wps_nil (hK _ ?_); clear hK
          cases h
          refine SWp.ret ?_
          simp [thenS, inBlockS, res61]
        · refine SWp.condF' (b := !r9) (by simp) hb12 ?_
          refine SWp.skip ?_
          show SWp E C _ _ _
          refine SWp.seqR rfl (hPB _ rfl) fun K hK => ?_
          refine wps_cons rfl fun K hK => ?_; simp [hN']; refine hK _ ?_; clear hK
          refine wps_nil (hK _ ?_); clear hK
          cases h
          refine SWp.ret ?_
          simp [thenS, inBlockS, res61]
end Go.Proofs.T
set_option linter.unusedVariables false
set_option linter.unusedSimpArgs false
set_option maxHeartbeats 1000000
namespace Go.Proofs.T
open Go.OM
theorem res32 : Tryz.f32.results.toList = [.tmp 4] := rfl
theorem ent32 : Enters E.P 32 := enters_of Tryz.func32 (by simp [Tryz.f32]) rfl
theorem laws_eqNodeS_ok (a1 : List GNode) (b2 : List GNode) {r0 : Bool} (h : laws_eqNodeS a1 b2 = some r0) : Ok E 32 [.val (.sl false 4 (List.map (GNode.enc false) a1)), .val (.sl false 4 (List.map (GNode.enc false) b2))] [vb r0] [] := by
  refine ok_of_body (fn := Tryz.f32) Tryz.func32 rfl (by simp [Tryz.f32]) fun C hN hP => ?_
  have hPB : ∀ l, pinK [] l = true → pinB C.pin l = true := pinB_of (by rw [hP]; rfl)
  have hN' : C.N = 27 := hN
  clear hN
  unfold laws_eqNodeS at h
  refine SWp.seqR rfl (hPB _ rfl) fun K hK => ?_
  refine wps_cons rfl fun K hK => ?_; simp [hN']; refine hK _ ?_; clear hK
  refine wps_nil (hK _ ?_); clear hK
  refine SWp.seq ?_
  refine SWp.seqR rfl (hPB _ rfl) fun K hK => ?_
  iterate 5 (refine wps_cons rfl fun K hK => ?_; simp [hN']; refine hK _ ?_; clear hK)
  refine wps_nil (hK _ ?_); clear hK
  rcases ite_or h with ⟨hb3, h⟩ | ⟨hb4, h⟩
  · refine SWp.condT' (b := (a1.length : Int) != (b2.length : Int)) (by simp) hb3 ?_
    refine SWp.seqR rfl (hPB _ rfl) fun K hK => ?_
    refine wps_cons rfl fun K hK => ?_; simp [hN']; refine hK _ ?_; clear hK
    refine wps_nil (hK _ ?_); clear hK
    cases h
    refine SWp.ret ?_
    simp [thenS, inBlockS, res32]
  · refine SWp.condF' (b := (a1.length : Int) != (b2.length : Int)) (by simp) hb4 ?_
    refine SWp.skip ?_
    show SWp E C _ _ _
    obtain ⟨j7, hj5, h⟩ := bind_some h
    refine SWp.seqC [] [] (fun v : Unit => ⟨[], []⟩) (fun v => j7 = Sum.inl v) (fun v hv => ?_) fun K6 hK6 => ?_
    rotate_left
    · refine SWp.seqR rfl (hPB _ rfl) fun K hK => ?_
      refine wps_cons rfl fun K hK => ?_; simp [hN']; refine hK _ ?_; clear hK
      refine wps_nil (hK _ ?_); clear hK
      refine SWp.block ?_
      refine SWp.loopO [] [0, 1, 5] [] (fun v : Int => ⟨[(0, .t (.sl false 4 (List.map (GNode.enc false) a1))), (1, .t (.sl false 4 (List.map (GNode.enc false) b2))), (5, .t (vi v))], []⟩) (laws_eqNodeS_l1 a1 b2) _ 0 hj5 (by simp [hN']) ?_
      intro g s11 h9 ho10
      obtain ⟨i8, hg⟩ : ∃ y, y = g := ⟨_, rfl⟩
      subst hg
      simp only [laws_eqNodeS_l1] at h9
      try dsimp only
      refine SWp.seq ?_
      refine SWp.seqR rfl (hPB _ rfl) fun K hK => ?_
      iterate 4 (refine wps_cons rfl fun K hK => ?_; simp [hN']; refine hK _ ?_; clear hK)
      refine wps_nil (hK _ ?_); clear hK
      rcases ite_or h9 with ⟨hb12, h9⟩ | ⟨hb13, h9⟩
      · refine SWp.condT' (b := decide (i8 < (a1.length : Int))) (by simp) hb12 ?_
        refine SWp.skip ?_
        show SWp E C _ _ _
        refine SWp.seq ?_
        refine SWp.block ?_
        refine SWp.seq ?_
        obtain ⟨e15, he15, h9⟩ := bind_some h9
        obtain ⟨he15a, he15b, he15c, he15d⟩ := getI_some he15
        obtain ⟨e16, he16, h9⟩ := bind_some h9
        obtain ⟨he16a, he16b, he16c, he16d⟩ := getI_some he16
        refine SWp.drawT rfl (hPB _ rfl) [(17, .t (.sl false 4 (List.map (GNode.enc false) a1))), (18, .t (vi i8)), (19, .rop [vi e15.Kind, vi e15.Num, vs e15.Name, .sl false 1 (List.map vi e15.Kids)] 0), (20, .t (GNode.enc false e15)), (21, .t (.sl false 4 (List.map (GNode.enc false) b2))), (22, .t (vi i8)), (23, .rop [vi e16.Kind, vi e16.Num, vs e16.Name, .sl false 1 (List.map vi e16.Kids)] 0), (24, .t (GNode.enc false e16))] [[], [], [0, 1], [0, 1, 2], [], [], [4, 5], [4, 5, 6], [0, 1, 2, 3, 4, 5, 6, 7], [0, 1, 2, 3, 4, 5, 6, 7, 8]] (by simp) (by simp) (by simp [look]) rfl rfl rfl ?_ fun K hK => ?_
        · refine ⟨?_, ?_, ?_, ?_, ?_, ?_, ?_, ?_, trivial⟩
          all_goals (intro τ hbx hb hd hf K hK; try simp [vsAt] at hd; simp [vsAt] at hf; first | (refine wps_cons rfl fun K' hK' => ?_; simp [hN', hbx, hb, hd, hf, he15a, he15b, he15c, he15d, he16a, he16b, he16c, he16d]; exact hK' _ (wps_nil (hK _ (by simp [vsAt, hbx, he15a, he15b, he15c, he15d, he16a, he16b, he16c, he16d])))))
        obtain ⟨r17, hc18, h9⟩ := bind_some h9
        refine wps_call [(.take, .tmp 20), (.take, .tmp 24)] rfl rfl ent61 (laws_eqNode_ok _ _ hc18) fun K hK => ?_; simp [hN', he15a, he15b, he15c, he15d, he16a, he16b, he16c, he16d]; refine hK _ ?_; clear hK
        refine wps_cons rfl fun K hK => ?_; simp [hN', he15a, he15b, he15c, he15d, he16a, he16b, he16c, he16d]; refine hK _ ?_; clear hK
        refine wps_nil (hK _ ?_); clear hK
        show SWp E C _ _ _
        rcases ite_or h9 with ⟨hb19, h9⟩ | ⟨hb20, h9⟩
        · refine SWp.condT' (b := !r17) (by simp) hb19 ?_
          refine SWp.seqR rfl (hPB _ rfl) fun K hK => ?_
          refine wps_cons rfl fun K hK => ?_; simp [hN']; refine hK _ ?_; clear hK
          refine wps_nil (hK _ ?_); clear hK
          have h21 := congrArg some (ho10 _ (Option.some.inj h9).symm)
          cases h21
          try dsimp only at h
          cases h
          refine SWp.ret ?_
          simp [thenS, inBlockS, res32]
        · refine SWp.condF' (b := !r17) (by simp) hb20 ?_
          refine SWp.skip ?_
          show SWp E C _ _ _
          refine SWp.reg rfl (hPB _ rfl) fun K hK => ?_
          iterate 3 (refine wps_cons rfl fun K hK => ?_; simp [hN']; refine hK _ ?_; clear hK)
          refine wps_nil (hK _ ?_); clear hK
          cases h9
          exact ⟨_, [], rfl, by simp [hN']⟩
      · refine SWp.condF' (b := decide (i8 < (a1.length : Int))) (by simp) hb13 ?_
        refine SWp.exit ?_
        have h22 := congrArg some (ho10 _ (Option.some.inj h9).symm)
        cases h22
        exact hK6 _ _ [] rfl (by simp [hN'])
    subst hv
    obtain ⟨⟩ := v
    try dsimp only at h ⊢
    refine SWp.seqR rfl (hPB _ rfl) fun K hK => ?_
    refine wps_cons rfl fun K hK => ?_; simp [hN']; refine hK _ ?_; clear hK
    refine wps_nil (hK _ ?_); clear hK
    cases h
    refine SWp.ret ?_
    simp [thenS, inBlockS, res32]
end Go.Proofs.T
set_option linter.unusedVariables false
set_option linter.unusedSimpArgs false
set_option maxHeartbeats 1000000
namespace Go.Proofs.T
open Go.OM
theorem res102 : Tryz.f102.results.toList = [.tmp 4] := rfl
theorem ent102 : Enters E.P 102 := enters_of Tryz.func102 (by simp [Tryz.f102]) rfl
theorem laws_eqParam_ok (a1 : GParam) (b2 : GParam) {r0 : Bool} (h : laws_eqParam a1 b2 = some r0) : Ok E 102 [.val (GParam.enc a1), .val (GParam.enc b2)] [vb r0] [] := by
  refine ok_of_body (fn := Tryz.f102) Tryz.func102 rfl (by simp [Tryz.f102]) fun C hN hP => ?_
  have hPB : ∀ l, pinK [] l = true → pinB C.pin l = true := pinB_of (by rw [hP]; rfl)
  have hN' : C.N = 15 := hN
  clear hN
  unfold laws_eqParam at h
  refine SWp.seqR rfl (hPB _ rfl) fun K hK => ?_
  iterate 3 (refine wps_cons rfl fun K hK => ?_; simp [hN']; refine hK _ ?_; clear hK)
  refine wps_nil (hK _ ?_); clear hK
  refine SWp.seq ?_
  refine SWp.seqR rfl (hPB _ rfl) fun K hK => ?_
  iterate 5 (refine wps_cons rfl fun K hK => ?_; simp [hN']; refine hK _ ?_; clear hK)
  refine wps_nil (hK _ ?_); clear hK
  rcases ite_or h with ⟨hb3, h⟩ | ⟨hb4, h⟩
  · refine SWp.condT' (b := !(sEq a1.Name b2.Name)) (by simp) hb3 ?_
    refine SWp.seqR rfl (hPB _ rfl) fun K hK => ?_
    refine wps_cons rfl fun K hK => ?_; simp [hN']; refine hK _ ?_; clear hK
    refine wps_nil (hK _ ?_); clear hK
    cases h
    refine SWp.ret ?_
    simp [thenS, inBlockS, res102]
  · refine SWp.condF' (b := !(sEq a1.Name b2.Name)) (by simp) hb4 ?_
    refine SWp.skip ?_
    show SWp E C _ _ _
    refine SWp.seq ?_
    refine SWp.seqR rfl (hPB _ rfl) fun K hK => ?_
    iterate 5 (refine wps_cons rfl fun K hK => ?_; simp [hN']; refine hK _ ?_; clear hK)
    refine wps_nil (hK _ ?_); clear hK
    rcases ite_or h with ⟨hb5, h⟩ | ⟨hb6, h⟩
    · refine SWp.condT' (b := a1.Typ != b2.Typ) (by simp) hb5 ?_
      refine SWp.seqR rfl (hPB _ rfl) fun K hK => ?_
      refine wps_cons rfl fun K hK => ?_; simp [hN']; refine hK _ ?_; clear hK
      refine wps_nil (hK _ ?_); clear hK
      cases h
      refine SWp.ret ?_
      simp [thenS, inBlockS, res102]
    · refine SWp.condF' (b := a1.Typ != b2.Typ) (by simp) hb6 ?_
      refine SWp.skip ?_
      show SWp E C _ _ _
      refine SWp.seqR rfl (hPB _ rfl) fun K hK => ?_
      refine wps_cons rfl fun K hK => ?_; simp [hN']; refine hK _ ?_; clear hK
      refine wps_nil (hK _ ?_); clear hK
      cases h
      refine SWp.ret ?_
      simp [thenS, inBlockS, res102]
end Go.Proofs.T
set_option linter.unusedVariables false
set_option linter.unusedSimpArgs false
set_option maxHeartbeats 1000000
namespace Go.Proofs.T
open Go.OM
theorem res89 : Tryz.f89.results.toList = [.tmp 4] := rfl
theorem ent89 : Enters E.P 89 := enters_of Tryz.func89 (by simp [Tryz.f89]) rfl
theorem laws_eqParamS_ok (a1 : List GParam) (b2 : List GParam) {r0 : Bool} (h : laws_eqParamS a1 b2 = some r0) : Ok E 89 [.val (.sl false 2 (List.map GParam.enc a1)), .val (.sl false 2 (List.map GParam.enc b2))] [vb r0] [] := by
  refine ok_of_body (fn := Tryz.f89) Tryz.func89 rfl (by simp [Tryz.f89]) fun C hN hP => ?_
  have hPB : ∀ l, pinK [] l = true → pinB C.pin l = true := pinB_of (by rw [hP]; rfl)
  have hN' : C.N = 27 := hN
  clear hN
  unfold laws_eqParamS at h
  refine SWp.seqR rfl (hPB _ rfl) fun K hK => ?_
  refine wps_cons rfl fun K hK => ?_; simp [hN']; refine hK _ ?_; clear hK
  refine wps_nil (hK _ ?_); clear hK
  refine SWp.seq ?_
  refine SWp.seqR rfl (hPB _ rfl) fun K hK => ?_
  iterate 5 (refine wps_cons rfl fun K hK => ?_; simp [hN']; refine hK _ ?_; clear hK)
  refine wps_nil (hK _ ?_); clear hK
  rcases ite_or h with ⟨hb3, h⟩ | ⟨hb4, h⟩
  · refine SWp.condT' (b := (a1.length : Int) != (b2.length : Int)) (by simp) hb3 ?_
    refine SWp.seqR rfl (hPB _ rfl) fun K hK => ?_
    refine wps_cons rfl fun K hK => ?_; simp [hN']; refine hK _ ?_; clear hK
    refine wps_nil (hK _ ?_); clear hK
    cases h
    refine SWp.ret ?_
    simp [thenS, inBlockS, res89]
  · refine SWp.condF' (b := (a1.length : Int) != (b2.length : Int)) (by simp) hb4 ?_
    refine SWp.skip ?_
    show SWp E C _ _ _
    obtain ⟨j7, hj5, h⟩ := bind_some h
    refine SWp.seqC [] [] (fun v : Unit => ⟨[], []⟩) (fun v => j7 = Sum.inl v) (fun v hv => ?_) fun K6 hK6 => ?_
    rotate_left
    · refine SWp.seqR rfl (hPB _ rfl) fun K hK => ?_
      refine wps_cons rfl fun K hK => ?_; simp [hN']; refine hK _ ?_; clear hK
      refine wps_nil (hK _ ?_); clear hK
      refine SWp.block ?_
      refine SWp.loopO [] [0, 1, 5] [] (fun v : Int => ⟨[(0, .t (.sl false 2 (List.map GParam.enc a1))), (1, .t (.sl false 2 (List.map GParam.enc b2))), (5, .t (vi v))], []⟩) (laws_eqParamS_l1 a1 b2) _ 0 hj5 (by simp [hN']) ?_
      intro g s11 h9 ho10
      obtain ⟨i8, hg⟩ : ∃ y, y = g := ⟨_, rfl⟩
      subst hg
      simp only [laws_eqParamS_l1] at h9
      try dsimp only
      refine SWp.seq ?_
      refine SWp.seqR rfl (hPB _ rfl) fun K hK => ?_
      iterate 4 (refine wps_cons rfl fun K hK => ?_; simp [hN']; refine hK _ ?_; clear hK)
      refine wps_nil (hK _ ?_); clear hK
      rcases ite_or h9 with ⟨hb12, h9⟩ | ⟨hb13, h9⟩
      · refine SWp.condT' (b := decide (i8 < (a1.length : Int))) (by simp) hb12 ?_
        refine SWp.skip ?_
        show SWp E C _ _ _
        refine SWp.seq ?_
        refine SWp.block ?_
        refine SWp.seq ?_
        obtain ⟨e15, he15, h9⟩ := bind_some h9
        obtain ⟨he15a, he15b, he15c, he15d⟩ := getI_some he15
        obtain ⟨e16, he16, h9⟩ := bind_some h9
        obtain ⟨he16a, he16b, he16c, he16d⟩ := getI_some he16
        refine SWp.drawT rfl (hPB _ rfl) [(17, .t (.sl false 2 (List.map GParam.enc a1))), (18, .t (vi i8)), (19, .rop [vs e15.Name, vi e15.Typ] 0), (20, .t (GParam.enc e15)), (21, .t (.sl false 2 (List.map GParam.enc b2))), (22, .t (vi i8)), (23, .rop [vs e16.Name, vi e16.Typ] 0), (24, .t (GParam.enc e16))] [[], [], [0, 1], [0, 1, 2], [], [], [4, 5], [4, 5, 6], [0, 1, 2, 3, 4, 5, 6, 7], [0, 1, 2, 3, 4, 5, 6, 7, 8]] (by simp) (by simp) (by simp [look]) rfl rfl rfl ?_ fun K hK => ?_
        · refine ⟨?_, ?_, ?_, ?_, ?_, ?_, ?_, ?_, trivial⟩
          all_goals (intro τ hbx hb hd hf K hK; try simp [vsAt] at hd; simp [vsAt] at hf; first | (refine wps_cons rfl fun K' hK' => ?_; simp [hN', hbx, hb, hd, hf, he15a, he15b, he15c, he15d, he16a, he16b, he16c, he16d]; exact hK' _ (wps_nil (hK _ (by simp [vsAt, hbx, he15a, he15b, he15c, he15d, he16a, he16b, he16c, he16d])))))
        obtain ⟨r17, hc18, h9⟩ := bind_some h9
        refine wps_call [(.take, .tmp 20), (.take, .tmp 24)] rfl rfl ent102 (laws_eqParam_ok _ _ hc18) fun K hK => ?_; simp [hN', he15a, he15b, he15c, he15d, he16a, he16b, he16c, he16d]; refine hK _ ?_; clear hK
        refine wps_cons rfl fun K hK => ?_; simp [hN', he15a, he15b, he15c, he15d, he16a, he16b, he16c, he16d]; refine hK _ ?_; clear hK
        refine wps_nil (hK _ ?_); clear hK
        show SWp E C _ _ _
        rcases ite_or h9 with ⟨hb19, h9⟩ | ⟨hb20, h9⟩
        · refine SWp.condT' (b := !r17) (by simp) hb19 ?_
          refine SWp.seqR rfl (hPB _ rfl) fun K hK => ?_
          refine wps_cons rfl fun K hK => ?_; simp [hN']; refine hK _ ?_; clear hK
          refine wps_nil (hK _ ?_); clear hK
          have h21 := congrArg some (ho10 _ (Option.some.inj h9).symm)
          cases h21
          try dsimp only at h
          cases h
          refine SWp.ret ?_
          simp [thenS, inBlockS, res89]
        · refine SWp.condF' (b := !r17) (by simp) hb20 ?_
          refine SWp.skip ?_
          show SWp E C _ _ _
          refine SWp.reg rfl (hPB _ rfl) fun K hK => ?_
          iterate 3 (refine wps_cons rfl fun K hK => ?_; simp [hN']; refine hK _ ?_; clear hK)
          refine wps_nil (hK _ ?_); clear hK
          cases h9
          exact ⟨_, [], rfl, by simp [hN']⟩
      · refine SWp.condF' (b := decide (i8 < (a1.length : Int))) (by simp) hb13 ?_
        refine SWp.exit ?_
        have h22 := congrArg some (ho10 _ (Option.some.inj h9).symm)
        cases h22
        exact hK6 _ _ [] rfl (by simp [hN'])
    subst hv
    obtain ⟨⟩ := v
    try dsimp only at h ⊢
    refine SWp.seqR rfl (hPB _ rfl) fun K hK => ?_
    refine wps_cons rfl fun K hK => ?_; simp [hN']; refine hK _ ?_; clear hK
    refine wps_nil (hK _ ?_); clear hK
    cases h
    refine SWp.ret ?_
    simp [thenS, inBlockS, res89]
end Go.Proofs.T
set_option linter.unusedVariables false
set_option linter.unusedSimpArgs false
set_option maxHeartbeats 1000000
namespace Go.Proofs.T
open Go.OM
theorem res62 : Tryz.f62.results.toList = [.tmp 4] := rfl
theorem ent62 : Enters E.P 62 := enters_of Tryz.func62 (by simp [Tryz.f62]) rfl
theorem laws_eqFn_ok (a1 : GFn) (b2 : GFn) {r0 : Bool} (h : laws_eqFn a1 b2 = some r0) : Ok E 62 [.val (GFn.enc false a1), .val (GFn.enc false b2)] [vb r0] [] := by
  refine ok_of_body (fn := Tryz.f62) Tryz.func62 rfl (by simp [Tryz.f62]) fun C hN hP => ?_
  have hPB : ∀ l, pinK [] l = true → pinB C.pin l = true := pinB_of (by rw [hP]; rfl)
  have hN' : C.N = 31 := hN
  clear hN
  unfold laws_eqFn at h
  refine SWp.seqR rfl (hPB _ rfl) fun K hK => ?_
  iterate 3 (refine wps_cons rfl fun K hK => ?_; simp [hN']; refine hK _ ?_; clear hK)
  refine wps_nil (hK _ ?_); clear hK
  refine SWp.seq ?_
  refine SWp.seqR rfl (hPB _ rfl) fun K hK => ?_
  iterate 5 (refine wps_cons rfl fun K hK => ?_; simp [hN']; refine hK _ ?_; clear hK)
  refine wps_nil (hK _ ?_); clear hK
  rcases ite_or h with ⟨hb3, h⟩ | ⟨hb4, h⟩
  · refine SWp.condT' (b := !(sEq a1.Name b2.Name)) (by simp) hb3 ?_
    refine SWp.seqR rfl (hPB _ rfl) fun K hK => ?_
    refine wps_cons rfl fun K hK => ?_; simp [hN']; refine hK _ ?_; clear hK
    refine wps_nil (hK _ ?_); clear hK
    cases h
    refine SWp.ret ?_
    simp [thenS, inBlockS, res62]
  · refine SWp.condF' (b := !(sEq a1.Name b2.Name)) (by simp) hb4 ?_
    refine SWp.skip ?_
    show SWp E C _ _ _
    refine SWp.seq ?_
    refine SWp.seqR rfl (hPB _ rfl) fun K hK => ?_
    iterate 4 (refine wps_cons rfl fun K hK => ?_; simp [hN']; refine hK _ ?_; clear hK)
    obtain ⟨r5, hc6, h⟩ := bind_some h
    refine wps_call [(.take, .tmp 11), (.take, .tmp 13)] rfl rfl ent89 (laws_eqParamS_ok _ _ hc6) fun K hK => ?_; simp [hN']; refine hK _ ?_; clear hK
    refine wps_cons rfl fun K hK => ?_; simp [hN']; refine hK _ ?_; clear hK
    refine wps_nil (hK _ ?_); clear hK
    rcases ite_or h with ⟨hb7, h⟩ | ⟨hb8, h⟩
    · refine SWp.condT' (b := !r5) (by simp) hb7 ?_
      refine SWp.seqR rfl (hPB _ rfl) fun K hK => ?_
      refine wps_cons rfl fun K hK => ?_; simp [hN']; refine hK _ ?_; clear hK
      refine wps_nil (hK _ ?_); clear hK
      cases h
      refine SWp.ret ?_
      simp [thenS, inBlockS, res62]
    · refine SWp.condF' (b := !r5) (by simp) hb8 ?_
      refine SWp.skip ?_
      show SWp E C _ _ _
      refine SWp.seq ?_
      refine SWp.seqR rfl (hPB _ rfl) fun K hK => ?_
      iterate 5 (refine wps_cons rfl fun K hK => ?_; simp [hN']; refine hK _ ?_; clear hK)
      refine wps_nil (hK _ ?_); clear hK
      rcases ite_or h with ⟨hb9, h⟩ | ⟨hb10, h⟩
      · refine SWp.condT' (b := a1.Res != b2.Res) (by simp) hb9 ?_
        refine SWp.seqR rfl (hPB _ rfl) fun K hK => ?_
        refine wps_cons rfl fun K hK => ?_; simp [hN']; refine hK _ ?_; clear hK
        refine wps_nil (hK _ ?_); clear hK
        cases h
        refine SWp.ret ?_
        simp [thenS, inBlockS, res62]
      · refine SWp.condF' (b := a1.Res != b2.Res) (by simp) hb10 ?_
        refine SWp.skip ?_
        show SWp E C _ _ _
        refine SWp.seq ?_
        refine SWp.seqR rfl (hPB _ rfl) fun K hK => ?_
        iterate 5 (refine wps_cons rfl fun K hK => ?_; simp [hN']; refine hK _ ?_; clear hK)
        refine wps_nil (hK _ ?_); clear hK
        rcases ite_or h with ⟨hb11, h⟩ | ⟨hb12, h⟩
        · refine SWp.condT' (b := a1.Body != b2.Body) (by simp) hb11 ?_
          refine SWp.seqR rfl (hPB _ rfl) fun K hK => ?_
          refine wps_cons rfl fun K hK => ?_; simp [hN']; refine hK _ ?_; clear hK
          refine wps_nil (hK _ ?_); clear hK
          cases h
          refine SWp.ret ?_
          simp [thenS, inBlockS, res62]
        · refine SWp.condF' (b := a1.Body != b2.Body) (by simp) hb12 ?_
          refine SWp.skip ?_
          show SWp E C _ _ _
          refine SWp.seq ?_
          refine SWp.seqR rfl (hPB _ rfl) fun K hK => ?_
          iterate 5 (refine wps_cons rfl fun K hK => ?_; simp [hN']; refine hK _ ?_; clear hK)
          refine wps_nil (hK _ ?_); clear hK
          rcases ite_or h with ⟨hb13, h⟩ | ⟨hb14, h⟩
          · refine SWp.condT' (b := a1.Ret != b2.Ret) (by simp) hb13 ?_
            refine SWp.seqR rfl (hPB _ rfl) fun K hK => ?_
            refine wps_cons rfl fun K hK => ?_; simp [hN']; refine hK _ ?_; clear hK
            refine wps_nil (hK _ ?_); clear hK
            cases h
            refine SWp.ret ?_
            simp [thenS, inBlockS, res62]
          · refine SWp.condF' (b := a1.Ret != b2.Ret) (by simp) hb14 ?_
            refine SWp.skip ?_
            show SWp E C _ _ _
            refine SWp.seqR rfl (hPB _ rfl) fun K hK => ?_
            refine wps_cons rfl fun K hK => ?_; simp [hN']; refine hK _ ?_; clear hK
            refine wps_nil (hK _ ?_); clear hK
            cases h
            refine SWp.ret ?_
            simp [thenS, inBlockS, res62]
end Go.Proofs.T
set_option linter.unusedVariables false
set_option linter.unusedSimpArgs false
set_option maxHeartbeats 1000000
namespace Go.Proofs.T
open Go.OM
theorem res33 : Tryz.f33.results.toList = [.tmp 4] := rfl
theorem ent33 : Enters E.P 33 := enters_of Tryz.func33 (by simp [Tryz.f33]) rfl
theorem laws_eqFnS_ok (a1 : List GFn) (b2 : List GFn) {r0 : Bool} (h : laws_eqFnS a1 b2 = some r0) : Ok E 33 [.val (.sl false 5 (List.map (GFn.enc false) a1)), .val (.sl false 5 (List.map (GFn.enc false) b2))] [vb r0] [] := by
  refine ok_of_body (fn := Tryz.f33) Tryz.func33 rfl (by simp [Tryz.f33]) fun C hN hP => ?_
  have hPB : ∀ l, pinK [] l = true → pinB C.pin l = true := pinB_of (by rw [hP]; rfl)
  have hN' : C.N = 27 := hN
  clear hN
  unfold laws_eqFnS at h
  refine SWp.seqR rfl (hPB _ rfl) fun K hK => ?_
  refine wps_cons rfl fun K hK => ?_; simp [hN']; refine hK _ ?_; clear hK
  refine wps_nil (hK _ ?_); clear hK
  refine SWp.seq ?_
  refine SWp.seqR rfl (hPB _ rfl) fun K hK => ?_
  iterate 5 (refine wps_cons rfl fun K hK => ?_; simp [hN']; refine hK _ ?_; clear hK)
  refine wps_nil (hK _ ?_); clear hK
  rcases ite_or h with ⟨hb3, h⟩ | ⟨hb4, h⟩
  · refine SWp.condT' (b := (a1.length : Int) != (b2.length : Int)) (by simp) hb3 ?_
    refine SWp.seqR rfl (hPB _ rfl) fun K hK => ?_
    refine wps_cons rfl fun K hK => ?_; simp [hN']; refine hK _ ?_; clear hK
    refine wps_nil (hK _ ?_); clear hK
    cases h
    refine SWp.ret ?_
    simp [thenS, inBlockS, res33]
  · refine SWp.condF' (b := (a1.length : Int) != (b2.length : Int)) (by simp) hb4 ?_
    refine SWp.skip ?_
    show SWp E C _ _ _
    obtain ⟨j7, hj5, h⟩ := bind_some h
    refine SWp.seqC [] [] (fun v : Unit => ⟨[], []⟩) (fun v => j7 = Sum.inl v) (fun v hv => ?_) fun K6 hK6 => ?_
    rotate_left
    · refine SWp.seqR rfl (hPB _ rfl) fun K hK => ?_
      refine wps_cons rfl fun K hK => ?_; simp [hN']; refine hK _ ?_; clear hK
      refine wps_nil (hK _ ?_); clear hK
      refine SWp.block ?_
      refine SWp.loopO [] [0, 1, 5] [] (fun v : Int => ⟨[(0, .t (.sl false 5 (List.map (GFn.enc false) a1))), (1, .t (.sl false 5 (List.map (GFn.enc false) b2))), (5, .t (vi v))], []⟩) (laws_eqFnS_l1 a1 b2) _ 0 hj5 (by simp [hN']) ?_
      intro g s11 h9 ho10
      obtain ⟨i8, hg⟩ : ∃ y, y = g := ⟨_, rfl⟩
      subst hg
      simp only [laws_eqFnS_l1] at h9
      try dsimp only
      refine SWp.seq ?_
      refine SWp.seqR rfl (hPB _ rfl) fun K hK => ?_
      iterate 4 (refine wps_cons rfl fun K hK => ?_; simp [hN']; refine hK _ ?_; clear hK)
      refine wps_nil (hK _ ?_); clear hK
      rcases ite_or h9 with ⟨hb12, h9⟩ | ⟨hb13, h9⟩
      · refine SWp.condT' (b := decide (i8 < (a1.length : Int))) (by simp) hb12 ?_
        refine SWp.skip ?_
        show SWp E C _ _ _
        refine SWp.seq ?_
        refine SWp.block ?_
        refine SWp.seq ?_
        obtain ⟨e15, he15, h9⟩ := bind_some h9
        obtain ⟨he15a, he15b, he15c, he15d⟩ := getI_some he15
        obtain ⟨e16, he16, h9⟩ := bind_some h9
        obtain ⟨he16a, he16b, he16c, he16d⟩ := getI_some he16
        refine SWp.drawT rfl (hPB _ rfl) [(17, .t (.sl false 5 (List.map (GFn.enc false) a1))), (18, .t (vi i8)), (19, .rop [vs e15.Name, .sl false 2 (List.map GParam.enc e15.Params), vi e15.Res, vi e15.Body, vi e15.Ret] 0), (20, .t (GFn.enc false e15)), (21, .t (.sl false 5 (List.map (GFn.enc false) b2))), (22, .t (vi i8)), (23, .rop [vs e16.Name, .sl false 2 (List.map GParam.enc e16.Params), vi e16.Res, vi e16.Body, vi e16.Ret] 0), (24, .t (GFn.enc false e16))] [[], [], [0, 1], [0, 1, 2], [], [], [4, 5], [4, 5, 6], [0, 1, 2, 3, 4, 5, 6, 7], [0, 1, 2, 3, 4, 5, 6, 7, 8]] (by simp) (by simp) (by simp [look]) rfl rfl rfl ?_ fun K hK => ?_
        · refine ⟨?_, ?_, ?_, ?_, ?_, ?_, ?_, ?_, trivial⟩
          all_goals (intro τ hbx hb hd hf K hK; try simp [vsAt] at hd; simp [vsAt] at hf; first | (refine wps_cons rfl fun K' hK' => ?_; simp [hN', hbx, hb, hd, hf, he15a, he15b, he15c, he15d, he16a, he16b, he16c, he16d]; exact hK' _ (wps_nil (hK _ (by simp [vsAt, hbx, he15a, he15b, he15c, he15d, he16a, he16b, he16c, he16d])))))
        obtain ⟨r17, hc18, h9⟩ := bind_some h9
        refine wps_call [(.take, .tmp 20), (.take, .tmp 24)] rfl rfl ent62 (laws_eqFn_ok _ _ hc18) fun K hK => ?_; simp [hN', he15a, he15b, he15c, he15d, he16a, he16b, he16c, he16d]; refine hK _ ?_; clear hK
        refine wps_cons rfl fun K hK => ?_; simp [hN', he15a, he15b, he15c, he15d, he16a, he16b, he16c, he16d]; refine hK _ ?_; clear hK
        refine wps_nil (hK _ ?_); clear hK
        show SWp E C _ _ _
        rcases ite_or h9 with ⟨hb19, h9⟩ | ⟨hb20, h9⟩
        · refine SWp.condT' (b := !r17) (by simp) hb19 ?_
          refine SWp.seqR rfl (hPB _ rfl) fun K hK => ?_
          refine wps_cons rfl fun K hK => ?_; simp [hN']; refine hK _ ?_; clear hK
          refine wps_nil (hK _ ?_); clear hK
          have h21 := congrArg some (ho10 _ (Option.some.inj h9).symm)
          cases h21
          try dsimp only at h
          cases h
          refine SWp.ret ?_
          simp [thenS, inBlockS, res33]
        · refine SWp.condF' (b := !r17) (by simp) hb20 ?_
          refine SWp.skip ?_
          show SWp E C _ _ _
          refine SWp.reg rfl (hPB _ rfl) fun K hK => ?_
          iterate 3 (refine wps_cons rfl fun K hK => ?_; simp [hN']; refine hK _ ?_; clear hK)
          refine wps_nil (hK _ ?_); clear hK
          cases h9
          exact ⟨_, [], rfl, by simp [hN']⟩
      · refine SWp.condF' (b := decide (i8 < (a1.length : Int))) (by simp) hb13 ?_
        refine SWp.exit ?_
        have h22 := congrArg some (ho10 _ (Option.some.inj h9).symm)
        cases h22
        exact hK6 _ _ [] rfl (by simp [hN'])
    subst hv
    obtain ⟨⟩ := v
    try dsimp only at h ⊢
    refine SWp.seqR rfl (hPB _ rfl) fun K hK => ?_
    refine wps_cons rfl fun K hK => ?_; simp [hN']; refine hK _ ?_; clear hK
    refine wps_nil (hK _ ?_); clear hK
    cases h
    refine SWp.ret ?_
    simp [thenS, inBlockS, res33]
end Go.Proofs.T
set_option linter.unusedVariables false
set_option linter.unusedSimpArgs false
set_option maxHeartbeats 1000000
namespace Go.Proofs.T
open Go.OM
theorem res12 : Tryz.f12.results.toList = [.tmp 4] := rfl
theorem ent12 : Enters E.P 12 := enters_of Tryz.func12 (by simp [Tryz.f12]) rfl
theorem laws_eqProgram_ok (a1 : GProgram) (b2 : GProgram) {r0 : Bool} (h : laws_eqProgram a1 b2 = some r0) : Ok E 12 [.val (GProgram.enc false a1), .val (GProgram.enc false b2)] [vb r0] [] := by
  refine ok_of_body (fn := Tryz.f12) Tryz.func12 rfl (by simp [Tryz.f12]) fun C hN hP => ?_
  have hPB : ∀ l, pinK [] l = true → pinB C.pin l = true := pinB_of (by rw [hP]; rfl)
  have hN' : C.N = 17 := hN
  clear hN
  unfold laws_eqProgram at h
  refine SWp.seqR rfl (hPB _ rfl) fun K hK => ?_
  iterate 3 (refine wps_cons rfl fun K hK => ?_; simp [hN']; refine hK _ ?_; clear hK)
  refine wps_nil (hK _ ?_); clear hK
  refine SWp.seq ?_
  refine SWp.seqR rfl (hPB _ rfl) fun K hK => ?_
  iterate 4 (refine wps_cons rfl fun K hK => ?_; simp [hN']; refine hK _ ?_; clear hK)
  obtain ⟨r3, hc4, h⟩ := bind_some h
  refine wps_call [(.take, .tmp 6), (.take, .tmp 8)] rfl rfl ent32 (laws_eqNodeS_ok _ _ hc4) fun K hK => ?_; simp [hN']; refine hK _ ?_; clear hK
  refine wps_cons rfl fun K hK => ?_; simp [hN']; refine hK _ ?_; clear hK
  refine wps_nil (hK _ ?_); clear hK
  rcases ite_or h with ⟨hb5, h⟩ | ⟨hb6, h⟩
  · refine SWp.condT' (b := !r3) (by simp) hb5 ?_
    refine SWp.seqR rfl (hPB _ rfl) fun K hK => ?_
    refine wps_cons rfl fun K hK => ?_; simp [hN']; refine hK _ ?_; clear hK
    refine wps_nil (hK _ ?_); clear hK
    cases h
    refine SWp.ret ?_
    simp [thenS, inBlockS, res12]
  · refine SWp.condF' (b := !r3) (by simp) hb6 ?_
    refine SWp.skip ?_
    show SWp E C _ _ _
    refine SWp.seq ?_
    refine SWp.seqR rfl (hPB _ rfl) fun K hK => ?_
    iterate 4 (refine wps_cons rfl fun K hK => ?_; simp [hN']; refine hK _ ?_; clear hK)
    obtain ⟨r7, hc8, h⟩ := bind_some h
    refine wps_call [(.take, .tmp 12), (.take, .tmp 14)] rfl rfl ent33 (laws_eqFnS_ok _ _ hc8) fun K hK => ?_; simp [hN']; refine hK _ ?_; clear hK
    refine wps_cons rfl fun K hK => ?_; simp [hN']; refine hK _ ?_; clear hK
    refine wps_nil (hK _ ?_); clear hK
    rcases ite_or h with ⟨hb9, h⟩ | ⟨hb10, h⟩
    · refine SWp.condT' (b := !r7) (by simp) hb9 ?_
      refine SWp.seqR rfl (hPB _ rfl) fun K hK => ?_
      refine wps_cons rfl fun K hK => ?_; simp [hN']; refine hK _ ?_; clear hK
      refine wps_nil (hK _ ?_); clear hK
      cases h
      refine SWp.ret ?_
      simp [thenS, inBlockS, res12]
    · refine SWp.condF' (b := !r7) (by simp) hb10 ?_
      refine SWp.skip ?_
      show SWp E C _ _ _
      refine SWp.seqR rfl (hPB _ rfl) fun K hK => ?_
      refine wps_cons rfl fun K hK => ?_; simp [hN']; refine hK _ ?_; clear hK
      refine wps_nil (hK _ ?_); clear hK
      cases h
      refine SWp.ret ?_
      simp [thenS, inBlockS, res12]
end Go.Proofs.T
set_option linter.unusedVariables false
set_option linter.unusedSimpArgs false
set_option maxHeartbeats 1000000
namespace Go.Proofs.T
open Go.OM
theorem res3 : Tryz.f3.results.toList = [.tmp 4] := rfl
theorem laws_FnExactFnNodes_ok (aP1 : GProgram) (aFn2 : Int) {r0 : Bool} (h : laws_FnExactFnNodes aP1 aFn2 = some r0) : Ok E 3 [.val (GProgram.enc false aP1), .val (vi aFn2)] [vb r0] [] := by
  refine ok_of_body (fn := Tryz.f3) Tryz.func3 rfl (by simp [Tryz.f3]) fun C hN hP => ?_
  have hPB : ∀ l, pinK [] l = true → pinB C.pin l = true := pinB_of (by rw [hP]; rfl)
  have hN' : C.N = 31 := hN
  clear hN
  unfold laws_FnExactFnNodes at h
  refine SWp.seqR rfl (hPB _ rfl) fun K hK => ?_
  iterate 2 (refine wps_cons rfl fun K hK => ?_; simp [hN']; refine hK _ ?_; clear hK)
  refine wps_nil (hK _ ?_); clear hK
  refine SWp.seqR rfl (hPB _ rfl) fun K hK => ?_
  refine wps_cons rfl fun K hK => ?_; simp [hN']; refine hK _ ?_; clear hK
  refine wps_nil (hK _ ?_); clear hK
  refine SWp.seqR rfl (hPB _ rfl) fun K hK => ?_
  iterate 2 (refine wps_cons rfl fun K hK => ?_; simp [hN']; refine hK _ ?_; clear hK)
  obtain ⟨r3, hc4, h⟩ := bind_some h
  refine wps_call [(.take, .tmp 9), (.take, .tmp 10)] rfl rfl ent8 (laws_szProgram_ok _ _ hc4) fun K hK => ?_; simp [hN']; refine hK _ ?_; clear hK
  refine wps_cons rfl fun K hK => ?_; simp [hN']; refine hK _ ?_; clear hK
  refine wps_nil (hK _ ?_); clear hK
  refine SWp.seq ?_
  refine SWp.seqR rfl (hPB _ rfl) fun K hK => ?_
  iterate 2 (refine wps_cons rfl fun K hK => ?_; simp [hN']; refine hK _ ?_; clear hK)
  refine wps_nil (hK _ ?_); clear hK
  rcases ite_or h with ⟨hb5, h⟩ | ⟨hb6, h⟩
  · refine SWp.condT' (b := decide (r3 < 0)) (by simp) hb5 ?_
    refine SWp.seqR rfl (hPB _ rfl) fun K hK => ?_
    refine wps_cons rfl fun K hK => ?_; simp [hN']; refine hK _ ?_; clear hK
    refine wps_nil (hK _ ?_); clear hK
    cases h
    refine SWp.ret ?_
    simp [thenS, inBlockS, res3]
  · refine SWp.condF' (b := decide (r3 < 0)) (by simp) hb6 ?_
    refine SWp.skip ?_
    show SWp E C _ _ _
    refine SWp.seqR rfl (hPB _ rfl) fun K hK => ?_
    refine wps_cons rfl fun K hK => ?_; simp [hN']; refine hK _ ?_; clear hK
    obtain ⟨r7, hc8, h⟩ := bind_some h
    refine wps_call [(.take, .tmp 14)] rfl rfl ent10 (laws_toProgram_ok _ hc8) fun K hK => ?_; simp [hN']; refine hK _ ?_; clear hK
    refine wps_cons rfl fun K hK => ?_; simp [hN']; refine hK _ ?_; clear hK
    obtain ⟨r9, hc10, h⟩ := bind_some h
    refine wps_call [(.bor, .tmp 15), (.take, .tmp 16)] rfl rfl ent9 (spec_FnNodes_ok _ _ hc10) fun K hK => ?_; simp [hN']; refine hK _ ?_; clear hK
    refine wps_cons rfl fun K hK => ?_; simp [hN']; refine hK _ ?_; clear hK
    refine wps_nil (hK _ ?_); clear hK
    refine SWp.seqR rfl (hPB _ rfl) fun K hK => ?_
    refine wps_cons rfl fun K hK => ?_; simp [hN']; refine hK _ ?_; clear hK
    obtain ⟨r11, hc12, h⟩ := bind_some h
    refine wps_call [(.take, .tmp 18)] rfl rfl ent10 (laws_toProgram_ok _ hc12) fun K hK => ?_; simp [hN']; refine hK _ ?_; clear hK
    iterate 2 (refine wps_cons rfl fun K hK => ?_; simp [hN']; refine hK _ ?_; clear hK)
    refine wps_nil (hK _ ?_); clear hK
    refine SWp.seqR rfl (hPB _ rfl) fun K hK => ?_
    iterate 2 (refine wps_cons rfl fun K hK => ?_; simp [hN']; refine hK _ ?_; clear hK)
    obtain ⟨r13, hc14, h⟩ := bind_some h
    refine wps_call [(.bor, .tmp 20), (.take, .tmp 21)] rfl rfl ent11 (impl_FnNodes_ok _ _ hc14) fun K hK => ?_; simp [hN']; refine hK _ ?_; clear hK
    refine wps_cons rfl fun K hK => ?_; simp [hN']; refine hK _ ?_; clear hK
    refine wps_nil (hK _ ?_); clear hK
    refine SWp.seq ?_
    refine SWp.seqR rfl (hPB _ rfl) fun K hK => ?_
    iterate 3 (refine wps_cons rfl fun K hK => ?_; simp [hN']; refine hK _ ?_; clear hK)
    refine wps_nil (hK _ ?_); clear hK
    rcases ite_or h with ⟨hb15, h⟩ | ⟨hb16, h⟩
    · refine SWp.condT' (b := r13 != r9) (by simp) hb15 ?_
      refine SWp.seqR rfl (hPB _ rfl) fun K hK => ?_
      refine wps_cons rfl fun K hK => ?_; simp [hN']; refine hK _ ?_; clear hK
      refine wps_nil (hK _ ?_); clear hK
      cases h
      refine SWp.ret ?_
      simp [thenS, inBlockS, res3]
    · refine SWp.condF' (b := r13 != r9) (by simp) hb16 ?_
      refine SWp.skip ?_
      show SWp E C _ _ _
      refine SWp.seq ?_
      refine SWp.seq ?_
      obtain ⟨r18, hc19, h⟩ := bind_some h
      refine SWp.drawT rfl (hPB _ rfl) [(26, .al (.box 7) 0 [] (some 2)), (27, .t (GProgram.enc false aP1)), (28, .t (GProgram.enc true r18))] [[], [], [1], [0, 1, 2], [0, 1, 2, 3]] (by simp) (by simp) (by simp [look]) rfl rfl rfl ?_ fun K hK => ?_
      · refine ⟨?_, ?_, ?_, trivial⟩
        all_goals (intro τ hbx hb hd hf K hK; try simp [vsAt] at hd; simp [vsAt] at hf; first | (refine wps_cons rfl fun K' hK' => ?_; simp [hN', hbx, hb, hd, hf]; exact hK' _ (wps_nil (hK _ (by simp [vsAt, hbx])))) | (refine wps_call [(.take, .tmp 27)] rfl rfl ent10 (laws_toProgram_ok _ hc19) fun K' hK' => ?_; simp [hN', hbx, hb, hd, hf]; exact hK' _ (wps_nil (hK _ (by simp [vsAt, hbx])))))
      obtain ⟨r20, hc21, h⟩ := bind_some h
      refine wps_call [(.bor, .tmp 26), (.bor, .tmp 28)] rfl rfl ent12 (laws_eqProgram_ok _ _ hc21) fun K hK => ?_; simp [hN']; refine hK _ ?_; clear hK
      refine wps_cons rfl fun K hK => ?_; simp [hN']; refine hK _ ?_; clear hK
      refine wps_nil (hK _ ?_); clear hK
      show SWp E C _ _ _
      rcases ite_or h with ⟨hb22, h⟩ | ⟨hb23, h⟩
      · refine SWp.condT' (b := !r20) (by simp) hb22 ?_
        refine SWp.seqR rfl (hPB _ rfl) fun K hK => ?_
        refine wps_cons rfl fun K hK => ?_; simp [hN']; refine hK _ ?_; clear hK
        refine wps_nil (hK _ ?_); clear hK
        cases h
        refine SWp.ret ?_
        simp [thenS, inBlockS, res3]
      · refine SWp.condF' (b := !r20) (by simp) hb23 ?_
        refine SWp.skip ?_
        show SWp E C _ _ _
        refine SWp.seqR rfl (hPB _ rfl) fun K hK => ?_
        refine wps_cons rfl fun K hK => ?_; simp [hN']; refine hK _ ?_; clear hK
        refine wps_nil (hK _ ?_); clear hK
        cases h
        refine SWp.ret ?_
        simp [thenS, inBlockS, res3]
end Go.Proofs.T
set_option linter.unusedVariables false
set_option linter.unusedSimpArgs false
namespace Go.OM
theorem w64 {n : Int} (h1 : -9223372036854775808 ≤ n) (h2 : n ≤ 9223372036854775807) : IntKind.wrap .i64 n = n := wrap64 h1 h2
theorem w64_succ {k n : Nat} (hk : k < n) (hn : n ≤ maxLen) : IntKind.wrap .i64 ((k : Int) + 1) = ((k + 1 : Nat) : Int) := by
  have hn' : n ≤ 9223372036854775807 := hn
  rw [w64 (by omega) (by omega)]; omega
@[simp] theorem getI_nat {α : Type} (l : List α) (k : Nat) : getI l (k : Int) = l[k]? := by simp [getI]
theorem getI_at {α : Type} {l : List α} {k : Nat} (hk : k < l.length) : getI l (k : Int) = some l[k] := by simp [hk]
theorem sEq_iff (x y : ByteArray) : sEq x y = decide (x = y) := by
  unfold sEq
  have hxy : x.toList = y.toList ↔ x = y := by
    constructor
    · intro h
      have hx : ∀ z : ByteArray, z.toList = z.data.toList := by
        intro z
        have loop : ∀ (n i : Nat) (r : List UInt8), z.size - i = n → ByteArray.toList.loop z i r = r.reverse ++ z.data.toList.drop i := by
          intro n
          induction n with
          | zero =>
            intro i r hn
            unfold ByteArray.toList.loop
            rw [if_neg (by omega), List.drop_eq_nil_of_le (by have : z.data.toList.length = z.size := Array.length_toList
                                                              omega)]
            simp
          | succ n ih =>
            intro i r hn
            unfold ByteArray.toList.loop
            rw [if_pos (by omega), ih (i + 1) _ (by omega)]
            have hlt : i < z.data.toList.length := by have : z.data.toList.length = z.size := Array.length_toList
                                                      omega
            rw [List.drop_eq_getElem_cons hlt]
            have hz : i < z.size := by omega
            simp [ByteArray.get!, Array.getElem!_eq_getD, Array.getD, hz]
        unfold ByteArray.toList
        rw [loop _ 0 [] rfl]; simp
      rw [hx, hx] at h
      cases x; cases y
      simp only [ByteArray.mk.injEq]
      exact Array.toList_inj.1 h
    · intro h; rw [h]
  by_cases h : x = y
  · simp [h]
  · have : ¬ (x.toList = y.toList) := fun e => h (hxy.1 e)
    simp [h, this]
theorem ofNat_lt_true {k n : Nat} (h : k < n) : decide ((k : Int) < (n : Int)) = true := by simpa using h
theorem szS_gen {α : Type} (ok : α → Prop) (a : List α) (f : Int × Int → Option ((Int × Int) ⊕ (Int ⊕ Int))) (B : Int)
    (hf : ∀ (m : Int) (k : Nat) (h0 : 0 ≤ m) (h1 : m ≤ B) (hk : k < a.length), ∃ r, r ≤ m ∧ (0 ≤ r → ok a[k]) ∧ f (m, k) = some (if r < 0 then .inr (.inr (-1)) else .inl (r, ((k + 1 : Nat) : Int))))
    (he : ∀ m, f (m, a.length) = some (.inr (.inl m))) (n : Int) (h0 : 0 ≤ n) (h1 : n ≤ B) :
    ∃ j, loopP f (n, 0) = some j ∧ (j = .inr (-1) ∨ ∃ m, j = .inl m ∧ 0 ≤ m ∧ m ≤ n ∧ ∀ x ∈ a, ok x) := by
  refine loopP_run (f := f) (fun s : Int × Int => ∃ k : Nat, s.2 = k ∧ k ≤ a.length ∧ 0 ≤ s.1 ∧ s.1 ≤ n ∧ ∀ (j : Nat) (h : j < a.length), j < k → ok a[j]) (fun s => a.length - s.2.toNat) _ ?_ (n, 0) ⟨0, rfl, by omega, h0, by simp, fun j _ h => by omega⟩
  rintro ⟨m, i⟩ ⟨k, hi, hk, h2, h3, h4⟩
  simp only at hi h2 h3
  subst hi
  by_cases hlt : k < a.length
  · obtain ⟨r, r1, r2, r3⟩ := hf m k h2 (by omega) hlt
    rw [r3]
    by_cases hr : r < 0
    · right
      rw [if_pos hr]
      exact ⟨_, rfl, .inl rfl⟩
    · left
      rw [if_neg hr]
      refine ⟨_, rfl, ⟨k + 1, rfl, by omega, by simp only; omega, by simp only; omega, fun j h hj => ?_⟩, ?_⟩
      · by_cases e : j = k
        · subst e; exact r2 (by omega)
        · exact h4 j h (by omega)
      · simp only [Int.toNat_natCast]; omega
  · right
    have hke : k = a.length := by omega
    subst hke
    rw [he]
    refine ⟨_, rfl, .inr ⟨m, rfl, h2, h3, fun x hx => ?_⟩⟩
    obtain ⟨j, hj, rfl⟩ := List.mem_iff_getElem.1 hx
    exact h4 j hj hj
theorem toS_gen {α : Type} (a : List α) (z : α) (f : List α × Int → Option ((List α × Int) ⊕ List α))
    (hf : ∀ (out : List α) (k : Nat) (hk : k < a.length), out.length = a.length → f (out, k) = some (.inl (out.set k a[k], ((k + 1 : Nat) : Int))))
    (he : ∀ out, f (out, a.length) = some (.inr out)) : loopP f (List.replicate a.length z, 0) = some a := by
  obtain ⟨r, h1, h2⟩ := loopP_run (fun s : List α × Int => ∃ k : Nat, s.2 = k ∧ k ≤ a.length ∧ s.1.length = a.length ∧ ∀ j, j < k → s.1[j]? = a[j]?) (fun s => a.length - s.2.toNat) (fun r => r = a) (f := f) (by
    rintro ⟨out, i⟩ ⟨k, hi, hk, h2, h3⟩
    simp only at hi h2 h3
    subst hi
    by_cases hlt : k < a.length
    · left
      rw [hf out k hlt h2]
      refine ⟨_, rfl, ⟨k + 1, rfl, by omega, by simpa using h2, fun j hj => ?_⟩, by simp only [Int.toNat_natCast]; omega⟩
      simp only [List.getElem?_set]
      by_cases e : k = j
      · subst e; simp [h2, hlt]
      · rw [if_neg e]; exact h3 j (by omega)
    · right
      have hke : k = a.length := by omega
      subst hke
      rw [he]
      refine ⟨_, rfl, ?_⟩
      apply List.ext_getElem?
      intro j
      by_cases hj : j < a.length
      · exact h3 j hj
      · rw [List.getElem?_eq_none (by omega), List.getElem?_eq_none (by omega)]) (List.replicate a.length z, 0) ⟨0, rfl, by omega, by simp, fun j h => by omega⟩
  rw [h1, h2]
theorem eqS_gen {α : Type} (a b : List α) (p : α → α → Bool) (hp : ∀ x ∈ a, ∀ y, y ∈ b → (p x y = true ↔ x = y)) (hlen : a.length = b.length) (f : Int → Option (Int ⊕ (Unit ⊕ Bool)))
    (hf : ∀ (k : Nat) (hk : k < a.length) (hk2 : k < b.length), f k = some (if p a[k] b[k] = true then .inl ((k + 1 : Nat) : Int) else .inr (.inr false)))
    (he : f a.length = some (.inr (.inl ()))) : (a = b → loopP f 0 = some (.inl ())) ∧ (a ≠ b → loopP f 0 = some (.inr false)) := by
  obtain ⟨r, h1, h2⟩ := loopP_run (fun i : Int => ∃ k : Nat, i = k ∧ k ≤ a.length ∧ ∀ j, j < k → a[j]? = b[j]?) (fun i => a.length - i.toNat) (fun r => (r = .inl () ∧ a = b) ∨ (r = .inr false ∧ a ≠ b)) (f := f) (by
    rintro i ⟨k, rfl, hk, h3⟩
    by_cases hlt : k < a.length
    · have hlt2 : k < b.length := by omega
      rw [hf k hlt hlt2]
      by_cases hpk : p a[k] b[k] = true
      · left
        rw [if_pos hpk]
        refine ⟨_, rfl, ⟨k + 1, rfl, by omega, fun j hj => ?_⟩, by simp only [Int.toNat_natCast]; omega⟩
        by_cases e : j = k
        · subst e
          rw [List.getElem?_eq_getElem hlt, List.getElem?_eq_getElem hlt2, (hp _ (List.getElem_mem hlt) _ (List.getElem_mem hlt2)).1 hpk]
        · exact h3 j (by omega)
      · right
        rw [if_neg hpk]
        refine ⟨_, rfl, .inr ⟨rfl, fun e => hpk ?_⟩⟩
        subst e
        exact (hp _ (List.getElem_mem hlt) _ (List.getElem_mem hlt)).2 rfl
    · right
      have hke : k = a.length := by omega
      subst hke
      rw [he]
      refine ⟨_, rfl, .inl ⟨rfl, ?_⟩⟩
      apply List.ext_getElem?
      intro j
      by_cases hj : j < a.length
      · exact h3 j hj
      · rw [List.getElem?_eq_none (by omega), List.getElem?_eq_none (by omega)]) 0 ⟨0, rfl, by omega, fun j h => by omega⟩
  rcases h2 with ⟨e, hab⟩ | ⟨e, hab⟩
  · exact ⟨fun _ => by rw [h1, e], fun h => absurd hab h⟩
  · exact ⟨fun h => absurd h hab, fun _ => by rw [h1, e]⟩
theorem mkI_len {α : Type} (b : Int) (n : Nat) (z : α) (h1 : b * n ≤ 140737488355328) (h2 : (n : Int) ≤ 140737488355328) : mkI b (n : Int) z = some (List.replicate n z) := by
  unfold mkI
  rw [if_pos ⟨by omega, h1, h2⟩]
  simp
theorem bindS_def {α β : Type} (x : α) (f : α → β) : bindS x f = f x := rfl
end Go.OM
set_option linter.unusedVariables false
set_option linter.unusedSimpArgs false
namespace Go.OM
theorem loopP_inr {α ρ : Type} {f : α → Option (α ⊕ ρ)} {a : α} {r : ρ} (h : f a = some (.inr r)) : loopP f a = some r := by rw [loopP_eq, h]; rfl
theorem loopP_inl {α ρ : Type} {f : α → Option (α ⊕ ρ)} {a b : α} (h : f a = some (.inl b)) : loopP f a = loopP f b := by rw [loopP_eq, h]; rfl
theorem loopP_find {α ρ : Type} (l : List α) (q : α → Option ρ) (f : Int → Option (Int ⊕ (Unit ⊕ ρ)))
    (hf : ∀ (k : Nat) (h : k < l.length), f k = some (match q l[k] with | none => .inl ((k + 1 : Nat) : Int) | some r => .inr (.inr r)))
    (he : f l.length = some (.inr (.inl ()))) : loopP f 0 = some (match l.findSome? q with | some r => .inr r | none => .inl ()) := by
  have key : ∀ (n k : Nat), n = l.length - k → k ≤ l.length → loopP f k = some (match (l.drop k).findSome? q with | some r => .inr r | none => .inl ()) := by
    intro n
    induction n with
    | zero =>
      intro k hn hk
      have : k = l.length := by omega
      subst this
      rw [loopP_inr he, List.drop_length]; rfl
    | succ n ih =>
      intro k hn hk
      have hlt : k < l.length := by omega
      rw [List.drop_eq_getElem_cons hlt, List.findSome?_cons]
      cases hq : q l[k] with
      | none =>
        have h1 := hf k hlt
        rw [hq] at h1
        rw [loopP_inl h1]
        exact ih (k + 1) (by omega) (by omega)
      | some r =>
        have h1 := hf k hlt
        rw [hq] at h1
        rw [loopP_inr h1]
  have := key l.length 0 (by omega) (by omega)
  simpa using this
theorem find_all {α : Type} (l : List α) (p : α → Bool) (b : Bool) : l.findSome? (fun x => if p x = true then none else some b) = if l.all p = true then none else some b := by
  induction l with
  | nil => rfl
  | cons x l ih =>
    rw [List.findSome?_cons, List.all_cons]
    cases hp : p x <;> simp [ih]
theorem find_any {α : Type} (l : List α) (p : α → Bool) (b : Bool) : l.findSome? (fun x => if p x = true then some b else none) = if l.any p = true then some b else none := by
  induction l with
  | nil => rfl
  | cons x l ih =>
    rw [List.findSome?_cons, List.any_cons]
    cases hp : p x <;> simp [ih]
theorem loopP_all {α : Type} (l : List α) (p : α → Bool) (f : Int → Option (Int ⊕ (Unit ⊕ Bool)))
    (hf : ∀ (k : Nat) (h : k < l.length), f k = some (if p l[k] = true then .inl ((k + 1 : Nat) : Int) else .inr (.inr false)))
    (he : f l.length = some (.inr (.inl ()))) : loopP f 0 = some (if l.all p = true then .inl () else .inr false) := by
  rw [loopP_find l (fun x => if p x = true then none else some false) f (fun k h => by rw [hf k h]; cases p l[k] <;> rfl) he, find_all]
  cases l.all p <;> rfl
theorem loopP_any {α : Type} (l : List α) (p : α → Bool) (f : Int → Option (Int ⊕ (Unit ⊕ Bool)))
    (hf : ∀ (k : Nat) (h : k < l.length), f k = some (if p l[k] = true then .inr (.inr true) else .inl ((k + 1 : Nat) : Int)))
    (he : f l.length = some (.inr (.inl ()))) : loopP f 0 = some (if l.any p = true then .inr true else .inl ()) := by
  rw [loopP_find l (fun x => if p x = true then some true else none) f (fun k h => by rw [hf k h]; cases p l[k] <;> rfl) he, find_any]
  cases l.any p <;> rfl
def foldE {α σ ρ : Type} (g : σ → α → σ ⊕ ρ) (fin : σ → ρ) : List α → σ → ρ
  | [], s => fin s
  | x :: l, s => match g s x with
    | .inl s' => foldE g fin l s'
    | .inr r => r
theorem loopP_fold {α σ τ ρ : Type} (l : List α) (mk : σ → Nat → τ) (I : Nat → σ → Prop) (g : σ → α → σ ⊕ ρ) (fin : σ → ρ) (f : τ → Option (τ ⊕ ρ))
    (hf : ∀ (s : σ) (k : Nat) (h : k < l.length), I k s → (∃ s', g s l[k] = .inl s' ∧ f (mk s k) = some (.inl (mk s' (k + 1))) ∧ I (k + 1) s') ∨ ∃ r, g s l[k] = .inr r ∧ f (mk s k) = some (.inr r))
    (he : ∀ s, I l.length s → f (mk s l.length) = some (.inr (fin s))) (s : σ) (h0 : I 0 s) : loopP f (mk s 0) = some (foldE g fin l s) := by
  have key : ∀ (n k : Nat) (s : σ), n = l.length - k → k ≤ l.length → I k s → loopP f (mk s k) = some (foldE g fin (l.drop k) s) := by
    intro n
    induction n with
    | zero =>
      intro k s hn hk hI
      have : k = l.length := by omega
      subst this
      rw [loopP_inr (he s hI), List.drop_length]; rfl
    | succ n ih =>
      intro k s hn hk hI
      have hlt : k < l.length := by omega
      rw [List.drop_eq_getElem_cons hlt]
      rcases hf s k hlt hI with ⟨s', h1, h2, h3⟩ | ⟨r, h1, h2⟩
      · rw [loopP_inl h2, ih (k + 1) s' (by omega) (by omega) h3]
        simp only [foldE, h1]
      · rw [loopP_inr h2]
        simp only [foldE, h1]
  have := key l.length 0 s (by omega) (by omega) h0
  simpa using this
end Go.OM
set_option linter.unusedVariables false
set_option linter.unusedSimpArgs false
set_option maxHeartbeats 1000000
namespace Go.OM
def GNode.le (n : Nat) (a : GNode) : Prop := (a.Name.size ≤ n) ∧ (a.Kids.length ≤ n)
theorem GNode.ext' (a b : GNode) : a = b ↔ a.Kind = b.Kind ∧ a.Num = b.Num ∧ a.Name = b.Name ∧ a.Kids = b.Kids := by cases a; cases b; simp
def GParam.le (n : Nat) (a : GParam) : Prop := (a.Name.size ≤ n)
theorem GParam.ext' (a b : GParam) : a = b ↔ a.Name = b.Name ∧ a.Typ = b.Typ := by cases a; cases b; simp
def GFn.le (n : Nat) (a : GFn) : Prop := (a.Name.size ≤ n) ∧ (a.Params.length ≤ n ∧ ∀ x ∈ a.Params, GParam.le n x)
theorem GFn.ext' (a b : GFn) : a = b ↔ a.Name = b.Name ∧ a.Params = b.Params ∧ a.Res = b.Res ∧ a.Body = b.Body ∧ a.Ret = b.Ret := by cases a; cases b; simp
def GProgram.le (n : Nat) (a : GProgram) : Prop := (a.Nodes.length ≤ n ∧ ∀ x ∈ a.Nodes, GNode.le n x) ∧ (a.Fns.length ≤ n ∧ ∀ x ∈ a.Fns, GFn.le n x)
theorem GProgram.ext' (a b : GProgram) : a = b ↔ a.Nodes = b.Nodes ∧ a.Fns = b.Fns := by cases a; cases b; simp
def Gl04Pack.le (n : Nat) (a : Gl04Pack) : Prop := (a.from_.length ≤ n ∧ ∀ x ∈ a.from_, GNode.le n x) ∧ (a.to.length ≤ n ∧ ∀ x ∈ a.to, GNode.le n x)
theorem Gl04Pack.ext' (a b : Gl04Pack) : a = b ↔ a.from_ = b.from_ ∧ a.to = b.to ∧ a.bad = b.bad := by cases a; cases b; simp
def Gpacker.le (n : Nat) (a : Gpacker) : Prop := (a.from_.length ≤ n ∧ ∀ x ∈ a.from_, GNode.le n x) ∧ (a.to.length ≤ n ∧ ∀ x ∈ a.to, GNode.le n x)
theorem Gpacker.ext' (a b : Gpacker) : a = b ↔ a.from_ = b.from_ ∧ a.to = b.to ∧ a.bad = b.bad := by cases a; cases b; simp
theorem laws_szIntS_p (a : List Int) (hw : a.length ≤ maxLen) (n : Int) (h0 : 0 ≤ n) (h1 : n ≤ 1048576) : ∃ r, laws_szIntS a n = some r ∧ r ≤ n ∧ (0 ≤ r → a.length ≤ 1048576) := by
  have hw' : a.length ≤ 9223372036854775807 := hw
  unfold laws_szIntS
  rw [w64 (by omega) (by omega)]
  split
  · exact ⟨_, rfl, by omega, fun h => by omega⟩
  · rename_i h; simp only [decide_eq_true_eq] at h; exact ⟨_, rfl, by omega, fun h => by omega⟩
theorem laws_toIntS_p (a : List Int) (h : a.length ≤ 1048576) : laws_toIntS a = some a := by
  have hl : a.length ≤ 1048576 := h
  unfold laws_toIntS
  rw [mkI_len _ _ _ (by omega) (by omega)]
  simp only [Option.bind_some]
  rw [toS_gen a _ (laws_toIntS_l1 a) (fun out k hk ho => ?_) (fun out => by simp [laws_toIntS_l1])]
  · rfl
  · simp only [laws_toIntS_l1, ofNat_lt_true hk, if_true, getI_at hk, Option.bind_some, getI_at (show k < out.length by omega), bindS_def, Int.toNat_natCast, w64_succ hk (show a.length ≤ maxLen by show _ ≤ 9223372036854775807; omega)]
theorem laws_eqIntS_p (a b : List Int) (ha : a.length ≤ 1048576) (hb : b.length ≤ 1048576) : laws_eqIntS a b = some (decide (a = b)) := by
  have hl : a.length ≤ 1048576 := ha
  unfold laws_eqIntS
  by_cases hlen : a.length = b.length
  · have hlen' : ((a.length : Int) != (b.length : Int)) = false := by simp [hlen]
    simp only [hlen', Bool.false_eq_true, if_false]
    have key := eqS_gen a b (fun x y => !(x != y)) (fun x _ y _ => by simp) hlen (laws_eqIntS_l1 a b) (fun k hk hk2 => ?_) (by simp [laws_eqIntS_l1])
    · by_cases e : a = b
      · rw [key.1 e]; simp [e]
      · rw [key.2 e]; simp [e]
    simp only [laws_eqIntS_l1, ofNat_lt_true hk, if_true, getI_at hk, getI_at hk2, Option.bind_some, w64_succ hk (show a.length ≤ maxLen by show _ ≤ 9223372036854775807; omega)]
    try (by_cases e : a[k] = b[k] <;> simp [e])
  · have hlen' : ((a.length : Int) != (b.length : Int)) = true := by simp; omega
    have hne : a ≠ b := fun e => hlen (by rw [e])
    simp [hlen', hne]
theorem laws_szNode_p (a : GNode) (hw : GNode.le maxLen a) (n : Int) (h0 : 0 ≤ n) (h1 : n ≤ 1048576) : ∃ r, laws_szNode a n = some r ∧ r ≤ n ∧ (0 ≤ r → GNode.le 1048576 a) := by
  obtain ⟨hw0, hw1⟩ := hw
  unfold laws_szNode
  have hs0 : a.Name.size ≤ 9223372036854775807 := hw0
  simp only [w64 (n := n - (a.Name.size : Int)) (by omega) (by omega)]
  by_cases hn0 : (n - (a.Name.size : Int)) < 0
  · simp only [hn0, decide_true, if_true]; exact ⟨_, rfl, by omega, fun h => by omega⟩
  simp only [hn0, decide_false, Bool.false_eq_true, if_false]
  obtain ⟨r1, q1a, q1b, q1c⟩ := laws_szIntS_p a.Kids hw1 (n - (a.Name.size : Int)) (by omega) (by omega)
  simp only [q1a, Option.bind_some]
  by_cases hn1 : r1 < 0
  · simp only [hn1, decide_true, if_true]; exact ⟨_, rfl, by omega, fun h => by omega⟩
  simp only [hn1, decide_false, Bool.false_eq_true, if_false]
  exact ⟨_, rfl, by omega, fun _ => ⟨by omega, q1c (by omega)⟩⟩
theorem laws_toNode_p (a : GNode) (h : GNode.le 1048576 a) : laws_toNode a = some a := by
  obtain ⟨h0, h1⟩ := h
  unfold laws_toNode
  simp only [laws_toIntS_p a.Kids h1, Option.bind_some]
theorem laws_eqNode_p (a b : GNode) (ha : GNode.le 1048576 a) (hb : GNode.le 1048576 b) : laws_eqNode a b = some (decide (a = b)) := by
  obtain ⟨ha0, ha1⟩ := ha
  obtain ⟨hb0, hb1⟩ := hb
  unfold laws_eqNode
  try simp only [sEq_iff, Option.bind_some, laws_eqIntS_p a.Kids b.Kids ha1 hb1]
  rw [show decide (a = b) = decide (a.Kind = b.Kind ∧ a.Num = b.Num ∧ a.Name = b.Name ∧ a.Kids = b.Kids) from by simp only [GNode.ext' a b]]
  by_cases e0 : a.Kind = b.Kind <;> by_cases e1 : a.Num = b.Num <;> by_cases e2 : a.Name = b.Name <;> by_cases e3 : a.Kids = b.Kids <;> simp [e0, e1, e2, e3]
theorem laws_szNodeS_p (a : List GNode) (hw : a.length ≤ maxLen ∧ ∀ x ∈ a, GNode.le maxLen x) (n : Int) (h0 : 0 ≤ n) (h1 : n ≤ 1048576) : ∃ r, laws_szNodeS a n = some r ∧ r ≤ n ∧ (0 ≤ r → a.length ≤ 1048576 ∧ ∀ x ∈ a, GNode.le 1048576 x) := by
  have hw' : a.length ≤ 9223372036854775807 := hw.1
  unfold laws_szNodeS
  rw [w64 (by omega) (by omega)]
  split
  · exact ⟨_, rfl, by omega, fun h => by omega⟩
  · rename_i h
    simp only [decide_eq_true_eq] at h
    have hf : ∀ (m : Int) (k : Nat) (g0 : 0 ≤ m) (g1 : m ≤ 1048576) (hk : k < a.length), ∃ r, r ≤ m ∧ (0 ≤ r → (fun x : GNode => GNode.le 1048576 x) a[k]) ∧ laws_szNodeS_l1 a (m, k) = some (if r < 0 then .inr (.inr (-1)) else .inl (r, ((k + 1 : Nat) : Int))) := by
      intro m k g0 g1 hk
      obtain ⟨r, r1, r2, r3⟩ := laws_szNode_p a[k] (hw.2 _ (List.getElem_mem hk)) m g0 g1
      refine ⟨r, r2, r3, ?_⟩
      simp only [laws_szNodeS_l1, ofNat_lt_true hk, if_true, getI_at hk, Option.bind_some, r1, w64_succ hk hw.1]
      by_cases hr : r < 0 <;> simp [hr]
    obtain ⟨j, hj, hj2⟩ := szS_gen _ a (laws_szNodeS_l1 a) 1048576 hf (fun m => by simp [laws_szNodeS_l1]) (n - a.length) (by omega) (by omega)
    rcases hj2 with rfl | ⟨m, rfl, q1, q2, q3⟩
    · exact ⟨-1, by rw [hj]; rfl, by omega, fun h => by omega⟩
    · exact ⟨m, by rw [hj]; rfl, by omega, fun _ => ⟨by omega, q3⟩⟩
theorem laws_toNodeS_p (a : List GNode) (h : a.length ≤ 1048576 ∧ ∀ x ∈ a, GNode.le 1048576 x) : laws_toNodeS a = some a := by
  have hl : a.length ≤ 1048576 := h.1
  unfold laws_toNodeS
  rw [mkI_len _ _ _ (by omega) (by omega)]
  simp only [Option.bind_some]
  rw [toS_gen a _ (laws_toNodeS_l1 a) (fun out k hk ho => ?_) (fun out => by simp [laws_toNodeS_l1])]
  · rfl
  · simp only [laws_toNodeS_l1, ofNat_lt_true hk, if_true, getI_at hk, Option.bind_some, laws_toNode_p a[k] (h.2 _ (List.getElem_mem hk)), getI_at (show k < out.length by omega), bindS_def, Int.toNat_natCast, w64_succ hk (show a.length ≤ maxLen by show _ ≤ 9223372036854775807; omega)]
theorem laws_eqNodeS_p (a b : List GNode) (ha : a.length ≤ 1048576 ∧ ∀ x ∈ a, GNode.le 1048576 x) (hb : b.length ≤ 1048576 ∧ ∀ x ∈ b, GNode.le 1048576 x) : laws_eqNodeS a b = some (decide (a = b)) := by
  have hl : a.length ≤ 1048576 := ha.1
  unfold laws_eqNodeS
  by_cases hlen : a.length = b.length
  · have hlen' : ((a.length : Int) != (b.length : Int)) = false := by simp [hlen]
    simp only [hlen', Bool.false_eq_true, if_false]
    have key := eqS_gen a b (fun x y => decide (x = y)) (fun x _ y _ => by simp) hlen (laws_eqNodeS_l1 a b) (fun k hk hk2 => ?_) (by simp [laws_eqNodeS_l1])
    · by_cases e : a = b
      · rw [key.1 e]; simp [e]
      · rw [key.2 e]; simp [e]
    simp only [laws_eqNodeS_l1, ofNat_lt_true hk, if_true, getI_at hk, getI_at hk2, Option.bind_some, laws_eqNode_p a[k] b[k] (ha.2 _ (List.getElem_mem hk)) (hb.2 _ (List.getElem_mem hk2)), w64_succ hk (show a.length ≤ maxLen by show _ ≤ 9223372036854775807; omega)]
    try (by_cases e : a[k] = b[k] <;> simp [e])
  · have hlen' : ((a.length : Int) != (b.length : Int)) = true := by simp; omega
    have hne : a ≠ b := fun e => hlen (by rw [e])
    simp [hlen', hne]
theorem laws_szParam_p (a : GParam) (hw : GParam.le maxLen a) (n : Int) (h0 : 0 ≤ n) (h1 : n ≤ 1048576) : ∃ r, laws_szParam a n = some r ∧ r ≤ n ∧ (0 ≤ r → GParam.le 1048576 a) := by
  have hw0 := hw; unfold GParam.le at hw0
  unfold laws_szParam
  have hs0 : a.Name.size ≤ 9223372036854775807 := hw0
  simp only [w64 (n := n - (a.Name.size : Int)) (by omega) (by omega)]
  by_cases hn0 : (n - (a.Name.size : Int)) < 0
  · simp only [hn0, decide_true, if_true]; exact ⟨_, rfl, by omega, fun h => by omega⟩
  simp only [hn0, decide_false, Bool.false_eq_true, if_false]
  exact ⟨_, rfl, by omega, fun _ => (by unfold GParam.le; first | omega | exact trivial)⟩
theorem laws_toParam_p (a : GParam) (h : GParam.le 1048576 a) : laws_toParam a = some a := by
  have h0 := h; unfold GParam.le at h0
  unfold laws_toParam
  rfl
theorem laws_eqParam_p (a b : GParam) (ha : GParam.le 1048576 a) (hb : GParam.le 1048576 b) : laws_eqParam a b = some (decide (a = b)) := by
  have ha0 := ha; have hb0 := hb; unfold GParam.le at ha0 hb0
  unfold laws_eqParam
  try simp only [sEq_iff, Option.bind_some]
  rw [show decide (a = b) = decide (a.Name = b.Name ∧ a.Typ = b.Typ) from by simp only [GParam.ext' a b]]
  by_cases e0 : a.Name = b.Name <;> by_cases e1 : a.Typ = b.Typ <;> simp [e0, e1]
theorem laws_szParamS_p (a : List GParam) (hw : a.length ≤ maxLen ∧ ∀ x ∈ a, GParam.le maxLen x) (n : Int) (h0 : 0 ≤ n) (h1 : n ≤ 1048576) : ∃ r, laws_szParamS a n = some r ∧ r ≤ n ∧ (0 ≤ r → a.length ≤ 1048576 ∧ ∀ x ∈ a, GParam.le 1048576 x) := by
  have hw' : a.length ≤ 9223372036854775807 := hw.1
  unfold laws_szParamS
  rw [w64 (by omega) (by omega)]
  split
  · exact ⟨_, rfl, by omega, fun h => by omega⟩
  · rename_i h
    simp only [decide_eq_true_eq] at h
    have hf : ∀ (m : Int) (k : Nat) (g0 : 0 ≤ m) (g1 : m ≤ 1048576) (hk : k < a.length), ∃ r, r ≤ m ∧ (0 ≤ r → (fun x : GParam => GParam.le 1048576 x) a[k]) ∧ laws_szParamS_l1 a (m, k) = some (if r < 0 then .inr (.inr (-1)) else .inl (r, ((k + 1 : Nat) : Int))) := by
      intro m k g0 g1 hk
      obtain ⟨r, r1, r2, r3⟩ := laws_szParam_p a[k] (hw.2 _ (List.getElem_mem hk)) m g0 g1
      refine ⟨r, r2, r3, ?_⟩
      simp only [laws_szParamS_l1, ofNat_lt_true hk, if_true, getI_at hk, Option.bind_some, r1, w64_succ hk hw.1]
      by_cases hr : r < 0 <;> simp [hr]
    obtain ⟨j, hj, hj2⟩ := szS_gen _ a (laws_szParamS_l1 a) 1048576 hf (fun m => by simp [laws_szParamS_l1]) (n - a.length) (by omega) (by omega)
    rcases hj2 with rfl | ⟨m, rfl, q1, q2, q3⟩
    · exact ⟨-1, by rw [hj]; rfl, by omega, fun h => by omega⟩
    · exact ⟨m, by rw [hj]; rfl, by omega, fun _ => ⟨by omega, q3⟩⟩
theorem laws_toParamS_p (a : List GParam) (h : a.length ≤ 1048576 ∧ ∀ x ∈ a, GParam.le 1048576 x) : laws_toParamS a = some a := by
  have hl : a.length ≤ 1048576 := h.1
  unfold laws_toParamS
  rw [mkI_len _ _ _ (by omega) (by omega)]
  simp only [Option.bind_some]
  rw [toS_gen a _ (laws_toParamS_l1 a) (fun out k hk ho => ?_) (fun out => by simp [laws_toParamS_l1])]
  · rfl
  · simp only [laws_toParamS_l1, ofNat_lt_true hk, if_true, getI_at hk, Option.bind_some, laws_toParam_p a[k] (h.2 _ (List.getElem_mem hk)), getI_at (show k < out.length by omega), bindS_def, Int.toNat_natCast, w64_succ hk (show a.length ≤ maxLen by show _ ≤ 9223372036854775807; omega)]
theorem laws_eqParamS_p (a b : List GParam) (ha : a.length ≤ 1048576 ∧ ∀ x ∈ a, GParam.le 1048576 x) (hb : b.length ≤ 1048576 ∧ ∀ x ∈ b, GParam.le 1048576 x) : laws_eqParamS a b = some (decide (a = b)) := by
  have hl : a.length ≤ 1048576 := ha.1
  unfold laws_eqParamS
  by_cases hlen : a.length = b.length
  · have hlen' : ((a.length : Int) != (b.length : Int)) = false := by simp [hlen]
    simp only [hlen', Bool.false_eq_true, if_false]
    have key := eqS_gen a b (fun x y => decide (x = y)) (fun x _ y _ => by simp) hlen (laws_eqParamS_l1 a b) (fun k hk hk2 => ?_) (by simp [laws_eqParamS_l1])
    · by_cases e : a = b
      · rw [key.1 e]; simp [e]
      · rw [key.2 e]; simp [e]
    simp only [laws_eqParamS_l1, ofNat_lt_true hk, if_true, getI_at hk, getI_at hk2, Option.bind_some, laws_eqParam_p a[k] b[k] (ha.2 _ (List.getElem_mem hk)) (hb.2 _ (List.getElem_mem hk2)), w64_succ hk (show a.length ≤ maxLen by show _ ≤ 9223372036854775807; omega)]
    try (by_cases e : a[k] = b[k] <;> simp [e])
  · have hlen' : ((a.length : Int) != (b.length : Int)) = true := by simp; omega
    have hne : a ≠ b := fun e => hlen (by rw [e])
    simp [hlen', hne]
theorem laws_szFn_p (a : GFn) (hw : GFn.le maxLen a) (n : Int) (h0 : 0 ≤ n) (h1 : n ≤ 1048576) : ∃ r, laws_szFn a n = some r ∧ r ≤ n ∧ (0 ≤ r → GFn.le 1048576 a) := by
  obtain ⟨hw0, hw1⟩ := hw
  unfold laws_szFn
  have hs0 : a.Name.size ≤ 9223372036854775807 := hw0
  simp only [w64 (n := n - (a.Name.size : Int)) (by omega) (by omega)]
  by_cases hn0 : (n - (a.Name.size : Int)) < 0
  · simp only [hn0, decide_true, if_true]; exact ⟨_, rfl, by omega, fun h => by omega⟩
  simp only [hn0, decide_false, Bool.false_eq_true, if_false]
  obtain ⟨r1, q1a, q1b, q1c⟩ := laws_szParamS_p a.Params hw1 (n - (a.Name.size : Int)) (by omega) (by omega)
  simp only [q1a, Option.bind_some]
  by_cases hn1 : r1 < 0
  · simp only [hn1, decide_true, if_true]; exact ⟨_, rfl, by omega, fun h => by omega⟩
  simp only [hn1, decide_false, Bool.false_eq_true, if_false]
  exact ⟨_, rfl, by omega, fun _ => ⟨by omega, q1c (by omega)⟩⟩
theorem laws_toFn_p (a : GFn) (h : GFn.le 1048576 a) : laws_toFn a = some a := by
  obtain ⟨h0, h1⟩ := h
  unfold laws_toFn
  simp only [laws_toParamS_p a.Params h1, Option.bind_some]
theorem laws_eqFn_p (a b : GFn) (ha : GFn.le 1048576 a) (hb : GFn.le 1048576 b) : laws_eqFn a b = some (decide (a = b)) := by
  obtain ⟨ha0, ha1⟩ := ha
  obtain ⟨hb0, hb1⟩ := hb
  unfold laws_eqFn
  try simp only [sEq_iff, Option.bind_some, laws_eqParamS_p a.Params b.Params ha1 hb1]
  rw [show decide (a = b) = decide (a.Name = b.Name ∧ a.Params = b.Params ∧ a.Res = b.Res ∧ a.Body = b.Body ∧ a.Ret = b.Ret) from by simp only [GFn.ext' a b]]
  by_cases e0 : a.Name = b.Name <;> by_cases e1 : a.Params = b.Params <;> by_cases e2 : a.Res = b.Res <;> by_cases e3 : a.Body = b.Body <;> by_cases e4 : a.Ret = b.Ret <;> simp [e0, e1, e2, e3, e4]
theorem laws_szFnS_p (a : List GFn) (hw : a.length ≤ maxLen ∧ ∀ x ∈ a, GFn.le maxLen x) (n : Int) (h0 : 0 ≤ n) (h1 : n ≤ 1048576) : ∃ r, laws_szFnS a n = some r ∧ r ≤ n ∧ (0 ≤ r → a.length ≤ 1048576 ∧ ∀ x ∈ a, GFn.le 1048576 x) := by
  have hw' : a.length ≤ 9223372036854775807 := hw.1
  unfold laws_szFnS
  rw [w64 (by omega) (by omega)]
  split
  · exact ⟨_, rfl, by omega, fun h => by omega⟩
  · rename_i h
    simp only [decide_eq_true_eq] at h
    have hf : ∀ (m : Int) (k : Nat) (g0 : 0 ≤ m) (g1 : m ≤ 1048576) (hk : k < a.length), ∃ r, r ≤ m ∧ (0 ≤ r → (fun x : GFn => GFn.le 1048576 x) a[k]) ∧ laws_szFnS_l1 a (m, k) = some (if r < 0 then .inr (.inr (-1)) else .inl (r, ((k + 1 : Nat) : Int))) := by
      intro m k g0 g1 hk
      obtain ⟨r, r1, r2, r3⟩ := laws_szFn_p a[k] (hw.2 _ (List.getElem_mem hk)) m g0 g1
      refine ⟨r, r2, r3, ?_⟩
      simp only [laws_szFnS_l1, ofNat_lt_true hk, if_true, getI_at hk, Option.bind_some, r1, w64_succ hk hw.1]
      by_cases hr : r < 0 <;> simp [hr]
    obtain ⟨j, hj, hj2⟩ := szS_gen _ a (laws_szFnS_l1 a) 1048576 hf (fun m => by simp [laws_szFnS_l1]) (n - a.length) (by omega) (by omega)
    rcases hj2 with rfl | ⟨m, rfl, q1, q2, q3⟩
    · exact ⟨-1, by rw [hj]; rfl, by omega, fun h => by omega⟩
    · exact ⟨m, by rw [hj]; rfl, by omega, fun _ => ⟨by omega, q3⟩⟩
theorem laws_toFnS_p (a : List GFn) (h : a.length ≤ 1048576 ∧ ∀ x ∈ a, GFn.le 1048576 x) : laws_toFnS a = some a := by
  have hl : a.length ≤ 1048576 := h.1
  unfold laws_toFnS
  rw [mkI_len _ _ _ (by omega) (by omega)]
  simp only [Option.bind_some]
  rw [toS_gen a _ (laws_toFnS_l1 a) (fun out k hk ho => ?_) (fun out => by simp [laws_toFnS_l1])]
  · rfl
  · simp only [laws_toFnS_l1, ofNat_lt_true hk, if_true, getI_at hk, Option.bind_some, laws_toFn_p a[k] (h.2 _ (List.getElem_mem hk)), getI_at (show k < out.length by omega), bindS_def, Int.toNat_natCast, w64_succ hk (show a.length ≤ maxLen by show _ ≤ 9223372036854775807; omega)]
theorem laws_eqFnS_p (a b : List GFn) (ha : a.length ≤ 1048576 ∧ ∀ x ∈ a, GFn.le 1048576 x) (hb : b.length ≤ 1048576 ∧ ∀ x ∈ b, GFn.le 1048576 x) : laws_eqFnS a b = some (decide (a = b)) := by
  have hl : a.length ≤ 1048576 := ha.1
  unfold laws_eqFnS
  by_cases hlen : a.length = b.length
  · have hlen' : ((a.length : Int) != (b.length : Int)) = false := by simp [hlen]
    simp only [hlen', Bool.false_eq_true, if_false]
    have key := eqS_gen a b (fun x y => decide (x = y)) (fun x _ y _ => by simp) hlen (laws_eqFnS_l1 a b) (fun k hk hk2 => ?_) (by simp [laws_eqFnS_l1])
    · by_cases e : a = b
      · rw [key.1 e]; simp [e]
      · rw [key.2 e]; simp [e]
    simp only [laws_eqFnS_l1, ofNat_lt_true hk, if_true, getI_at hk, getI_at hk2, Option.bind_some, laws_eqFn_p a[k] b[k] (ha.2 _ (List.getElem_mem hk)) (hb.2 _ (List.getElem_mem hk2)), w64_succ hk (show a.length ≤ maxLen by show _ ≤ 9223372036854775807; omega)]
    try (by_cases e : a[k] = b[k] <;> simp [e])
  · have hlen' : ((a.length : Int) != (b.length : Int)) = true := by simp; omega
    have hne : a ≠ b := fun e => hlen (by rw [e])
    simp [hlen', hne]
theorem laws_szProgram_p (a : GProgram) (hw : GProgram.le maxLen a) (n : Int) (h0 : 0 ≤ n) (h1 : n ≤ 1048576) : ∃ r, laws_szProgram a n = some r ∧ r ≤ n ∧ (0 ≤ r → GProgram.le 1048576 a) := by
  obtain ⟨hw0, hw1⟩ := hw
  unfold laws_szProgram
  obtain ⟨r0, q0a, q0b, q0c⟩ := laws_szNodeS_p a.Nodes hw0 n (by omega) (by omega)
  simp only [q0a, Option.bind_some]
  by_cases hn0 : r0 < 0
  · simp only [hn0, decide_true, if_true]; exact ⟨_, rfl, by omega, fun h => by omega⟩
  simp only [hn0, decide_false, Bool.false_eq_true, if_false]
  obtain ⟨r1, q1a, q1b, q1c⟩ := laws_szFnS_p a.Fns hw1 r0 (by omega) (by omega)
  simp only [q1a, Option.bind_some]
  by_cases hn1 : r1 < 0
  · simp only [hn1, decide_true, if_true]; exact ⟨_, rfl, by omega, fun h => by omega⟩
  simp only [hn1, decide_false, Bool.false_eq_true, if_false]
  exact ⟨_, rfl, by omega, fun _ => ⟨q0c (by omega), q1c (by omega)⟩⟩
theorem laws_toProgram_p (a : GProgram) (h : GProgram.le 1048576 a) : laws_toProgram a = some a := by
  obtain ⟨h0, h1⟩ := h
  unfold laws_toProgram
  simp only [laws_toNodeS_p a.Nodes h0, laws_toFnS_p a.Fns h1, Option.bind_some]
theorem laws_eqProgram_p (a b : GProgram) (ha : GProgram.le 1048576 a) (hb : GProgram.le 1048576 b) : laws_eqProgram a b = some (decide (a = b)) := by
  obtain ⟨ha0, ha1⟩ := ha
  obtain ⟨hb0, hb1⟩ := hb
  unfold laws_eqProgram
  try simp only [sEq_iff, Option.bind_some, laws_eqNodeS_p a.Nodes b.Nodes ha0 hb0, laws_eqFnS_p a.Fns b.Fns ha1 hb1]
  rw [show decide (a = b) = decide (a.Nodes = b.Nodes ∧ a.Fns = b.Fns) from by simp only [GProgram.ext' a b]]
  by_cases e0 : a.Nodes = b.Nodes <;> by_cases e1 : a.Fns = b.Fns <;> simp [e0, e1]
end Go.OM
set_option linter.unusedVariables false
set_option linter.unusedSimpArgs false
namespace Go.OM
theorem ite_some {α : Type} {c : Prop} [Decidable c] (a b : α) : (if c then some a else some b) = some (if c then a else b) := by split <;> rfl
def inB (x a b : Int) : Bool := decide (a ≤ x) && decide (x ≤ b)
theorem inB_iff {x a b : Int} : inB x a b = true ↔ a ≤ x ∧ x ≤ b := by simp [inB]
theorem inB_false {x a b : Int} : inB x a b = false ↔ ¬ (a ≤ x ∧ x ≤ b) := by rw [← inB_iff]; simp
theorem impl_in_eq (x a b : Int) : impl_in x a b = some (inB x a b) := by
  unfold impl_in inB
  by_cases h : a ≤ x <;> simp [h]
theorem spec_in_eq (x a b : Int) : spec_l01In x a b = some (inB x a b) := by
  unfold spec_l01In inB
  by_cases h : a ≤ x <;> simp [h]
def bI (z : ByteArray) : List Int := z.data.toList.map fun x => ((x.toNat : Nat) : Int)
theorem bI_length (z : ByteArray) : (bI z).length = z.size := by rw [bI, List.length_map]; exact Array.length_toList
theorem sAt_bI {z : ByteArray} {k : Nat} (h : k < (bI z).length) : sAt z k = some (bI z)[k] := by
  have h1 : k < z.size := by rw [← bI_length]; exact h
  unfold sAt
  rw [if_pos ⟨by omega, by omega⟩]
  simp only [byteAt, Int.toNat_natCast, bI]
  have e : z.data.toList.length = z.size := Array.length_toList
  have h2 : k < z.data.toList.length := by omega
  rw [List.getD_eq_getElem?_getD, List.getElem?_eq_getElem h2]
  simp only [Option.getD_some, List.getElem_map]
def letterB (b : Int) : Bool := inB b 97 122
def figureB (b : Int) : Bool := inB b 48 57
theorem impl_isLetter_eq (b : Int) : impl_isLetter b = some (letterB b) := by
  unfold impl_isLetter letterB inB
  by_cases h : 97 ≤ b <;> simp [h]
theorem impl_isFigure_eq (b : Int) : impl_isFigure b = some (figureB b) := by
  unfold impl_isFigure figureB inB
  by_cases h : 48 ≤ b <;> simp [h]
theorem spec_l03Letter_eq (b : Int) : spec_l03Letter b = some (letterB b) := by
  unfold spec_l03Letter letterB inB
  by_cases h : 97 ≤ b <;> simp [h]
theorem spec_l03Figure_eq (b : Int) : spec_l03Figure b = some (figureB b) := by
  unfold spec_l03Figure figureB inB
  by_cases h : 48 ≤ b <;> simp [h]
def keys : List ByteArray := [⟨#[102, 110]⟩, ⟨#[108, 101, 116]⟩, ⟨#[105, 102]⟩, ⟨#[101, 108, 115, 101]⟩, ⟨#[119, 104, 105, 108, 101]⟩, ⟨#[112, 114, 105, 110, 116]⟩, ⟨#[100, 111]⟩, ⟨#[110, 101, 119]⟩, ⟨#[99, 108, 111, 110, 101]⟩, ⟨#[109, 117, 116]⟩, ⟨#[105, 110, 112, 117, 116]⟩, ⟨#[105, 110, 116]⟩, ⟨#[98, 111, 120]⟩, ⟨#[114, 101, 116]⟩]
def keyB (s : ByteArray) : Bool := keys.any fun w => sEq w s
theorem keys_split : strings_Split (⟨#[102, 110, 32, 108, 101, 116, 32, 105, 102, 32, 101, 108, 115, 101, 32, 119, 104, 105, 108, 101, 32, 112, 114, 105, 110, 116, 32, 100, 111, 32, 110, 101, 119, 32, 99, 108, 111, 110, 101, 32, 109, 117, 116, 32, 105, 110, 112, 117, 116, 32, 105, 110, 116, 32, 98, 111, 120, 32, 114, 101, 116]⟩ : ByteArray) (⟨#[32]⟩ : ByteArray) = some keys := by kernel_rfl
theorem any_loop (l : List ByteArray) (s : ByteArray) (hl : l.length ≤ 1048576) (f : Int → Option (Int ⊕ (Unit ⊕ Bool)))
    (hf : ∀ i, f i = if (decide (i < (l.length : Int))) = true then (getI l i).bind fun e => if (sEq e s) = true then some (Sum.inr (Sum.inr true)) else some (Sum.inl (IntKind.wrap .i64 (i + 1))) else some (Sum.inr (Sum.inl ()))) :
    loopP f 0 = some (if (l.any fun w => sEq w s) = true then .inr true else .inl ()) := by
  refine loopP_any l (fun w => sEq w s) f (fun k hk => ?_) (by rw [hf]; simp)
  rw [hf]
  simp only [ofNat_lt_true hk, if_true, getI_at hk, Option.bind_some, w64_succ hk (show l.length ≤ maxLen by show _ ≤ 9223372036854775807; omega), ite_some]
theorem spec_KeyWord_eq (s : ByteArray) : spec_KeyWord s = some (keyB s) := by
  unfold spec_KeyWord spec_l03Keys
  simp only [Option.bind_some]
  have h := any_loop keys s (by decide) (spec_KeyWord_l1 s keys) (fun i => by simp only [spec_KeyWord_l1])
  unfold keys at h
  rw [h]
  unfold keyB keys
  simp only [Option.bind_some]
  split <;> rename_i h2 <;> split at h2 <;> simp_all
theorem impl_KeyWord_eq (s : ByteArray) : impl_KeyWord s = some (keyB s) := by
  unfold impl_KeyWord impl_oneOf
  rw [keys_split]
  simp only [Option.bind_some]
  rw [any_loop keys s (by decide) (impl_oneOf_l1 s keys) (fun i => by simp only [impl_oneOf_l1])]
  unfold keyB
  simp only [Option.bind_some]
  cases keys.any fun w => sEq w s <;> rfl
def charB (b : Int) : Bool := letterB b || figureB b
def nameB (s : ByteArray) : Bool := inB s.size 1 8 && (letterB ((bI s).getD 0 0) && ((bI s).all charB && !keyB s))
theorem name_loop (s : ByteArray) (hs : s.size ≤ 8) (f : Int → Option (Int ⊕ (Unit ⊕ Bool)))
    (hf : ∀ (k : Nat) (h : k < (bI s).length), f k = some (if charB (bI s)[k] = true then .inl (IntKind.wrap .i64 ((k : Int) + 1)) else .inr (.inr false)))
    (he : f s.size = some (.inr (.inl ()))) : loopP f 0 = some (if (bI s).all charB = true then .inl () else .inr false) := by
  refine loopP_all (bI s) charB f (fun k hk => ?_) (by rw [bI_length]; exact he)
  rw [hf k hk, w64_succ hk (show (bI s).length ≤ maxLen by rw [bI_length]; show _ ≤ 9223372036854775807; omega)]
theorem bI_zero {s : ByteArray} (h : 1 ≤ s.size) : sAt s 0 = some ((bI s).getD 0 0) := by
  have h1 : 0 < (bI s).length := by rw [bI_length]; omega
  have := sAt_bI h1
  rw [show ((0 : Nat) : Int) = 0 from rfl] at this
  rw [this, List.getD_eq_getElem?_getD, List.getElem?_eq_getElem h1]; rfl
theorem impl_NameOk_eq (s : ByteArray) : impl_NameOk s = some (nameB s) := by
  unfold impl_NameOk nameB
  simp only [impl_in_eq, Option.bind_some]
  by_cases hi : inB s.size 1 8 = true
  · have hi' := inB_iff.1 hi
    rw [bI_zero (by omega), name_loop s (by omega) (impl_NameOk_l1 s) (fun k hk => ?_) (by simp [impl_NameOk_l1])]
    · simp only [hi, impl_isLetter_eq, impl_KeyWord_eq, Option.bind_some, Bool.not_true, Bool.false_eq_true, if_false, Bool.true_and]
      cases letterB ((bI s).getD 0 0) <;> cases (bI s).all charB <;> cases keyB s <;> rfl
    · have hk2 : k < s.size := by rw [← bI_length]; exact hk
      simp only [impl_NameOk_l1, ofNat_lt_true hk2, if_true, sAt_bI hk, impl_isLetter_eq, impl_isFigure_eq, Option.bind_some]
      rw [show charB (bI s)[k] = (letterB (bI s)[k] || figureB (bI s)[k]) from rfl]
      cases letterB (bI s)[k] <;> cases figureB (bI s)[k] <;> rfl
  · simp [Bool.eq_false_iff.2 hi]
theorem spec_NameOk_eq (s : ByteArray) : spec_NameOk s = some (nameB s) := by
  unfold spec_NameOk nameB
  simp only [spec_in_eq, Option.bind_some]
  by_cases hi : inB s.size 1 8 = true
  · have hi' := inB_iff.1 hi
    rw [bI_zero (by omega), name_loop s (by omega) (spec_NameOk_l1 s) (fun k hk => ?_) (by simp [spec_NameOk_l1])]
    · simp only [hi, spec_l03Letter_eq, spec_KeyWord_eq, Option.bind_some, Bool.not_true, Bool.false_eq_true, if_false, Bool.true_and]
      cases letterB ((bI s).getD 0 0) <;> cases (bI s).all charB <;> cases keyB s <;> rfl
    · have hk2 : k < s.size := by rw [← bI_length]; exact hk
      simp only [spec_NameOk_l1, ofNat_lt_true hk2, if_true, sAt_bI hk, spec_l03Letter_eq, spec_l03Figure_eq, Option.bind_some]
      rw [show charB (bI s)[k] = (letterB (bI s)[k] || figureB (bI s)[k]) from rfl]
      cases letterB (bI s)[k] <;> cases figureB (bI s)[k] <;> rfl
  · simp [Bool.eq_false_iff.2 hi]
end Go.OM
set_option linter.unusedVariables false
set_option linter.unusedSimpArgs false
namespace Go.OM
theorem w64_pred {n : Nat} (h : n ≤ 1048576) : IntKind.wrap .i64 ((n : Int) - 1) = (n : Int) - 1 := w64 (by omega) (by omega)
end Go.OM
set_option linter.unusedVariables false
set_option linter.unusedSimpArgs false
namespace Go.OM
theorem foldE_inl {α σ ρ : Type} (h : σ → α → σ) (fin : σ → ρ) : ∀ (l : List α) (s : σ), foldE (fun s x => (.inl (h s x) : σ ⊕ ρ)) fin l s = fin (l.foldl h s)
  | [], s => rfl
  | x :: l, s => by simp only [foldE, List.foldl_cons]; exact foldE_inl h fin l _
theorem app1 {n : Nat} {s : List Int} {e : Int} (h : s.length ≤ 1048576) (hn : n ≤ 64) : appI n s [e] = some (s ++ [e]) := by
  unfold appI
  have h1 : (s.length + [e].length) * n ≤ (s.length + [e].length) * 64 := Nat.mul_le_mul_left _ hn
  rw [if_pos ⟨by simp only [List.length_cons, List.length_nil] at h1 ⊢; omega, by simp only [List.length_cons, List.length_nil]; omega⟩]
def addL (out : List Int) (n : Int) : List Int := if out.contains n = true then out else out ++ [n]
theorem mem_addL {out : List Int} {n m : Int} : m ∈ addL out n ↔ m ∈ out ∨ m = n := by
  unfold addL
  by_cases h : out.contains n = true
  · rw [if_pos h]
    have := List.contains_iff_mem.1 h
    constructor
    · exact .inl
    · rintro (h | rfl)
      · exact h
      · exact this
  · rw [if_neg h]; simp
theorem mem_foldl_addL (m : Int) : ∀ (l s : List Int), m ∈ l.foldl addL s ↔ m ∈ s ∨ m ∈ l
  | [], s => by simp
  | x :: l, s => by rw [List.foldl_cons, mem_foldl_addL m l, mem_addL, List.mem_cons, or_assoc]
end Go.OM
set_option linter.unusedVariables false
set_option linter.unusedSimpArgs false
namespace Go.OM
inductive Reach (next : Nat → List Int) (root : Nat) : Nat → Prop
  | base : Reach next root root
  | step {i : Nat} {m : Int} : Reach next root i → m ∈ next i → Reach next root m.toNat
theorem Reach.congr {next next' : Nat → List Int} {root : Nat} (h : ∀ i m, m ∈ next i ↔ m ∈ next' i) {n : Nat} : Reach next root n ↔ Reach next' root n := by
  constructor
  · intro r
    induction r with
    | base => exact .base
    | step _ hm ih => exact .step ih ((h _ _).1 hm)
  · intro r
    induction r with
    | base => exact .base
    | step _ hm ih => exact .step ih ((h _ _).2 hm)
end Go.OM
set_option linter.unusedVariables false
set_option linter.unusedSimpArgs false
namespace Go.OM
abbrev Tab := List (List Bool)
structure TabOk (W L : Nat) (t : Tab) : Prop where
  len : t.length = W
  row : ∀ r ∈ t, r.length = L
theorem TabOk.set {W L : Nat} {t : Tab} (h : TabOk W L t) (n : Nat) {r : List Bool} (hr : r.length = L) : TabOk W L (t.set n r) :=
  ⟨by simpa using h.len, fun x hx => by
    rcases List.mem_or_eq_of_mem_set hx with h1 | h1
    · exact h.row x h1
    · rw [h1]; exact hr⟩
theorem w64_nat {k n : Nat} (hk : k < n) (hn : n ≤ 1048576) : IntKind.wrap .i64 ((k : Int) + 1) = ((k + 1 : Nat) : Int) := w64_succ hk (show n ≤ maxLen by show _ ≤ 9223372036854775807; omega)
def cntR (r : List Bool) : Nat := r.count true
def cntT (t : Tab) : Nat := (t.map cntR).sum
end Go.OM
set_option linter.unusedVariables false
set_option linter.unusedSimpArgs false
namespace Go.OM
theorem getI_in {α : Type} {l : List α} {v : Int} (h0 : 0 ≤ v) (h : v < l.length) : getI l v = some (l[v.toNat]'(by omega)) := by
  have : v = ((v.toNat : Nat) : Int) := by omega
  conv => lhs; rw [this]
  exact getI_at (by omega)
end Go.OM
set_option linter.unusedVariables false
set_option linter.unusedSimpArgs false
namespace Go.OM
structure Dn (W L : Nat) (s s' : Tab × Bool) : Prop where
  ok : TabOk W L s'.1
  le : cntT s'.1 ≤ cntT s.1
  lt : s'.2 = true → s.2 = true ∨ cntT s'.1 < cntT s.1
  keep : s.2 = true → s'.2 = true
theorem Dn.trans {W L : Nat} {s s' s2 : Tab × Bool} (h : Dn W L s s') (h2 : Dn W L s' s2) : Dn W L s s2 :=
  ⟨h2.ok, Nat.le_trans h2.le h.le, fun e => by
    rcases h2.lt e with e | e
    · rcases h.lt e with e | e
      · exact .inl e
      · exact .inr (Nat.lt_of_le_of_lt h2.le e)
    · exact .inr (Nat.lt_of_lt_of_le e h.le), fun e => h2.keep (h.keep e)⟩
end Go.OM
set_option linter.unusedVariables false
set_option linter.unusedSimpArgs false
namespace Go.OM
theorem hasInt_eq (l : List Int) (n : Int) (hl : l.length ≤ 1048576) : impl_hasInt l n = some (l.contains n) := by
  unfold impl_hasInt
  rw [loopP_any l (fun e => e == n) (impl_hasInt_l1 l n) (fun k hk => by
    simp only [impl_hasInt_l1, ofNat_lt_true hk, if_true, getI_at hk, Option.bind_some, w64_nat hk hl]
    cases l[k] == n <;> rfl) (by simp [impl_hasInt_l1])]
  have : (l.any fun e => e == n) = l.contains n := by
    induction l with
    | nil => rfl
    | cons x l ih =>
      rw [List.any_cons, List.contains_cons, ih (by simp at hl; omega)]
      congr 1
      rw [Bool.eq_iff_iff, beq_iff_eq, beq_iff_eq]
      exact eq_comm
  rw [this]
  cases l.contains n <;> rfl
theorem find_range {ρ : Type} (n : Nat) (q : Nat → Option ρ) (f : Int → Option (Int ⊕ (Unit ⊕ ρ)))
    (hf : ∀ (k : Nat), k < n → f k = some (match q k with | none => .inl ((k + 1 : Nat) : Int) | some r => .inr (.inr r)))
    (he : f n = some (.inr (.inl ()))) : loopP f 0 = some (match (List.range n).findSome? q with | some r => .inr r | none => .inl ()) :=
  loopP_find (List.range n) q f (fun k hk => by
    have hk' : k < n := by simpa using hk
    rw [hf k hk', List.getElem_range]
    all_goals (cases q k <;> rfl)) (by rw [List.length_range]; exact he)
end Go.OM
set_option linter.unusedVariables false
set_option linter.unusedSimpArgs false
namespace Go.OM
def valueB (k : Int) : Bool := inB k 1 12
def stepKB (k : Int) : Bool := inB k 13 19
theorem impl_isValue_eq (k : Int) : impl_isValue k = some (valueB k) := by simp only [impl_isValue, impl_in_eq, Option.bind_some, valueB]
theorem impl_isStep_eq (k : Int) : impl_isStep k = some (stepKB k) := by simp only [impl_isStep, impl_in_eq, Option.bind_some, stepKB]
theorem spec_l04Value_eq (k : Int) : spec_l04Value k = some (valueB k) := by simp only [spec_l04Value, spec_in_eq, Option.bind_some, valueB]
theorem spec_l04Statement_eq (k : Int) : spec_l04Statement k = some (stepKB k) := by simp only [spec_l04Statement, spec_in_eq, Option.bind_some, stepKB]
def shapeB (k : Int) : Int × Int := if k = 8 ∨ k = 13 ∨ k = 14 ∨ k = 15 ∨ k = 18 ∨ k = 19 then (1, 1) else if k = 9 ∨ k = 10 ∨ k = 11 ∨ k = 17 then (2, 2) else if k = 16 then (3, 3) else if k = 12 then (0, 3) else if k = 20 then (0, 12) else (0, 0)
theorem impl_shape_eq (k : Int) : impl_shape k = some (shapeB k) := by
  unfold impl_shape shapeB
  by_cases h8 : k = 8
  · simp [h8]
  by_cases h13 : k = 13
  · simp [h13]
  by_cases h14 : k = 14
  · simp [h14]
  by_cases h15 : k = 15
  · simp [h15]
  by_cases h18 : k = 18
  · simp [h18]
  by_cases h19 : k = 19
  · simp [h19]
  by_cases h9 : k = 9
  · simp [h9]
  by_cases h10 : k = 10
  · simp [h10]
  by_cases h11 : k = 11
  · simp [h11]
  by_cases h17 : k = 17
  · simp [h17]
  by_cases h16 : k = 16
  · simp [h16]
  by_cases h12 : k = 12
  · simp [h12]
  by_cases h20 : k = 20
  · simp [h20]
  simp [h8, h13, h14, h15, h18, h19, h9, h10, h11, h17, h16, h12, h20]
theorem spec_l04Kids_eq (k : Int) : spec_l04Kids k = some (shapeB k) := by
  unfold spec_l04Kids shapeB
  by_cases h8 : k = 8
  · simp [h8]
  by_cases h13 : k = 13
  · simp [h13]
  by_cases h14 : k = 14
  · simp [h14]
  by_cases h15 : k = 15
  · simp [h15]
  by_cases h18 : k = 18
  · simp [h18]
  by_cases h19 : k = 19
  · simp [h19]
  by_cases h9 : k = 9
  · simp [h9]
  by_cases h10 : k = 10
  · simp [h10]
  by_cases h11 : k = 11
  · simp [h11]
  by_cases h17 : k = 17
  · simp [h17]
  by_cases h16 : k = 16
  · simp [h16]
  by_cases h12 : k = 12
  · simp [h12]
  by_cases h20 : k = 20
  · simp [h20]
  simp [h8, h13, h14, h15, h18, h19, h9, h10, h11, h17, h16, h12, h20]
def fitsB (kind i kid : Int) : Bool := if kind = 20 then stepKB kid else if (kind = 16 ∨ kind = 17) ∧ 0 < i then kid == 20 else if kind = 19 then kid == 12 else valueB kid
theorem impl_kidFits_eq (kind i kid : Int) : impl_kidFits kind i kid = some (fitsB kind i kid) := by
  unfold impl_kidFits fitsB
  simp only [impl_isStep_eq, impl_isValue_eq, Option.bind_some, gt_iff_lt]
  by_cases h20 : kind = 20
  · simp [h20]
  by_cases h16 : kind = 16
  · by_cases hi : 0 < i <;> simp [h16, hi]
  by_cases h17 : kind = 17
  · by_cases hi : 0 < i <;> simp [h17, hi]
  by_cases h19 : kind = 19
  · simp [h19]
  simp [h20, h16, h17, h19]
theorem spec_l04Fits_eq (kind i kid : Int) : spec_l04Fits kind i kid = some (fitsB kind i kid) := by
  unfold spec_l04Fits fitsB
  simp only [spec_l04Statement_eq, spec_l04Value_eq, Option.bind_some, gt_iff_lt]
  by_cases h20 : kind = 20
  · simp [h20]
  by_cases h16 : kind = 16
  · by_cases hi : 0 < i <;> simp [h16, hi]
  by_cases h17 : kind = 17
  · by_cases hi : 0 < i <;> simp [h17, hi]
  by_cases h19 : kind = 19
  · simp [h19]
  simp [h20, h16, h17, h19]
def namedB (k : Int) : Bool := inB k 2 6 || inB k 12 15
theorem impl_hasName_eq (k : Int) : impl_hasName k = some (namedB k) := by
  unfold impl_hasName namedB
  simp only [impl_in_eq, Option.bind_some]
  cases inB k 2 6 <;> rfl
theorem spec_l04Named_eq (k : Int) : spec_l04Named k = some (namedB k) := by
  unfold spec_l04Named namedB
  by_cases h : inB k 2 6 = true
  · have h' := inB_iff.1 h
    rw [h]
    have : k = 2 ∨ k = 3 ∨ k = 4 ∨ k = 5 ∨ k = 6 := by omega
    rcases this with e | e | e | e | e <;> simp [e]
  · by_cases h2 : inB k 12 15 = true
    · have h' := inB_iff.1 h2
      rw [h2]
      have : k = 12 ∨ k = 13 ∨ k = 14 ∨ k = 15 := by omega
      rcases this with e | e | e | e <;> simp [e]
    · have h' := inB_false.1 (Bool.eq_false_iff.2 h)
      have h2' := inB_false.1 (Bool.eq_false_iff.2 h2)
      have n2 : ¬ k = 2 := by omega
      have n3 : ¬ k = 3 := by omega
      have n4 : ¬ k = 4 := by omega
      have n5 : ¬ k = 5 := by omega
      have n6 : ¬ k = 6 := by omega
      have n12 : ¬ k = 12 := by omega
      have n13 : ¬ k = 13 := by omega
      have n14 : ¬ k = 14 := by omega
      have n15 : ¬ k = 15 := by omega
      simp [Bool.eq_false_iff.2 h, Bool.eq_false_iff.2 h2, n2, n3, n4, n5, n6, n12, n13, n14, n15]
def kidB (nodes : List GNode) (k : Nat) (x : GNode) (i : Nat) : Bool := match x.Kids[i]? with
  | none => false
  | some kid => inB kid 0 ((k : Int) - 1) && (!((x.Kids.take i).contains kid) && (match nodes[kid.toNat]? with | some y => fitsB x.Kind i y.Kind | none => false))
theorem kidB_at {nodes : List GNode} {k : Nat} {x : GNode} {i : Nat} (h : i < x.Kids.length) : kidB nodes k x i = (inB x.Kids[i] 0 ((k : Int) - 1) && (!((x.Kids.take i).contains x.Kids[i]) && (match nodes[(x.Kids[i]).toNat]? with | some y => fitsB x.Kind i y.Kind | none => false))) := by
  unfold kidB; rw [List.getElem?_eq_getElem h]
def kidsB (nodes : List GNode) (k : Nat) (x : GNode) : Bool := (List.range x.Kids.length).all (kidB nodes k x)
def numNB (x : GNode) : Bool := if x.Kind = 1 then inB x.Num 0 1000000000 else x.Num == 0
def nameNB (x : GNode) : Bool := if namedB x.Kind = true then nameB x.Name else sEq x.Name ⟨#[]⟩
def nodeB (nodes : List GNode) (k : Nat) : Bool := match nodes[k]? with
  | none => false
  | some x => inB x.Kind 1 20 && (inB x.Kids.length (shapeB x.Kind).1 (shapeB x.Kind).2 && (kidsB nodes k x && (numNB x && nameNB x)))
theorem range_all {ρ : Type} (n : Nat) (hn : n ≤ 1048576) (p : Nat → Bool) (b : ρ) (f : Int → Option (Int ⊕ (Unit ⊕ ρ)))
    (hf : ∀ (k : Nat), k < n → f k = some (if p k = true then .inl (IntKind.wrap .i64 ((k : Int) + 1)) else .inr (.inr b)))
    (he : f n = some (.inr (.inl ()))) : loopP f 0 = some (if (List.range n).all p = true then .inl () else .inr b) := by
  rw [find_range n (fun k => if p k = true then none else some b) f (fun k hk => by
    rw [hf k hk, w64_nat hk hn]
    cases p k <;> rfl) he]
  have key : ∀ l : List Nat, l.findSome? (fun k => if p k = true then none else some b) = if l.all p = true then none else some b := by
    intro l
    induction l with
    | nil => rfl
    | cons x l ih =>
      rw [List.findSome?_cons, List.all_cons]
      cases hp : p x
      · simp
      · simp only [if_true, Bool.true_and]; exact ih
  rw [key]
  cases (List.range n).all p <;> rfl
theorem shape_hi (k : Int) : (shapeB k).2 ≤ 12 := by
  unfold shapeB
  repeat' split
  all_goals simp
theorem nameB_empty : nameB ⟨#[]⟩ = false := by
  unfold nameB
  have : inB ((⟨#[]⟩ : ByteArray).size : Int) 1 8 = false := rfl
  rw [this]; rfl
theorem impl_NodeOk_eq (nodes : List GNode) (hn : nodes.length ≤ 1048576) (k : Int) : impl_NodeOk nodes k = some (decide (0 ≤ k) && nodeB nodes k.toNat) := by
  unfold impl_NodeOk
  simp only [impl_in_eq, Option.bind_some, w64_pred hn]
  by_cases hi : inB k 0 ((nodes.length : Int) - 1) = true
  · have hi' := inB_iff.1 hi
    have hk : k.toNat < nodes.length := by omega
    have hkk : k = ((k.toNat : Nat) : Int) := by omega
    rw [decide_eq_true hi'.1, Bool.true_and]
    generalize k.toNat = m at *
    subst hkk
    unfold nodeB
    rw [List.getElem?_eq_getElem hk, getI_at hk]
    simp only [hi, Bool.not_true, Bool.false_eq_true, if_false, Option.bind_some, impl_shape_eq]
    generalize nodes[m] = x
    cases h1 : inB x.Kind 1 20
    · rfl
    cases h2 : inB x.Kids.length (shapeB x.Kind).1 (shapeB x.Kind).2
    · rfl
    have h2' := inB_iff.1 h2
    have hs := shape_hi x.Kind
    have hkl : x.Kids.length ≤ 1048576 := by omega
    have hw : IntKind.wrap .i64 ((m : Int) - 1) = (m : Int) - 1 := w64 (by omega) (by omega)
    rw [range_all x.Kids.length hkl (kidB nodes m x) false (impl_NodeOk_l1 nodes m x) (fun i hi => by
      have hsub : subI x.Kids 0 (i : Int) = some (x.Kids.take i) := by
        unfold subI; rw [if_pos ⟨by omega, by omega, by omega⟩]; simp
      simp only [impl_NodeOk_l1, ofNat_lt_true hi, if_true, getI_at hi, Option.bind_some, impl_in_eq, hw, hsub, hasInt_eq (x.Kids.take i) _ (by simp; omega), impl_kidFits_eq]
      rw [kidB_at hi]
      cases h3 : inB x.Kids[i] 0 ((m : Int) - 1)
      · rfl
      have h3' := inB_iff.1 h3
      cases h4 : (x.Kids.take i).contains x.Kids[i]
      · have hlt : x.Kids[i].toNat < nodes.length := by omega
        rw [getI_in h3'.1 (by omega), List.getElem?_eq_getElem hlt]
        simp only [Bool.not_true, Bool.false_eq_true, if_false, Option.bind_some, Bool.not_false, Bool.true_and]
        cases fitsB x.Kind i nodes[x.Kids[i].toNat].Kind <;> rfl
      · rfl) (by simp [impl_NodeOk_l1])]
    have hkk : (List.range x.Kids.length).all (kidB nodes m x) = kidsB nodes m x := rfl
    rw [hkk]
    cases kidsB nodes m x
    · rfl
    unfold numNB nameNB
    simp only [impl_hasName_eq, impl_NameOk_eq, Option.bind_some, Bool.not_true, Bool.false_eq_true, if_false, if_true]
    by_cases hkd : x.Kind = 1
    · have e : (x.Kind == 1) = true := by simpa using hkd
      rw [if_pos hkd, if_pos e]
      cases inB x.Num 0 1000000000
      · rfl
      cases namedB x.Kind <;> rfl
    · have e : ¬ (x.Kind == 1) = true := by simpa using hkd
      have e2 : (x.Num != 0) = !(x.Num == 0) := rfl
      rw [if_neg hkd, if_neg e, e2]
      cases x.Num == 0
      · rfl
      cases namedB x.Kind <;> rfl
  · simp only [Bool.eq_false_iff.2 hi, Bool.not_false, if_true]
    have hi' := inB_false.1 (Bool.eq_false_iff.2 hi)
    congr 1
    by_cases h0 : 0 ≤ k
    · unfold nodeB
      rw [List.getElem?_eq_none (by omega)]; simp
    · simp [h0]
theorem spec_NodeOk_eq (nodes : List GNode) (hn : nodes.length ≤ 1048576) (k : Int) : spec_NodeOk nodes k = some (decide (0 ≤ k) && nodeB nodes k.toNat) := by
  unfold spec_NodeOk
  simp only [spec_in_eq, Option.bind_some, w64_pred hn]
  by_cases hi : inB k 0 ((nodes.length : Int) - 1) = true
  · have hi' := inB_iff.1 hi
    have hk : k.toNat < nodes.length := by omega
    have hkk : k = ((k.toNat : Nat) : Int) := by omega
    rw [decide_eq_true hi'.1, Bool.true_and]
    generalize k.toNat = m at *
    subst hkk
    unfold nodeB
    rw [List.getElem?_eq_getElem hk, getI_at hk]
    simp only [hi, Bool.not_true, Bool.false_eq_true, if_false, Option.bind_some, spec_l04Kids_eq]
    generalize nodes[m] = x
    cases h1 : inB x.Kind 1 20
    · rfl
    simp only [Bool.not_true, Bool.false_eq_true, if_false, Bool.true_and]
    cases h2 : inB x.Kids.length (shapeB x.Kind).1 (shapeB x.Kind).2
    · rfl
    have h2' := inB_iff.1 h2
    have hs := shape_hi x.Kind
    have hkl : x.Kids.length ≤ 1048576 := by omega
    have hw : IntKind.wrap .i64 ((m : Int) - 1) = (m : Int) - 1 := w64 (by omega) (by omega)
    rw [range_all x.Kids.length hkl (kidB nodes m x) false (spec_NodeOk_l1 nodes m x) (fun i hi => by
      simp only [spec_NodeOk_l1, ofNat_lt_true hi, if_true, getI_at hi, Option.bind_some, spec_in_eq, hw, spec_l04Fits_eq]
      rw [range_all i (by omega) (fun j => !(x.Kids[i] == (x.Kids[j]?).getD 0)) (.inr (.inr false)) (spec_NodeOk_l2 x i) (fun j hj => by
        have hjl : j < x.Kids.length := by omega
        simp only [spec_NodeOk_l2, ofNat_lt_true hj, if_true, getI_at hi, getI_at hjl, Option.bind_some, List.getElem?_eq_getElem hjl, Option.getD_some]
        cases x.Kids[i] == x.Kids[j] <;> rfl) (by simp [spec_NodeOk_l2])]
      have hall : (List.range i).all (fun j => !(x.Kids[i] == (x.Kids[j]?).getD 0)) = !((x.Kids.take i).contains x.Kids[i]) := by
        rw [Bool.eq_iff_iff]
        simp only [List.all_eq_true, List.mem_range, Bool.not_eq_true', List.contains_eq_mem, decide_eq_false_iff_not, beq_eq_false_iff_ne, ne_eq]
        constructor
        · intro h hm
          obtain ⟨j, hj, e⟩ := List.mem_iff_getElem.1 hm
          simp only [List.length_take] at hj
          rw [List.getElem_take] at e
          refine h j (by omega) ?_
          rw [List.getElem?_eq_getElem (by omega)]
          exact e.symm
        · intro h j hj e
          rw [List.getElem?_eq_getElem (show j < x.Kids.length by omega)] at e
          refine h ?_
          rw [e]
          refine List.mem_iff_getElem.2 ⟨j, by simp only [List.length_take]; omega, ?_⟩
          rw [List.getElem_take]; rfl
      rw [hall]
      rw [kidB_at hi]
      cases h3 : inB x.Kids[i] 0 ((m : Int) - 1)
      · rfl
      have h3' := inB_iff.1 h3
      have hlt : x.Kids[i].toNat < nodes.length := by omega
      rw [getI_in h3'.1 (by omega), List.getElem?_eq_getElem hlt]
      simp only [Bool.not_true, Bool.false_eq_true, if_false, Option.bind_some, Bool.true_and]
      cases fitsB x.Kind i nodes[x.Kids[i].toNat].Kind <;> cases (x.Kids.take i).contains x.Kids[i] <;> rfl) (by simp [spec_NodeOk_l1])]
    have hkk : (List.range x.Kids.length).all (kidB nodes m x) = kidsB nodes m x := rfl
    rw [hkk]
    unfold numNB nameNB
    simp only [spec_l04Named_eq, spec_NameOk_eq, Option.bind_some, Bool.not_true, Bool.false_eq_true, if_false, if_true]
    have hname : (if (!(namedB x.Kind == (!(sEq x.Name (⟨#[]⟩ : ByteArray))))) = true then some true else if (!(sEq x.Name (⟨#[]⟩ : ByteArray))) = true then some (!(nameB x.Name)) else some false) = some (!(if namedB x.Kind = true then nameB x.Name else sEq x.Name ⟨#[]⟩)) := by
      cases he : sEq x.Name ⟨#[]⟩ with
      | true =>
        have : x.Name = ⟨#[]⟩ := by rw [sEq_iff] at he; simpa using he
        cases namedB x.Kind
        · rfl
        · rw [this, nameB_empty]; rfl
      | false =>
        cases namedB x.Kind <;> rfl
    rw [hname]
    have hnum : (if (!(inB x.Num 0 1000000000)) = true then some true else if (x.Kind != 1) = true then some (x.Num != 0) else some false) = some (!(if x.Kind = 1 then inB x.Num 0 1000000000 else x.Num == 0)) := by
      have e2 : (x.Num != 0) = !(x.Num == 0) := rfl
      by_cases hkd : x.Kind = 1
      · have e : (x.Kind != 1) = false := by simp [hkd]
        rw [if_pos hkd, e]
        cases inB x.Num 0 1000000000 <;> rfl
      · have e : (x.Kind != 1) = true := by simpa using hkd
        rw [if_neg hkd, e, e2]
        cases hz : x.Num == 0 with
        | true =>
          have : x.Num = 0 := by simpa using hz
          rw [this]; rfl
        | false => cases inB x.Num 0 1000000000 <;> rfl
    rw [hnum]
    generalize (if x.Kind = 1 then inB x.Num 0 1000000000 else x.Num == 0) = u
    generalize (if namedB x.Kind = true then nameB x.Name else sEq x.Name ⟨#[]⟩) = v
    cases u <;> cases v <;> cases kidsB nodes m x <;> rfl
  · simp only [Bool.eq_false_iff.2 hi, Bool.not_false, if_true, Option.bind_some]
    have hi' := inB_false.1 (Bool.eq_false_iff.2 hi)
    congr 1
    by_cases h0 : 0 ≤ k
    · unfold nodeB
      rw [List.getElem?_eq_none (by omega)]; simp
    · simp [h0]
end Go.OM
set_option linter.unusedVariables false
set_option linter.unusedSimpArgs false
namespace Go.OM
def mx (a b : Int) : Int := if b > a then b else a
def dstep (nodes : List GNode) (out : List Int) (i : Nat) : Int := match nodes[i]? with
  | some x => x.Kids.foldl (fun d kid => mx d (out.getD kid.toNat 0 + 1)) 1
  | none => 1
def deeps (nodes : List GNode) : Nat → List Int
  | 0 => []
  | n + 1 => deeps nodes n ++ [dstep nodes (deeps nodes n) n]
def okU (nodes : List GNode) : Nat → Bool
  | 0 => true
  | n + 1 => okU nodes n && (nodeB nodes n && decide (dstep nodes (deeps nodes n) n ≤ 10))
def dval (nodes : List GNode) (k : Nat) : Int := dstep nodes (deeps nodes k) k
theorem deeps_len (nodes : List GNode) : ∀ n, (deeps nodes n).length = n
  | 0 => rfl
  | n + 1 => by simp [deeps, deeps_len nodes n]
theorem deeps_get (nodes : List GNode) : ∀ (n j : Nat), j < n → (deeps nodes n)[j]? = some (dval nodes j)
  | 0, j, h => by omega
  | n + 1, j, h => by
    simp only [deeps]
    rcases Nat.lt_or_ge j n with h1 | h1
    · rw [List.getElem?_append_left (by rw [deeps_len]; exact h1)]
      exact deeps_get nodes n j h1
    · have : j = n := by omega
      subst this
      rw [List.getElem?_append_right (by rw [deeps_len]; omega), deeps_len]
      simp [dval]
theorem okU_mono {nodes : List GNode} : ∀ {n m : Nat}, m ≤ n → okU nodes n = true → okU nodes m = true
  | 0, m, h, h1 => by have : m = 0 := by omega
                      subst this; rfl
  | n + 1, m, h, h1 => by
    by_cases e : m = n + 1
    · subst e; exact h1
    · simp only [okU, Bool.and_eq_true] at h1
      exact okU_mono (by omega) h1.1
theorem okU_at {nodes : List GNode} {n j : Nat} (h : okU nodes n = true) (hj : j < n) : nodeB nodes j = true ∧ dval nodes j ≤ 10 := by
  have := okU_mono (show j + 1 ≤ n by omega) h
  simp only [okU, Bool.and_eq_true, decide_eq_true_eq] at this
  exact this.2
theorem mx_ge (l : List Int) (g : Int → Int) : ∀ d, d ≤ l.foldl (fun d kid => mx d (g kid)) d ∧ ∀ kid ∈ l, g kid ≤ l.foldl (fun d kid => mx d (g kid)) d := by
  induction l with
  | nil => intro d; simp
  | cons x l ih =>
    intro d
    rw [List.foldl_cons]
    obtain ⟨h1, h2⟩ := ih (mx d (g x))
    have h3 : d ≤ mx d (g x) ∧ g x ≤ mx d (g x) := by unfold mx; split <;> omega
    refine ⟨by omega, fun kid hk => ?_⟩
    rcases List.mem_cons.1 hk with rfl | hk
    · omega
    · exact h2 kid hk
theorem dval_pos (nodes : List GNode) (k : Nat) : 1 ≤ dval nodes k := by
  unfold dval dstep
  split
  · exact (mx_ge _ _ 1).1
  · omega
theorem nodeB_get {nodes : List GNode} {k : Nat} (h : nodeB nodes k = true) : ∃ (hk : k < nodes.length), inB nodes[k].Kind 1 20 = true ∧ inB nodes[k].Kids.length (shapeB nodes[k].Kind).1 (shapeB nodes[k].Kind).2 = true ∧ (∀ (i : Nat) (hi : i < nodes[k].Kids.length), (0 ≤ nodes[k].Kids[i] ∧ nodes[k].Kids[i] < k) ∧ ¬ nodes[k].Kids[i] ∈ nodes[k].Kids.take i ∧ ∃ y, nodes[(nodes[k].Kids[i]).toNat]? = some y ∧ fitsB nodes[k].Kind i y.Kind = true) ∧ numNB nodes[k] = true ∧ nameNB nodes[k] = true := by
  unfold nodeB at h
  split at h
  · cases h
  · rename_i x hx
    obtain ⟨hk, hxe⟩ := List.getElem?_eq_some_iff.1 hx
    subst hxe
    simp only [Bool.and_eq_true] at h
    obtain ⟨h1, h2, h3, h4, h5⟩ := h
    refine ⟨hk, h1, h2, fun i hi => ?_, h4, h5⟩
    have := List.all_eq_true.1 h3 i (List.mem_range.2 hi)
    rw [kidB_at hi] at this
    simp only [Bool.and_eq_true, inB_iff, Bool.not_eq_true', List.contains_eq_mem, decide_eq_false_iff_not] at this
    obtain ⟨g1, g2, g3⟩ := this
    refine ⟨⟨g1.1, by omega⟩, g2, ?_⟩
    split at g3
    · rename_i y hy; exact ⟨y, hy, g3⟩
    · cases g3
theorem nodeB_kids {nodes : List GNode} {k : Nat} (h : nodeB nodes k = true) {x : GNode} (hx : nodes[k]? = some x) : ∀ kid ∈ x.Kids, 0 ≤ kid ∧ kid < k := by
  obtain ⟨hk, _, _, h3, _⟩ := nodeB_get h
  obtain ⟨_, hxe⟩ := List.getElem?_eq_some_iff.1 hx
  subst hxe
  intro kid hm
  obtain ⟨i, hi, rfl⟩ := List.mem_iff_getElem.1 hm
  exact (h3 i hi).1
theorem nodeB_kidlen {nodes : List GNode} {k : Nat} (h : nodeB nodes k = true) {x : GNode} (hx : nodes[k]? = some x) : x.Kids.length ≤ 12 := by
  obtain ⟨hk, _, h2, _⟩ := nodeB_get h
  obtain ⟨_, hxe⟩ := List.getElem?_eq_some_iff.1 hx
  subst hxe
  have := inB_iff.1 h2
  have := shape_hi nodes[k].Kind
  omega
theorem dval_kid {nodes : List GNode} {k : Nat} (h : nodeB nodes k = true) {x : GNode} (hx : nodes[k]? = some x) {kid : Int} (hm : kid ∈ x.Kids) : dval nodes kid.toNat < dval nodes k := by
  have hb := nodeB_kids h hx kid hm
  have : dval nodes k = x.Kids.foldl (fun d kid => mx d ((deeps nodes k).getD kid.toNat 0 + 1)) 1 := by unfold dval dstep; rw [hx]
  rw [this]
  have h2 := (mx_ge x.Kids (fun kid => (deeps nodes k).getD kid.toNat 0 + 1) 1).2 kid hm
  have h3 : (deeps nodes k).getD kid.toNat 0 = dval nodes kid.toNat := by
    rw [List.getD_eq_getElem?_getD, deeps_get nodes k kid.toNat (by omega)]; rfl
  rw [h3] at h2
  omega
theorem impl_dloop (nodes : List GNode) (k : Nat) (x : GNode) (hx : nodes[k]? = some x) (hok : okU nodes k = true) (hn : nodeB nodes k = true) : loopP (impl_depths_l2 (deeps nodes k) x) (1, 0) = some (dval nodes k) := by
  have hkl := nodeB_kidlen hn hx
  have hkb := nodeB_kids hn hx
  have hg : ∀ kid ∈ x.Kids, (deeps nodes k).getD kid.toNat 0 = dval nodes kid.toNat := fun kid hm => by
    have := hkb kid hm
    rw [List.getD_eq_getElem?_getD, deeps_get nodes k kid.toNat (by omega)]; rfl
  have := loopP_fold x.Kids (fun (d : Int) j => (d, (j : Int))) (fun j d => True) (fun d kid => .inl (mx d ((deeps nodes k).getD kid.toNat 0 + 1))) id (impl_depths_l2 (deeps nodes k) x) (fun d j hj _ => by
    left
    have hm := List.getElem_mem hj
    have hb := hkb _ hm
    have hd := okU_at hok (show x.Kids[j].toNat < k by omega)
    have hp := dval_pos nodes x.Kids[j].toNat
    refine ⟨_, rfl, ?_, trivial⟩
    have hlt : x.Kids[j].toNat < (deeps nodes k).length := by rw [deeps_len]; omega
    have hge : (deeps nodes k)[x.Kids[j].toNat] = dval nodes x.Kids[j].toNat := by
      have := deeps_get nodes k x.Kids[j].toNat (by omega)
      rw [List.getElem?_eq_getElem hlt] at this
      exact Option.some.inj this
    simp only [impl_depths_l2, ofNat_lt_true hj, if_true, getI_at hj, Option.bind_some]
    rw [getI_in hb.1 (by rw [deeps_len]; omega), hge]
    simp only [Option.bind_some, w64 (n := dval nodes x.Kids[j].toNat + 1) (by omega) (by omega), w64_nat hj (by omega), hg _ hm]
    rfl) (fun d _ => by simp [impl_depths_l2]) 1 trivial
  rw [foldE_inl] at this
  unfold dval dstep
  rw [hx]
  exact this
theorem impl_depths_eq (nodes : List GNode) (hn : nodes.length ≤ 1048576) (k : Int) : impl_depths nodes k = some (if 0 ≤ k ∧ k < nodes.length ∧ okU nodes (k.toNat + 1) = true then (deeps nodes (k.toNat + 1), true) else ([], false)) := by
  unfold impl_depths
  simp only [impl_in_eq, Option.bind_some, w64_pred hn]
  by_cases hi : inB k 0 ((nodes.length : Int) - 1) = true
  · have hi' := inB_iff.1 hi
    have hkk : k = ((k.toNat : Nat) : Int) := by omega
    have hk : k.toNat < nodes.length := by omega
    generalize k.toNat = m at *
    subst hkk
    simp only [hi, Bool.not_true, Bool.false_eq_true, if_false]
    obtain ⟨r, h1, h2⟩ := loopP_run (f := impl_depths_l1 nodes m) (fun s : List Int × Int => ∃ i : Nat, s.2 = i ∧ i ≤ m + 1 ∧ s.1 = deeps nodes i ∧ okU nodes i = true) (fun s => m + 1 - s.2.toNat) (fun r => r = if okU nodes (m + 1) = true then Sum.inl (deeps nodes (m + 1)) else Sum.inr ([], false)) (by
      rintro ⟨out, i⟩ ⟨i, rfl, hle, ho, hok⟩
      simp only at ho hle
      subst ho
      by_cases hlt : i ≤ m
      · have hd : decide ((i : Int) ≤ (m : Int)) = true := by simp only [decide_eq_true_eq]; omega
        have hil : i < nodes.length := by omega
        simp only [impl_depths_l1, hd, if_true, impl_NodeOk_eq nodes hn, Option.bind_some, Int.toNat_natCast]
        have h0 : decide ((0 : Int) ≤ (i : Int)) = true := by simp
        rw [h0, Bool.true_and]
        cases hnb : nodeB nodes i with
        | false =>
          right
          refine ⟨.inr ([], false), by simp, ?_⟩
          have : okU nodes (m + 1) = false := by
            rw [Bool.eq_false_iff]
            intro h
            rw [(okU_at h (show i < m + 1 by omega)).1] at hnb
            cases hnb
          rw [this]; rfl
        | true =>
          simp only [Bool.not_true, Bool.false_eq_true, if_false, getI_at hil, Option.bind_some]
          rw [impl_dloop nodes i _ (List.getElem?_eq_getElem hil) hok hnb]
          simp only [Option.bind_some]
          by_cases hd10 : dval nodes i > 10
          · right
            rw [if_pos (by simpa using hd10)]
            refine ⟨.inr ([], false), rfl, ?_⟩
            have : okU nodes (m + 1) = false := by
              rw [Bool.eq_false_iff]
              intro h
              have := (okU_at h (show i < m + 1 by omega)).2
              omega
            rw [this]; rfl
          · left
            rw [if_neg (by simpa using hd10), app1 (by rw [deeps_len]; omega) (by omega)]
            refine ⟨(deeps nodes (i + 1), ((i + 1 : Nat) : Int)), ?_, ⟨i + 1, rfl, by omega, rfl, ?_⟩, by simp only [Int.toNat_natCast]; omega⟩
            · simp only [Option.bind_some, w64_nat hil hn]
              rfl
            · simp only [okU, hok, hnb, Bool.true_and, decide_eq_true_eq]
              show dval nodes i ≤ 10
              omega
      · right
        have : i = m + 1 := by omega
        subst this
        have hd : decide (((m + 1 : Nat) : Int) ≤ (m : Int)) = false := by simp only [decide_eq_false_iff_not]; omega
        refine ⟨.inl (deeps nodes (m + 1)), by simp only [impl_depths_l1, hd, Bool.false_eq_true, if_false], ?_⟩
        rw [hok]; rfl) ([], 0) ⟨0, rfl, by omega, rfl, rfl⟩
    rw [h1, h2]
    by_cases hok : okU nodes (m + 1) = true
    · rw [if_pos hok, if_pos (show 0 ≤ (m : Int) ∧ (m : Int) < nodes.length ∧ okU nodes (m + 1) = true from ⟨by omega, by omega, hok⟩)]; rfl
    · rw [if_neg hok, if_neg (show ¬ (0 ≤ (m : Int) ∧ (m : Int) < nodes.length ∧ okU nodes (m + 1) = true) from fun h => hok h.2.2)]; rfl
  · have hi' := inB_false.1 (Bool.eq_false_iff.2 hi)
    simp only [Bool.eq_false_iff.2 hi, Bool.not_false, if_true]
    rw [if_neg (show ¬ (0 ≤ k ∧ k < nodes.length ∧ okU nodes (k.toNat + 1) = true) from fun h => hi' ⟨h.1, by omega⟩)]
def deepB (nodes : List GNode) (k : Int) : Int := if 0 ≤ k ∧ k < nodes.length ∧ okU nodes (k.toNat + 1) = true then dval nodes k.toNat else 0
theorem impl_DeepOf_eq (nodes : List GNode) (hn : nodes.length ≤ 1048576) (k : Int) : impl_DeepOf nodes k = some (deepB nodes k) := by
  unfold impl_DeepOf deepB
  rw [impl_depths_eq nodes hn]
  by_cases h : 0 ≤ k ∧ k < nodes.length ∧ okU nodes (k.toNat + 1) = true
  · rw [if_pos h, if_pos h]
    have hlt : k.toNat < (deeps nodes (k.toNat + 1)).length := by rw [deeps_len]; omega
    simp only [Option.bind_some, Bool.not_true, Bool.false_eq_true, if_false]
    rw [getI_in h.1 (by rw [deeps_len]; omega)]
    have := deeps_get nodes (k.toNat + 1) k.toNat (by omega)
    rw [List.getElem?_eq_getElem hlt] at this
    simp only [Option.bind_some]
    exact this
  · rw [if_neg h, if_neg h]; rfl
def sdeeps (nodes : List GNode) (n : Nat) : List Int := (List.range n).map fun j => if okU nodes (j + 1) = true then dval nodes j else 0
theorem sdeeps_len (nodes : List GNode) (n : Nat) : (sdeeps nodes n).length = n := by simp [sdeeps]
theorem sdeeps_get (nodes : List GNode) {n j : Nat} (h : j < n) : (sdeeps nodes n)[j]? = some (if okU nodes (j + 1) = true then dval nodes j else 0) := by
  unfold sdeeps
  rw [List.getElem?_map, List.getElem?_range h]; rfl
theorem sdeeps_ok {nodes : List GNode} {n : Nat} (h : okU nodes n = true) : sdeeps nodes n = deeps nodes n := by
  apply List.ext_getElem?
  intro j
  by_cases hj : j < n
  · rw [sdeeps_get nodes hj, deeps_get nodes n j hj, if_pos (okU_mono (by omega) h)]
  · rw [List.getElem?_eq_none (by rw [sdeeps_len]; omega), List.getElem?_eq_none (by rw [deeps_len]; omega)]
theorem spec_dloop (nodes : List GNode) (k : Nat) (hk : k < nodes.length) (hok : okU nodes k = true) (hn : nodeB nodes k = true) : loopP (spec_l04Deeps_l2 nodes (deeps nodes k) k) (1, 0) = some (dval nodes k) := by
  have hx : nodes[k]? = some nodes[k] := List.getElem?_eq_getElem hk
  generalize hgx : nodes[k] = x at *
  have hkl := nodeB_kidlen hn hx
  have hkb := nodeB_kids hn hx
  have hg : ∀ kid ∈ x.Kids, (deeps nodes k).getD kid.toNat 0 = dval nodes kid.toNat := fun kid hm => by
    have := hkb kid hm
    rw [List.getD_eq_getElem?_getD, deeps_get nodes k kid.toNat (by omega)]; rfl
  have hgk : getI nodes (k : Int) = some x := by rw [getI_at hk, hgx]
  have := loopP_fold x.Kids (fun (d : Int) j => (d, (j : Int))) (fun j d => 0 < d) (fun d kid => .inl (mx d ((deeps nodes k).getD kid.toNat 0 + 1))) id (spec_l04Deeps_l2 nodes (deeps nodes k) k) (fun d j hj hpos => by
    left
    have hm := List.getElem_mem hj
    have hb := hkb _ hm
    have hd := okU_at hok (show x.Kids[j].toNat < k by omega)
    have hp := dval_pos nodes x.Kids[j].toNat
    refine ⟨_, rfl, ?_, by unfold mx; split <;> omega⟩
    have hlt : x.Kids[j].toNat < (deeps nodes k).length := by rw [deeps_len]; omega
    have hge : (deeps nodes k)[x.Kids[j].toNat] = dval nodes x.Kids[j].toNat := by
      have := deeps_get nodes k x.Kids[j].toNat (by omega)
      rw [List.getElem?_eq_getElem hlt] at this
      exact Option.some.inj this
    have hp0 : decide (d > 0) = true := by simpa using hpos
    have hgi : getI (deeps nodes k) x.Kids[j] = some (dval nodes x.Kids[j].toNat) := by rw [getI_in hb.1 (by rw [deeps_len]; omega), hge]
    simp only [spec_l04Deeps_l2, hp0, if_true, hgk, Option.bind_some, ofNat_lt_true hj, getI_at hj, hgi, w64 (n := dval nodes x.Kids[j].toNat + 1) (by omega) (by omega), w64_nat hj (by omega), hg _ hm]
    unfold mx
    by_cases hgt : dval nodes x.Kids[j].toNat + 1 > d
    · rw [if_pos (by simpa using hgt), if_pos hgt]
    · rw [if_neg (by simpa using hgt), if_neg hgt]) (fun d hd => by
    have hp0 : decide (d > 0) = true := by simpa using hd
    simp [spec_l04Deeps_l2, hp0, hgk]) 1 (by omega)
  rw [foldE_inl] at this
  unfold dval dstep
  rw [hx]
  exact this
theorem spec_Deeps_eq (nodes : List GNode) (hn : nodes.length ≤ 1048576) (k : Nat) (hk : k < nodes.length) : spec_l04Deeps nodes k = some (sdeeps nodes (k + 1)) := by
  unfold spec_l04Deeps
  obtain ⟨r, h1, h2⟩ := loopP_run (f := spec_l04Deeps_l1 nodes k) (fun s : List Int × Int => ∃ i : Nat, s.2 = i ∧ i ≤ k + 1 ∧ s.1 = sdeeps nodes i) (fun s => k + 1 - s.2.toNat) (fun r => r = sdeeps nodes (k + 1)) (by
    rintro ⟨out, i⟩ ⟨i, rfl, hle, ho⟩
    simp only at ho hle
    subst ho
    by_cases hlt : i ≤ k
    · left
      have hd : decide ((i : Int) ≤ (k : Int)) = true := by simp only [decide_eq_true_eq]; omega
      have hil : i < nodes.length := by omega
      have hd2 : decide ((i : Int) < (nodes.length : Int)) = true := by simp only [decide_eq_true_eq]; omega
      have h0 : decide ((0 : Int) ≤ (i : Int)) = true := by simp
      refine ⟨(sdeeps nodes (i + 1), ((i + 1 : Nat) : Int)), ?_, ⟨i + 1, rfl, by omega, rfl⟩, by simp only [Int.toNat_natCast]; omega⟩
      simp only [spec_l04Deeps_l1, hd, hd2, if_true, spec_NodeOk_eq nodes hn, Option.bind_some, Int.toNat_natCast, h0, Bool.true_and]
      -- is it right so far?
      have hflag : (if (!(nodeB nodes i)) = true then some true else if (decide ((i : Int) > 0)) = true then (getI (sdeeps nodes i) (IntKind.wrap .i64 ((i : Int) - 1))).bind fun e32 => some (e32 == 0) else some false) = some (!(nodeB nodes i && okU nodes i)) := by
        cases hnb : nodeB nodes i with
        | false => rfl
        | true =>
          simp only [Bool.not_true, Bool.false_eq_true, if_false, Bool.true_and]
          by_cases hz : i = 0
          · subst hz; rfl
          · have hp : decide ((i : Int) > 0) = true := by simp only [decide_eq_true_eq]; omega
            have hw : IntKind.wrap .i64 ((i : Int) - 1) = ((i - 1 : Nat) : Int) := by rw [w64 (by omega) (by omega)]; omega
            rw [if_pos hp, hw, getI_nat, sdeeps_get nodes (show i - 1 < i by omega), show i - 1 + 1 = i by omega]
            simp only [Option.bind_some]
            cases hok : okU nodes i with
            | true =>
              have := dval_pos nodes (i - 1)
              have hne : ¬ dval nodes (i - 1) = 0 := by omega
              simp [hne]
            | false => simp
      rw [hflag]
      simp only [Option.bind_some]
      have hfin : (Option.bind (if (!(nodeB nodes i && okU nodes i)) = true then some 0 else some (1 : Int)) fun deep36 => Option.bind (loopP (spec_l04Deeps_l2 nodes (sdeeps nodes i) i) (deep36, 0)) fun deep62 => Option.bind (if (decide (deep62 > 10)) = true then some 0 else some deep62) fun deep68 => (appI 8 (sdeeps nodes i) [deep68]).bind fun l69 => some l69) = some (sdeeps nodes (i + 1)) := by
        have hsucc : sdeeps nodes (i + 1) = sdeeps nodes i ++ [if okU nodes (i + 1) = true then dval nodes i else 0] := by
          unfold sdeeps; rw [List.range_succ, List.map_append]; rfl
        have happ : ∀ z : Int, appI 8 (sdeeps nodes i) [z] = some (sdeeps nodes i ++ [z]) := fun z => app1 (by rw [sdeeps_len]; omega) (by omega)
        cases hb : (nodeB nodes i && okU nodes i) with
        | true =>
          simp only [Bool.and_eq_true] at hb
          simp only [Bool.not_true, Bool.false_eq_true, if_false, Option.bind_some]
          rw [sdeeps_ok hb.2, spec_dloop nodes i hil hb.2 hb.1, ← sdeeps_ok hb.2]
          simp only [Option.bind_some]
          rw [hsucc]
          by_cases hd10 : dval nodes i > 10
          · have hf : okU nodes (i + 1) = false := by
              rw [Bool.eq_false_iff]
              intro h
              have := (okU_at h (Nat.lt_succ_self i)).2
              omega
            rw [if_pos (by simpa using hd10), hf]
            simp only [Option.bind_some, happ, Bool.false_eq_true, if_false]
          · have hf : okU nodes (i + 1) = true := by
              simp only [okU, hb.1, hb.2, Bool.true_and, decide_eq_true_eq]
              show dval nodes i ≤ 10
              omega
            rw [if_neg (by simpa using hd10), hf]
            simp only [Option.bind_some, happ, if_true]
        | false =>
          have hf : okU nodes (i + 1) = false := by
            rw [Bool.eq_false_iff]
            intro h
            simp only [okU, Bool.and_eq_true] at h
            rw [h.1, h.2.1] at hb
            cases hb
          simp only [Bool.not_false, if_true, Option.bind_some]
          rw [loopP_inr (r := (0 : Int)) (by simp [spec_l04Deeps_l2])]
          simp only [Option.bind_some]
          rw [hsucc, hf]
          simp [happ]
      have := congrArg (fun z => Option.bind z fun out70 : List Int => (some (Sum.inl (out70, IntKind.wrap .i64 ((i : Int) + 1))) : Option ((List Int × Int) ⊕ List Int))) hfin
      simp only [Option.bind_some, w64_nat hil hn] at this
      rw [w64_nat hil hn]
      exact this
    · right
      have : i = k + 1 := by omega
      subst this
      have hd : decide (((k + 1 : Nat) : Int) ≤ (k : Int)) = false := by simp only [decide_eq_false_iff_not]; omega
      exact ⟨_, by simp only [spec_l04Deeps_l1, hd, Bool.false_eq_true, if_false, Option.bind_some], rfl⟩) ([], 0) ⟨0, rfl, by omega, rfl⟩
  rw [h1, h2]
  rfl
theorem spec_DeepOf_eq (nodes : List GNode) (hn : nodes.length ≤ 1048576) (k : Int) : spec_DeepOf nodes k = some (deepB nodes k) := by
  unfold spec_DeepOf deepB
  simp only [spec_in_eq, Option.bind_some, w64_pred hn]
  by_cases hi : inB k 0 ((nodes.length : Int) - 1) = true
  · have hi' := inB_iff.1 hi
    have hkk : k = ((k.toNat : Nat) : Int) := by omega
    have hk : k.toNat < nodes.length := by omega
    generalize k.toNat = m at *
    subst hkk
    simp only [hi, Bool.not_true, Bool.false_eq_true, if_false]
    rw [spec_Deeps_eq nodes hn m hk]
    simp only [Option.bind_some, getI_nat]
    rw [sdeeps_get nodes (Nat.lt_succ_self m)]
    by_cases hok : okU nodes (m + 1) = true
    · rw [if_pos hok, if_pos (show 0 ≤ (m : Int) ∧ (m : Int) < nodes.length ∧ okU nodes (m + 1) = true from ⟨by omega, by omega, hok⟩)]; rfl
    · rw [if_neg hok, if_neg (show ¬ (0 ≤ (m : Int) ∧ (m : Int) < nodes.length ∧ okU nodes (m + 1) = true) from fun h => hok h.2.2)]; rfl
  · have hi' := inB_false.1 (Bool.eq_false_iff.2 hi)
    simp only [Bool.eq_false_iff.2 hi, Bool.not_false, if_true]
    rw [if_neg (show ¬ (0 ≤ k ∧ k < nodes.length ∧ okU nodes (k.toNat + 1) = true) from fun h => hi' ⟨h.1, by omega⟩)]
end Go.OM
set_option linter.unusedVariables false
set_option linter.unusedSimpArgs false
namespace Go.OM
theorem recFuel_eq : recFuel = 1048576 := rfl
theorem deepB_zero {nodes : List GNode} {k : Int} (h : deepB nodes k ≠ 0) : 0 ≤ k ∧ k < nodes.length ∧ okU nodes (k.toNat + 1) = true := by
  unfold deepB at h
  split at h
  · assumption
  · exact absurd rfl h
end Go.OM
set_option linter.unusedVariables false
set_option linter.unusedSimpArgs false
namespace Go.OM
structure Bd (n : Nat) (C : Int) (m : List Int) : Prop where
  len : m.length = n
  bnd : ∀ v ∈ m, 0 ≤ v ∧ v ≤ C
theorem Bd.mono {n : Nat} {C C' : Int} {m : List Int} (h : Bd n C m) (hc : C ≤ C') : Bd n C' m := ⟨h.len, fun v hv => by have := h.bnd v hv; omega⟩
theorem Bd.getD {n : Nat} {C : Int} {m : List Int} (h : Bd n C m) (hC : 0 ≤ C) (k : Nat) : 0 ≤ m.getD k 0 ∧ m.getD k 0 ≤ C := by
  rw [List.getD_eq_getElem?_getD]
  cases hk : m[k]? with
  | none => exact ⟨Int.le_refl 0, hC⟩
  | some v => exact h.bnd v (List.mem_of_getElem? hk)
theorem Bd.set {n : Nat} {C d : Int} {m : List Int} (h : Bd n C m) (hC : 0 ≤ C) (hd : 0 ≤ d) (k : Nat) : Bd n (C + d) (m.set k (m.getD k 0 + d)) := ⟨by rw [List.length_set]; exact h.len, fun v hv => by
  rcases List.mem_or_eq_of_mem_set hv with h1 | h1
  · have := h.bnd v h1; omega
  · have := h.getD hC k; omega⟩
end Go.OM
